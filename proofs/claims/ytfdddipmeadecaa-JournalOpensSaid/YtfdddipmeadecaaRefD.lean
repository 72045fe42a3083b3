/-
  The document's devices: find, put (contracts).
-/
import Derived.Test.YtfdddipmeadecaaSecT
import Derived.Test.YtfdddipmeadecaaElm
import Derived.Test.YtfdddipmeadecaaShaG
import Derived.Deep.Cut
import Derived.Deep.LoopGhost
set_option linter.unusedVariables false
set_option linter.unusedSimpArgs false
namespace Go.Proofs.Ytfdddipmeadecaa
open Go.RowKit
/-- a sector's record -/
def fcl (p : Int × Face) : List Value := [.int .i64 p.1, .string (strOfNums p.2.b), .bool p.2.torn]
theorem fcl_len (p : Int × Face) : (fcl p).length = 3 := rfl
theorem fcl_one (p : Int × Face) : ∀ u ∈ fcl p, u.oneCell' = true := by simp [fcl, Value.oneCell']
/-- what is left to be laid -/
def pgo (i : Int) (f : Face) : AMap → Bool → AMap
  | [], done => if done then [] else [(i, f)]
  | p :: l, done => (if done = false ∧ i ≤ p.1 then [(i, f)] else []) ++ ((if p.1 = i then [] else [p]) ++ pgo i f l (done || decide (i ≤ p.1)))
theorem pgo_true {i : Int} {f : Face} : ∀ {l : AMap}, (∀ p ∈ l, i < p.1) → pgo i f l true = l
  | [], _ => rfl
  | p :: l, h => by
    have := h p (List.mem_cons_self ..)
    rw [pgo, if_neg (by simp), if_neg (by omega), Bool.true_or, pgo_true fun q hq => h q (List.mem_cons_of_mem _ hq)]
    rfl
theorem pgo_put {i : Int} {f : Face} : ∀ {l : AMap}, Rising l → pgo i f l false = aput l i f
  | [], _ => rfl
  | (k, g) :: l, h => by
    obtain ⟨h1, h2⟩ := List.pairwise_cons.1 h
    rw [pgo, aput]
    simp only [true_and, Bool.false_or]
    by_cases hlt : i < k
    · rw [if_pos (by omega), if_neg (by omega), if_pos hlt, decide_eq_true (by omega), pgo_true fun q hq => by have := h1 q hq; simp only at this; omega]
      rfl
    · by_cases he : i = k
      · rw [if_pos (by omega), if_pos he.symm, if_neg hlt, if_pos he, decide_eq_true (by omega), pgo_true fun q hq => by have := h1 q hq; simp only at this; omega]
        rfl
      · rw [if_neg (by omega), if_neg (by omega), if_neg hlt, if_neg he, decide_eq_false (by omega), pgo_put h2]
        rfl
theorem aput_len_le (i : Int) (f : Face) : ∀ l : AMap, (aput l i f).length ≤ l.length + 1
  | [] => by simp [aput]
  | (k, g) :: l => by
    unfold aput
    have := aput_len_le i f l
    split
    · simp
    · split <;> simp <;> omega


section
variable {w0 w : World} {L : List Ent} {A : Option Addr} {n c : Nat} {m : AMap} {i : Int} {f : Face}
set_option maxRecDepth 100000 in
theorem rfind_any (K : Known w0 w L) (R : RdM w0 L fcl 3 A n m) (hc : n ≤ c) (hn : n ≤ 1000000000) (i : Int) : Calls Try.prog 52 #[.slice A n c, .int .i64 i] w fun e w' => ∃ j : Int, e = .returned (.int .i64 j) ∧ w = w' ∧ ((afind m i = none ∧ j = -1) ∨ ∃ (k : Nat) (p : Int × Face), j = k ∧ m[k]? = some p ∧ p.1 = i ∧ afind m i = some p.2) := by
  have hl := R.len
  go_enter Try.func52, Try.ntmps52
  go_upto_region 2 with (fail)
  go_loopg [8] n (fun d v wr => ∃ (j : Nat), v = .int .i64 j ∧ j + d = n ∧ wr = w ∧ Hid (afind m i = afind (m.drop j) i))
  case atStart => exact ⟨0, by go_num, by omega, rfl, Lib.hid rfl⟩
  case round =>
    obtain ⟨j, rfl, hd, rfl, HE⟩ := hrel
    by_cases hj : j < n
    · have hj2 : decide ((j : Int) < (n : Int)) = true := decide_eq_true (by omega)
      have hjj : (0 : Int) ≤ (j : Int) ∧ (j : Int) < (n : Int) := by omega
      have i1 := IntWalk.i64_in ((j : Int) + 1) (by omega)
      obtain ⟨b, off, rfl⟩ := R.form K (by omega)
      obtain ⟨p, hp⟩ : ∃ p, p = m[j]'(by omega) := ⟨_, rfl⟩
      have HP := Lib.hid (show encAt fcl m j = fcl p by rw [encAt_get (by omega), hp])
      have HQ := Lib.hid hp
      have HD := Lib.hid (show m.drop j = p :: m.drop (j + 1) by rw [List.drop_eq_getElem_cons (by omega), hp])
      clear hp
      by_cases hpi : p.1 = i
      · have e1 : (p.1 == i) = true := by simpa using hpi
        go_wp2_with (first | ((with_reducible refine at_load rfl ?_); refine wpList_reads (by rfl) (kr_load_ecell K _ _ (by rfl) (j) 0 (by rfl) R.rd (by omega) (by rw [HP.out]; rfl) (by omega) (by kernel_rfl)) ?_))
        go_ret
        exact ⟨(j : Nat), rfl, rfl, .inr ⟨j, p, rfl, by rw [List.getElem?_eq_getElem (by omega), HQ.out], hpi, by rw [HE.out, HD.out, afind, if_pos hpi.symm]⟩⟩
      · have e1 : (p.1 == i) = false := by simpa using hpi
        go_wp2_with (first | ((with_reducible refine at_load rfl ?_); refine wpList_reads (by rfl) (kr_load_ecell K _ _ (by rfl) (j) 0 (by rfl) R.rd (by omega) (by rw [HP.out]; rfl) (by omega) (by kernel_rfl)) ?_))
        go_roundg (gk - 1)
        case measure => omega
        case rel => exact ⟨j + 1, by go_num, by omega, rfl, Lib.hid (by rw [HE.out, HD.out, afind, if_neg (fun e => hpi e.symm)])⟩
    · have hj2 : decide ((j : Int) < (n : Int)) = false := decide_eq_false (by omega)
      go_wp2
      go_ret
      exact ⟨-1, rfl, rfl, .inl ⟨by rw [HE.out, List.drop_eq_nil_of_le (by omega)]; rfl, rfl⟩⟩
set_option maxHeartbeats 1600000 in
set_option maxRecDepth 100000 in
theorem rdput_any (K : Known w0 w L) (R : RdM w0 L fcl 3 A n m) (hc : n ≤ c) (hn : n ≤ 1000000000) (hr : Rising m) (i : Int) (f : Face) : Calls Try.prog 33 #[.slice A n c, .agg #[.int .i64 i, .string (strOfNums f.b), .bool f.torn]] w fun e w' => ∃ A' n' c', e = .returned (.slice A' n' c') ∧ ∃ X, OwnL 83 3 A' n' c' ((aput m i f).flatMap fcl) X ∧ Known w0 w' (X ++ L) := by
  have hl := R.len
  go_enter Try.func33, Try.ntmps33
  go_upto_region 4 with ((first | ((with_reducible refine at_box rfl ?_); refine wpList_does rfl (kd_box K _ _ rfl (by conv => lhs; whnf)) ?_; clear K; rintro _ w1 ⟨gf, rfl, K⟩; (try dsimp only [Value.cells] at K)) | ((with_reducible refine at_buildSlice (n := 0) rfl ?_); refine wpList_does rfl (kd_lit0 K _ 83 3 rfl Try.underlying47 (by kernel_rfl)) ?_; clear K; rintro _ w1 ⟨gz, rfl, K⟩; have O : OwnL 83 1 (some ⟨gz, 0, none⟩) 0 0 (([] : List Int).map (Value.int .u8)) [row gz #[] 83] := OwnL.lit0 _ _)))
  clear O
  have O : OwnL 83 3 (some ⟨gz, 0, none⟩) 0 0 (([] : AMap).flatMap fcl) [row gz #[] 83] := OwnL.lit0 _ _
  go_loopg [5, 6, 11] n (fun d v5 v6 v11 wr => ∃ (j no : Nat) (out : AMap) (dn : Bool) (Ao : Option Addr) (co : Nat) (X : List Ent), v5 = .slice Ao no co ∧ v6 = .bool dn ∧ v11 = .int .i64 j ∧ j + d = n ∧ no ≤ 2 * j ∧ OwnL 83 3 Ao no co (out.flatMap fcl) X ∧ Hid (out ++ pgo i f (m.drop j) dn = aput m i f) ∧ Known w0 wr (X ++ (row gf #[.int .i64 i, .string (strOfNums f.b), .bool f.torn] 83 :: L)))
  case atStart => exact ⟨0, 0, [], false, _, _, _, rfl, rfl, by go_num, by omega, by omega, O, Lib.hid (pgo_put hr), K⟩
  case round =>
    clear K O
    obtain ⟨j, no, out, dn, Ao, co, X, rfl, rfl, rfl, hd, hno, O, HE, K⟩ := hrel
    by_cases hj : j < n
    · have hj2 : decide ((j : Int) < (n : Int)) = true := decide_eq_true (by omega)
      have hjj : (0 : Int) ≤ (j : Int) ∧ (j : Int) < (n : Int) := by omega
      have i1 := IntWalk.i64_in ((j : Int) + 1) (by omega)
      obtain ⟨b, off, rfl⟩ := R.form (K.cov Cov.auto) (by omega)
      obtain ⟨p, hp⟩ : ∃ p, p = m[j]'(by omega) := ⟨_, rfl⟩
      have HP := Lib.hid (show encAt fcl m j = [.int .i64 p.1, .string (strOfNums p.2.b), .bool p.2.torn] by rw [encAt_get (by omega), ← hp]; rfl)
      have HD := Lib.hid (show m.drop j = p :: m.drop (j + 1) by rw [List.drop_eq_getElem_cons (by omega), hp])
      clear hp hl
      cases dn
      · by_cases hle : i ≤ p.1
        · have e1 : decide (i ≤ p.1) = true := decide_eq_true hle
          by_cases hpi : p.1 = i
          · have e2 : (p.1 != i) = false := by simpa using hpi
            go_upto_region 6 with (fail)
            refine wp_region_QLK K (by kernel_rfl) (by kernel_rfl) ?_
            clear K
            refine wpQL_A (k := 0) (v := ?_) ?_ ?_
            rotate_left
            · (intro w hS; (clear hS; go_simp); try with_reducible rfl)
            try simp only [Act.put, List.setIfInBounds_toArray, List.set_cons_zero, List.set_cons_succ]
            refine wpQL_A (k := 1) (v := ?_) ?_ ?_
            rotate_left
            · (intro w hS; (clear hS; go_simp); try with_reducible rfl)
            try simp only [Act.put, List.setIfInBounds_toArray, List.set_cons_zero, List.set_cons_succ]
            refine wpQL_A (k := 2) (v := ?_) ?_ ?_
            rotate_left
            · (intro w hS; (clear hS; go_simp); try with_reducible rfl)
            try simp only [Act.put, List.setIfInBounds_toArray, List.set_cons_zero, List.set_cons_succ]
            refine wpQL_A (k := 3) (v := ?_) ?_ ?_
            rotate_left
            · (intro w hS; (clear hS; go_simp); try with_reducible rfl)
            try simp only [Act.put, List.setIfInBounds_toArray, List.set_cons_zero, List.set_cons_succ]
            refine wpQL_A (k := 4) (v := ?_) ?_ ?_
            rotate_left
            · (intro w hS; first | exact kr_load_cell hS _ _ (by rfl) (by rfl) Has.auto (by decide +kernel) (by (try simp only [List.getElem?_toArray, List.getElem?_cons_succ, List.getElem?_cons_zero]); exact rfl) | exact kr_load_row hS _ _ (by rfl) (by rfl) Has.auto (by decide +kernel) (by kernel_rfl))
            try simp only [Act.put, List.setIfInBounds_toArray, List.set_cons_zero, List.set_cons_succ]
            refine wpQL_A (k := 5) (v := ?_) ?_ ?_
            rotate_left
            · (intro w hS; (clear hS; go_simp); try with_reducible rfl)
            try simp only [Act.put, List.setIfInBounds_toArray, List.set_cons_zero, List.set_cons_succ]
            refine wpQL_A (k := 6) (v := ?_) ?_ ?_
            rotate_left
            · (intro w hS; (clear hS; go_simp); try with_reducible rfl)
            try simp only [Act.put, List.setIfInBounds_toArray, List.set_cons_zero, List.set_cons_succ]
            refine wpQL_A (k := 7) (v := ?_) ?_ ?_
            rotate_left
            · (intro w hS; (clear hS; go_simp); try with_reducible rfl)
            try simp only [Act.put, List.setIfInBounds_toArray, List.set_cons_zero, List.set_cons_succ]
            refine wpQL_A (k := 8) (v := ?_) ?_ ?_
            rotate_left
            · (intro w hS; (clear hS; go_simp); try with_reducible rfl)
            try simp only [Act.put, List.setIfInBounds_toArray, List.set_cons_zero, List.set_cons_succ]
            refine wpQL_A (k := 9) (v := .int .i64 p.1) ?_ ?_
            · (intro w hS; exact kr_load_rcell hS _ _ (by rfl) (j) 0 (by rfl) (R.cov Cov.auto) (by omega) HP.out (by rfl) (by omega) (by kernel_rfl))
            try simp only [Act.put, List.setIfInBounds_toArray, List.set_cons_zero, List.set_cons_succ]
            refine wpQL_A (k := 10) (v := ?_) ?_ ?_
            rotate_left
            · (intro w hS; (clear hS; go_simp); try with_reducible rfl)
            try simp only [Act.put, List.setIfInBounds_toArray, List.set_cons_zero, List.set_cons_succ]
            refine wpQL_endA (k := 11) (fun w1 K K9 hK => ?_)
            refine st_reads (v := ?_) (by rfl) ?_ ?_
            rotate_left
            · (go_simp; try with_reducible rfl)
            refine hK.out _ _ ?_
            clear hK K9
            try simp only [Act.put, List.setIfInBounds_toArray, List.set_cons_zero, List.set_cons_succ]
            skip
            go_upto_region 9 with ((first | (at_builtin; refine wpList_does rfl (kd_appendR (r := (i, f)) K 47 83 rfl rfl rfl O Seg.auto Has.auto (by rfl) Try.underlying47 (by kernel_rfl) (by omega) rfl (fcl_one _) (by omega)) ?_; clear K O; rintro _ w1 ⟨A1, c1, X1, rfl, O, K⟩) | ((with_reducible refine at_eqnil rfl ?_); refine wpList_reads rfl (kr_eqnil rfl rfl (by kernel_rfl)) ?_) | ((with_reducible refine at_box rfl ?_); refine wpList_does rfl (kd_box K _ _ rfl (by conv => lhs; whnf)) ?_; clear K; rintro _ w1 ⟨g, rfl, K⟩; (try dsimp only [Value.cells] at K)) | ((with_reducible refine at_alloc rfl ?_); refine wpList_does rfl (kd_alloc K _ rfl rfl) ?_; clear K; rintro _ w1 ⟨g, rfl, K⟩; (try dsimp only [Value.cells] at K)) | ((with_reducible refine at_buildSlice rfl ?_); refine wpList_does rfl (kd_lits (cs := _) K _ _ _ rfl (by first | rfl | (go_simp; done) | (go_simp; rfl)) (by first | rfl | (go_simp; done) | (go_simp; rfl))) ?_; clear K; rintro _ w1 ⟨g, rfl, K⟩) | ((with_reducible refine at_load rfl ?_); first | (refine wpList_reads (by rfl) (kr_load_cell K _ _ (by rfl) (by rfl) Has.auto (by decide +kernel) (by (try simp only [List.getElem?_toArray, List.getElem?_cons_succ, List.getElem?_cons_zero]); exact rfl)) ?_) | (refine wpList_reads (by rfl) (kr_load_row K _ _ (by rfl) (by rfl) Has.auto (by decide +kernel) (by kernel_rfl)) ?_)) | ((with_reducible refine at_store rfl ?_); (first | (refine wpList_does rfl (kd_store_cell K _ _ _ rfl rfl (by conv => lhs; whnf) Repl.auto rfl rfl (by kernel_rfl) (by kernel_rfl) (by first | (simp only [List.setIfInBounds_toArray, List.set_cons_succ, List.set_cons_zero]; rfl) | rfl)) ?_) | (refine wpList_does rfl (kd_store_row K _ _ _ rfl rfl rfl Repl.auto (by kernel_rfl) (by kernel_rfl) (by kernel_rfl)) ?_)); clear K; intro _ w1 K; (try simp only [Act.put]))))
            refine wp_region_QLK K (by kernel_rfl) (by kernel_rfl) ?_
            clear K
            refine wpQL_A (k := 0) (v := ?_) ?_ ?_
            rotate_left
            · (intro w hS; (clear hS; go_simp); try with_reducible rfl)
            try simp only [Act.put, List.setIfInBounds_toArray, List.set_cons_zero, List.set_cons_succ]
            refine wpQL_A (k := 1) (v := ?_) ?_ ?_
            rotate_left
            · (intro w hS; (clear hS; go_simp); try with_reducible rfl)
            try simp only [Act.put, List.setIfInBounds_toArray, List.set_cons_zero, List.set_cons_succ]
            refine wpQL_A (k := 2) (v := ?_) ?_ ?_
            rotate_left
            · (intro w hS; (clear hS; go_simp); try with_reducible rfl)
            try simp only [Act.put, List.setIfInBounds_toArray, List.set_cons_zero, List.set_cons_succ]
            refine wpQL_A (k := 3) (v := ?_) ?_ ?_
            rotate_left
            · (intro w hS; (clear hS; go_simp); try with_reducible rfl)
            try simp only [Act.put, List.setIfInBounds_toArray, List.set_cons_zero, List.set_cons_succ]
            refine wpQL_A (k := 4) (v := .int .i64 p.1) ?_ ?_
            · (intro w hS; exact kr_load_rcell hS _ _ (by rfl) (j) 0 (by rfl) (R.cov Cov.auto) (by omega) HP.out (by rfl) (by omega) (by kernel_rfl))
            try simp only [Act.put, List.setIfInBounds_toArray, List.set_cons_zero, List.set_cons_succ]
            refine wpQL_A (k := 5) (v := ?_) ?_ ?_
            rotate_left
            · (intro w hS; (clear hS; go_simp); try with_reducible rfl)
            try simp only [Act.put, List.setIfInBounds_toArray, List.set_cons_zero, List.set_cons_succ]
            refine wpQL_A (k := 6) (v := ?_) ?_ ?_
            rotate_left
            · (intro w hS; first | exact kr_load_cell hS _ _ (by rfl) (by rfl) Has.auto (by decide +kernel) (by (try simp only [List.getElem?_toArray, List.getElem?_cons_succ, List.getElem?_cons_zero]); exact rfl) | exact kr_load_row hS _ _ (by rfl) (by rfl) Has.auto (by decide +kernel) (by kernel_rfl))
            try simp only [Act.put, List.setIfInBounds_toArray, List.set_cons_zero, List.set_cons_succ]
            refine wpQL_endA (k := 7) (fun w1 K K9 hK => ?_)
            refine st_reads (v := ?_) (by rfl) ?_ ?_
            rotate_left
            · (go_simp; try with_reducible rfl)
            refine hK.out _ _ ?_
            clear hK K9
            try simp only [Act.put, List.setIfInBounds_toArray, List.set_cons_zero, List.set_cons_succ]
            skip
            go_wp2_with (first | ((with_reducible refine at_load rfl ?_); refine wpList_reads (by rfl) (kr_load_rec K _ _ (by rfl) (j) [.int .i64 p.1, .string (strOfNums p.2.b), .bool p.2.torn] (by rfl) (R.cov Cov.auto) (by omega) HP.out (by omega) (by kernel_rfl) (by kernel_rfl) (by rfl)) ?_) | (at_builtin; refine wpList_does rfl (kd_appendR (r := p) K 47 83 rfl rfl rfl O Seg.auto Has.auto (by rfl) Try.underlying47 (by kernel_rfl) (by omega) rfl (fcl_one _) (by omega)) ?_; clear K O; rintro _ w1 ⟨A2, c2, X2, rfl, O, K⟩) | ((with_reducible refine at_eqnil rfl ?_); refine wpList_reads rfl (kr_eqnil rfl rfl (by kernel_rfl)) ?_) | ((with_reducible refine at_box rfl ?_); refine wpList_does rfl (kd_box K _ _ rfl (by conv => lhs; whnf)) ?_; clear K; rintro _ w1 ⟨g, rfl, K⟩; (try dsimp only [Value.cells] at K)) | ((with_reducible refine at_alloc rfl ?_); refine wpList_does rfl (kd_alloc K _ rfl rfl) ?_; clear K; rintro _ w1 ⟨g, rfl, K⟩; (try dsimp only [Value.cells] at K)) | ((with_reducible refine at_buildSlice rfl ?_); refine wpList_does rfl (kd_lits (cs := _) K _ _ _ rfl (by first | rfl | (go_simp; done) | (go_simp; rfl)) (by first | rfl | (go_simp; done) | (go_simp; rfl))) ?_; clear K; rintro _ w1 ⟨g, rfl, K⟩) | ((with_reducible refine at_load rfl ?_); first | (refine wpList_reads (by rfl) (kr_load_cell K _ _ (by rfl) (by rfl) Has.auto (by decide +kernel) (by (try simp only [List.getElem?_toArray, List.getElem?_cons_succ, List.getElem?_cons_zero]); exact rfl)) ?_) | (refine wpList_reads (by rfl) (kr_load_row K _ _ (by rfl) (by rfl) Has.auto (by decide +kernel) (by kernel_rfl)) ?_)) | ((with_reducible refine at_store rfl ?_); (first | (refine wpList_does rfl (kd_store_cell K _ _ _ rfl rfl (by conv => lhs; whnf) Repl.auto rfl rfl (by kernel_rfl) (by kernel_rfl) (by first | (simp only [List.setIfInBounds_toArray, List.set_cons_succ, List.set_cons_zero]; rfl) | rfl)) ?_) | (refine wpList_does rfl (kd_store_row K _ _ _ rfl rfl rfl Repl.auto (by kernel_rfl) (by kernel_rfl) (by kernel_rfl)) ?_)); clear K; intro _ w1 K; (try simp only [Act.put])))
            go_roundg (gk - 1)
            case measure => omega
            case rel => exact ⟨j + 1, _, out ++ [(i, f)], true, _, _, _, rfl, rfl, by go_num, by omega, by omega, O, Lib.hid (by rw [← HE.out, HD.out, pgo, if_pos ⟨rfl, hle⟩, if_pos hpi]; simp [decide_eq_true hle]), K.cov Cov.auto⟩
          · have e2 : (p.1 != i) = true := by simpa using hpi
            go_upto_region 6 with (fail)
            refine wp_region_QLK K (by kernel_rfl) (by kernel_rfl) ?_
            clear K
            refine wpQL_A (k := 0) (v := ?_) ?_ ?_
            rotate_left
            · (intro w hS; (clear hS; go_simp); try with_reducible rfl)
            try simp only [Act.put, List.setIfInBounds_toArray, List.set_cons_zero, List.set_cons_succ]
            refine wpQL_A (k := 1) (v := ?_) ?_ ?_
            rotate_left
            · (intro w hS; (clear hS; go_simp); try with_reducible rfl)
            try simp only [Act.put, List.setIfInBounds_toArray, List.set_cons_zero, List.set_cons_succ]
            refine wpQL_A (k := 2) (v := ?_) ?_ ?_
            rotate_left
            · (intro w hS; (clear hS; go_simp); try with_reducible rfl)
            try simp only [Act.put, List.setIfInBounds_toArray, List.set_cons_zero, List.set_cons_succ]
            refine wpQL_A (k := 3) (v := ?_) ?_ ?_
            rotate_left
            · (intro w hS; (clear hS; go_simp); try with_reducible rfl)
            try simp only [Act.put, List.setIfInBounds_toArray, List.set_cons_zero, List.set_cons_succ]
            refine wpQL_A (k := 4) (v := ?_) ?_ ?_
            rotate_left
            · (intro w hS; first | exact kr_load_cell hS _ _ (by rfl) (by rfl) Has.auto (by decide +kernel) (by (try simp only [List.getElem?_toArray, List.getElem?_cons_succ, List.getElem?_cons_zero]); exact rfl) | exact kr_load_row hS _ _ (by rfl) (by rfl) Has.auto (by decide +kernel) (by kernel_rfl))
            try simp only [Act.put, List.setIfInBounds_toArray, List.set_cons_zero, List.set_cons_succ]
            refine wpQL_A (k := 5) (v := ?_) ?_ ?_
            rotate_left
            · (intro w hS; (clear hS; go_simp); try with_reducible rfl)
            try simp only [Act.put, List.setIfInBounds_toArray, List.set_cons_zero, List.set_cons_succ]
            refine wpQL_A (k := 6) (v := ?_) ?_ ?_
            rotate_left
            · (intro w hS; (clear hS; go_simp); try with_reducible rfl)
            try simp only [Act.put, List.setIfInBounds_toArray, List.set_cons_zero, List.set_cons_succ]
            refine wpQL_A (k := 7) (v := ?_) ?_ ?_
            rotate_left
            · (intro w hS; (clear hS; go_simp); try with_reducible rfl)
            try simp only [Act.put, List.setIfInBounds_toArray, List.set_cons_zero, List.set_cons_succ]
            refine wpQL_A (k := 8) (v := ?_) ?_ ?_
            rotate_left
            · (intro w hS; (clear hS; go_simp); try with_reducible rfl)
            try simp only [Act.put, List.setIfInBounds_toArray, List.set_cons_zero, List.set_cons_succ]
            refine wpQL_A (k := 9) (v := .int .i64 p.1) ?_ ?_
            · (intro w hS; exact kr_load_rcell hS _ _ (by rfl) (j) 0 (by rfl) (R.cov Cov.auto) (by omega) HP.out (by rfl) (by omega) (by kernel_rfl))
            try simp only [Act.put, List.setIfInBounds_toArray, List.set_cons_zero, List.set_cons_succ]
            refine wpQL_A (k := 10) (v := ?_) ?_ ?_
            rotate_left
            · (intro w hS; (clear hS; go_simp); try with_reducible rfl)
            try simp only [Act.put, List.setIfInBounds_toArray, List.set_cons_zero, List.set_cons_succ]
            refine wpQL_endA (k := 11) (fun w1 K K9 hK => ?_)
            refine st_reads (v := ?_) (by rfl) ?_ ?_
            rotate_left
            · (go_simp; try with_reducible rfl)
            refine hK.out _ _ ?_
            clear hK K9
            try simp only [Act.put, List.setIfInBounds_toArray, List.set_cons_zero, List.set_cons_succ]
            skip
            go_upto_region 9 with ((first | (at_builtin; refine wpList_does rfl (kd_appendR (r := (i, f)) K 47 83 rfl rfl rfl O Seg.auto Has.auto (by rfl) Try.underlying47 (by kernel_rfl) (by omega) rfl (fcl_one _) (by omega)) ?_; clear K O; rintro _ w1 ⟨A1, c1, X1, rfl, O, K⟩) | ((with_reducible refine at_eqnil rfl ?_); refine wpList_reads rfl (kr_eqnil rfl rfl (by kernel_rfl)) ?_) | ((with_reducible refine at_box rfl ?_); refine wpList_does rfl (kd_box K _ _ rfl (by conv => lhs; whnf)) ?_; clear K; rintro _ w1 ⟨g, rfl, K⟩; (try dsimp only [Value.cells] at K)) | ((with_reducible refine at_alloc rfl ?_); refine wpList_does rfl (kd_alloc K _ rfl rfl) ?_; clear K; rintro _ w1 ⟨g, rfl, K⟩; (try dsimp only [Value.cells] at K)) | ((with_reducible refine at_buildSlice rfl ?_); refine wpList_does rfl (kd_lits (cs := _) K _ _ _ rfl (by first | rfl | (go_simp; done) | (go_simp; rfl)) (by first | rfl | (go_simp; done) | (go_simp; rfl))) ?_; clear K; rintro _ w1 ⟨g, rfl, K⟩) | ((with_reducible refine at_load rfl ?_); first | (refine wpList_reads (by rfl) (kr_load_cell K _ _ (by rfl) (by rfl) Has.auto (by decide +kernel) (by (try simp only [List.getElem?_toArray, List.getElem?_cons_succ, List.getElem?_cons_zero]); exact rfl)) ?_) | (refine wpList_reads (by rfl) (kr_load_row K _ _ (by rfl) (by rfl) Has.auto (by decide +kernel) (by kernel_rfl)) ?_)) | ((with_reducible refine at_store rfl ?_); (first | (refine wpList_does rfl (kd_store_cell K _ _ _ rfl rfl (by conv => lhs; whnf) Repl.auto rfl rfl (by kernel_rfl) (by kernel_rfl) (by first | (simp only [List.setIfInBounds_toArray, List.set_cons_succ, List.set_cons_zero]; rfl) | rfl)) ?_) | (refine wpList_does rfl (kd_store_row K _ _ _ rfl rfl rfl Repl.auto (by kernel_rfl) (by kernel_rfl) (by kernel_rfl)) ?_)); clear K; intro _ w1 K; (try simp only [Act.put]))))
            refine wp_region_QLK K (by kernel_rfl) (by kernel_rfl) ?_
            clear K
            refine wpQL_A (k := 0) (v := ?_) ?_ ?_
            rotate_left
            · (intro w hS; (clear hS; go_simp); try with_reducible rfl)
            try simp only [Act.put, List.setIfInBounds_toArray, List.set_cons_zero, List.set_cons_succ]
            refine wpQL_A (k := 1) (v := ?_) ?_ ?_
            rotate_left
            · (intro w hS; (clear hS; go_simp); try with_reducible rfl)
            try simp only [Act.put, List.setIfInBounds_toArray, List.set_cons_zero, List.set_cons_succ]
            refine wpQL_A (k := 2) (v := ?_) ?_ ?_
            rotate_left
            · (intro w hS; (clear hS; go_simp); try with_reducible rfl)
            try simp only [Act.put, List.setIfInBounds_toArray, List.set_cons_zero, List.set_cons_succ]
            refine wpQL_A (k := 3) (v := ?_) ?_ ?_
            rotate_left
            · (intro w hS; (clear hS; go_simp); try with_reducible rfl)
            try simp only [Act.put, List.setIfInBounds_toArray, List.set_cons_zero, List.set_cons_succ]
            refine wpQL_A (k := 4) (v := .int .i64 p.1) ?_ ?_
            · (intro w hS; exact kr_load_rcell hS _ _ (by rfl) (j) 0 (by rfl) (R.cov Cov.auto) (by omega) HP.out (by rfl) (by omega) (by kernel_rfl))
            try simp only [Act.put, List.setIfInBounds_toArray, List.set_cons_zero, List.set_cons_succ]
            refine wpQL_A (k := 5) (v := ?_) ?_ ?_
            rotate_left
            · (intro w hS; (clear hS; go_simp); try with_reducible rfl)
            try simp only [Act.put, List.setIfInBounds_toArray, List.set_cons_zero, List.set_cons_succ]
            refine wpQL_A (k := 6) (v := ?_) ?_ ?_
            rotate_left
            · (intro w hS; first | exact kr_load_cell hS _ _ (by rfl) (by rfl) Has.auto (by decide +kernel) (by (try simp only [List.getElem?_toArray, List.getElem?_cons_succ, List.getElem?_cons_zero]); exact rfl) | exact kr_load_row hS _ _ (by rfl) (by rfl) Has.auto (by decide +kernel) (by kernel_rfl))
            try simp only [Act.put, List.setIfInBounds_toArray, List.set_cons_zero, List.set_cons_succ]
            refine wpQL_endA (k := 7) (fun w1 K K9 hK => ?_)
            refine st_reads (v := ?_) (by rfl) ?_ ?_
            rotate_left
            · (go_simp; try with_reducible rfl)
            refine hK.out _ _ ?_
            clear hK K9
            try simp only [Act.put, List.setIfInBounds_toArray, List.set_cons_zero, List.set_cons_succ]
            skip
            go_wp2_with (first | ((with_reducible refine at_load rfl ?_); refine wpList_reads (by rfl) (kr_load_rec K _ _ (by rfl) (j) [.int .i64 p.1, .string (strOfNums p.2.b), .bool p.2.torn] (by rfl) (R.cov Cov.auto) (by omega) HP.out (by omega) (by kernel_rfl) (by kernel_rfl) (by rfl)) ?_) | (at_builtin; refine wpList_does rfl (kd_appendR (r := p) K 47 83 rfl rfl rfl O Seg.auto Has.auto (by rfl) Try.underlying47 (by kernel_rfl) (by omega) rfl (fcl_one _) (by omega)) ?_; clear K O; rintro _ w1 ⟨A2, c2, X2, rfl, O, K⟩) | ((with_reducible refine at_eqnil rfl ?_); refine wpList_reads rfl (kr_eqnil rfl rfl (by kernel_rfl)) ?_) | ((with_reducible refine at_box rfl ?_); refine wpList_does rfl (kd_box K _ _ rfl (by conv => lhs; whnf)) ?_; clear K; rintro _ w1 ⟨g, rfl, K⟩; (try dsimp only [Value.cells] at K)) | ((with_reducible refine at_alloc rfl ?_); refine wpList_does rfl (kd_alloc K _ rfl rfl) ?_; clear K; rintro _ w1 ⟨g, rfl, K⟩; (try dsimp only [Value.cells] at K)) | ((with_reducible refine at_buildSlice rfl ?_); refine wpList_does rfl (kd_lits (cs := _) K _ _ _ rfl (by first | rfl | (go_simp; done) | (go_simp; rfl)) (by first | rfl | (go_simp; done) | (go_simp; rfl))) ?_; clear K; rintro _ w1 ⟨g, rfl, K⟩) | ((with_reducible refine at_load rfl ?_); first | (refine wpList_reads (by rfl) (kr_load_cell K _ _ (by rfl) (by rfl) Has.auto (by decide +kernel) (by (try simp only [List.getElem?_toArray, List.getElem?_cons_succ, List.getElem?_cons_zero]); exact rfl)) ?_) | (refine wpList_reads (by rfl) (kr_load_row K _ _ (by rfl) (by rfl) Has.auto (by decide +kernel) (by kernel_rfl)) ?_)) | ((with_reducible refine at_store rfl ?_); (first | (refine wpList_does rfl (kd_store_cell K _ _ _ rfl rfl (by conv => lhs; whnf) Repl.auto rfl rfl (by kernel_rfl) (by kernel_rfl) (by first | (simp only [List.setIfInBounds_toArray, List.set_cons_succ, List.set_cons_zero]; rfl) | rfl)) ?_) | (refine wpList_does rfl (kd_store_row K _ _ _ rfl rfl rfl Repl.auto (by kernel_rfl) (by kernel_rfl) (by kernel_rfl)) ?_)); clear K; intro _ w1 K; (try simp only [Act.put])))
            go_roundg (gk - 1)
            case measure => omega
            case rel => exact ⟨j + 1, _, out ++ [(i, f)] ++ [p], true, _, _, _, rfl, rfl, by go_num, by omega, by omega, O, Lib.hid (by rw [← HE.out, HD.out, pgo, if_pos ⟨rfl, hle⟩, if_neg hpi]; simp [decide_eq_true hle]), K.cov Cov.auto⟩
        · have e1 : decide (i ≤ p.1) = false := decide_eq_false hle
          have hpi : ¬ p.1 = i := by omega
          have e2 : (p.1 != i) = true := by simpa using hpi
          go_upto_region 6 with (fail)
          refine wp_region_QLK K (by kernel_rfl) (by kernel_rfl) ?_
          clear K
          refine wpQL_A (k := 0) (v := ?_) ?_ ?_
          rotate_left
          · (intro w hS; (clear hS; go_simp); try with_reducible rfl)
          try simp only [Act.put, List.setIfInBounds_toArray, List.set_cons_zero, List.set_cons_succ]
          refine wpQL_A (k := 1) (v := ?_) ?_ ?_
          rotate_left
          · (intro w hS; (clear hS; go_simp); try with_reducible rfl)
          try simp only [Act.put, List.setIfInBounds_toArray, List.set_cons_zero, List.set_cons_succ]
          refine wpQL_A (k := 2) (v := ?_) ?_ ?_
          rotate_left
          · (intro w hS; (clear hS; go_simp); try with_reducible rfl)
          try simp only [Act.put, List.setIfInBounds_toArray, List.set_cons_zero, List.set_cons_succ]
          refine wpQL_A (k := 3) (v := ?_) ?_ ?_
          rotate_left
          · (intro w hS; (clear hS; go_simp); try with_reducible rfl)
          try simp only [Act.put, List.setIfInBounds_toArray, List.set_cons_zero, List.set_cons_succ]
          refine wpQL_A (k := 4) (v := ?_) ?_ ?_
          rotate_left
          · (intro w hS; first | exact kr_load_cell hS _ _ (by rfl) (by rfl) Has.auto (by decide +kernel) (by (try simp only [List.getElem?_toArray, List.getElem?_cons_succ, List.getElem?_cons_zero]); exact rfl) | exact kr_load_row hS _ _ (by rfl) (by rfl) Has.auto (by decide +kernel) (by kernel_rfl))
          try simp only [Act.put, List.setIfInBounds_toArray, List.set_cons_zero, List.set_cons_succ]
          refine wpQL_A (k := 5) (v := ?_) ?_ ?_
          rotate_left
          · (intro w hS; (clear hS; go_simp); try with_reducible rfl)
          try simp only [Act.put, List.setIfInBounds_toArray, List.set_cons_zero, List.set_cons_succ]
          refine wpQL_A (k := 6) (v := ?_) ?_ ?_
          rotate_left
          · (intro w hS; (clear hS; go_simp); try with_reducible rfl)
          try simp only [Act.put, List.setIfInBounds_toArray, List.set_cons_zero, List.set_cons_succ]
          refine wpQL_A (k := 7) (v := ?_) ?_ ?_
          rotate_left
          · (intro w hS; (clear hS; go_simp); try with_reducible rfl)
          try simp only [Act.put, List.setIfInBounds_toArray, List.set_cons_zero, List.set_cons_succ]
          refine wpQL_A (k := 8) (v := ?_) ?_ ?_
          rotate_left
          · (intro w hS; (clear hS; go_simp); try with_reducible rfl)
          try simp only [Act.put, List.setIfInBounds_toArray, List.set_cons_zero, List.set_cons_succ]
          refine wpQL_A (k := 9) (v := .int .i64 p.1) ?_ ?_
          · (intro w hS; exact kr_load_rcell hS _ _ (by rfl) (j) 0 (by rfl) (R.cov Cov.auto) (by omega) HP.out (by rfl) (by omega) (by kernel_rfl))
          try simp only [Act.put, List.setIfInBounds_toArray, List.set_cons_zero, List.set_cons_succ]
          refine wpQL_A (k := 10) (v := ?_) ?_ ?_
          rotate_left
          · (intro w hS; (clear hS; go_simp); try with_reducible rfl)
          try simp only [Act.put, List.setIfInBounds_toArray, List.set_cons_zero, List.set_cons_succ]
          refine wpQL_endA (k := 11) (fun w1 K K9 hK => ?_)
          refine st_reads (v := ?_) (by rfl) ?_ ?_
          rotate_left
          · (go_simp; try with_reducible rfl)
          refine hK.out _ _ ?_
          clear hK K9
          try simp only [Act.put, List.setIfInBounds_toArray, List.set_cons_zero, List.set_cons_succ]
          skip
          go_upto_region 9 with ((first | (at_builtin; refine wpList_does rfl (kd_appendR (r := (i, f)) K 47 83 rfl rfl rfl O Seg.auto Has.auto (by rfl) Try.underlying47 (by kernel_rfl) (by omega) rfl (fcl_one _) (by omega)) ?_; clear K O; rintro _ w1 ⟨A1, c1, X1, rfl, O, K⟩) | ((with_reducible refine at_eqnil rfl ?_); refine wpList_reads rfl (kr_eqnil rfl rfl (by kernel_rfl)) ?_) | ((with_reducible refine at_box rfl ?_); refine wpList_does rfl (kd_box K _ _ rfl (by conv => lhs; whnf)) ?_; clear K; rintro _ w1 ⟨g, rfl, K⟩; (try dsimp only [Value.cells] at K)) | ((with_reducible refine at_alloc rfl ?_); refine wpList_does rfl (kd_alloc K _ rfl rfl) ?_; clear K; rintro _ w1 ⟨g, rfl, K⟩; (try dsimp only [Value.cells] at K)) | ((with_reducible refine at_buildSlice rfl ?_); refine wpList_does rfl (kd_lits (cs := _) K _ _ _ rfl (by first | rfl | (go_simp; done) | (go_simp; rfl)) (by first | rfl | (go_simp; done) | (go_simp; rfl))) ?_; clear K; rintro _ w1 ⟨g, rfl, K⟩) | ((with_reducible refine at_load rfl ?_); first | (refine wpList_reads (by rfl) (kr_load_cell K _ _ (by rfl) (by rfl) Has.auto (by decide +kernel) (by (try simp only [List.getElem?_toArray, List.getElem?_cons_succ, List.getElem?_cons_zero]); exact rfl)) ?_) | (refine wpList_reads (by rfl) (kr_load_row K _ _ (by rfl) (by rfl) Has.auto (by decide +kernel) (by kernel_rfl)) ?_)) | ((with_reducible refine at_store rfl ?_); (first | (refine wpList_does rfl (kd_store_cell K _ _ _ rfl rfl (by conv => lhs; whnf) Repl.auto rfl rfl (by kernel_rfl) (by kernel_rfl) (by first | (simp only [List.setIfInBounds_toArray, List.set_cons_succ, List.set_cons_zero]; rfl) | rfl)) ?_) | (refine wpList_does rfl (kd_store_row K _ _ _ rfl rfl rfl Repl.auto (by kernel_rfl) (by kernel_rfl) (by kernel_rfl)) ?_)); clear K; intro _ w1 K; (try simp only [Act.put]))))
          refine wp_region_QLK K (by kernel_rfl) (by kernel_rfl) ?_
          clear K
          refine wpQL_A (k := 0) (v := ?_) ?_ ?_
          rotate_left
          · (intro w hS; (clear hS; go_simp); try with_reducible rfl)
          try simp only [Act.put, List.setIfInBounds_toArray, List.set_cons_zero, List.set_cons_succ]
          refine wpQL_A (k := 1) (v := ?_) ?_ ?_
          rotate_left
          · (intro w hS; (clear hS; go_simp); try with_reducible rfl)
          try simp only [Act.put, List.setIfInBounds_toArray, List.set_cons_zero, List.set_cons_succ]
          refine wpQL_A (k := 2) (v := ?_) ?_ ?_
          rotate_left
          · (intro w hS; (clear hS; go_simp); try with_reducible rfl)
          try simp only [Act.put, List.setIfInBounds_toArray, List.set_cons_zero, List.set_cons_succ]
          refine wpQL_A (k := 3) (v := ?_) ?_ ?_
          rotate_left
          · (intro w hS; (clear hS; go_simp); try with_reducible rfl)
          try simp only [Act.put, List.setIfInBounds_toArray, List.set_cons_zero, List.set_cons_succ]
          refine wpQL_A (k := 4) (v := .int .i64 p.1) ?_ ?_
          · (intro w hS; exact kr_load_rcell hS _ _ (by rfl) (j) 0 (by rfl) (R.cov Cov.auto) (by omega) HP.out (by rfl) (by omega) (by kernel_rfl))
          try simp only [Act.put, List.setIfInBounds_toArray, List.set_cons_zero, List.set_cons_succ]
          refine wpQL_A (k := 5) (v := ?_) ?_ ?_
          rotate_left
          · (intro w hS; (clear hS; go_simp); try with_reducible rfl)
          try simp only [Act.put, List.setIfInBounds_toArray, List.set_cons_zero, List.set_cons_succ]
          refine wpQL_A (k := 6) (v := ?_) ?_ ?_
          rotate_left
          · (intro w hS; first | exact kr_load_cell hS _ _ (by rfl) (by rfl) Has.auto (by decide +kernel) (by (try simp only [List.getElem?_toArray, List.getElem?_cons_succ, List.getElem?_cons_zero]); exact rfl) | exact kr_load_row hS _ _ (by rfl) (by rfl) Has.auto (by decide +kernel) (by kernel_rfl))
          try simp only [Act.put, List.setIfInBounds_toArray, List.set_cons_zero, List.set_cons_succ]
          refine wpQL_endA (k := 7) (fun w1 K K9 hK => ?_)
          refine st_reads (v := ?_) (by rfl) ?_ ?_
          rotate_left
          · (go_simp; try with_reducible rfl)
          refine hK.out _ _ ?_
          clear hK K9
          try simp only [Act.put, List.setIfInBounds_toArray, List.set_cons_zero, List.set_cons_succ]
          skip
          go_wp2_with (first | ((with_reducible refine at_load rfl ?_); refine wpList_reads (by rfl) (kr_load_rec K _ _ (by rfl) (j) [.int .i64 p.1, .string (strOfNums p.2.b), .bool p.2.torn] (by rfl) (R.cov Cov.auto) (by omega) HP.out (by omega) (by kernel_rfl) (by kernel_rfl) (by rfl)) ?_) | (at_builtin; refine wpList_does rfl (kd_appendR (r := p) K 47 83 rfl rfl rfl O Seg.auto Has.auto (by rfl) Try.underlying47 (by kernel_rfl) (by omega) rfl (fcl_one _) (by omega)) ?_; clear K O; rintro _ w1 ⟨A2, c2, X2, rfl, O, K⟩) | ((with_reducible refine at_eqnil rfl ?_); refine wpList_reads rfl (kr_eqnil rfl rfl (by kernel_rfl)) ?_) | ((with_reducible refine at_box rfl ?_); refine wpList_does rfl (kd_box K _ _ rfl (by conv => lhs; whnf)) ?_; clear K; rintro _ w1 ⟨g, rfl, K⟩; (try dsimp only [Value.cells] at K)) | ((with_reducible refine at_alloc rfl ?_); refine wpList_does rfl (kd_alloc K _ rfl rfl) ?_; clear K; rintro _ w1 ⟨g, rfl, K⟩; (try dsimp only [Value.cells] at K)) | ((with_reducible refine at_buildSlice rfl ?_); refine wpList_does rfl (kd_lits (cs := _) K _ _ _ rfl (by first | rfl | (go_simp; done) | (go_simp; rfl)) (by first | rfl | (go_simp; done) | (go_simp; rfl))) ?_; clear K; rintro _ w1 ⟨g, rfl, K⟩) | ((with_reducible refine at_load rfl ?_); first | (refine wpList_reads (by rfl) (kr_load_cell K _ _ (by rfl) (by rfl) Has.auto (by decide +kernel) (by (try simp only [List.getElem?_toArray, List.getElem?_cons_succ, List.getElem?_cons_zero]); exact rfl)) ?_) | (refine wpList_reads (by rfl) (kr_load_row K _ _ (by rfl) (by rfl) Has.auto (by decide +kernel) (by kernel_rfl)) ?_)) | ((with_reducible refine at_store rfl ?_); (first | (refine wpList_does rfl (kd_store_cell K _ _ _ rfl rfl (by conv => lhs; whnf) Repl.auto rfl rfl (by kernel_rfl) (by kernel_rfl) (by first | (simp only [List.setIfInBounds_toArray, List.set_cons_succ, List.set_cons_zero]; rfl) | rfl)) ?_) | (refine wpList_does rfl (kd_store_row K _ _ _ rfl rfl rfl Repl.auto (by kernel_rfl) (by kernel_rfl) (by kernel_rfl)) ?_)); clear K; intro _ w1 K; (try simp only [Act.put])))
          go_roundg (gk - 1)
          case measure => omega
          case rel => exact ⟨j + 1, _, out ++ [p], false, _, _, _, rfl, rfl, by go_num, by omega, by omega, O, Lib.hid (by rw [← HE.out, HD.out, pgo, if_neg (by simp; omega), if_neg hpi]; simp [show decide (i ≤ p.1) = false from decide_eq_false (by omega)]), K.cov Cov.auto⟩
      · by_cases hpi : p.1 = i
        · have e2 : (p.1 != i) = false := by simpa using hpi
          go_upto_region 6 with (fail)
          refine wp_region_GK K (Cov.all _) (by kernel_rfl) (by kernel_rfl) (by kernel_rfl) (fun K hHeld => ?_)
          refine wpG_takeA 0 (v := ?_) ?_ hHeld ?_
          rotate_left
          · (intro w hS; (clear hS; go_simp); try with_reducible rfl)
          try simp only [Act.put, List.setIfInBounds_toArray, List.set_cons_zero, List.set_cons_succ]
          refine wpG_takeA 1 (v := ?_) ?_ hHeld ?_
          rotate_left
          · (intro w hS; (clear hS; go_simp); try with_reducible rfl)
          try simp only [Act.put, List.setIfInBounds_toArray, List.set_cons_zero, List.set_cons_succ]
          refine wpG_takeA 2 (v := ?_) ?_ hHeld ?_
          rotate_left
          · (intro w hS; (clear hS; go_simp); try with_reducible rfl)
          try simp only [Act.put, List.setIfInBounds_toArray, List.set_cons_zero, List.set_cons_succ]
          refine wpG_offA 3 hHeld ?_
          try simp only [Act.put, List.setIfInBounds_toArray, List.set_cons_zero, List.set_cons_succ]
          refine wpG_offA 4 hHeld ?_
          try simp only [Act.put, List.setIfInBounds_toArray, List.set_cons_zero, List.set_cons_succ]
          refine wpG_offA 5 hHeld ?_
          try simp only [Act.put, List.setIfInBounds_toArray, List.set_cons_zero, List.set_cons_succ]
          refine wpG_offA 6 hHeld ?_
          try simp only [Act.put, List.setIfInBounds_toArray, List.set_cons_zero, List.set_cons_succ]
          refine wpG_offA 7 hHeld ?_
          try simp only [Act.put, List.setIfInBounds_toArray, List.set_cons_zero, List.set_cons_succ]
          refine wpG_offA 8 hHeld ?_
          try simp only [Act.put, List.setIfInBounds_toArray, List.set_cons_zero, List.set_cons_succ]
          refine wpG_offA 9 hHeld ?_
          try simp only [Act.put, List.setIfInBounds_toArray, List.set_cons_zero, List.set_cons_succ]
          refine wpG_offA 10 hHeld ?_
          try simp only [Act.put, List.setIfInBounds_toArray, List.set_cons_zero, List.set_cons_succ]
          refine wpG_takeA 11 (v := ?_) ?_ hHeld ?_
          rotate_left
          · (intro w hS; (clear hS; go_simp); try with_reducible rfl)
          try simp only [Act.put, List.setIfInBounds_toArray, List.set_cons_zero, List.set_cons_succ]
          refine wpG_done (by kernel_rfl) ?_
          skip
          go_upto_region 9 with ((first | (at_builtin; refine wpList_does rfl (kd_appendR (r := (i, f)) K 47 83 rfl rfl rfl O Seg.auto Has.auto (by rfl) Try.underlying47 (by kernel_rfl) (by omega) rfl (fcl_one _) (by omega)) ?_; clear K O; rintro _ w1 ⟨A1, c1, X1, rfl, O, K⟩) | ((with_reducible refine at_eqnil rfl ?_); refine wpList_reads rfl (kr_eqnil rfl rfl (by kernel_rfl)) ?_) | ((with_reducible refine at_box rfl ?_); refine wpList_does rfl (kd_box K _ _ rfl (by conv => lhs; whnf)) ?_; clear K; rintro _ w1 ⟨g, rfl, K⟩; (try dsimp only [Value.cells] at K)) | ((with_reducible refine at_alloc rfl ?_); refine wpList_does rfl (kd_alloc K _ rfl rfl) ?_; clear K; rintro _ w1 ⟨g, rfl, K⟩; (try dsimp only [Value.cells] at K)) | ((with_reducible refine at_buildSlice rfl ?_); refine wpList_does rfl (kd_lits (cs := _) K _ _ _ rfl (by first | rfl | (go_simp; done) | (go_simp; rfl)) (by first | rfl | (go_simp; done) | (go_simp; rfl))) ?_; clear K; rintro _ w1 ⟨g, rfl, K⟩) | ((with_reducible refine at_load rfl ?_); first | (refine wpList_reads (by rfl) (kr_load_cell K _ _ (by rfl) (by rfl) Has.auto (by decide +kernel) (by (try simp only [List.getElem?_toArray, List.getElem?_cons_succ, List.getElem?_cons_zero]); exact rfl)) ?_) | (refine wpList_reads (by rfl) (kr_load_row K _ _ (by rfl) (by rfl) Has.auto (by decide +kernel) (by kernel_rfl)) ?_)) | ((with_reducible refine at_store rfl ?_); (first | (refine wpList_does rfl (kd_store_cell K _ _ _ rfl rfl (by conv => lhs; whnf) Repl.auto rfl rfl (by kernel_rfl) (by kernel_rfl) (by first | (simp only [List.setIfInBounds_toArray, List.set_cons_succ, List.set_cons_zero]; rfl) | rfl)) ?_) | (refine wpList_does rfl (kd_store_row K _ _ _ rfl rfl rfl Repl.auto (by kernel_rfl) (by kernel_rfl) (by kernel_rfl)) ?_)); clear K; intro _ w1 K; (try simp only [Act.put]))))
          refine wp_region_QLK K (by kernel_rfl) (by kernel_rfl) ?_
          clear K
          refine wpQL_A (k := 0) (v := ?_) ?_ ?_
          rotate_left
          · (intro w hS; (clear hS; go_simp); try with_reducible rfl)
          try simp only [Act.put, List.setIfInBounds_toArray, List.set_cons_zero, List.set_cons_succ]
          refine wpQL_A (k := 1) (v := ?_) ?_ ?_
          rotate_left
          · (intro w hS; (clear hS; go_simp); try with_reducible rfl)
          try simp only [Act.put, List.setIfInBounds_toArray, List.set_cons_zero, List.set_cons_succ]
          refine wpQL_A (k := 2) (v := ?_) ?_ ?_
          rotate_left
          · (intro w hS; (clear hS; go_simp); try with_reducible rfl)
          try simp only [Act.put, List.setIfInBounds_toArray, List.set_cons_zero, List.set_cons_succ]
          refine wpQL_A (k := 3) (v := ?_) ?_ ?_
          rotate_left
          · (intro w hS; (clear hS; go_simp); try with_reducible rfl)
          try simp only [Act.put, List.setIfInBounds_toArray, List.set_cons_zero, List.set_cons_succ]
          refine wpQL_A (k := 4) (v := .int .i64 p.1) ?_ ?_
          · (intro w hS; exact kr_load_rcell hS _ _ (by rfl) (j) 0 (by rfl) (R.cov Cov.auto) (by omega) HP.out (by rfl) (by omega) (by kernel_rfl))
          try simp only [Act.put, List.setIfInBounds_toArray, List.set_cons_zero, List.set_cons_succ]
          refine wpQL_A (k := 5) (v := ?_) ?_ ?_
          rotate_left
          · (intro w hS; (clear hS; go_simp); try with_reducible rfl)
          try simp only [Act.put, List.setIfInBounds_toArray, List.set_cons_zero, List.set_cons_succ]
          refine wpQL_A (k := 6) (v := ?_) ?_ ?_
          rotate_left
          · (intro w hS; first | exact kr_load_cell hS _ _ (by rfl) (by rfl) Has.auto (by decide +kernel) (by (try simp only [List.getElem?_toArray, List.getElem?_cons_succ, List.getElem?_cons_zero]); exact rfl) | exact kr_load_row hS _ _ (by rfl) (by rfl) Has.auto (by decide +kernel) (by kernel_rfl))
          try simp only [Act.put, List.setIfInBounds_toArray, List.set_cons_zero, List.set_cons_succ]
          refine wpQL_endA (k := 7) (fun w1 K K9 hK => ?_)
          refine st_reads (v := ?_) (by rfl) ?_ ?_
          rotate_left
          · (go_simp; try with_reducible rfl)
          refine hK.out _ _ ?_
          clear hK K9
          try simp only [Act.put, List.setIfInBounds_toArray, List.set_cons_zero, List.set_cons_succ]
          skip
          go_wp2_with (first | ((with_reducible refine at_load rfl ?_); refine wpList_reads (by rfl) (kr_load_rec K _ _ (by rfl) (j) [.int .i64 p.1, .string (strOfNums p.2.b), .bool p.2.torn] (by rfl) (R.cov Cov.auto) (by omega) HP.out (by omega) (by kernel_rfl) (by kernel_rfl) (by rfl)) ?_) | (at_builtin; refine wpList_does rfl (kd_appendR (r := p) K 47 83 rfl rfl rfl O Seg.auto Has.auto (by rfl) Try.underlying47 (by kernel_rfl) (by omega) rfl (fcl_one _) (by omega)) ?_; clear K O; rintro _ w1 ⟨A2, c2, X2, rfl, O, K⟩) | ((with_reducible refine at_eqnil rfl ?_); refine wpList_reads rfl (kr_eqnil rfl rfl (by kernel_rfl)) ?_) | ((with_reducible refine at_box rfl ?_); refine wpList_does rfl (kd_box K _ _ rfl (by conv => lhs; whnf)) ?_; clear K; rintro _ w1 ⟨g, rfl, K⟩; (try dsimp only [Value.cells] at K)) | ((with_reducible refine at_alloc rfl ?_); refine wpList_does rfl (kd_alloc K _ rfl rfl) ?_; clear K; rintro _ w1 ⟨g, rfl, K⟩; (try dsimp only [Value.cells] at K)) | ((with_reducible refine at_buildSlice rfl ?_); refine wpList_does rfl (kd_lits (cs := _) K _ _ _ rfl (by first | rfl | (go_simp; done) | (go_simp; rfl)) (by first | rfl | (go_simp; done) | (go_simp; rfl))) ?_; clear K; rintro _ w1 ⟨g, rfl, K⟩) | ((with_reducible refine at_load rfl ?_); first | (refine wpList_reads (by rfl) (kr_load_cell K _ _ (by rfl) (by rfl) Has.auto (by decide +kernel) (by (try simp only [List.getElem?_toArray, List.getElem?_cons_succ, List.getElem?_cons_zero]); exact rfl)) ?_) | (refine wpList_reads (by rfl) (kr_load_row K _ _ (by rfl) (by rfl) Has.auto (by decide +kernel) (by kernel_rfl)) ?_)) | ((with_reducible refine at_store rfl ?_); (first | (refine wpList_does rfl (kd_store_cell K _ _ _ rfl rfl (by conv => lhs; whnf) Repl.auto rfl rfl (by kernel_rfl) (by kernel_rfl) (by first | (simp only [List.setIfInBounds_toArray, List.set_cons_succ, List.set_cons_zero]; rfl) | rfl)) ?_) | (refine wpList_does rfl (kd_store_row K _ _ _ rfl rfl rfl Repl.auto (by kernel_rfl) (by kernel_rfl) (by kernel_rfl)) ?_)); clear K; intro _ w1 K; (try simp only [Act.put])))
          go_roundg (gk - 1)
          case measure => omega
          case rel => exact ⟨j + 1, _, out, true, _, _, _, rfl, rfl, by go_num, by omega, by omega, O, Lib.hid (by rw [← HE.out, HD.out, pgo, if_neg (by simp), if_pos hpi]; simp), K.cov Cov.auto⟩
        · have e2 : (p.1 != i) = true := by simpa using hpi
          go_upto_region 6 with (fail)
          refine wp_region_GK K (Cov.all _) (by kernel_rfl) (by kernel_rfl) (by kernel_rfl) (fun K hHeld => ?_)
          refine wpG_takeA 0 (v := ?_) ?_ hHeld ?_
          rotate_left
          · (intro w hS; (clear hS; go_simp); try with_reducible rfl)
          try simp only [Act.put, List.setIfInBounds_toArray, List.set_cons_zero, List.set_cons_succ]
          refine wpG_takeA 1 (v := ?_) ?_ hHeld ?_
          rotate_left
          · (intro w hS; (clear hS; go_simp); try with_reducible rfl)
          try simp only [Act.put, List.setIfInBounds_toArray, List.set_cons_zero, List.set_cons_succ]
          refine wpG_takeA 2 (v := ?_) ?_ hHeld ?_
          rotate_left
          · (intro w hS; (clear hS; go_simp); try with_reducible rfl)
          try simp only [Act.put, List.setIfInBounds_toArray, List.set_cons_zero, List.set_cons_succ]
          refine wpG_offA 3 hHeld ?_
          try simp only [Act.put, List.setIfInBounds_toArray, List.set_cons_zero, List.set_cons_succ]
          refine wpG_offA 4 hHeld ?_
          try simp only [Act.put, List.setIfInBounds_toArray, List.set_cons_zero, List.set_cons_succ]
          refine wpG_offA 5 hHeld ?_
          try simp only [Act.put, List.setIfInBounds_toArray, List.set_cons_zero, List.set_cons_succ]
          refine wpG_offA 6 hHeld ?_
          try simp only [Act.put, List.setIfInBounds_toArray, List.set_cons_zero, List.set_cons_succ]
          refine wpG_offA 7 hHeld ?_
          try simp only [Act.put, List.setIfInBounds_toArray, List.set_cons_zero, List.set_cons_succ]
          refine wpG_offA 8 hHeld ?_
          try simp only [Act.put, List.setIfInBounds_toArray, List.set_cons_zero, List.set_cons_succ]
          refine wpG_offA 9 hHeld ?_
          try simp only [Act.put, List.setIfInBounds_toArray, List.set_cons_zero, List.set_cons_succ]
          refine wpG_offA 10 hHeld ?_
          try simp only [Act.put, List.setIfInBounds_toArray, List.set_cons_zero, List.set_cons_succ]
          refine wpG_takeA 11 (v := ?_) ?_ hHeld ?_
          rotate_left
          · (intro w hS; (clear hS; go_simp); try with_reducible rfl)
          try simp only [Act.put, List.setIfInBounds_toArray, List.set_cons_zero, List.set_cons_succ]
          refine wpG_done (by kernel_rfl) ?_
          skip
          go_upto_region 9 with ((first | (at_builtin; refine wpList_does rfl (kd_appendR (r := (i, f)) K 47 83 rfl rfl rfl O Seg.auto Has.auto (by rfl) Try.underlying47 (by kernel_rfl) (by omega) rfl (fcl_one _) (by omega)) ?_; clear K O; rintro _ w1 ⟨A1, c1, X1, rfl, O, K⟩) | ((with_reducible refine at_eqnil rfl ?_); refine wpList_reads rfl (kr_eqnil rfl rfl (by kernel_rfl)) ?_) | ((with_reducible refine at_box rfl ?_); refine wpList_does rfl (kd_box K _ _ rfl (by conv => lhs; whnf)) ?_; clear K; rintro _ w1 ⟨g, rfl, K⟩; (try dsimp only [Value.cells] at K)) | ((with_reducible refine at_alloc rfl ?_); refine wpList_does rfl (kd_alloc K _ rfl rfl) ?_; clear K; rintro _ w1 ⟨g, rfl, K⟩; (try dsimp only [Value.cells] at K)) | ((with_reducible refine at_buildSlice rfl ?_); refine wpList_does rfl (kd_lits (cs := _) K _ _ _ rfl (by first | rfl | (go_simp; done) | (go_simp; rfl)) (by first | rfl | (go_simp; done) | (go_simp; rfl))) ?_; clear K; rintro _ w1 ⟨g, rfl, K⟩) | ((with_reducible refine at_load rfl ?_); first | (refine wpList_reads (by rfl) (kr_load_cell K _ _ (by rfl) (by rfl) Has.auto (by decide +kernel) (by (try simp only [List.getElem?_toArray, List.getElem?_cons_succ, List.getElem?_cons_zero]); exact rfl)) ?_) | (refine wpList_reads (by rfl) (kr_load_row K _ _ (by rfl) (by rfl) Has.auto (by decide +kernel) (by kernel_rfl)) ?_)) | ((with_reducible refine at_store rfl ?_); (first | (refine wpList_does rfl (kd_store_cell K _ _ _ rfl rfl (by conv => lhs; whnf) Repl.auto rfl rfl (by kernel_rfl) (by kernel_rfl) (by first | (simp only [List.setIfInBounds_toArray, List.set_cons_succ, List.set_cons_zero]; rfl) | rfl)) ?_) | (refine wpList_does rfl (kd_store_row K _ _ _ rfl rfl rfl Repl.auto (by kernel_rfl) (by kernel_rfl) (by kernel_rfl)) ?_)); clear K; intro _ w1 K; (try simp only [Act.put]))))
          refine wp_region_QLK K (by kernel_rfl) (by kernel_rfl) ?_
          clear K
          refine wpQL_A (k := 0) (v := ?_) ?_ ?_
          rotate_left
          · (intro w hS; (clear hS; go_simp); try with_reducible rfl)
          try simp only [Act.put, List.setIfInBounds_toArray, List.set_cons_zero, List.set_cons_succ]
          refine wpQL_A (k := 1) (v := ?_) ?_ ?_
          rotate_left
          · (intro w hS; (clear hS; go_simp); try with_reducible rfl)
          try simp only [Act.put, List.setIfInBounds_toArray, List.set_cons_zero, List.set_cons_succ]
          refine wpQL_A (k := 2) (v := ?_) ?_ ?_
          rotate_left
          · (intro w hS; (clear hS; go_simp); try with_reducible rfl)
          try simp only [Act.put, List.setIfInBounds_toArray, List.set_cons_zero, List.set_cons_succ]
          refine wpQL_A (k := 3) (v := ?_) ?_ ?_
          rotate_left
          · (intro w hS; (clear hS; go_simp); try with_reducible rfl)
          try simp only [Act.put, List.setIfInBounds_toArray, List.set_cons_zero, List.set_cons_succ]
          refine wpQL_A (k := 4) (v := .int .i64 p.1) ?_ ?_
          · (intro w hS; exact kr_load_rcell hS _ _ (by rfl) (j) 0 (by rfl) (R.cov Cov.auto) (by omega) HP.out (by rfl) (by omega) (by kernel_rfl))
          try simp only [Act.put, List.setIfInBounds_toArray, List.set_cons_zero, List.set_cons_succ]
          refine wpQL_A (k := 5) (v := ?_) ?_ ?_
          rotate_left
          · (intro w hS; (clear hS; go_simp); try with_reducible rfl)
          try simp only [Act.put, List.setIfInBounds_toArray, List.set_cons_zero, List.set_cons_succ]
          refine wpQL_A (k := 6) (v := ?_) ?_ ?_
          rotate_left
          · (intro w hS; first | exact kr_load_cell hS _ _ (by rfl) (by rfl) Has.auto (by decide +kernel) (by (try simp only [List.getElem?_toArray, List.getElem?_cons_succ, List.getElem?_cons_zero]); exact rfl) | exact kr_load_row hS _ _ (by rfl) (by rfl) Has.auto (by decide +kernel) (by kernel_rfl))
          try simp only [Act.put, List.setIfInBounds_toArray, List.set_cons_zero, List.set_cons_succ]
          refine wpQL_endA (k := 7) (fun w1 K K9 hK => ?_)
          refine st_reads (v := ?_) (by rfl) ?_ ?_
          rotate_left
          · (go_simp; try with_reducible rfl)
          refine hK.out _ _ ?_
          clear hK K9
          try simp only [Act.put, List.setIfInBounds_toArray, List.set_cons_zero, List.set_cons_succ]
          skip
          go_wp2_with (first | ((with_reducible refine at_load rfl ?_); refine wpList_reads (by rfl) (kr_load_rec K _ _ (by rfl) (j) [.int .i64 p.1, .string (strOfNums p.2.b), .bool p.2.torn] (by rfl) (R.cov Cov.auto) (by omega) HP.out (by omega) (by kernel_rfl) (by kernel_rfl) (by rfl)) ?_) | (at_builtin; refine wpList_does rfl (kd_appendR (r := p) K 47 83 rfl rfl rfl O Seg.auto Has.auto (by rfl) Try.underlying47 (by kernel_rfl) (by omega) rfl (fcl_one _) (by omega)) ?_; clear K O; rintro _ w1 ⟨A2, c2, X2, rfl, O, K⟩) | ((with_reducible refine at_eqnil rfl ?_); refine wpList_reads rfl (kr_eqnil rfl rfl (by kernel_rfl)) ?_) | ((with_reducible refine at_box rfl ?_); refine wpList_does rfl (kd_box K _ _ rfl (by conv => lhs; whnf)) ?_; clear K; rintro _ w1 ⟨g, rfl, K⟩; (try dsimp only [Value.cells] at K)) | ((with_reducible refine at_alloc rfl ?_); refine wpList_does rfl (kd_alloc K _ rfl rfl) ?_; clear K; rintro _ w1 ⟨g, rfl, K⟩; (try dsimp only [Value.cells] at K)) | ((with_reducible refine at_buildSlice rfl ?_); refine wpList_does rfl (kd_lits (cs := _) K _ _ _ rfl (by first | rfl | (go_simp; done) | (go_simp; rfl)) (by first | rfl | (go_simp; done) | (go_simp; rfl))) ?_; clear K; rintro _ w1 ⟨g, rfl, K⟩) | ((with_reducible refine at_load rfl ?_); first | (refine wpList_reads (by rfl) (kr_load_cell K _ _ (by rfl) (by rfl) Has.auto (by decide +kernel) (by (try simp only [List.getElem?_toArray, List.getElem?_cons_succ, List.getElem?_cons_zero]); exact rfl)) ?_) | (refine wpList_reads (by rfl) (kr_load_row K _ _ (by rfl) (by rfl) Has.auto (by decide +kernel) (by kernel_rfl)) ?_)) | ((with_reducible refine at_store rfl ?_); (first | (refine wpList_does rfl (kd_store_cell K _ _ _ rfl rfl (by conv => lhs; whnf) Repl.auto rfl rfl (by kernel_rfl) (by kernel_rfl) (by first | (simp only [List.setIfInBounds_toArray, List.set_cons_succ, List.set_cons_zero]; rfl) | rfl)) ?_) | (refine wpList_does rfl (kd_store_row K _ _ _ rfl rfl rfl Repl.auto (by kernel_rfl) (by kernel_rfl) (by kernel_rfl)) ?_)); clear K; intro _ w1 K; (try simp only [Act.put])))
          go_roundg (gk - 1)
          case measure => omega
          case rel => exact ⟨j + 1, _, out ++ [p], true, _, _, _, rfl, rfl, by go_num, by omega, by omega, O, Lib.hid (by rw [← HE.out, HD.out, pgo, if_neg (by simp), if_neg hpi]; simp), K.cov Cov.auto⟩
    · have hj2 : decide ((j : Int) < (n : Int)) = false := decide_eq_false (by omega)
      have HF := Lib.hid (show out ++ (if dn = true then [] else [(i, f)]) = aput m i f by rw [← HE.out, List.drop_eq_nil_of_le (by omega : m.length ≤ j)]; cases dn <;> rfl)
      cases dn
      · go_wp2_with (first | (at_builtin; refine wpList_does rfl (kd_appendR (r := (i, f)) K 47 83 rfl rfl rfl O Seg.auto Has.auto (by rfl) Try.underlying47 (by kernel_rfl) (by omega) rfl (fcl_one _) (by omega)) ?_; clear K O; rintro _ w1 ⟨A1, c1, X1, rfl, O, K⟩) | ((with_reducible refine at_eqnil rfl ?_); refine wpList_reads rfl (kr_eqnil rfl rfl (by kernel_rfl)) ?_) | ((with_reducible refine at_box rfl ?_); refine wpList_does rfl (kd_box K _ _ rfl (by conv => lhs; whnf)) ?_; clear K; rintro _ w1 ⟨g, rfl, K⟩; (try dsimp only [Value.cells] at K)) | ((with_reducible refine at_alloc rfl ?_); refine wpList_does rfl (kd_alloc K _ rfl rfl) ?_; clear K; rintro _ w1 ⟨g, rfl, K⟩; (try dsimp only [Value.cells] at K)) | ((with_reducible refine at_buildSlice rfl ?_); refine wpList_does rfl (kd_lits (cs := _) K _ _ _ rfl (by first | rfl | (go_simp; done) | (go_simp; rfl)) (by first | rfl | (go_simp; done) | (go_simp; rfl))) ?_; clear K; rintro _ w1 ⟨g, rfl, K⟩) | ((with_reducible refine at_load rfl ?_); first | (refine wpList_reads (by rfl) (kr_load_cell K _ _ (by rfl) (by rfl) Has.auto (by decide +kernel) (by (try simp only [List.getElem?_toArray, List.getElem?_cons_succ, List.getElem?_cons_zero]); exact rfl)) ?_) | (refine wpList_reads (by rfl) (kr_load_row K _ _ (by rfl) (by rfl) Has.auto (by decide +kernel) (by kernel_rfl)) ?_)) | ((with_reducible refine at_store rfl ?_); (first | (refine wpList_does rfl (kd_store_cell K _ _ _ rfl rfl (by conv => lhs; whnf) Repl.auto rfl rfl (by kernel_rfl) (by kernel_rfl) (by first | (simp only [List.setIfInBounds_toArray, List.set_cons_succ, List.set_cons_zero]; rfl) | rfl)) ?_) | (refine wpList_does rfl (kd_store_row K _ _ _ rfl rfl rfl Repl.auto (by kernel_rfl) (by kernel_rfl) (by kernel_rfl)) ?_)); clear K; intro _ w1 K; (try simp only [Act.put])))
        go_ret
        exact ⟨_, _, _, rfl, X1, by rw [← HF.out]; exact O, K.cov Cov.auto⟩
      · go_wp2
        go_ret
        exact ⟨_, _, _, rfl, X, by rw [← HF.out]; simpa using O, K.cov Cov.auto⟩
end
end Go.Proofs.Ytfdddipmeadecaa

/-
  The document's devices: Read, fall, Write, Sync, Down (contracts).
-/
set_option linter.unusedVariables false
set_option linter.unusedSimpArgs false
namespace Go.Proofs.Ytfdddipmeadecaa
open Go.RowKit
/-- two results: a number, and a struct that stands in a block -/
theorem bodyPost_1cellK {w0 w : World} {L : List Ent} {P : Program} {fn : Func} {R : Ending → World → Prop} {a : Act} {s q g : Nat} {T t : TypeId} {cs : Array Value} {v : Value} (K : Known w0 w L) (hr : fn.results = #[.tmp q, .cell s T]) (ha : a.tmps.getD s undef = .pointer (some ⟨g, 0, none⟩)) (hv : a.tmps.getD q undef = v)
    (hb : Has (row g cs t) L) (hu : aggB P T = true) (hi : sizeIs P T cs.size = true) (hd : a.defers = []) (hR : R (.returned (.tuple #[v, .agg cs])) w) : bodyPost P fn R .ret a w := by
  refine bodyPost_ret ?_ hd hR
  have hl := run_loadMid (P := P) (i := 0) (X := cs) (K.blk hb) hu hi (by simp) (by omega)
  have ha' : a.tmps[s]?.getD undef = .pointer (some ⟨g, 0, none⟩) := by rw [← ha]; simp
  have hv' : a.tmps[q]?.getD undef = v := by rw [← hv]; simp
  simp [results, hr, ha', hv', asAddr, Sem.run_bind, hl]
/-- the document's device as a value -/
structure RefIs (w0 : World) (L : List Ent) (D : Dev) (A : Option Addr) (n c : Nat) (B : Option Addr) (m d : Nat) : Prop where mk :: (k : RdM w0 L fcl 3 A n D.kept) (w : RdM w0 L fcl 3 B m D.waits) (kc : n ≤ c) (wc : m ≤ d) (ok : DevOk D)
theorem RefIs.cov {w0 : World} {T L : List Ent} {D : Dev} {A B : Option Addr} {n c m d : Nat} (h : RefIs w0 T D A n c B m d) (hc : Cov T L) : RefIs w0 L D A n c B m d := ⟨h.k.cov hc, h.w.cov hc, h.kc, h.wc, h.ok⟩
theorem rising_le {l : AMap} {D : Dev} (hr : Rising l) (hm : ∀ p ∈ l, FaceOk D.size p.2 ∧ 0 ≤ p.1 ∧ p.1 < D.count) (h : DevOk D) : l.length ≤ 1048576 := by
  have := rising_len (lo := 0) (hi := D.count) hr (fun p hp => (hm p hp).2) (by omega)
  have := h.count
  omega
theorem RefIs.nk {w0 : World} {L : List Ent} {D : Dev} {A B : Option Addr} {n c m d : Nat} (h : RefIs w0 L D A n c B m d) : n ≤ 1048576 := by
  rw [← h.k.len]; exact rising_le h.ok.rk h.ok.fk h.ok
theorem RefIs.nw {w0 : World} {L : List Ent} {D : Dev} {A B : Option Addr} {n c m d : Nat} (h : RefIs w0 L D A n c B m d) : m ≤ 1048576 := by
  rw [← h.w.len]; exact rising_le h.ok.rw_ h.ok.fw h.ok
theorem rd_zeros {w : World} {g s : Nat} {t : TypeId} (hb : Blk w g (fcells s fun x => Value.int .u8 0) t) : Rd w .u8 (some ⟨g, 0, none⟩) s (List.replicate s 0) :=
  Rd.ofBlk hb (by simp) (by rw [← fcells_repl]; simp)
/-- how often it went off, behind a fall -/
def fallO (off : Bool) (offs : Int) : Int := if off then offs else offs + 1
theorem dfall_eq (D : Dev) : dfall D = { D with off := true, offs := fallO D.off D.offs } := by
  unfold dfall fallO
  cases hoff : D.off
  · rfl
  · cases D; simp only at hoff; subst hoff; rfl
theorem dfall_ok {D : Dev} (h : DevOk D) (ho : D.offs < 1000000000000) : DevOk (dfall D) := by
  unfold dfall
  split
  · exact h
  · exact ⟨h.size, h.count, h.rk, h.rw_, h.fk, h.fw, by have := h.offs; exact ⟨by show 0 ≤ D.offs + 1; omega, by show D.offs + 1 ≤ _; omega⟩, h.fuse, h.writes⟩
section
variable {w0 w : World} {L : List Ent} {A : Option Addr} {n c : Nat} {m : AMap} {i : Int} {f : Face}
theorem rfind_none (K : Known w0 w L) (R : RdM w0 L fcl 3 A n m) (hc : n ≤ c) (hn : n ≤ 1048576) (h : afind m i = none) : Calls Try.prog 52 #[.slice A n c, .int .i64 i] w fun e w' => e = .returned (.int .i64 (-1)) ∧ w = w' :=
  (rfind_any K R hc (by omega) i).mono fun e w' ⟨j, h1, h2, h3⟩ => by
    rcases h3 with ⟨_, rfl⟩ | ⟨k, p, _, _, _, h4⟩
    · exact ⟨h1, h2⟩
    · rw [h] at h4; cases h4
theorem rfind_some (K : Known w0 w L) (R : RdM w0 L fcl 3 A n m) (hc : n ≤ c) (hn : n ≤ 1048576) (h : afind m i = some f) : Calls Try.prog 52 #[.slice A n c, .int .i64 i] w fun e w' => ∃ k : Nat, e = .returned (.int .i64 k) ∧ w = w' ∧ k < n ∧ encAt fcl m k = [.int .i64 i, .string (strOfNums f.b), .bool f.torn] :=
  (rfind_any K R hc (by omega) i).mono fun e w' ⟨j, h1, h2, h3⟩ => by
    rcases h3 with ⟨h4, _⟩ | ⟨k, p, rfl, hk, rfl, h4⟩
    · rw [h] at h4; cases h4
    · rw [h] at h4
      injection h4 with h4
      have hlt : k < m.length := by
        rcases Nat.lt_or_ge k m.length with h | h
        · exact h
        · rw [List.getElem?_eq_none h] at hk; cases hk
      refine ⟨k, h1, h2, by rw [← R.len]; exact hlt, ?_⟩
      rw [encAt_get hlt, h4]
      rw [List.getElem?_eq_getElem hlt] at hk
      injection hk with hk
      rw [hk]; rfl
end


section
variable {w0 w : World} {L : List Ent} {D : Dev} {A B : Option Addr} {n c m d : Nat}
set_option maxRecDepth 100000 in
theorem rfall_any (K : Known w0 w L) (s c1 : Nat) (off : Bool) (offs fu wr : Int) (h : 0 ≤ offs ∧ offs < 1000000000000) : Calls Try.prog 34 #[.agg #[.int .i64 (s : Nat), .int .i64 (c1 : Nat), .slice A n c, .slice B m d, .bool off, .int .i64 offs, .int .i64 fu, .int .u64 wr]] w fun e w' => e = .returned (.agg #[.int .i64 (s : Nat), .int .i64 (c1 : Nat), .slice A n c, .slice B m d, .bool true, .int .i64 (fallO off offs), .int .i64 fu, .int .u64 wr]) ∧ Known w0 w' L := by
  cases off
  · have i1 := IntWalk.i64_in (offs + 1) (by omega)
    go_enter Try.func34, Try.ntmps34
    go_wp2_with (first | ((with_reducible refine at_box rfl ?_); refine wpList_does rfl (kd_box K _ _ rfl (by conv => lhs; whnf)) ?_; clear K; rintro _ w1 ⟨gd, rfl, K⟩; (try dsimp only [Value.cells] at K)) | ((with_reducible refine at_slot (N := 2) rfl ?_); (with_reducible refine at_alloc rfl ?_); refine wpList_does rfl (kd_alloc (z := (.agg #[.int .i64 0, .int .i64 0, .slice none 0 0, .slice none 0 0, .bool false, .int .i64 0, .int .i64 0, .int .u64 0])) K _ rfl (by kernel_rfl)) ?_; clear K; rintro _ w1 ⟨gr, rfl, K⟩; (try dsimp only [Value.cells] at K)) | ((with_reducible refine at_eqnil rfl ?_); refine wpList_reads rfl (kr_eqnil rfl rfl (by kernel_rfl)) ?_) | ((with_reducible refine at_box rfl ?_); refine wpList_does rfl (kd_box K _ _ rfl (by conv => lhs; whnf)) ?_; clear K; rintro _ w1 ⟨g, rfl, K⟩; (try dsimp only [Value.cells] at K)) | ((with_reducible refine at_alloc rfl ?_); refine wpList_does rfl (kd_alloc K _ rfl rfl) ?_; clear K; rintro _ w1 ⟨g, rfl, K⟩; (try dsimp only [Value.cells] at K)) | ((with_reducible refine at_buildSlice rfl ?_); refine wpList_does rfl (kd_lits (cs := _) K _ _ _ rfl (by first | rfl | (go_simp; done) | (go_simp; rfl)) (by first | rfl | (go_simp; done) | (go_simp; rfl))) ?_; clear K; rintro _ w1 ⟨g, rfl, K⟩) | ((with_reducible refine at_load rfl ?_); first | (refine wpList_reads (by rfl) (kr_load_cell K _ _ (by rfl) (by rfl) Has.auto (by decide +kernel) (by (try simp only [List.getElem?_toArray, List.getElem?_cons_succ, List.getElem?_cons_zero]); exact rfl)) ?_) | (refine wpList_reads (by rfl) (kr_load_row K _ _ (by rfl) (by rfl) Has.auto (by decide +kernel) (by kernel_rfl)) ?_)) | ((with_reducible refine at_store rfl ?_); (first | (refine wpList_does rfl (kd_store_cell K _ _ _ rfl rfl (by conv => lhs; whnf) Repl.auto rfl rfl (by kernel_rfl) (by kernel_rfl) (by first | (simp only [List.setIfInBounds_toArray, List.set_cons_succ, List.set_cons_zero]; rfl) | rfl)) ?_) | (refine wpList_does rfl (kd_store_row K _ _ _ rfl rfl rfl Repl.auto (by kernel_rfl) (by kernel_rfl) (by kernel_rfl)) ?_)); clear K; intro _ w1 K; (try simp only [Act.put])))
    rw [show fallO false offs = offs + 1 from rfl]
    exact bodyPost_cellK K (by rfl) (by rfl) Has.auto (by kernel_rfl) (by kernel_rfl) rfl  ⟨rfl, K.cov Cov.auto⟩
  · go_enter Try.func34, Try.ntmps34
    go_wp2_with (first | ((with_reducible refine at_box rfl ?_); refine wpList_does rfl (kd_box K _ _ rfl (by conv => lhs; whnf)) ?_; clear K; rintro _ w1 ⟨gd, rfl, K⟩; (try dsimp only [Value.cells] at K)) | ((with_reducible refine at_slot (N := 2) rfl ?_); (with_reducible refine at_alloc rfl ?_); refine wpList_does rfl (kd_alloc (z := (.agg #[.int .i64 0, .int .i64 0, .slice none 0 0, .slice none 0 0, .bool false, .int .i64 0, .int .i64 0, .int .u64 0])) K _ rfl (by kernel_rfl)) ?_; clear K; rintro _ w1 ⟨gr, rfl, K⟩; (try dsimp only [Value.cells] at K)) | ((with_reducible refine at_eqnil rfl ?_); refine wpList_reads rfl (kr_eqnil rfl rfl (by kernel_rfl)) ?_) | ((with_reducible refine at_box rfl ?_); refine wpList_does rfl (kd_box K _ _ rfl (by conv => lhs; whnf)) ?_; clear K; rintro _ w1 ⟨g, rfl, K⟩; (try dsimp only [Value.cells] at K)) | ((with_reducible refine at_alloc rfl ?_); refine wpList_does rfl (kd_alloc K _ rfl rfl) ?_; clear K; rintro _ w1 ⟨g, rfl, K⟩; (try dsimp only [Value.cells] at K)) | ((with_reducible refine at_buildSlice rfl ?_); refine wpList_does rfl (kd_lits (cs := _) K _ _ _ rfl (by first | rfl | (go_simp; done) | (go_simp; rfl)) (by first | rfl | (go_simp; done) | (go_simp; rfl))) ?_; clear K; rintro _ w1 ⟨g, rfl, K⟩) | ((with_reducible refine at_load rfl ?_); first | (refine wpList_reads (by rfl) (kr_load_cell K _ _ (by rfl) (by rfl) Has.auto (by decide +kernel) (by (try simp only [List.getElem?_toArray, List.getElem?_cons_succ, List.getElem?_cons_zero]); exact rfl)) ?_) | (refine wpList_reads (by rfl) (kr_load_row K _ _ (by rfl) (by rfl) Has.auto (by decide +kernel) (by kernel_rfl)) ?_)) | ((with_reducible refine at_store rfl ?_); (first | (refine wpList_does rfl (kd_store_cell K _ _ _ rfl rfl (by conv => lhs; whnf) Repl.auto rfl rfl (by kernel_rfl) (by kernel_rfl) (by first | (simp only [List.setIfInBounds_toArray, List.set_cons_succ, List.set_cons_zero]; rfl) | rfl)) ?_) | (refine wpList_does rfl (kd_store_row K _ _ _ rfl rfl rfl Repl.auto (by kernel_rfl) (by kernel_rfl) (by kernel_rfl)) ?_)); clear K; intro _ w1 K; (try simp only [Act.put])))
    rw [show fallO true offs = offs from rfl]
    exact bodyPost_cellK K (by rfl) (by rfl) Has.auto (by kernel_rfl) (by kernel_rfl) rfl  ⟨rfl, K.cov Cov.auto⟩

set_option maxHeartbeats 1600000 in
set_option maxRecDepth 100000 in
theorem rread_any (K : Known w0 w L) (R : RefIs w0 L D A n c B m d) (i : Int) : Calls Try.prog 37 #[.agg #[.int .i64 (D.size : Nat), .int .i64 (D.count : Nat), .slice A n c, .slice B m d, .bool D.off, .int .i64 D.offs, .int .i64 D.fuse, .int .u64 D.writes], .int .i64 i] w fun e w' => e = .returned (.tuple #[.string (strOfNums (dread D i).1), .int .i64 (dread D i).2]) ∧ Known w0 w' L := by
  cases hoff : D.off
  · by_cases h1 : i < 0
    · have b1 : decide (i < 0) = true := decide_eq_true h1
      have HD := Lib.hid (show dread D i = ([], 5) by rw [dread, dmay, hoff]; simp [h1])
      clear hoff
      go_enter Try.func37, Try.ntmps37
      go_wp2_with (first | ((with_reducible refine at_box rfl ?_); refine wpList_does rfl (kd_box K _ _ rfl (by conv => lhs; whnf)) ?_; clear K; rintro _ w1 ⟨gd, rfl, K⟩; (try dsimp only [Value.cells] at K)) | ((with_reducible refine at_eqnil rfl ?_); refine wpList_reads rfl (kr_eqnil rfl rfl (by kernel_rfl)) ?_) | ((with_reducible refine at_box rfl ?_); refine wpList_does rfl (kd_box K _ _ rfl (by conv => lhs; whnf)) ?_; clear K; rintro _ w1 ⟨g, rfl, K⟩; (try dsimp only [Value.cells] at K)) | ((with_reducible refine at_alloc rfl ?_); refine wpList_does rfl (kd_alloc K _ rfl rfl) ?_; clear K; rintro _ w1 ⟨g, rfl, K⟩; (try dsimp only [Value.cells] at K)) | ((with_reducible refine at_buildSlice rfl ?_); refine wpList_does rfl (kd_lits (cs := _) K _ _ _ rfl (by first | rfl | (go_simp; done) | (go_simp; rfl)) (by first | rfl | (go_simp; done) | (go_simp; rfl))) ?_; clear K; rintro _ w1 ⟨g, rfl, K⟩) | ((with_reducible refine at_load rfl ?_); first | (refine wpList_reads (by rfl) (kr_load_cell K _ _ (by rfl) (by rfl) Has.auto (by decide +kernel) (by (try simp only [List.getElem?_toArray, List.getElem?_cons_succ, List.getElem?_cons_zero]); exact rfl)) ?_) | (refine wpList_reads (by rfl) (kr_load_row K _ _ (by rfl) (by rfl) Has.auto (by decide +kernel) (by kernel_rfl)) ?_)) | ((with_reducible refine at_store rfl ?_); (first | (refine wpList_does rfl (kd_store_cell K _ _ _ rfl rfl (by conv => lhs; whnf) Repl.auto rfl rfl (by kernel_rfl) (by kernel_rfl) (by first | (simp only [List.setIfInBounds_toArray, List.set_cons_succ, List.set_cons_zero]; rfl) | rfl)) ?_) | (refine wpList_does rfl (kd_store_row K _ _ _ rfl rfl rfl Repl.auto (by kernel_rfl) (by kernel_rfl) (by kernel_rfl)) ?_)); clear K; intro _ w1 K; (try simp only [Act.put])))
      go_ret2
      exact ⟨by rw [HD.out]; rfl, K.cov Cov.auto⟩
    · have b1 : decide (i < 0) = false := decide_eq_false h1
      by_cases h2 : (D.count : Int) ≤ i
      · have b2 : decide ((D.count : Int) ≤ i) = true := decide_eq_true h2
        have HD := Lib.hid (show dread D i = ([], 5) by rw [dread, dmay, hoff]; simp [h2])
        clear hoff
        go_enter Try.func37, Try.ntmps37
        go_wp2_with (first | ((with_reducible refine at_box rfl ?_); refine wpList_does rfl (kd_box K _ _ rfl (by conv => lhs; whnf)) ?_; clear K; rintro _ w1 ⟨gd, rfl, K⟩; (try dsimp only [Value.cells] at K)) | ((with_reducible refine at_eqnil rfl ?_); refine wpList_reads rfl (kr_eqnil rfl rfl (by kernel_rfl)) ?_) | ((with_reducible refine at_box rfl ?_); refine wpList_does rfl (kd_box K _ _ rfl (by conv => lhs; whnf)) ?_; clear K; rintro _ w1 ⟨g, rfl, K⟩; (try dsimp only [Value.cells] at K)) | ((with_reducible refine at_alloc rfl ?_); refine wpList_does rfl (kd_alloc K _ rfl rfl) ?_; clear K; rintro _ w1 ⟨g, rfl, K⟩; (try dsimp only [Value.cells] at K)) | ((with_reducible refine at_buildSlice rfl ?_); refine wpList_does rfl (kd_lits (cs := _) K _ _ _ rfl (by first | rfl | (go_simp; done) | (go_simp; rfl)) (by first | rfl | (go_simp; done) | (go_simp; rfl))) ?_; clear K; rintro _ w1 ⟨g, rfl, K⟩) | ((with_reducible refine at_load rfl ?_); first | (refine wpList_reads (by rfl) (kr_load_cell K _ _ (by rfl) (by rfl) Has.auto (by decide +kernel) (by (try simp only [List.getElem?_toArray, List.getElem?_cons_succ, List.getElem?_cons_zero]); exact rfl)) ?_) | (refine wpList_reads (by rfl) (kr_load_row K _ _ (by rfl) (by rfl) Has.auto (by decide +kernel) (by kernel_rfl)) ?_)) | ((with_reducible refine at_store rfl ?_); (first | (refine wpList_does rfl (kd_store_cell K _ _ _ rfl rfl (by conv => lhs; whnf) Repl.auto rfl rfl (by kernel_rfl) (by kernel_rfl) (by first | (simp only [List.setIfInBounds_toArray, List.set_cons_succ, List.set_cons_zero]; rfl) | rfl)) ?_) | (refine wpList_does rfl (kd_store_row K _ _ _ rfl rfl rfl Repl.auto (by kernel_rfl) (by kernel_rfl) (by kernel_rfl)) ?_)); clear K; intro _ w1 K; (try simp only [Act.put])))
        go_ret2
        exact ⟨by rw [HD.out]; rfl, K.cov Cov.auto⟩
      · have b2 : decide ((D.count : Int) ≤ i) = false := decide_eq_false h2
        have hsz := R.ok.size
        have hnk := R.nk
        have hnw := R.nw
        cases hw : afind D.waits i with
        | none =>
          cases hk : afind D.kept i with
          | none =>
            have HD := Lib.hid (show dread D i = (List.replicate D.size 0, 0) by rw [dread, dmay, hoff]; simp [h1, h2, dface, hw, hk])
            clear hoff h1 h2
            go_enter Try.func37, Try.ntmps37
            go_wp2_with (first | ((with_reducible refine at_box rfl ?_); refine wpList_does rfl (kd_box K _ _ rfl (by conv => lhs; whnf)) ?_; clear K; rintro _ w1 ⟨gd, rfl, K⟩; (try dsimp only [Value.cells] at K)) | ((with_reducible refine at_makeSlice rfl ?_); refine wpList_does rfl (kd_make (z := .int .u8 0) (bytes := 1) K 46 5 rfl Try.underlying46 (by kernel_rfl) rfl (D.size) (D.size) rfl rfl (by omega) (by omega) (by omega)) ?_; clear K; rintro _ w1 ⟨gb, rfl, K⟩; (try rw [fcells_repl] at K)) | ((with_reducible refine at_slot (N := 6) rfl ?_); (with_reducible refine at_alloc rfl ?_); refine wpList_does rfl (kd_alloc (z := (.agg #[.int .i64 0, .string ⟨#[]⟩, .bool false])) K _ rfl (by kernel_rfl)) ?_; clear K; rintro _ w1 ⟨gf, rfl, K⟩; (try dsimp only [Value.cells] at K)) | (go_at_call 52; (with_reducible refine (rfind_none K (R.w.cov Cov.auto) R.wc hnw hw).mono ?_); rintro e w' ⟨rfl, rfl⟩) | (go_at_call 52; (with_reducible refine (rfind_none K (R.k.cov Cov.auto) R.kc hnk hk).mono ?_); rintro e w' ⟨rfl, rfl⟩) | ((with_reducible refine at_convert (t := 46) (u := 9) rfl ?_); refine wpList_reads rfl (kr_string rfl rfl (rd_zeros (K.blk Has.auto)) Try.underlying46 Try.underlying5 Try.underlying9) ?_) | ((with_reducible refine at_eqnil rfl ?_); refine wpList_reads rfl (kr_eqnil rfl rfl (by kernel_rfl)) ?_) | ((with_reducible refine at_box rfl ?_); refine wpList_does rfl (kd_box K _ _ rfl (by conv => lhs; whnf)) ?_; clear K; rintro _ w1 ⟨g, rfl, K⟩; (try dsimp only [Value.cells] at K)) | ((with_reducible refine at_alloc rfl ?_); refine wpList_does rfl (kd_alloc K _ rfl rfl) ?_; clear K; rintro _ w1 ⟨g, rfl, K⟩; (try dsimp only [Value.cells] at K)) | ((with_reducible refine at_buildSlice rfl ?_); refine wpList_does rfl (kd_lits (cs := _) K _ _ _ rfl (by first | rfl | (go_simp; done) | (go_simp; rfl)) (by first | rfl | (go_simp; done) | (go_simp; rfl))) ?_; clear K; rintro _ w1 ⟨g, rfl, K⟩) | ((with_reducible refine at_load rfl ?_); first | (refine wpList_reads (by rfl) (kr_load_cell K _ _ (by rfl) (by rfl) Has.auto (by decide +kernel) (by (try simp only [List.getElem?_toArray, List.getElem?_cons_succ, List.getElem?_cons_zero]); exact rfl)) ?_) | (refine wpList_reads (by rfl) (kr_load_row K _ _ (by rfl) (by rfl) Has.auto (by decide +kernel) (by kernel_rfl)) ?_)) | ((with_reducible refine at_store rfl ?_); (first | (refine wpList_does rfl (kd_store_cell K _ _ _ rfl rfl (by conv => lhs; whnf) Repl.auto rfl rfl (by kernel_rfl) (by kernel_rfl) (by first | (simp only [List.setIfInBounds_toArray, List.set_cons_succ, List.set_cons_zero]; rfl) | rfl)) ?_) | (refine wpList_does rfl (kd_store_row K _ _ _ rfl rfl rfl Repl.auto (by kernel_rfl) (by kernel_rfl) (by kernel_rfl)) ?_)); clear K; intro _ w1 K; (try simp only [Act.put])))
            go_ret2
            exact ⟨by rw [HD.out]; rfl, K.cov Cov.auto⟩
          | some fk =>
            cases ht : fk.torn
            · have HD := Lib.hid (show dread D i = (fk.b, 0) by rw [dread, dmay, hoff]; simp [h1, h2, dface, hw, hk, ht])
              obtain ⟨bk, ok, rfl⟩ := R.k.form K (by have := List.length_pos_of_mem (afind_mem hk); have := R.k.len; omega)
              clear hoff h1 h2
              go_enter Try.func37, Try.ntmps37
              go_wp2_with (first | ((with_reducible refine at_box rfl ?_); refine wpList_does rfl (kd_box K _ _ rfl (by conv => lhs; whnf)) ?_; clear K; rintro _ w1 ⟨gd, rfl, K⟩; (try dsimp only [Value.cells] at K)) | ((with_reducible refine at_makeSlice rfl ?_); refine wpList_does rfl (kd_make (z := .int .u8 0) (bytes := 1) K 46 5 rfl Try.underlying46 (by kernel_rfl) rfl (D.size) (D.size) rfl rfl (by omega) (by omega) (by omega)) ?_; clear K; rintro _ w1 ⟨gb, rfl, K⟩; (try rw [fcells_repl] at K)) | ((with_reducible refine at_slot (N := 6) rfl ?_); (with_reducible refine at_alloc rfl ?_); refine wpList_does rfl (kd_alloc (z := (.agg #[.int .i64 0, .string ⟨#[]⟩, .bool false])) K _ rfl (by kernel_rfl)) ?_; clear K; rintro _ w1 ⟨gf, rfl, K⟩; (try dsimp only [Value.cells] at K)) | (go_at_call 52; (with_reducible refine (rfind_none K (R.w.cov Cov.auto) R.wc hnw hw).mono ?_); rintro e w' ⟨rfl, rfl⟩) | (go_at_call 52; (with_reducible refine (rfind_some K (R.k.cov Cov.auto) R.kc hnk hk).mono ?_); rintro e w' ⟨kk, rfl, rfl, hltkk, hekk⟩; rw [ht] at hekk) | ((with_reducible refine at_convert (t := 46) (u := 9) rfl ?_); refine wpList_reads rfl (kr_string rfl rfl (rd_zeros (K.blk Has.auto)) Try.underlying46 Try.underlying5 Try.underlying9) ?_) | ((with_reducible refine at_load rfl ?_); refine wpList_reads (by rfl) (kr_load_rec K _ _ (by rfl) (kk) [.int .i64 i, .string (strOfNums fk.b), .bool false] (by rfl) (R.k.cov Cov.auto) (by omega) hekk (by omega) (by kernel_rfl) (by kernel_rfl) (by rfl)) ?_) | ((with_reducible refine at_eqnil rfl ?_); refine wpList_reads rfl (kr_eqnil rfl rfl (by kernel_rfl)) ?_) | ((with_reducible refine at_box rfl ?_); refine wpList_does rfl (kd_box K _ _ rfl (by conv => lhs; whnf)) ?_; clear K; rintro _ w1 ⟨g, rfl, K⟩; (try dsimp only [Value.cells] at K)) | ((with_reducible refine at_alloc rfl ?_); refine wpList_does rfl (kd_alloc K _ rfl rfl) ?_; clear K; rintro _ w1 ⟨g, rfl, K⟩; (try dsimp only [Value.cells] at K)) | ((with_reducible refine at_buildSlice rfl ?_); refine wpList_does rfl (kd_lits (cs := _) K _ _ _ rfl (by first | rfl | (go_simp; done) | (go_simp; rfl)) (by first | rfl | (go_simp; done) | (go_simp; rfl))) ?_; clear K; rintro _ w1 ⟨g, rfl, K⟩) | ((with_reducible refine at_load rfl ?_); first | (refine wpList_reads (by rfl) (kr_load_cell K _ _ (by rfl) (by rfl) Has.auto (by decide +kernel) (by (try simp only [List.getElem?_toArray, List.getElem?_cons_succ, List.getElem?_cons_zero]); exact rfl)) ?_) | (refine wpList_reads (by rfl) (kr_load_row K _ _ (by rfl) (by rfl) Has.auto (by decide +kernel) (by kernel_rfl)) ?_)) | ((with_reducible refine at_store rfl ?_); (first | (refine wpList_does rfl (kd_store_cell K _ _ _ rfl rfl (by conv => lhs; whnf) Repl.auto rfl rfl (by kernel_rfl) (by kernel_rfl) (by first | (simp only [List.setIfInBounds_toArray, List.set_cons_succ, List.set_cons_zero]; rfl) | rfl)) ?_) | (refine wpList_does rfl (kd_store_row K _ _ _ rfl rfl rfl Repl.auto (by kernel_rfl) (by kernel_rfl) (by kernel_rfl)) ?_)); clear K; intro _ w1 K; (try simp only [Act.put])))
              go_ret2
              exact ⟨by rw [HD.out]; rfl, K.cov Cov.auto⟩
            · have HD := Lib.hid (show dread D i = ([], 7) by rw [dread, dmay, hoff]; simp [h1, h2, dface, hw, hk, ht])
              obtain ⟨bk, ok, rfl⟩ := R.k.form K (by have := List.length_pos_of_mem (afind_mem hk); have := R.k.len; omega)
              clear hoff h1 h2
              go_enter Try.func37, Try.ntmps37
              go_wp2_with (first | ((with_reducible refine at_box rfl ?_); refine wpList_does rfl (kd_box K _ _ rfl (by conv => lhs; whnf)) ?_; clear K; rintro _ w1 ⟨gd, rfl, K⟩; (try dsimp only [Value.cells] at K)) | ((with_reducible refine at_makeSlice rfl ?_); refine wpList_does rfl (kd_make (z := .int .u8 0) (bytes := 1) K 46 5 rfl Try.underlying46 (by kernel_rfl) rfl (D.size) (D.size) rfl rfl (by omega) (by omega) (by omega)) ?_; clear K; rintro _ w1 ⟨gb, rfl, K⟩; (try rw [fcells_repl] at K)) | ((with_reducible refine at_slot (N := 6) rfl ?_); (with_reducible refine at_alloc rfl ?_); refine wpList_does rfl (kd_alloc (z := (.agg #[.int .i64 0, .string ⟨#[]⟩, .bool false])) K _ rfl (by kernel_rfl)) ?_; clear K; rintro _ w1 ⟨gf, rfl, K⟩; (try dsimp only [Value.cells] at K)) | (go_at_call 52; (with_reducible refine (rfind_none K (R.w.cov Cov.auto) R.wc hnw hw).mono ?_); rintro e w' ⟨rfl, rfl⟩) | (go_at_call 52; (with_reducible refine (rfind_some K (R.k.cov Cov.auto) R.kc hnk hk).mono ?_); rintro e w' ⟨kk, rfl, rfl, hltkk, hekk⟩; rw [ht] at hekk) | ((with_reducible refine at_convert (t := 46) (u := 9) rfl ?_); refine wpList_reads rfl (kr_string rfl rfl (rd_zeros (K.blk Has.auto)) Try.underlying46 Try.underlying5 Try.underlying9) ?_) | ((with_reducible refine at_load rfl ?_); refine wpList_reads (by rfl) (kr_load_rec K _ _ (by rfl) (kk) [.int .i64 i, .string (strOfNums fk.b), .bool true] (by rfl) (R.k.cov Cov.auto) (by omega) hekk (by omega) (by kernel_rfl) (by kernel_rfl) (by rfl)) ?_) | ((with_reducible refine at_eqnil rfl ?_); refine wpList_reads rfl (kr_eqnil rfl rfl (by kernel_rfl)) ?_) | ((with_reducible refine at_box rfl ?_); refine wpList_does rfl (kd_box K _ _ rfl (by conv => lhs; whnf)) ?_; clear K; rintro _ w1 ⟨g, rfl, K⟩; (try dsimp only [Value.cells] at K)) | ((with_reducible refine at_alloc rfl ?_); refine wpList_does rfl (kd_alloc K _ rfl rfl) ?_; clear K; rintro _ w1 ⟨g, rfl, K⟩; (try dsimp only [Value.cells] at K)) | ((with_reducible refine at_buildSlice rfl ?_); refine wpList_does rfl (kd_lits (cs := _) K _ _ _ rfl (by first | rfl | (go_simp; done) | (go_simp; rfl)) (by first | rfl | (go_simp; done) | (go_simp; rfl))) ?_; clear K; rintro _ w1 ⟨g, rfl, K⟩) | ((with_reducible refine at_load rfl ?_); first | (refine wpList_reads (by rfl) (kr_load_cell K _ _ (by rfl) (by rfl) Has.auto (by decide +kernel) (by (try simp only [List.getElem?_toArray, List.getElem?_cons_succ, List.getElem?_cons_zero]); exact rfl)) ?_) | (refine wpList_reads (by rfl) (kr_load_row K _ _ (by rfl) (by rfl) Has.auto (by decide +kernel) (by kernel_rfl)) ?_)) | ((with_reducible refine at_store rfl ?_); (first | (refine wpList_does rfl (kd_store_cell K _ _ _ rfl rfl (by conv => lhs; whnf) Repl.auto rfl rfl (by kernel_rfl) (by kernel_rfl) (by first | (simp only [List.setIfInBounds_toArray, List.set_cons_succ, List.set_cons_zero]; rfl) | rfl)) ?_) | (refine wpList_does rfl (kd_store_row K _ _ _ rfl rfl rfl Repl.auto (by kernel_rfl) (by kernel_rfl) (by kernel_rfl)) ?_)); clear K; intro _ w1 K; (try simp only [Act.put])))
              go_ret2
              exact ⟨by rw [HD.out]; rfl, K.cov Cov.auto⟩
        | some fw =>
          cases ht : fw.torn
          · cases hk : afind D.kept i with
            | none =>
              have HD := Lib.hid (show dread D i = (fw.b, 0) by rw [dread, dmay, hoff]; simp [h1, h2, dface, hw, hk, ht])
              obtain ⟨bw, ow, rfl⟩ := R.w.form K (by have := List.length_pos_of_mem (afind_mem hw); have := R.w.len; omega)
              clear hoff h1 h2
              go_enter Try.func37, Try.ntmps37
              go_wp2_with (first | ((with_reducible refine at_box rfl ?_); refine wpList_does rfl (kd_box K _ _ rfl (by conv => lhs; whnf)) ?_; clear K; rintro _ w1 ⟨gd, rfl, K⟩; (try dsimp only [Value.cells] at K)) | ((with_reducible refine at_makeSlice rfl ?_); refine wpList_does rfl (kd_make (z := .int .u8 0) (bytes := 1) K 46 5 rfl Try.underlying46 (by kernel_rfl) rfl (D.size) (D.size) rfl rfl (by omega) (by omega) (by omega)) ?_; clear K; rintro _ w1 ⟨gb, rfl, K⟩; (try rw [fcells_repl] at K)) | ((with_reducible refine at_slot (N := 6) rfl ?_); (with_reducible refine at_alloc rfl ?_); refine wpList_does rfl (kd_alloc (z := (.agg #[.int .i64 0, .string ⟨#[]⟩, .bool false])) K _ rfl (by kernel_rfl)) ?_; clear K; rintro _ w1 ⟨gf, rfl, K⟩; (try dsimp only [Value.cells] at K)) | (go_at_call 52; (with_reducible refine (rfind_some K (R.w.cov Cov.auto) R.wc hnw hw).mono ?_); rintro e w' ⟨kw, rfl, rfl, hltkw, hekw⟩; rw [ht] at hekw) | (go_at_call 52; (with_reducible refine (rfind_none K (R.k.cov Cov.auto) R.kc hnk hk).mono ?_); rintro e w' ⟨rfl, rfl⟩) | ((with_reducible refine at_convert (t := 46) (u := 9) rfl ?_); refine wpList_reads rfl (kr_string rfl rfl (rd_zeros (K.blk Has.auto)) Try.underlying46 Try.underlying5 Try.underlying9) ?_) | ((with_reducible refine at_load rfl ?_); refine wpList_reads (by rfl) (kr_load_rec K _ _ (by rfl) (kw) [.int .i64 i, .string (strOfNums fw.b), .bool false] (by rfl) (R.w.cov Cov.auto) (by omega) hekw (by omega) (by kernel_rfl) (by kernel_rfl) (by rfl)) ?_) | ((with_reducible refine at_eqnil rfl ?_); refine wpList_reads rfl (kr_eqnil rfl rfl (by kernel_rfl)) ?_) | ((with_reducible refine at_box rfl ?_); refine wpList_does rfl (kd_box K _ _ rfl (by conv => lhs; whnf)) ?_; clear K; rintro _ w1 ⟨g, rfl, K⟩; (try dsimp only [Value.cells] at K)) | ((with_reducible refine at_alloc rfl ?_); refine wpList_does rfl (kd_alloc K _ rfl rfl) ?_; clear K; rintro _ w1 ⟨g, rfl, K⟩; (try dsimp only [Value.cells] at K)) | ((with_reducible refine at_buildSlice rfl ?_); refine wpList_does rfl (kd_lits (cs := _) K _ _ _ rfl (by first | rfl | (go_simp; done) | (go_simp; rfl)) (by first | rfl | (go_simp; done) | (go_simp; rfl))) ?_; clear K; rintro _ w1 ⟨g, rfl, K⟩) | ((with_reducible refine at_load rfl ?_); first | (refine wpList_reads (by rfl) (kr_load_cell K _ _ (by rfl) (by rfl) Has.auto (by decide +kernel) (by (try simp only [List.getElem?_toArray, List.getElem?_cons_succ, List.getElem?_cons_zero]); exact rfl)) ?_) | (refine wpList_reads (by rfl) (kr_load_row K _ _ (by rfl) (by rfl) Has.auto (by decide +kernel) (by kernel_rfl)) ?_)) | ((with_reducible refine at_store rfl ?_); (first | (refine wpList_does rfl (kd_store_cell K _ _ _ rfl rfl (by conv => lhs; whnf) Repl.auto rfl rfl (by kernel_rfl) (by kernel_rfl) (by first | (simp only [List.setIfInBounds_toArray, List.set_cons_succ, List.set_cons_zero]; rfl) | rfl)) ?_) | (refine wpList_does rfl (kd_store_row K _ _ _ rfl rfl rfl Repl.auto (by kernel_rfl) (by kernel_rfl) (by kernel_rfl)) ?_)); clear K; intro _ w1 K; (try simp only [Act.put])))
              go_ret2
              exact ⟨by rw [HD.out]; rfl, K.cov Cov.auto⟩
            | some fk =>
              have HD := Lib.hid (show dread D i = (fw.b, 0) by rw [dread, dmay, hoff]; simp [h1, h2, dface, hw, hk, ht])
              obtain ⟨bw, ow, rfl⟩ := R.w.form K (by have := List.length_pos_of_mem (afind_mem hw); have := R.w.len; omega)
              obtain ⟨bk, ok, rfl⟩ := R.k.form K (by have := List.length_pos_of_mem (afind_mem hk); have := R.k.len; omega)
              clear hoff h1 h2
              go_enter Try.func37, Try.ntmps37
              go_wp2_with (first | ((with_reducible refine at_box rfl ?_); refine wpList_does rfl (kd_box K _ _ rfl (by conv => lhs; whnf)) ?_; clear K; rintro _ w1 ⟨gd, rfl, K⟩; (try dsimp only [Value.cells] at K)) | ((with_reducible refine at_makeSlice rfl ?_); refine wpList_does rfl (kd_make (z := .int .u8 0) (bytes := 1) K 46 5 rfl Try.underlying46 (by kernel_rfl) rfl (D.size) (D.size) rfl rfl (by omega) (by omega) (by omega)) ?_; clear K; rintro _ w1 ⟨gb, rfl, K⟩; (try rw [fcells_repl] at K)) | ((with_reducible refine at_slot (N := 6) rfl ?_); (with_reducible refine at_alloc rfl ?_); refine wpList_does rfl (kd_alloc (z := (.agg #[.int .i64 0, .string ⟨#[]⟩, .bool false])) K _ rfl (by kernel_rfl)) ?_; clear K; rintro _ w1 ⟨gf, rfl, K⟩; (try dsimp only [Value.cells] at K)) | (go_at_call 52; (with_reducible refine (rfind_some K (R.w.cov Cov.auto) R.wc hnw hw).mono ?_); rintro e w' ⟨kw, rfl, rfl, hltkw, hekw⟩; rw [ht] at hekw) | (go_at_call 52; (with_reducible refine (rfind_some K (R.k.cov Cov.auto) R.kc hnk hk).mono ?_); rintro e w' ⟨kk, rfl, rfl, hltkk, hekk⟩) | ((with_reducible refine at_convert (t := 46) (u := 9) rfl ?_); refine wpList_reads rfl (kr_string rfl rfl (rd_zeros (K.blk Has.auto)) Try.underlying46 Try.underlying5 Try.underlying9) ?_) | ((with_reducible refine at_load rfl ?_); refine wpList_reads (by rfl) (kr_load_rec K _ _ (by rfl) (kw) [.int .i64 i, .string (strOfNums fw.b), .bool false] (by rfl) (R.w.cov Cov.auto) (by omega) hekw (by omega) (by kernel_rfl) (by kernel_rfl) (by rfl)) ?_) | ((with_reducible refine at_eqnil rfl ?_); refine wpList_reads rfl (kr_eqnil rfl rfl (by kernel_rfl)) ?_) | ((with_reducible refine at_box rfl ?_); refine wpList_does rfl (kd_box K _ _ rfl (by conv => lhs; whnf)) ?_; clear K; rintro _ w1 ⟨g, rfl, K⟩; (try dsimp only [Value.cells] at K)) | ((with_reducible refine at_alloc rfl ?_); refine wpList_does rfl (kd_alloc K _ rfl rfl) ?_; clear K; rintro _ w1 ⟨g, rfl, K⟩; (try dsimp only [Value.cells] at K)) | ((with_reducible refine at_buildSlice rfl ?_); refine wpList_does rfl (kd_lits (cs := _) K _ _ _ rfl (by first | rfl | (go_simp; done) | (go_simp; rfl)) (by first | rfl | (go_simp; done) | (go_simp; rfl))) ?_; clear K; rintro _ w1 ⟨g, rfl, K⟩) | ((with_reducible refine at_load rfl ?_); first | (refine wpList_reads (by rfl) (kr_load_cell K _ _ (by rfl) (by rfl) Has.auto (by decide +kernel) (by (try simp only [List.getElem?_toArray, List.getElem?_cons_succ, List.getElem?_cons_zero]); exact rfl)) ?_) | (refine wpList_reads (by rfl) (kr_load_row K _ _ (by rfl) (by rfl) Has.auto (by decide +kernel) (by kernel_rfl)) ?_)) | ((with_reducible refine at_store rfl ?_); (first | (refine wpList_does rfl (kd_store_cell K _ _ _ rfl rfl (by conv => lhs; whnf) Repl.auto rfl rfl (by kernel_rfl) (by kernel_rfl) (by first | (simp only [List.setIfInBounds_toArray, List.set_cons_succ, List.set_cons_zero]; rfl) | rfl)) ?_) | (refine wpList_does rfl (kd_store_row K _ _ _ rfl rfl rfl Repl.auto (by kernel_rfl) (by kernel_rfl) (by kernel_rfl)) ?_)); clear K; intro _ w1 K; (try simp only [Act.put])))
              go_ret2
              exact ⟨by rw [HD.out]; rfl, K.cov Cov.auto⟩
          · cases hk : afind D.kept i with
            | none =>
              have HD := Lib.hid (show dread D i = ([], 7) by rw [dread, dmay, hoff]; simp [h1, h2, dface, hw, hk, ht])
              obtain ⟨bw, ow, rfl⟩ := R.w.form K (by have := List.length_pos_of_mem (afind_mem hw); have := R.w.len; omega)
              clear hoff h1 h2
              go_enter Try.func37, Try.ntmps37
              go_wp2_with (first | ((with_reducible refine at_box rfl ?_); refine wpList_does rfl (kd_box K _ _ rfl (by conv => lhs; whnf)) ?_; clear K; rintro _ w1 ⟨gd, rfl, K⟩; (try dsimp only [Value.cells] at K)) | ((with_reducible refine at_makeSlice rfl ?_); refine wpList_does rfl (kd_make (z := .int .u8 0) (bytes := 1) K 46 5 rfl Try.underlying46 (by kernel_rfl) rfl (D.size) (D.size) rfl rfl (by omega) (by omega) (by omega)) ?_; clear K; rintro _ w1 ⟨gb, rfl, K⟩; (try rw [fcells_repl] at K)) | ((with_reducible refine at_slot (N := 6) rfl ?_); (with_reducible refine at_alloc rfl ?_); refine wpList_does rfl (kd_alloc (z := (.agg #[.int .i64 0, .string ⟨#[]⟩, .bool false])) K _ rfl (by kernel_rfl)) ?_; clear K; rintro _ w1 ⟨gf, rfl, K⟩; (try dsimp only [Value.cells] at K)) | (go_at_call 52; (with_reducible refine (rfind_some K (R.w.cov Cov.auto) R.wc hnw hw).mono ?_); rintro e w' ⟨kw, rfl, rfl, hltkw, hekw⟩; rw [ht] at hekw) | (go_at_call 52; (with_reducible refine (rfind_none K (R.k.cov Cov.auto) R.kc hnk hk).mono ?_); rintro e w' ⟨rfl, rfl⟩) | ((with_reducible refine at_convert (t := 46) (u := 9) rfl ?_); refine wpList_reads rfl (kr_string rfl rfl (rd_zeros (K.blk Has.auto)) Try.underlying46 Try.underlying5 Try.underlying9) ?_) | ((with_reducible refine at_load rfl ?_); refine wpList_reads (by rfl) (kr_load_rec K _ _ (by rfl) (kw) [.int .i64 i, .string (strOfNums fw.b), .bool true] (by rfl) (R.w.cov Cov.auto) (by omega) hekw (by omega) (by kernel_rfl) (by kernel_rfl) (by rfl)) ?_) | ((with_reducible refine at_eqnil rfl ?_); refine wpList_reads rfl (kr_eqnil rfl rfl (by kernel_rfl)) ?_) | ((with_reducible refine at_box rfl ?_); refine wpList_does rfl (kd_box K _ _ rfl (by conv => lhs; whnf)) ?_; clear K; rintro _ w1 ⟨g, rfl, K⟩; (try dsimp only [Value.cells] at K)) | ((with_reducible refine at_alloc rfl ?_); refine wpList_does rfl (kd_alloc K _ rfl rfl) ?_; clear K; rintro _ w1 ⟨g, rfl, K⟩; (try dsimp only [Value.cells] at K)) | ((with_reducible refine at_buildSlice rfl ?_); refine wpList_does rfl (kd_lits (cs := _) K _ _ _ rfl (by first | rfl | (go_simp; done) | (go_simp; rfl)) (by first | rfl | (go_simp; done) | (go_simp; rfl))) ?_; clear K; rintro _ w1 ⟨g, rfl, K⟩) | ((with_reducible refine at_load rfl ?_); first | (refine wpList_reads (by rfl) (kr_load_cell K _ _ (by rfl) (by rfl) Has.auto (by decide +kernel) (by (try simp only [List.getElem?_toArray, List.getElem?_cons_succ, List.getElem?_cons_zero]); exact rfl)) ?_) | (refine wpList_reads (by rfl) (kr_load_row K _ _ (by rfl) (by rfl) Has.auto (by decide +kernel) (by kernel_rfl)) ?_)) | ((with_reducible refine at_store rfl ?_); (first | (refine wpList_does rfl (kd_store_cell K _ _ _ rfl rfl (by conv => lhs; whnf) Repl.auto rfl rfl (by kernel_rfl) (by kernel_rfl) (by first | (simp only [List.setIfInBounds_toArray, List.set_cons_succ, List.set_cons_zero]; rfl) | rfl)) ?_) | (refine wpList_does rfl (kd_store_row K _ _ _ rfl rfl rfl Repl.auto (by kernel_rfl) (by kernel_rfl) (by kernel_rfl)) ?_)); clear K; intro _ w1 K; (try simp only [Act.put])))
              go_ret2
              exact ⟨by rw [HD.out]; rfl, K.cov Cov.auto⟩
            | some fk =>
              have HD := Lib.hid (show dread D i = ([], 7) by rw [dread, dmay, hoff]; simp [h1, h2, dface, hw, hk, ht])
              obtain ⟨bw, ow, rfl⟩ := R.w.form K (by have := List.length_pos_of_mem (afind_mem hw); have := R.w.len; omega)
              obtain ⟨bk, ok, rfl⟩ := R.k.form K (by have := List.length_pos_of_mem (afind_mem hk); have := R.k.len; omega)
              clear hoff h1 h2
              go_enter Try.func37, Try.ntmps37
              go_wp2_with (first | ((with_reducible refine at_box rfl ?_); refine wpList_does rfl (kd_box K _ _ rfl (by conv => lhs; whnf)) ?_; clear K; rintro _ w1 ⟨gd, rfl, K⟩; (try dsimp only [Value.cells] at K)) | ((with_reducible refine at_makeSlice rfl ?_); refine wpList_does rfl (kd_make (z := .int .u8 0) (bytes := 1) K 46 5 rfl Try.underlying46 (by kernel_rfl) rfl (D.size) (D.size) rfl rfl (by omega) (by omega) (by omega)) ?_; clear K; rintro _ w1 ⟨gb, rfl, K⟩; (try rw [fcells_repl] at K)) | ((with_reducible refine at_slot (N := 6) rfl ?_); (with_reducible refine at_alloc rfl ?_); refine wpList_does rfl (kd_alloc (z := (.agg #[.int .i64 0, .string ⟨#[]⟩, .bool false])) K _ rfl (by kernel_rfl)) ?_; clear K; rintro _ w1 ⟨gf, rfl, K⟩; (try dsimp only [Value.cells] at K)) | (go_at_call 52; (with_reducible refine (rfind_some K (R.w.cov Cov.auto) R.wc hnw hw).mono ?_); rintro e w' ⟨kw, rfl, rfl, hltkw, hekw⟩; rw [ht] at hekw) | (go_at_call 52; (with_reducible refine (rfind_some K (R.k.cov Cov.auto) R.kc hnk hk).mono ?_); rintro e w' ⟨kk, rfl, rfl, hltkk, hekk⟩) | ((with_reducible refine at_convert (t := 46) (u := 9) rfl ?_); refine wpList_reads rfl (kr_string rfl rfl (rd_zeros (K.blk Has.auto)) Try.underlying46 Try.underlying5 Try.underlying9) ?_) | ((with_reducible refine at_load rfl ?_); refine wpList_reads (by rfl) (kr_load_rec K _ _ (by rfl) (kw) [.int .i64 i, .string (strOfNums fw.b), .bool true] (by rfl) (R.w.cov Cov.auto) (by omega) hekw (by omega) (by kernel_rfl) (by kernel_rfl) (by rfl)) ?_) | ((with_reducible refine at_eqnil rfl ?_); refine wpList_reads rfl (kr_eqnil rfl rfl (by kernel_rfl)) ?_) | ((with_reducible refine at_box rfl ?_); refine wpList_does rfl (kd_box K _ _ rfl (by conv => lhs; whnf)) ?_; clear K; rintro _ w1 ⟨g, rfl, K⟩; (try dsimp only [Value.cells] at K)) | ((with_reducible refine at_alloc rfl ?_); refine wpList_does rfl (kd_alloc K _ rfl rfl) ?_; clear K; rintro _ w1 ⟨g, rfl, K⟩; (try dsimp only [Value.cells] at K)) | ((with_reducible refine at_buildSlice rfl ?_); refine wpList_does rfl (kd_lits (cs := _) K _ _ _ rfl (by first | rfl | (go_simp; done) | (go_simp; rfl)) (by first | rfl | (go_simp; done) | (go_simp; rfl))) ?_; clear K; rintro _ w1 ⟨g, rfl, K⟩) | ((with_reducible refine at_load rfl ?_); first | (refine wpList_reads (by rfl) (kr_load_cell K _ _ (by rfl) (by rfl) Has.auto (by decide +kernel) (by (try simp only [List.getElem?_toArray, List.getElem?_cons_succ, List.getElem?_cons_zero]); exact rfl)) ?_) | (refine wpList_reads (by rfl) (kr_load_row K _ _ (by rfl) (by rfl) Has.auto (by decide +kernel) (by kernel_rfl)) ?_)) | ((with_reducible refine at_store rfl ?_); (first | (refine wpList_does rfl (kd_store_cell K _ _ _ rfl rfl (by conv => lhs; whnf) Repl.auto rfl rfl (by kernel_rfl) (by kernel_rfl) (by first | (simp only [List.setIfInBounds_toArray, List.set_cons_succ, List.set_cons_zero]; rfl) | rfl)) ?_) | (refine wpList_does rfl (kd_store_row K _ _ _ rfl rfl rfl Repl.auto (by kernel_rfl) (by kernel_rfl) (by kernel_rfl)) ?_)); clear K; intro _ w1 K; (try simp only [Act.put])))
              go_ret2
              exact ⟨by rw [HD.out]; rfl, K.cov Cov.auto⟩
  · have HD := Lib.hid (show dread D i = ([], 8) by rw [dread, dmay, hoff]; rfl)
    clear hoff
    go_enter Try.func37, Try.ntmps37
    go_wp2_with (first | ((with_reducible refine at_box rfl ?_); refine wpList_does rfl (kd_box K _ _ rfl (by conv => lhs; whnf)) ?_; clear K; rintro _ w1 ⟨gd, rfl, K⟩; (try dsimp only [Value.cells] at K)) | ((with_reducible refine at_eqnil rfl ?_); refine wpList_reads rfl (kr_eqnil rfl rfl (by kernel_rfl)) ?_) | ((with_reducible refine at_box rfl ?_); refine wpList_does rfl (kd_box K _ _ rfl (by conv => lhs; whnf)) ?_; clear K; rintro _ w1 ⟨g, rfl, K⟩; (try dsimp only [Value.cells] at K)) | ((with_reducible refine at_alloc rfl ?_); refine wpList_does rfl (kd_alloc K _ rfl rfl) ?_; clear K; rintro _ w1 ⟨g, rfl, K⟩; (try dsimp only [Value.cells] at K)) | ((with_reducible refine at_buildSlice rfl ?_); refine wpList_does rfl (kd_lits (cs := _) K _ _ _ rfl (by first | rfl | (go_simp; done) | (go_simp; rfl)) (by first | rfl | (go_simp; done) | (go_simp; rfl))) ?_; clear K; rintro _ w1 ⟨g, rfl, K⟩) | ((with_reducible refine at_load rfl ?_); first | (refine wpList_reads (by rfl) (kr_load_cell K _ _ (by rfl) (by rfl) Has.auto (by decide +kernel) (by (try simp only [List.getElem?_toArray, List.getElem?_cons_succ, List.getElem?_cons_zero]); exact rfl)) ?_) | (refine wpList_reads (by rfl) (kr_load_row K _ _ (by rfl) (by rfl) Has.auto (by decide +kernel) (by kernel_rfl)) ?_)) | ((with_reducible refine at_store rfl ?_); (first | (refine wpList_does rfl (kd_store_cell K _ _ _ rfl rfl (by conv => lhs; whnf) Repl.auto rfl rfl (by kernel_rfl) (by kernel_rfl) (by first | (simp only [List.setIfInBounds_toArray, List.set_cons_succ, List.set_cons_zero]; rfl) | rfl)) ?_) | (refine wpList_does rfl (kd_store_row K _ _ _ rfl rfl rfl Repl.auto (by kernel_rfl) (by kernel_rfl) (by kernel_rfl)) ?_)); clear K; intro _ w1 K; (try simp only [Act.put])))
    go_ret2
    exact ⟨by rw [HD.out]; rfl, K.cov Cov.auto⟩
end
end Go.Proofs.Ytfdddipmeadecaa

/-
  The document's devices: Write, Sync (contracts).
-/
set_option linter.unusedVariables false
set_option linter.unusedSimpArgs false
namespace Go.Proofs.Ytfdddipmeadecaa
open Go.RowKit


section
variable {w0 w : World} {L : List Ent} {D : Dev} {A B : Option Addr} {n c m d : Nat}
set_option maxHeartbeats 1600000 in
set_option maxRecDepth 100000 in
theorem rwrite_any {T : List Ent} (K : Known w0 w L) (R0 : RefIs w0 T D A n c B m d) (hT : Cov T L) (i : Int) (bs : List Int) (hb : ∀ v ∈ bs, 0 ≤ v ∧ v ≤ 255) (ho : D.offs < 1000000000000) (hw : D.writes < 1000000000000) :
    Calls Try.prog 15 #[.agg #[.int .i64 (D.size : Nat), .int .i64 (D.count : Nat), .slice A n c, .slice B m d, .bool D.off, .int .i64 D.offs, .int .i64 D.fuse, .int .u64 D.writes], .int .i64 i, .string (strOfNums bs)] w fun e w' => ∃ B' m' d', e = .returned (.tuple #[.int .i64 (dwrite D i bs).1, .agg #[.int .i64 (((dwrite D i bs).2).size : Nat), .int .i64 (((dwrite D i bs).2).count : Nat), .slice A n c, .slice B' m' d', .bool ((dwrite D i bs).2).off, .int .i64 ((dwrite D i bs).2).offs, .int .i64 ((dwrite D i bs).2).fuse, .int .u64 ((dwrite D i bs).2).writes]]) ∧ ∃ X, RefIs w0 (X ++ T) (dwrite D i bs).2 A n c B' m' d' ∧ Known w0 w' (X ++ L) := by
  have R := R0.cov hT
  have hof : 0 ≤ D.offs ∧ D.offs < 1000000000000 := ⟨R.ok.offs.1, ho⟩
  have hwr := R.ok.writes
  have hsz := strOfNums_size bs
  have hnw := R.nw
  have HOK := Lib.hid (dwrite_ok R.ok (i := i) hb ho hw)
  cases hoff : D.off
  · by_cases h1 : i < 0
    · have b1 : decide (i < 0) = true := decide_eq_true h1
      have HD := Lib.hid (show dwrite D i bs = (5, D) by rw [dwrite, dmay, hoff]; simp [h1])
      have HO := Lib.hid hoff
      clear hoff
      go_enter Try.func15, Try.ntmps15
      go_upto_region 4 with ((first | ((with_reducible refine at_box rfl ?_); refine wpList_does rfl (kd_box K _ _ rfl (by conv => lhs; whnf)) ?_; clear K; rintro _ w1 ⟨gd, rfl, K⟩; (try dsimp only [Value.cells] at K)) | ((with_reducible refine at_slot (N := 7) rfl ?_); (with_reducible refine at_alloc rfl ?_); refine wpList_does rfl (kd_alloc (z := (.agg #[.int .i64 0, .int .i64 0, .slice none 0 0, .slice none 0 0, .bool false, .int .i64 0, .int .i64 0, .int .u64 0])) K _ rfl (by kernel_rfl)) ?_; clear K; rintro _ w1 ⟨gr, rfl, K⟩; (try dsimp only [Value.cells] at K)) | ((with_reducible refine at_eqnil rfl ?_); refine wpList_reads rfl (kr_eqnil rfl rfl (by kernel_rfl)) ?_) | ((with_reducible refine at_box rfl ?_); refine wpList_does rfl (kd_box K _ _ rfl (by conv => lhs; whnf)) ?_; clear K; rintro _ w1 ⟨g, rfl, K⟩; (try dsimp only [Value.cells] at K)) | ((with_reducible refine at_alloc rfl ?_); refine wpList_does rfl (kd_alloc K _ rfl rfl) ?_; clear K; rintro _ w1 ⟨g, rfl, K⟩; (try dsimp only [Value.cells] at K)) | ((with_reducible refine at_buildSlice rfl ?_); refine wpList_does rfl (kd_lits (cs := _) K _ _ _ rfl (by first | rfl | (go_simp; done) | (go_simp; rfl)) (by first | rfl | (go_simp; done) | (go_simp; rfl))) ?_; clear K; rintro _ w1 ⟨g, rfl, K⟩) | ((with_reducible refine at_load rfl ?_); first | (refine wpList_reads (by rfl) (kr_load_cell K _ _ (by rfl) (by rfl) Has.auto (by decide +kernel) (by (try simp only [List.getElem?_toArray, List.getElem?_cons_succ, List.getElem?_cons_zero]); exact rfl)) ?_) | (refine wpList_reads (by rfl) (kr_load_row K _ _ (by rfl) (by rfl) Has.auto (by decide +kernel) (by kernel_rfl)) ?_)) | ((with_reducible refine at_store rfl ?_); (first | (refine wpList_does rfl (kd_store_cell K _ _ _ rfl rfl (by conv => lhs; whnf) Repl.auto rfl rfl (by kernel_rfl) (by kernel_rfl) (by first | (simp only [List.setIfInBounds_toArray, List.set_cons_succ, List.set_cons_zero]; rfl) | rfl)) ?_) | (refine wpList_does rfl (kd_store_row K _ _ _ rfl rfl rfl Repl.auto (by kernel_rfl) (by kernel_rfl) (by kernel_rfl)) ?_)); clear K; intro _ w1 K; (try simp only [Act.put]))))
      refine wp_region_QLK K (by kernel_rfl) (by kernel_rfl) ?_
      clear K
      refine wpQL_A (k := 0) (v := .agg #[.int .i64 (D.size : Nat), .int .i64 (D.count : Nat), .slice A n c, .slice B m d, .bool false, .int .i64 D.offs, .int .i64 D.fuse, .int .u64 D.writes]) ?_ ?_
      · (intro w hS; exact kr_load_row hS _ _ (by rfl) (by rfl) Has.auto (by kernel_rfl) (by kernel_rfl))
      try simp only [Act.put, List.setIfInBounds_toArray, List.set_cons_zero, List.set_cons_succ]
      refine wpQL_A (k := 1) (v := ?_) ?_ ?_
      rotate_left
      · (intro w hS; (clear hS; go_simp); try with_reducible rfl)
      try simp only [Act.put, List.setIfInBounds_toArray, List.set_cons_zero, List.set_cons_succ]
      refine wpQL_endA (k := 2) (fun w1 K K9 hK => ?_)
      (first | (refine st_does (by rfl) (kd_store_cell K _ _ _ (by rfl) (by rfl) (by conv => lhs; whnf) Repl.auto (by rfl) (by rfl) (by kernel_rfl) (by kernel_rfl) (by first | (simp only [List.setIfInBounds_toArray, List.set_cons_succ, List.set_cons_zero]; rfl) | rfl)) ?_) | (refine st_does (by rfl) (kd_store_row K _ _ _ (by rfl) (by rfl) (by rfl) Repl.auto (by kernel_rfl) (by kernel_rfl) (by kernel_rfl)) ?_))
      clear K; intro _ w1 K
      refine hK.out _ _ ?_
      clear hK K9
      try simp only [Act.put, List.setIfInBounds_toArray, List.set_cons_zero, List.set_cons_succ]
      skip
      go_wp2
      rw [HD.out]
      simp only [HO.out]
      exact bodyPost_1cellK K (by rfl) (by rfl) (by rfl) Has.auto (by kernel_rfl) (by kernel_rfl) rfl ⟨_, _, _, rfl, [], R0.cov (Cov.all T), K.cov Cov.auto⟩
    · have b1 : decide (i < 0) = false := decide_eq_false h1
      by_cases h2 : (D.count : Int) ≤ i
      · have b2 : decide ((D.count : Int) ≤ i) = true := decide_eq_true h2
        have HD := Lib.hid (show dwrite D i bs = (5, D) by rw [dwrite, dmay, hoff]; simp [h2])
        have HO := Lib.hid hoff
        clear hoff
        go_enter Try.func15, Try.ntmps15
        go_upto_region 4 with ((first | ((with_reducible refine at_box rfl ?_); refine wpList_does rfl (kd_box K _ _ rfl (by conv => lhs; whnf)) ?_; clear K; rintro _ w1 ⟨gd, rfl, K⟩; (try dsimp only [Value.cells] at K)) | ((with_reducible refine at_slot (N := 7) rfl ?_); (with_reducible refine at_alloc rfl ?_); refine wpList_does rfl (kd_alloc (z := (.agg #[.int .i64 0, .int .i64 0, .slice none 0 0, .slice none 0 0, .bool false, .int .i64 0, .int .i64 0, .int .u64 0])) K _ rfl (by kernel_rfl)) ?_; clear K; rintro _ w1 ⟨gr, rfl, K⟩; (try dsimp only [Value.cells] at K)) | ((with_reducible refine at_eqnil rfl ?_); refine wpList_reads rfl (kr_eqnil rfl rfl (by kernel_rfl)) ?_) | ((with_reducible refine at_box rfl ?_); refine wpList_does rfl (kd_box K _ _ rfl (by conv => lhs; whnf)) ?_; clear K; rintro _ w1 ⟨g, rfl, K⟩; (try dsimp only [Value.cells] at K)) | ((with_reducible refine at_alloc rfl ?_); refine wpList_does rfl (kd_alloc K _ rfl rfl) ?_; clear K; rintro _ w1 ⟨g, rfl, K⟩; (try dsimp only [Value.cells] at K)) | ((with_reducible refine at_buildSlice rfl ?_); refine wpList_does rfl (kd_lits (cs := _) K _ _ _ rfl (by first | rfl | (go_simp; done) | (go_simp; rfl)) (by first | rfl | (go_simp; done) | (go_simp; rfl))) ?_; clear K; rintro _ w1 ⟨g, rfl, K⟩) | ((with_reducible refine at_load rfl ?_); first | (refine wpList_reads (by rfl) (kr_load_cell K _ _ (by rfl) (by rfl) Has.auto (by decide +kernel) (by (try simp only [List.getElem?_toArray, List.getElem?_cons_succ, List.getElem?_cons_zero]); exact rfl)) ?_) | (refine wpList_reads (by rfl) (kr_load_row K _ _ (by rfl) (by rfl) Has.auto (by decide +kernel) (by kernel_rfl)) ?_)) | ((with_reducible refine at_store rfl ?_); (first | (refine wpList_does rfl (kd_store_cell K _ _ _ rfl rfl (by conv => lhs; whnf) Repl.auto rfl rfl (by kernel_rfl) (by kernel_rfl) (by first | (simp only [List.setIfInBounds_toArray, List.set_cons_succ, List.set_cons_zero]; rfl) | rfl)) ?_) | (refine wpList_does rfl (kd_store_row K _ _ _ rfl rfl rfl Repl.auto (by kernel_rfl) (by kernel_rfl) (by kernel_rfl)) ?_)); clear K; intro _ w1 K; (try simp only [Act.put]))))
        refine wp_region_QLK K (by kernel_rfl) (by kernel_rfl) ?_
        clear K
        refine wpQL_A (k := 0) (v := .agg #[.int .i64 (D.size : Nat), .int .i64 (D.count : Nat), .slice A n c, .slice B m d, .bool false, .int .i64 D.offs, .int .i64 D.fuse, .int .u64 D.writes]) ?_ ?_
        · (intro w hS; exact kr_load_row hS _ _ (by rfl) (by rfl) Has.auto (by kernel_rfl) (by kernel_rfl))
        try simp only [Act.put, List.setIfInBounds_toArray, List.set_cons_zero, List.set_cons_succ]
        refine wpQL_A (k := 1) (v := ?_) ?_ ?_
        rotate_left
        · (intro w hS; (clear hS; go_simp); try with_reducible rfl)
        try simp only [Act.put, List.setIfInBounds_toArray, List.set_cons_zero, List.set_cons_succ]
        refine wpQL_endA (k := 2) (fun w1 K K9 hK => ?_)
        (first | (refine st_does (by rfl) (kd_store_cell K _ _ _ (by rfl) (by rfl) (by conv => lhs; whnf) Repl.auto (by rfl) (by rfl) (by kernel_rfl) (by kernel_rfl) (by first | (simp only [List.setIfInBounds_toArray, List.set_cons_succ, List.set_cons_zero]; rfl) | rfl)) ?_) | (refine st_does (by rfl) (kd_store_row K _ _ _ (by rfl) (by rfl) (by rfl) Repl.auto (by kernel_rfl) (by kernel_rfl) (by kernel_rfl)) ?_))
        clear K; intro _ w1 K
        refine hK.out _ _ ?_
        clear hK K9
        try simp only [Act.put, List.setIfInBounds_toArray, List.set_cons_zero, List.set_cons_succ]
        skip
        go_wp2
        rw [HD.out]
        simp only [HO.out]
        exact bodyPost_1cellK K (by rfl) (by rfl) (by rfl) Has.auto (by kernel_rfl) (by kernel_rfl) rfl ⟨_, _, _, rfl, [], R0.cov (Cov.all T), K.cov Cov.auto⟩
      · have b2 : decide ((D.count : Int) ≤ i) = false := decide_eq_false h2
        by_cases h3 : bs.length = D.size
        · have b3 : ((bs.length : Int) != (D.size : Int)) = false := by simp; omega
          by_cases h4 : D.fuse = 0
          · have b4 : (D.fuse == 0) = true := by simpa using h4
            have HD := Lib.hid (show dwrite D i bs = (8, { D with waits := aput D.waits i ⟨bs, false⟩, off := true, offs := fallO false D.offs }) by rw [dwrite, if_neg (by rw [dmay, hoff]; simp [h1, h2]), if_neg (by omega), if_pos h4, dfall_eq, dput, ← hoff])
            have HO := Lib.hid hoff
            clear hoff h4
            have i6 := IntWalk.u64_in (D.writes + 1) (by omega)
            go_enter Try.func15, Try.ntmps15
            go_wp2_with (first | ((with_reducible refine at_box rfl ?_); refine wpList_does rfl (kd_box K _ _ rfl (by conv => lhs; whnf)) ?_; clear K; rintro _ w1 ⟨gd, rfl, K⟩; (try dsimp only [Value.cells] at K)) | ((with_reducible refine at_slot (N := 7) rfl ?_); (with_reducible refine at_alloc rfl ?_); refine wpList_does rfl (kd_alloc (z := (.agg #[.int .i64 0, .int .i64 0, .slice none 0 0, .slice none 0 0, .bool false, .int .i64 0, .int .i64 0, .int .u64 0])) K _ rfl (by kernel_rfl)) ?_; clear K; rintro _ w1 ⟨gr, rfl, K⟩; (try dsimp only [Value.cells] at K)) | (go_at_call 33; (with_reducible refine (rdput_any K (R.w.cov Cov.auto) R.wc (by omega) R.ok.rw_ i ⟨bs, false⟩).mono ?_); clear K; rintro e w1 ⟨B1, m1, d1, rfl, X1, O, K⟩) | (go_at_call 34; (with_reducible refine (rfall_any K _ _ _ _ _ _ hof).mono ?_); clear K; rintro e w1 ⟨rfl, K⟩) | ((with_reducible refine at_eqnil rfl ?_); refine wpList_reads rfl (kr_eqnil rfl rfl (by kernel_rfl)) ?_) | ((with_reducible refine at_box rfl ?_); refine wpList_does rfl (kd_box K _ _ rfl (by conv => lhs; whnf)) ?_; clear K; rintro _ w1 ⟨g, rfl, K⟩; (try dsimp only [Value.cells] at K)) | ((with_reducible refine at_alloc rfl ?_); refine wpList_does rfl (kd_alloc K _ rfl rfl) ?_; clear K; rintro _ w1 ⟨g, rfl, K⟩; (try dsimp only [Value.cells] at K)) | ((with_reducible refine at_buildSlice rfl ?_); refine wpList_does rfl (kd_lits (cs := _) K _ _ _ rfl (by first | rfl | (go_simp; done) | (go_simp; rfl)) (by first | rfl | (go_simp; done) | (go_simp; rfl))) ?_; clear K; rintro _ w1 ⟨g, rfl, K⟩) | ((with_reducible refine at_load rfl ?_); first | (refine wpList_reads (by rfl) (kr_load_cell K _ _ (by rfl) (by rfl) Has.auto (by decide +kernel) (by (try simp only [List.getElem?_toArray, List.getElem?_cons_succ, List.getElem?_cons_zero]); exact rfl)) ?_) | (refine wpList_reads (by rfl) (kr_load_row K _ _ (by rfl) (by rfl) Has.auto (by decide +kernel) (by kernel_rfl)) ?_)) | ((with_reducible refine at_store rfl ?_); (first | (refine wpList_does rfl (kd_store_cell K _ _ _ rfl rfl (by conv => lhs; whnf) Repl.auto rfl rfl (by kernel_rfl) (by kernel_rfl) (by first | (simp only [List.setIfInBounds_toArray, List.set_cons_succ, List.set_cons_zero]; rfl) | rfl)) ?_) | (refine wpList_does rfl (kd_store_row K _ _ _ rfl rfl rfl Repl.auto (by kernel_rfl) (by kernel_rfl) (by kernel_rfl)) ?_)); clear K; intro _ w1 K; (try simp only [Act.put])))
            have RW2 := RdM.own (w0 := w0) (L := X1 ++ T) O (Seg.ap X1 T) fcl_len (by omega)
            have HOK2 := HOK.out
            rw [HD.out] at HOK2
            rw [HD.out]
            simp only [HO.out] at HOK2 ⊢
            exact bodyPost_1cellK K (by rfl) (by rfl) (by rfl) Has.auto (by kernel_rfl) (by kernel_rfl) rfl ⟨B1, m1, d1, rfl, X1, ⟨R0.k.cov (Cov.skip X1 (Cov.all T)), RW2, R.kc, O.le, HOK2⟩, K.cov Cov.auto⟩
          · have b4 : (D.fuse == 0) = false := by simpa using h4
            by_cases h5 : 0 < D.fuse
            · have b5 : decide (0 < D.fuse) = true := decide_eq_true h5
              have i5 := IntWalk.i64_in (D.fuse - 1) (by have := R.ok.fuse; omega)
              have HD := Lib.hid (show dwrite D i bs = (0, { D with waits := aput D.waits i ⟨bs, false⟩, fuse := D.fuse - 1, writes := D.writes + 1 }) by rw [dwrite, if_neg (by rw [dmay, hoff]; simp [h1, h2]), if_neg (by omega), if_neg h4, if_pos h5, dput])
              have HO := Lib.hid hoff
              clear hoff h4
              have i6 := IntWalk.u64_in (D.writes + 1) (by omega)
              go_enter Try.func15, Try.ntmps15
              go_upto_region 13 with ((first | ((with_reducible refine at_box rfl ?_); refine wpList_does rfl (kd_box K _ _ rfl (by conv => lhs; whnf)) ?_; clear K; rintro _ w1 ⟨gd, rfl, K⟩; (try dsimp only [Value.cells] at K)) | ((with_reducible refine at_slot (N := 7) rfl ?_); (with_reducible refine at_alloc rfl ?_); refine wpList_does rfl (kd_alloc (z := (.agg #[.int .i64 0, .int .i64 0, .slice none 0 0, .slice none 0 0, .bool false, .int .i64 0, .int .i64 0, .int .u64 0])) K _ rfl (by kernel_rfl)) ?_; clear K; rintro _ w1 ⟨gr, rfl, K⟩; (try dsimp only [Value.cells] at K)) | (go_at_call 33; (with_reducible refine (rdput_any K (R.w.cov Cov.auto) R.wc (by omega) R.ok.rw_ i ⟨bs, false⟩).mono ?_); clear K; rintro e w1 ⟨B1, m1, d1, rfl, X1, O, K⟩) | ((with_reducible refine at_eqnil rfl ?_); refine wpList_reads rfl (kr_eqnil rfl rfl (by kernel_rfl)) ?_) | ((with_reducible refine at_box rfl ?_); refine wpList_does rfl (kd_box K _ _ rfl (by conv => lhs; whnf)) ?_; clear K; rintro _ w1 ⟨g, rfl, K⟩; (try dsimp only [Value.cells] at K)) | ((with_reducible refine at_alloc rfl ?_); refine wpList_does rfl (kd_alloc K _ rfl rfl) ?_; clear K; rintro _ w1 ⟨g, rfl, K⟩; (try dsimp only [Value.cells] at K)) | ((with_reducible refine at_buildSlice rfl ?_); refine wpList_does rfl (kd_lits (cs := _) K _ _ _ rfl (by first | rfl | (go_simp; done) | (go_simp; rfl)) (by first | rfl | (go_simp; done) | (go_simp; rfl))) ?_; clear K; rintro _ w1 ⟨g, rfl, K⟩) | ((with_reducible refine at_load rfl ?_); first | (refine wpList_reads (by rfl) (kr_load_cell K _ _ (by rfl) (by rfl) Has.auto (by decide +kernel) (by (try simp only [List.getElem?_toArray, List.getElem?_cons_succ, List.getElem?_cons_zero]); exact rfl)) ?_) | (refine wpList_reads (by rfl) (kr_load_row K _ _ (by rfl) (by rfl) Has.auto (by decide +kernel) (by kernel_rfl)) ?_)) | ((with_reducible refine at_store rfl ?_); (first | (refine wpList_does rfl (kd_store_cell K _ _ _ rfl rfl (by conv => lhs; whnf) Repl.auto rfl rfl (by kernel_rfl) (by kernel_rfl) (by first | (simp only [List.setIfInBounds_toArray, List.set_cons_succ, List.set_cons_zero]; rfl) | rfl)) ?_) | (refine wpList_does rfl (kd_store_row K _ _ _ rfl rfl rfl Repl.auto (by kernel_rfl) (by kernel_rfl) (by kernel_rfl)) ?_)); clear K; intro _ w1 K; (try simp only [Act.put]))))
              refine wp_region_QLK K (by kernel_rfl) (by kernel_rfl) ?_
              clear K
              refine wpQL_A (k := 0) (v := .agg #[.int .i64 (D.size : Nat), .int .i64 (D.count : Nat), .slice A n c, .slice B1 m1 d1, .bool false, .int .i64 D.offs, .int .i64 (D.fuse - 1), .int .u64 (D.writes + 1)]) ?_ ?_
              · (intro w hS; exact kr_load_row hS _ _ (by rfl) (by rfl) Has.auto (by kernel_rfl) (by kernel_rfl))
              try simp only [Act.put, List.setIfInBounds_toArray, List.set_cons_zero, List.set_cons_succ]
              refine wpQL_A (k := 1) (v := ?_) ?_ ?_
              rotate_left
              · (intro w hS; (clear hS; go_simp); try with_reducible rfl)
              try simp only [Act.put, List.setIfInBounds_toArray, List.set_cons_zero, List.set_cons_succ]
              refine wpQL_endA (k := 2) (fun w1 K K9 hK => ?_)
              (first | (refine st_does (by rfl) (kd_store_cell K _ _ _ (by rfl) (by rfl) (by conv => lhs; whnf) Repl.auto (by rfl) (by rfl) (by kernel_rfl) (by kernel_rfl) (by first | (simp only [List.setIfInBounds_toArray, List.set_cons_succ, List.set_cons_zero]; rfl) | rfl)) ?_) | (refine st_does (by rfl) (kd_store_row K _ _ _ (by rfl) (by rfl) (by rfl) Repl.auto (by kernel_rfl) (by kernel_rfl) (by kernel_rfl)) ?_))
              clear K; intro _ w1 K
              refine hK.out _ _ ?_
              clear hK K9
              try simp only [Act.put, List.setIfInBounds_toArray, List.set_cons_zero, List.set_cons_succ]
              skip
              go_wp2
              have RW2 := RdM.own (w0 := w0) (L := X1 ++ T) O (Seg.ap X1 T) fcl_len (by omega)
              have HOK2 := HOK.out
              rw [HD.out] at HOK2
              rw [HD.out]
              simp only [HO.out] at HOK2 ⊢
              exact bodyPost_1cellK K (by rfl) (by rfl) (by rfl) Has.auto (by kernel_rfl) (by kernel_rfl) rfl ⟨B1, m1, d1, rfl, X1, ⟨R0.k.cov (Cov.skip X1 (Cov.all T)), RW2, R.kc, O.le, HOK2⟩, K.cov Cov.auto⟩
            · have b5 : decide (0 < D.fuse) = false := decide_eq_false h5
              have HD := Lib.hid (show dwrite D i bs = (0, { D with waits := aput D.waits i ⟨bs, false⟩, writes := D.writes + 1 }) by rw [dwrite, if_neg (by rw [dmay, hoff]; simp [h1, h2]), if_neg (by omega), if_neg h4, if_neg h5, dput])
              have HO := Lib.hid hoff
              clear hoff h4
              have i6 := IntWalk.u64_in (D.writes + 1) (by omega)
              go_enter Try.func15, Try.ntmps15
              go_upto_region 13 with ((first | ((with_reducible refine at_box rfl ?_); refine wpList_does rfl (kd_box K _ _ rfl (by conv => lhs; whnf)) ?_; clear K; rintro _ w1 ⟨gd, rfl, K⟩; (try dsimp only [Value.cells] at K)) | ((with_reducible refine at_slot (N := 7) rfl ?_); (with_reducible refine at_alloc rfl ?_); refine wpList_does rfl (kd_alloc (z := (.agg #[.int .i64 0, .int .i64 0, .slice none 0 0, .slice none 0 0, .bool false, .int .i64 0, .int .i64 0, .int .u64 0])) K _ rfl (by kernel_rfl)) ?_; clear K; rintro _ w1 ⟨gr, rfl, K⟩; (try dsimp only [Value.cells] at K)) | (go_at_call 33; (with_reducible refine (rdput_any K (R.w.cov Cov.auto) R.wc (by omega) R.ok.rw_ i ⟨bs, false⟩).mono ?_); clear K; rintro e w1 ⟨B1, m1, d1, rfl, X1, O, K⟩) | ((with_reducible refine at_eqnil rfl ?_); refine wpList_reads rfl (kr_eqnil rfl rfl (by kernel_rfl)) ?_) | ((with_reducible refine at_box rfl ?_); refine wpList_does rfl (kd_box K _ _ rfl (by conv => lhs; whnf)) ?_; clear K; rintro _ w1 ⟨g, rfl, K⟩; (try dsimp only [Value.cells] at K)) | ((with_reducible refine at_alloc rfl ?_); refine wpList_does rfl (kd_alloc K _ rfl rfl) ?_; clear K; rintro _ w1 ⟨g, rfl, K⟩; (try dsimp only [Value.cells] at K)) | ((with_reducible refine at_buildSlice rfl ?_); refine wpList_does rfl (kd_lits (cs := _) K _ _ _ rfl (by first | rfl | (go_simp; done) | (go_simp; rfl)) (by first | rfl | (go_simp; done) | (go_simp; rfl))) ?_; clear K; rintro _ w1 ⟨g, rfl, K⟩) | ((with_reducible refine at_load rfl ?_); first | (refine wpList_reads (by rfl) (kr_load_cell K _ _ (by rfl) (by rfl) Has.auto (by decide +kernel) (by (try simp only [List.getElem?_toArray, List.getElem?_cons_succ, List.getElem?_cons_zero]); exact rfl)) ?_) | (refine wpList_reads (by rfl) (kr_load_row K _ _ (by rfl) (by rfl) Has.auto (by decide +kernel) (by kernel_rfl)) ?_)) | ((with_reducible refine at_store rfl ?_); (first | (refine wpList_does rfl (kd_store_cell K _ _ _ rfl rfl (by conv => lhs; whnf) Repl.auto rfl rfl (by kernel_rfl) (by kernel_rfl) (by first | (simp only [List.setIfInBounds_toArray, List.set_cons_succ, List.set_cons_zero]; rfl) | rfl)) ?_) | (refine wpList_does rfl (kd_store_row K _ _ _ rfl rfl rfl Repl.auto (by kernel_rfl) (by kernel_rfl) (by kernel_rfl)) ?_)); clear K; intro _ w1 K; (try simp only [Act.put]))))
              refine wp_region_QLK K (by kernel_rfl) (by kernel_rfl) ?_
              clear K
              refine wpQL_A (k := 0) (v := .agg #[.int .i64 (D.size : Nat), .int .i64 (D.count : Nat), .slice A n c, .slice B1 m1 d1, .bool false, .int .i64 D.offs, .int .i64 D.fuse, .int .u64 (D.writes + 1)]) ?_ ?_
              · (intro w hS; exact kr_load_row hS _ _ (by rfl) (by rfl) Has.auto (by kernel_rfl) (by kernel_rfl))
              try simp only [Act.put, List.setIfInBounds_toArray, List.set_cons_zero, List.set_cons_succ]
              refine wpQL_A (k := 1) (v := ?_) ?_ ?_
              rotate_left
              · (intro w hS; (clear hS; go_simp); try with_reducible rfl)
              try simp only [Act.put, List.setIfInBounds_toArray, List.set_cons_zero, List.set_cons_succ]
              refine wpQL_endA (k := 2) (fun w1 K K9 hK => ?_)
              (first | (refine st_does (by rfl) (kd_store_cell K _ _ _ (by rfl) (by rfl) (by conv => lhs; whnf) Repl.auto (by rfl) (by rfl) (by kernel_rfl) (by kernel_rfl) (by first | (simp only [List.setIfInBounds_toArray, List.set_cons_succ, List.set_cons_zero]; rfl) | rfl)) ?_) | (refine st_does (by rfl) (kd_store_row K _ _ _ (by rfl) (by rfl) (by rfl) Repl.auto (by kernel_rfl) (by kernel_rfl) (by kernel_rfl)) ?_))
              clear K; intro _ w1 K
              refine hK.out _ _ ?_
              clear hK K9
              try simp only [Act.put, List.setIfInBounds_toArray, List.set_cons_zero, List.set_cons_succ]
              skip
              go_wp2
              have RW2 := RdM.own (w0 := w0) (L := X1 ++ T) O (Seg.ap X1 T) fcl_len (by omega)
              have HOK2 := HOK.out
              rw [HD.out] at HOK2
              rw [HD.out]
              simp only [HO.out] at HOK2 ⊢
              exact bodyPost_1cellK K (by rfl) (by rfl) (by rfl) Has.auto (by kernel_rfl) (by kernel_rfl) rfl ⟨B1, m1, d1, rfl, X1, ⟨R0.k.cov (Cov.skip X1 (Cov.all T)), RW2, R.kc, O.le, HOK2⟩, K.cov Cov.auto⟩
        · have b3 : ((bs.length : Int) != (D.size : Int)) = true := by simp; omega
          have HD := Lib.hid (show dwrite D i bs = (3, D) by rw [dwrite, if_neg (by rw [dmay, hoff]; simp [h1, h2]), if_pos h3])
          have HO := Lib.hid hoff
          clear hoff
          go_enter Try.func15, Try.ntmps15
          go_upto_region 6 with ((first | ((with_reducible refine at_box rfl ?_); refine wpList_does rfl (kd_box K _ _ rfl (by conv => lhs; whnf)) ?_; clear K; rintro _ w1 ⟨gd, rfl, K⟩; (try dsimp only [Value.cells] at K)) | ((with_reducible refine at_slot (N := 7) rfl ?_); (with_reducible refine at_alloc rfl ?_); refine wpList_does rfl (kd_alloc (z := (.agg #[.int .i64 0, .int .i64 0, .slice none 0 0, .slice none 0 0, .bool false, .int .i64 0, .int .i64 0, .int .u64 0])) K _ rfl (by kernel_rfl)) ?_; clear K; rintro _ w1 ⟨gr, rfl, K⟩; (try dsimp only [Value.cells] at K)) | ((with_reducible refine at_eqnil rfl ?_); refine wpList_reads rfl (kr_eqnil rfl rfl (by kernel_rfl)) ?_) | ((with_reducible refine at_box rfl ?_); refine wpList_does rfl (kd_box K _ _ rfl (by conv => lhs; whnf)) ?_; clear K; rintro _ w1 ⟨g, rfl, K⟩; (try dsimp only [Value.cells] at K)) | ((with_reducible refine at_alloc rfl ?_); refine wpList_does rfl (kd_alloc K _ rfl rfl) ?_; clear K; rintro _ w1 ⟨g, rfl, K⟩; (try dsimp only [Value.cells] at K)) | ((with_reducible refine at_buildSlice rfl ?_); refine wpList_does rfl (kd_lits (cs := _) K _ _ _ rfl (by first | rfl | (go_simp; done) | (go_simp; rfl)) (by first | rfl | (go_simp; done) | (go_simp; rfl))) ?_; clear K; rintro _ w1 ⟨g, rfl, K⟩) | ((with_reducible refine at_load rfl ?_); first | (refine wpList_reads (by rfl) (kr_load_cell K _ _ (by rfl) (by rfl) Has.auto (by decide +kernel) (by (try simp only [List.getElem?_toArray, List.getElem?_cons_succ, List.getElem?_cons_zero]); exact rfl)) ?_) | (refine wpList_reads (by rfl) (kr_load_row K _ _ (by rfl) (by rfl) Has.auto (by decide +kernel) (by kernel_rfl)) ?_)) | ((with_reducible refine at_store rfl ?_); (first | (refine wpList_does rfl (kd_store_cell K _ _ _ rfl rfl (by conv => lhs; whnf) Repl.auto rfl rfl (by kernel_rfl) (by kernel_rfl) (by first | (simp only [List.setIfInBounds_toArray, List.set_cons_succ, List.set_cons_zero]; rfl) | rfl)) ?_) | (refine wpList_does rfl (kd_store_row K _ _ _ rfl rfl rfl Repl.auto (by kernel_rfl) (by kernel_rfl) (by kernel_rfl)) ?_)); clear K; intro _ w1 K; (try simp only [Act.put]))))
          refine wp_region_QLK K (by kernel_rfl) (by kernel_rfl) ?_
          clear K
          refine wpQL_A (k := 0) (v := .agg #[.int .i64 (D.size : Nat), .int .i64 (D.count : Nat), .slice A n c, .slice B m d, .bool false, .int .i64 D.offs, .int .i64 D.fuse, .int .u64 D.writes]) ?_ ?_
          · (intro w hS; exact kr_load_row hS _ _ (by rfl) (by rfl) Has.auto (by kernel_rfl) (by kernel_rfl))
          try simp only [Act.put, List.setIfInBounds_toArray, List.set_cons_zero, List.set_cons_succ]
          refine wpQL_A (k := 1) (v := ?_) ?_ ?_
          rotate_left
          · (intro w hS; (clear hS; go_simp); try with_reducible rfl)
          try simp only [Act.put, List.setIfInBounds_toArray, List.set_cons_zero, List.set_cons_succ]
          refine wpQL_endA (k := 2) (fun w1 K K9 hK => ?_)
          (first | (refine st_does (by rfl) (kd_store_cell K _ _ _ (by rfl) (by rfl) (by conv => lhs; whnf) Repl.auto (by rfl) (by rfl) (by kernel_rfl) (by kernel_rfl) (by first | (simp only [List.setIfInBounds_toArray, List.set_cons_succ, List.set_cons_zero]; rfl) | rfl)) ?_) | (refine st_does (by rfl) (kd_store_row K _ _ _ (by rfl) (by rfl) (by rfl) Repl.auto (by kernel_rfl) (by kernel_rfl) (by kernel_rfl)) ?_))
          clear K; intro _ w1 K
          refine hK.out _ _ ?_
          clear hK K9
          try simp only [Act.put, List.setIfInBounds_toArray, List.set_cons_zero, List.set_cons_succ]
          skip
          go_wp2
          rw [HD.out]
          simp only [HO.out]
          exact bodyPost_1cellK K (by rfl) (by rfl) (by rfl) Has.auto (by kernel_rfl) (by kernel_rfl) rfl ⟨_, _, _, rfl, [], R0.cov (Cov.all T), K.cov Cov.auto⟩
  · have HD := Lib.hid (show dwrite D i bs = (8, D) by rw [dwrite, dmay, hoff]; simp)
    have HO := Lib.hid hoff
    clear hoff
    go_enter Try.func15, Try.ntmps15
    go_upto_region 2 with ((first | ((with_reducible refine at_box rfl ?_); refine wpList_does rfl (kd_box K _ _ rfl (by conv => lhs; whnf)) ?_; clear K; rintro _ w1 ⟨gd, rfl, K⟩; (try dsimp only [Value.cells] at K)) | ((with_reducible refine at_slot (N := 7) rfl ?_); (with_reducible refine at_alloc rfl ?_); refine wpList_does rfl (kd_alloc (z := (.agg #[.int .i64 0, .int .i64 0, .slice none 0 0, .slice none 0 0, .bool false, .int .i64 0, .int .i64 0, .int .u64 0])) K _ rfl (by kernel_rfl)) ?_; clear K; rintro _ w1 ⟨gr, rfl, K⟩; (try dsimp only [Value.cells] at K)) | ((with_reducible refine at_eqnil rfl ?_); refine wpList_reads rfl (kr_eqnil rfl rfl (by kernel_rfl)) ?_) | ((with_reducible refine at_box rfl ?_); refine wpList_does rfl (kd_box K _ _ rfl (by conv => lhs; whnf)) ?_; clear K; rintro _ w1 ⟨g, rfl, K⟩; (try dsimp only [Value.cells] at K)) | ((with_reducible refine at_alloc rfl ?_); refine wpList_does rfl (kd_alloc K _ rfl rfl) ?_; clear K; rintro _ w1 ⟨g, rfl, K⟩; (try dsimp only [Value.cells] at K)) | ((with_reducible refine at_buildSlice rfl ?_); refine wpList_does rfl (kd_lits (cs := _) K _ _ _ rfl (by first | rfl | (go_simp; done) | (go_simp; rfl)) (by first | rfl | (go_simp; done) | (go_simp; rfl))) ?_; clear K; rintro _ w1 ⟨g, rfl, K⟩) | ((with_reducible refine at_load rfl ?_); first | (refine wpList_reads (by rfl) (kr_load_cell K _ _ (by rfl) (by rfl) Has.auto (by decide +kernel) (by (try simp only [List.getElem?_toArray, List.getElem?_cons_succ, List.getElem?_cons_zero]); exact rfl)) ?_) | (refine wpList_reads (by rfl) (kr_load_row K _ _ (by rfl) (by rfl) Has.auto (by decide +kernel) (by kernel_rfl)) ?_)) | ((with_reducible refine at_store rfl ?_); (first | (refine wpList_does rfl (kd_store_cell K _ _ _ rfl rfl (by conv => lhs; whnf) Repl.auto rfl rfl (by kernel_rfl) (by kernel_rfl) (by first | (simp only [List.setIfInBounds_toArray, List.set_cons_succ, List.set_cons_zero]; rfl) | rfl)) ?_) | (refine wpList_does rfl (kd_store_row K _ _ _ rfl rfl rfl Repl.auto (by kernel_rfl) (by kernel_rfl) (by kernel_rfl)) ?_)); clear K; intro _ w1 K; (try simp only [Act.put]))))
    refine wp_region_QLK K (by kernel_rfl) (by kernel_rfl) ?_
    clear K
    refine wpQL_A (k := 0) (v := .agg #[.int .i64 (D.size : Nat), .int .i64 (D.count : Nat), .slice A n c, .slice B m d, .bool true, .int .i64 D.offs, .int .i64 D.fuse, .int .u64 D.writes]) ?_ ?_
    · (intro w hS; exact kr_load_row hS _ _ (by rfl) (by rfl) Has.auto (by kernel_rfl) (by kernel_rfl))
    try simp only [Act.put, List.setIfInBounds_toArray, List.set_cons_zero, List.set_cons_succ]
    refine wpQL_A (k := 1) (v := ?_) ?_ ?_
    rotate_left
    · (intro w hS; (clear hS; go_simp); try with_reducible rfl)
    try simp only [Act.put, List.setIfInBounds_toArray, List.set_cons_zero, List.set_cons_succ]
    refine wpQL_endA (k := 2) (fun w1 K K9 hK => ?_)
    (first | (refine st_does (by rfl) (kd_store_cell K _ _ _ (by rfl) (by rfl) (by conv => lhs; whnf) Repl.auto (by rfl) (by rfl) (by kernel_rfl) (by kernel_rfl) (by first | (simp only [List.setIfInBounds_toArray, List.set_cons_succ, List.set_cons_zero]; rfl) | rfl)) ?_) | (refine st_does (by rfl) (kd_store_row K _ _ _ (by rfl) (by rfl) (by rfl) Repl.auto (by kernel_rfl) (by kernel_rfl) (by kernel_rfl)) ?_))
    clear K; intro _ w1 K
    refine hK.out _ _ ?_
    clear hK K9
    try simp only [Act.put, List.setIfInBounds_toArray, List.set_cons_zero, List.set_cons_succ]
    skip
    go_wp2
    rw [HD.out]
    simp only [HO.out]
    exact bodyPost_1cellK K (by rfl) (by rfl) (by rfl) Has.auto (by kernel_rfl) (by kernel_rfl) rfl ⟨_, _, _, rfl, [], R0.cov (Cov.all T), K.cov Cov.auto⟩
end
end Go.Proofs.Ytfdddipmeadecaa

/-
  The document's devices: Sync, Back (contracts).
-/
set_option linter.unusedVariables false
set_option linter.unusedSimpArgs false
namespace Go.Proofs.Ytfdddipmeadecaa
open Go.RowKit
theorem amerge_step {l : AMap} {k : AMap} {j : Nat} (h : j < l.length) : amerge k (l.drop j) = amerge (aput k l[j].1 l[j].2) (l.drop (j + 1)) := by
  rw [List.drop_eq_getElem_cons h]
  rfl
theorem dsync_all {D : Dev} (h : DevOk D) (ho : D.offs < 1000000000000) : DevOk (dsync D).2 := by
  unfold dsync
  split
  · exact h
  · split
    · exact dfall_ok h ho
    · exact dsync_ok h
theorem rdput_torn {w0 w : World} {L : List Ent} {A : Option Addr} {n c : Nat} {m : AMap} (K : Known w0 w L) (R : RdM w0 L fcl 3 A n m) (hc : n ≤ c) (hn : n ≤ 1000000000) (hr : Rising m) (i : Int) : Calls Try.prog 33 #[.slice A n c, .agg #[.int .i64 i, .string ⟨#[]⟩, .bool true]] w fun e w' => ∃ A' n' c', e = .returned (.slice A' n' c') ∧ ∃ X, OwnL 83 3 A' n' c' ((aput m i ⟨[], true⟩).flatMap fcl) X ∧ Known w0 w' (X ++ L) :=
  rdput_any K R hc hn hr i ⟨[], true⟩


section
variable {w0 w : World} {L : List Ent} {D : Dev} {A B : Option Addr} {n c m d : Nat}

set_option maxHeartbeats 3200000 in
set_option maxRecDepth 100000 in
theorem rback_any {P2 : Option Addr} {q cq : Nat} {ps : List Int} {T : List Ent} (K : Known w0 w L) (R0 : RefIs w0 T D A n c B m d) (hT : Cov T L) (ho : D.offs < 1000000000000) (RP : RdS w0 L .u8 P2 q ps) (hq : q ≤ cq) (hq9 : q ≤ 1000000000) :
    Calls Try.prog 17 #[.agg #[.int .i64 (D.size : Nat), .int .i64 (D.count : Nat), .slice A n c, .slice B m d, .bool D.off, .int .i64 D.offs, .int .i64 D.fuse, .int .u64 D.writes], .slice P2 q cq] w fun e w' => ∃ A' n' c' B' m' d', e = .returned (.agg #[.int .i64 (((dback D ps)).size : Nat), .int .i64 (((dback D ps)).count : Nat), .slice A' n' c', .slice B' m' d', .bool ((dback D ps)).off, .int .i64 ((dback D ps)).offs, .int .i64 ((dback D ps)).fuse, .int .u64 ((dback D ps)).writes]) ∧ ∃ X, RefIs w0 (X ++ T) (dback D ps) A' n' c' B' m' d' ∧ Known w0 w' (X ++ L) := by
  have R := R0.cov hT
  have hof : 0 ≤ D.offs ∧ D.offs < 1000000000000 := ⟨R.ok.offs.1, ho⟩
  have hnw := R.nw
  have hnk := R.nk
  have hps := RP.len
  have HOK := Lib.hid (dback_ok R.ok ho ps)
  have HD := Lib.hid (show dback D ps = { D with kept := bkeep D.waits ps D.kept, waits := [], fuse := -1, off := false, offs := fallO D.off D.offs } by rw [dback, dfall_eq])
  go_enter Try.func17, Try.ntmps17
  go_upto_region 3 with ((first | ((with_reducible refine at_box rfl ?_); refine wpList_does rfl (kd_box K _ _ rfl (by conv => lhs; whnf)) ?_; clear K; rintro _ w1 ⟨gd, rfl, K⟩; (try dsimp only [Value.cells] at K)) | ((with_reducible refine at_slot (N := 4) rfl ?_); (with_reducible refine at_alloc rfl ?_); refine wpList_does rfl (kd_alloc (z := (.agg #[.int .i64 0, .int .i64 0, .slice none 0 0, .slice none 0 0, .bool false, .int .i64 0, .int .i64 0, .int .u64 0])) K _ rfl (by kernel_rfl)) ?_; clear K; rintro _ w1 ⟨gr, rfl, K⟩; (try dsimp only [Value.cells] at K)) | (go_at_call 34; (with_reducible refine (rfall_any K _ _ _ _ _ _ hof).mono ?_); clear K; rintro e w1 ⟨rfl, K⟩) | ((with_reducible refine at_eqnil rfl ?_); refine wpList_reads rfl (kr_eqnil rfl rfl (by kernel_rfl)) ?_) | ((with_reducible refine at_box rfl ?_); refine wpList_does rfl (kd_box K _ _ rfl (by conv => lhs; whnf)) ?_; clear K; rintro _ w1 ⟨g, rfl, K⟩; (try dsimp only [Value.cells] at K)) | ((with_reducible refine at_alloc rfl ?_); refine wpList_does rfl (kd_alloc K _ rfl rfl) ?_; clear K; rintro _ w1 ⟨g, rfl, K⟩; (try dsimp only [Value.cells] at K)) | ((with_reducible refine at_buildSlice rfl ?_); refine wpList_does rfl (kd_lits (cs := _) K _ _ _ rfl (by first | rfl | (go_simp; done) | (go_simp; rfl)) (by first | rfl | (go_simp; done) | (go_simp; rfl))) ?_; clear K; rintro _ w1 ⟨g, rfl, K⟩) | ((with_reducible refine at_load rfl ?_); first | (refine wpList_reads (by rfl) (kr_load_cell K _ _ (by rfl) (by rfl) Has.auto (by decide +kernel) (by (try simp only [List.getElem?_toArray, List.getElem?_cons_succ, List.getElem?_cons_zero]); exact rfl)) ?_) | (refine wpList_reads (by rfl) (kr_load_row K _ _ (by rfl) (by rfl) Has.auto (by decide +kernel) (by kernel_rfl)) ?_)) | ((with_reducible refine at_store rfl ?_); (first | (refine wpList_does rfl (kd_store_cell K _ _ _ rfl rfl (by conv => lhs; whnf) Repl.auto rfl rfl (by kernel_rfl) (by kernel_rfl) (by first | (simp only [List.setIfInBounds_toArray, List.set_cons_succ, List.set_cons_zero]; rfl) | rfl)) ?_) | (refine wpList_does rfl (kd_store_row K _ _ _ rfl rfl rfl Repl.auto (by kernel_rfl) (by kernel_rfl) (by kernel_rfl)) ?_)); clear K; intro _ w1 K; (try simp only [Act.put]))))
  go_loopg [12] m (fun qq v wr => ∃ (j : Nat) (Ak : Option Addr) (nk ck : Nat) (m1 : AMap) (Xk : List Ent), v = .int .i64 j ∧ j + qq = m ∧ RdM w0 (Xk ++ T) fcl 3 Ak nk m1 ∧ nk ≤ ck ∧ nk ≤ 1048576 + j ∧ Rising m1 ∧ Hid (bkeep D.waits ps D.kept = bkeep (D.waits.drop j) (ps.drop j) m1) ∧ Known w0 wr (Xk ++ (row gr #[.int .i64 0, .int .i64 0, .slice none 0 0, .slice none 0 0, .bool false, .int .i64 0, .int .i64 0, .int .u64 0] 49 :: row gd #[.int .i64 (D.size : Nat), .int .i64 (D.count : Nat), .slice Ak nk ck, .slice B m d, .bool true, .int .i64 (fallO D.off D.offs), .int .i64 D.fuse, .int .u64 D.writes] 49 :: L)))
  case atStart => exact ⟨0, A, n, c, D.kept, [], by go_num, by omega, R0.k, R.kc, by omega, R.ok.rk, Lib.hid rfl, K.cov Cov.auto⟩
  case round =>
    clear K
    obtain ⟨j, Ak, nk, ck, m1, Xk, rfl, hd, RK, hkc, hnk1, hr1, HE, K⟩ := hrel
    by_cases hj : j < m
    · have hj2 : decide ((j : Int) < (m : Int)) = true := decide_eq_true (by omega)
      have hjj : (0 : Int) ≤ (j : Int) ∧ (j : Int) < (m : Int) := by omega
      have i1 := IntWalk.i64_in ((j : Int) + 1) (by omega)
      obtain ⟨bw, ow, rfl⟩ := R.w.form (K.cov Cov.auto) (by omega)
      have hml : D.waits.length = m := R.w.len
      obtain ⟨p, hp⟩ : ∃ p, p = D.waits[j]'(by omega) := ⟨_, rfl⟩
      obtain ⟨v, hv⟩ : ∃ v, v = ps.getD j 0 := ⟨_, rfl⟩
      have HP := Lib.hid (show encAt fcl D.waits j = [.int .i64 p.1, .string (strOfNums p.2.b), .bool p.2.torn] by rw [encAt_get (by omega), ← hp]; rfl)
      have HA := Lib.hid (show bkeep (D.waits.drop j) (ps.drop j) m1 = bkeep (D.waits.drop (j + 1)) (ps.drop (j + 1)) (if v = 1 then aput m1 p.1 p.2 else if v = 2 then aput m1 p.1 ⟨[], true⟩ else m1) by rw [bkeep_step (by omega), ← hv, ← hp])
      have HPV := Lib.hid hv.symm
      clear hp hml
      have RWj := R.w
      have RKL := RK.cov (Cov.app (Sel.ap Xk L) hT)
      by_cases hjq : j < q
      · clear hv
        have hq2 : decide ((j : Int) < (q : Int)) = true := decide_eq_true (by omega)
        obtain ⟨bp, op, rfl⟩ := RP.form (K.cov Cov.auto) (by omega)
        by_cases hv1 : v = 1
        · have e1 : (v == 1) = true := by simpa using hv1
          go_upto_region 9 with ((first | ((with_reducible refine at_load rfl ?_); first | (refine wpList_reads (by rfl) (kr_load_cell K _ _ (by rfl) (by rfl) Has.auto (by decide +kernel) (by (try simp only [List.getElem?_toArray, List.getElem?_cons_succ, List.getElem?_cons_zero]); exact rfl)) ?_) | (refine wpList_reads (by rfl) (kr_load_row K _ _ (by rfl) (by rfl) Has.auto (by decide +kernel) (by kernel_rfl)) ?_) | (refine wpList_reads (by rfl) (kr_load_fact _ _ (by rfl) (by rfl) (RP.cell (K.cov Cov.auto) (by omega) HPV.out rfl) (by decide +kernel)) ?_))))
          refine wp_region_GK K (Cov.all _) (by kernel_rfl) (by kernel_rfl) (by kernel_rfl) (fun K hHeld => ?_)
          refine wpG_takeA 0 (v := ?_) ?_ hHeld ?_
          rotate_left
          · (intro w hS; (clear hS; go_simp); try with_reducible rfl)
          try simp only [Act.put, List.setIfInBounds_toArray, List.set_cons_zero, List.set_cons_succ]
          refine wpG_takeA 1 (v := .slice Ak nk ck) ?_ hHeld ?_
          · (intro w hS; first | exact kr_load_cell hS _ _ (by rfl) (by rfl) Has.auto (by kernel_rfl) (by rfl))
          try simp only [Act.put, List.setIfInBounds_toArray, List.set_cons_zero, List.set_cons_succ]
          refine wpG_takeA 2 (v := ?_) ?_ hHeld ?_
          rotate_left
          · (intro w hS; (clear hS; go_simp); try with_reducible rfl)
          try simp only [Act.put, List.setIfInBounds_toArray, List.set_cons_zero, List.set_cons_succ]
          refine wpG_takeA 3 (v := .slice (some ⟨bw, ow, none⟩) m d) ?_ hHeld ?_
          · (intro w hS; first | exact kr_load_cell hS _ _ (by rfl) (by rfl) Has.auto (by kernel_rfl) (by rfl))
          try simp only [Act.put, List.setIfInBounds_toArray, List.set_cons_zero, List.set_cons_succ]
          refine wpG_takeA 4 (v := ?_) ?_ hHeld ?_
          rotate_left
          · (intro w hS; (clear hS; go_simp); try with_reducible rfl)
          try simp only [Act.put, List.setIfInBounds_toArray, List.set_cons_zero, List.set_cons_succ]
          refine wpG_takeA 5 (v := ?_) ?_ hHeld ?_
          rotate_left
          · (intro w hS; (clear hS; go_simp); try with_reducible rfl)
          try simp only [Act.put, List.setIfInBounds_toArray, List.set_cons_zero, List.set_cons_succ]
          refine wpG_takeA 6 (v := .agg #[.int .i64 p.1, .string (strOfNums p.2.b), .bool p.2.torn]) ?_ hHeld ?_
          · (intro w hS; first | exact kr_load_rec hS _ _ (by rfl) (j) [.int .i64 p.1, .string (strOfNums p.2.b), .bool p.2.torn] (by rfl) (RWj.cov Cov.auto) (by omega) HP.out (by omega) (by kernel_rfl) (by kernel_rfl) (by rfl))
          try simp only [Act.put, List.setIfInBounds_toArray, List.set_cons_zero, List.set_cons_succ]
          refine wpG_oneA 7 (fun K9 hK => ?_)
          go_simp
          (go_at_call 33; (with_reducible refine (rdput_any (K.cov (Cov.all _)) (RKL.cov Cov.auto) hkc (by omega) hr1 _ p.2).mono ?_); clear K; rintro e w1 ⟨A2, n2, c2, rfl, X2, O2, K⟩)
          refine hK.out _ _ (K.cov Cov.auto) (fun hHeld => ?_)
          clear hK K9
          try simp only [Act.put, List.setIfInBounds_toArray, List.set_cons_zero, List.set_cons_succ]
          refine wpG_takeA 8 (v := ?_) ?_ hHeld ?_
          rotate_left
          · (intro w hS; (clear hS; go_simp); try with_reducible rfl)
          try simp only [Act.put, List.setIfInBounds_toArray, List.set_cons_zero, List.set_cons_succ]
          refine wpG_lastA 9 (fun K9 hK => ?_)
          (first | (refine st_does (by rfl) (kd_store_cell K _ _ _ (by rfl) (by rfl) (by conv => lhs; whnf) Repl.auto (by rfl) (by rfl) (by kernel_rfl) (by kernel_rfl) (by first | (simp only [List.setIfInBounds_toArray, List.set_cons_succ, List.set_cons_zero]; rfl) | rfl)) ?_) | (refine st_does (by rfl) (kd_store_row K _ _ _ (by rfl) (by rfl) (by rfl) Repl.auto (by kernel_rfl) (by kernel_rfl) (by kernel_rfl)) ?_))
          clear K; intro _ w1 K
          refine hK.out _ _ ?_
          clear hK K9
          try simp only [Act.put, List.setIfInBounds_toArray, List.set_cons_zero, List.set_cons_succ]
          skip
          have hl2 := O2.len
          rw [flatMap_len fcl_len] at hl2
          have hl3 := aput_len_le p.1 p.2 m1
          have hl4 := RK.len
          have RK2 := RdM.own (w0 := w0) (L := X2 ++ T) O2 (Seg.ap X2 T) fcl_len (by omega)
          have K2 : Known w0 w1 (X2 ++ (row gr #[.int .i64 0, .int .i64 0, .slice none 0 0, .slice none 0 0, .bool false, .int .i64 0, .int .i64 0, .int .u64 0] 49 :: row gd #[.int .i64 (D.size : Nat), .int .i64 (D.count : Nat), .slice A2 n2 c2, .slice (some ⟨bw, ow, none⟩) m d, .bool true, .int .i64 (fallO D.off D.offs), .int .i64 D.fuse, .int .u64 D.writes] 49 :: L)) := K.cov Cov.auto
          clear K
          have K := K2
          clear K2
          go_wp2
          go_roundg (gk - 1)
          case measure => omega
          case rel => exact ⟨j + 1, A2, n2, c2, _, X2, by go_num, by omega, RK2, O2.le, by omega, rising_put hr1, Lib.hid (by rw [HE.out, HA.out, if_pos hv1]), K⟩
        · have e1 : (v == 1) = false := by simpa using hv1
          by_cases hv2 : v = 2
          · have e2 : (v == 2) = true := by simpa using hv2
            go_upto_region 11 with ((first | ((with_reducible refine at_load rfl ?_); first | (refine wpList_reads (by rfl) (kr_load_cell K _ _ (by rfl) (by rfl) Has.auto (by decide +kernel) (by (try simp only [List.getElem?_toArray, List.getElem?_cons_succ, List.getElem?_cons_zero]); exact rfl)) ?_) | (refine wpList_reads (by rfl) (kr_load_row K _ _ (by rfl) (by rfl) Has.auto (by decide +kernel) (by kernel_rfl)) ?_) | (refine wpList_reads (by rfl) (kr_load_fact _ _ (by rfl) (by rfl) (RP.cell (K.cov Cov.auto) (by omega) HPV.out rfl) (by decide +kernel)) ?_))))
            refine wp_region_GK K (Cov.all _) (by kernel_rfl) (by kernel_rfl) (by kernel_rfl) (fun K hHeld => ?_)
            refine wpG_takeA 0 (v := ?_) ?_ hHeld ?_
            rotate_left
            · (intro w hS; (clear hS; go_simp); try with_reducible rfl)
            try simp only [Act.put, List.setIfInBounds_toArray, List.set_cons_zero, List.set_cons_succ]
            refine wpG_takeA 1 (v := .slice Ak nk ck) ?_ hHeld ?_
            · (intro w hS; first | exact kr_load_cell hS _ _ (by rfl) (by rfl) Has.auto (by kernel_rfl) (by rfl))
            try simp only [Act.put, List.setIfInBounds_toArray, List.set_cons_zero, List.set_cons_succ]
            refine wpG_takeA 2 (v := ?_) ?_ hHeld ?_
            rotate_left
            · (intro w hS; (clear hS; go_simp); try with_reducible rfl)
            try simp only [Act.put, List.setIfInBounds_toArray, List.set_cons_zero, List.set_cons_succ]
            refine wpG_takeA 3 (v := .slice (some ⟨bw, ow, none⟩) m d) ?_ hHeld ?_
            · (intro w hS; first | exact kr_load_cell hS _ _ (by rfl) (by rfl) Has.auto (by kernel_rfl) (by rfl))
            try simp only [Act.put, List.setIfInBounds_toArray, List.set_cons_zero, List.set_cons_succ]
            refine wpG_takeA 4 (v := ?_) ?_ hHeld ?_
            rotate_left
            · (intro w hS; (clear hS; go_simp); try with_reducible rfl)
            try simp only [Act.put, List.setIfInBounds_toArray, List.set_cons_zero, List.set_cons_succ]
            refine wpG_takeA 5 (v := ?_) ?_ hHeld ?_
            rotate_left
            · (intro w hS; (clear hS; go_simp); try with_reducible rfl)
            try simp only [Act.put, List.setIfInBounds_toArray, List.set_cons_zero, List.set_cons_succ]
            refine wpG_takeA 6 (v := ?_) ?_ hHeld ?_
            rotate_left
            · (intro w hS; (clear hS; go_simp); try with_reducible rfl)
            try simp only [Act.put, List.setIfInBounds_toArray, List.set_cons_zero, List.set_cons_succ]
            refine wpG_takeA 7 (v := .int .i64 p.1) ?_ hHeld ?_
            · (intro w hS; first | exact kr_load_rcell hS _ _ (by rfl) (j) 0 (by rfl) (RWj.cov Cov.auto) (by omega) HP.out (by rfl) (by omega) (by kernel_rfl))
            try simp only [Act.put, List.setIfInBounds_toArray, List.set_cons_zero, List.set_cons_succ]
            refine wpG_takeA 8 (v := ?_) ?_ hHeld ?_
            rotate_left
            · (intro w hS; (clear hS; go_simp); try with_reducible rfl)
            try simp only [Act.put, List.setIfInBounds_toArray, List.set_cons_zero, List.set_cons_succ]
            refine wpG_oneA 9 (fun K9 hK => ?_)
            go_simp
            (go_at_call 33; (with_reducible refine (rdput_torn (K.cov (Cov.all _)) (RKL.cov Cov.auto) hkc (by omega) hr1 _ ).mono ?_); clear K; rintro e w1 ⟨A2, n2, c2, rfl, X2, O2, K⟩)
            refine hK.out _ _ (K.cov Cov.auto) (fun hHeld => ?_)
            clear hK K9
            try simp only [Act.put, List.setIfInBounds_toArray, List.set_cons_zero, List.set_cons_succ]
            refine wpG_takeA 10 (v := ?_) ?_ hHeld ?_
            rotate_left
            · (intro w hS; (clear hS; go_simp); try with_reducible rfl)
            try simp only [Act.put, List.setIfInBounds_toArray, List.set_cons_zero, List.set_cons_succ]
            refine wpG_lastA 11 (fun K9 hK => ?_)
            (first | (refine st_does (by rfl) (kd_store_cell K _ _ _ (by rfl) (by rfl) (by conv => lhs; whnf) Repl.auto (by rfl) (by rfl) (by kernel_rfl) (by kernel_rfl) (by first | (simp only [List.setIfInBounds_toArray, List.set_cons_succ, List.set_cons_zero]; rfl) | rfl)) ?_) | (refine st_does (by rfl) (kd_store_row K _ _ _ (by rfl) (by rfl) (by rfl) Repl.auto (by kernel_rfl) (by kernel_rfl) (by kernel_rfl)) ?_))
            clear K; intro _ w1 K
            refine hK.out _ _ ?_
            clear hK K9
            try simp only [Act.put, List.setIfInBounds_toArray, List.set_cons_zero, List.set_cons_succ]
            skip
            have hl2 := O2.len
            rw [flatMap_len fcl_len] at hl2
            have hl3 := aput_len_le p.1 ⟨[], true⟩ m1
            have hl4 := RK.len
            have RK2 := RdM.own (w0 := w0) (L := X2 ++ T) O2 (Seg.ap X2 T) fcl_len (by omega)
            have K2 : Known w0 w1 (X2 ++ (row gr #[.int .i64 0, .int .i64 0, .slice none 0 0, .slice none 0 0, .bool false, .int .i64 0, .int .i64 0, .int .u64 0] 49 :: row gd #[.int .i64 (D.size : Nat), .int .i64 (D.count : Nat), .slice A2 n2 c2, .slice (some ⟨bw, ow, none⟩) m d, .bool true, .int .i64 (fallO D.off D.offs), .int .i64 D.fuse, .int .u64 D.writes] 49 :: L)) := K.cov Cov.auto
            clear K
            have K := K2
            clear K2
            go_wp2
            go_roundg (gk - 1)
            case measure => omega
            case rel => exact ⟨j + 1, A2, n2, c2, _, X2, by go_num, by omega, RK2, O2.le, by omega, rising_put hr1, Lib.hid (by rw [HE.out, HA.out, if_neg hv1, if_pos hv2]), K⟩
          · have e2 : (v == 2) = false := by simpa using hv2
            go_wp2_with (first | ((with_reducible refine at_load rfl ?_); first | (refine wpList_reads (by rfl) (kr_load_cell K _ _ (by rfl) (by rfl) Has.auto (by decide +kernel) (by (try simp only [List.getElem?_toArray, List.getElem?_cons_succ, List.getElem?_cons_zero]); exact rfl)) ?_) | (refine wpList_reads (by rfl) (kr_load_row K _ _ (by rfl) (by rfl) Has.auto (by decide +kernel) (by kernel_rfl)) ?_) | (refine wpList_reads (by rfl) (kr_load_fact _ _ (by rfl) (by rfl) (RP.cell (K.cov Cov.auto) (by omega) HPV.out rfl) (by decide +kernel)) ?_)))
            go_roundg (gk - 1)
            case measure => omega
            case rel => exact ⟨j + 1, Ak, nk, ck, m1, Xk, by go_num, by omega, RK, hkc, by omega, hr1, Lib.hid (by rw [HE.out, HA.out, if_neg hv1, if_neg hv2]), K⟩
      · have hq2 : decide ((j : Int) < (q : Int)) = false := decide_eq_false (by omega)
        have hv0 : v = 0 := by rw [hv, List.getD, List.getElem?_eq_none (by omega)]; rfl
        clear hv
        subst hv0
        go_wp2_with (first | ((with_reducible refine at_load rfl ?_); first | (refine wpList_reads (by rfl) (kr_load_cell K _ _ (by rfl) (by rfl) Has.auto (by decide +kernel) (by (try simp only [List.getElem?_toArray, List.getElem?_cons_succ, List.getElem?_cons_zero]); exact rfl)) ?_) | (refine wpList_reads (by rfl) (kr_load_row K _ _ (by rfl) (by rfl) Has.auto (by decide +kernel) (by kernel_rfl)) ?_) | (refine wpList_reads (by rfl) (kr_load_fact _ _ (by rfl) (by rfl) (RP.cell (K.cov Cov.auto) (by omega) HPV.out rfl) (by decide +kernel)) ?_)))
        go_roundg (gk - 1)
        case measure => omega
        case rel => exact ⟨j + 1, Ak, nk, ck, m1, Xk, by go_num, by omega, RK, hkc, by omega, hr1, Lib.hid (by rw [HE.out, HA.out, if_neg (by decide), if_neg (by decide)]), K⟩
    · have hj2 : decide ((j : Int) < (m : Int)) = false := decide_eq_false (by omega)
      have HM := Lib.hid (show m1 = bkeep D.waits ps D.kept by rw [HE.out, List.drop_eq_nil_of_le (by have := R.w.len; omega)]; rfl)
      have HOK2 := HOK.out
      go_wp2_with (first | ((with_reducible refine at_buildSlice (n := 0) rfl ?_); refine wpList_does rfl (kd_lit0 K _ 83 3 rfl Try.underlying47 (by kernel_rfl)) ?_; clear K; rintro _ w1 ⟨gz, rfl, K⟩; have O : OwnL 83 1 (some ⟨gz, 0, none⟩) 0 0 (([] : List Int).map (Value.int .u8)) [row gz #[] 83] := OwnL.lit0 _ _) | ((with_reducible refine at_eqnil rfl ?_); refine wpList_reads rfl (kr_eqnil rfl rfl (by kernel_rfl)) ?_) | ((with_reducible refine at_box rfl ?_); refine wpList_does rfl (kd_box K _ _ rfl (by conv => lhs; whnf)) ?_; clear K; rintro _ w1 ⟨g, rfl, K⟩; (try dsimp only [Value.cells] at K)) | ((with_reducible refine at_alloc rfl ?_); refine wpList_does rfl (kd_alloc K _ rfl rfl) ?_; clear K; rintro _ w1 ⟨g, rfl, K⟩; (try dsimp only [Value.cells] at K)) | ((with_reducible refine at_buildSlice rfl ?_); refine wpList_does rfl (kd_lits (cs := _) K _ _ _ rfl (by first | rfl | (go_simp; done) | (go_simp; rfl)) (by first | rfl | (go_simp; done) | (go_simp; rfl))) ?_; clear K; rintro _ w1 ⟨g, rfl, K⟩) | ((with_reducible refine at_load rfl ?_); first | (refine wpList_reads (by rfl) (kr_load_cell K _ _ (by rfl) (by rfl) Has.auto (by decide +kernel) (by (try simp only [List.getElem?_toArray, List.getElem?_cons_succ, List.getElem?_cons_zero]); exact rfl)) ?_) | (refine wpList_reads (by rfl) (kr_load_row K _ _ (by rfl) (by rfl) Has.auto (by decide +kernel) (by kernel_rfl)) ?_)) | ((with_reducible refine at_store rfl ?_); (first | (refine wpList_does rfl (kd_store_cell K _ _ _ rfl rfl (by conv => lhs; whnf) Repl.auto rfl rfl (by kernel_rfl) (by kernel_rfl) (by first | (simp only [List.setIfInBounds_toArray, List.set_cons_succ, List.set_cons_zero]; rfl) | rfl)) ?_) | (refine wpList_does rfl (kd_store_row K _ _ _ rfl rfl rfl Repl.auto (by kernel_rfl) (by kernel_rfl) (by kernel_rfl)) ?_)); clear K; intro _ w1 K; (try simp only [Act.put])))
      rw [HD.out] at HOK2 ⊢
      exact bodyPost_cellK K (by rfl) (by rfl) Has.auto (by kernel_rfl) (by kernel_rfl) rfl  ⟨Ak, nk, ck, _, _, _, rfl, Xk, ⟨by rw [← HM.out]; exact RK, RdM.nil _ _ _ _ _, hkc, Nat.le_refl _, HOK2⟩, K.cov Cov.auto⟩
end
end Go.Proofs.Ytfdddipmeadecaa
