/-
  graph: Reads (contract).
-/
import Derived.Test.YtffednkdmkohdaaGrA
import Derived.Test.YtffednkdmkohdaaKeyG
import Derived.Test.YtffednkdmkohdaaMapP
set_option linter.unusedVariables false
set_option linter.unusedSimpArgs false
namespace Go.Proofs.Ytffednkdmkohdaa
open Go.RowKit
def greads (l : List Ast) (block many : Int) : List Int × Int := if gmayB block many then if l.all rightB then (gset l block many.toNat, 0) else ([], 3) else ([], 1)
theorem at_makeMap {P : Program} {ops : Array Oper} {rest : List Oper} {o : Oper} {a : Act} {Q : Exit → Act → World → Prop} {W : World} {t : TypeId} {x : Option Operand} (_h : o.op = .makeMap t x) (k : wpList P ops Q (o :: rest) a W) : wpList P ops Q (o :: rest) a W := k
theorem at_mapUpdate1 {P : Program} {ops : Array Oper} {rest : List Oper} {o : Oper} {a : Act} {Q : Exit → Act → World → Prop} {W : World} {t : TypeId} {x y z : Operand} (_h : o.op = .mapUpdate t x y z) (k : wpList P ops Q (o :: rest) a W) : wpList P ops Q (o :: rest) a W := k
theorem touches_take {l : List Ast} {j : Nat} (h : j < l.length) (block i : Int) : touches block (l.take (j + 1)) i = (touches block (l.take j) i || touch block i l[j]) := by
  unfold touches
  rw [List.take_succ_eq_append_getElem h, List.any_append]
  simp
theorem all_take {l : List Ast} {j : Nat} (h : j < l.length) : (l.take (j + 1)).all rightB = ((l.take j).all rightB && rightB l[j]) := by
  rw [List.take_succ_eq_append_getElem h, List.all_append]
  simp
theorem all_bad {l : List Ast} {j : Nat} (h : j < l.length) (hr : rightB l[j] = false) : l.all rightB = false := by
  rw [List.all_eq_false]
  exact ⟨l[j], List.getElem_mem h, by rw [hr]; simp⟩

section
variable {w0 w : World} {L : List Ent} {A : Option Addr} {n c : Nat} {l : List Ast}
set_option maxHeartbeats 3200000 in
set_option maxRecDepth 100000 in
theorem greads_any (K : Known w0 w L) (R : RdM w0 L asC 4 A n l) (hc : n ≤ c) (hn : n ≤ 100000) (hs : ∀ s ∈ l, AsOk w0 s) (block many : Int) : Calls Try.prog 16 #[.slice A n c, .int .i64 block, .int .i64 many] w fun e w' => ∃ A' n' c', e = .returned (.tuple #[.slice A' n' c', .int .i64 (greads l block many).2]) ∧ Hid (n' = (greads l block many).1.length) ∧ ∃ X, OwnL 3 1 A' n' c' ((greads l block many).1.map (Value.int .i64)) X ∧ Known w0 w' (X ++ L) := by
  have hl := R.len
  cases hmb : gmayB block many
  · have HMB := Lib.hid hmb
    have HG := Lib.hid (show greads l block many = ([], 1) by rw [greads, hmb]; rfl)
    clear hmb
    go_enter Try.func16, Try.ntmps16
    go_wp2_with (first | (go_at_call 45; (with_reducible refine (gmay_any _ _ _).mono ?_); rintro e w' ⟨rfl, rfl⟩; rw [HMB.out]))
    go_ret2
    exact ⟨_, _, _, by rw [HG.out]; rfl, Lib.hid (by rw [HG.out]; rfl), [], by rw [HG.out]; exact OwnL.nil _ _, K⟩
  · have HMB := Lib.hid hmb
    have hm1 := gmayB_iff.1 hmb
    obtain ⟨mN, rfl⟩ : ∃ mN : Nat, many = mN := ⟨many.toNat, by omega⟩
    clear hmb
    go_enter Try.func16, Try.ntmps16
    go_upto_region 5 with ((first | (go_at_call 45; (with_reducible refine (gmay_any _ _ _).mono ?_); rintro e w' ⟨rfl, rfl⟩; rw [HMB.out]) | ((with_reducible refine at_makeMap rfl ?_); refine wpList_does rfl (kd_makeMap K rfl) ?_; clear K; rintro _ w1 ⟨gm, rfl, K⟩)))
    go_loopg [19] n (fun d v wr => ∃ (j : Nat) (lm : List ME) (cm : Nat), v = .int .i64 j ∧ j + d = n ∧ Hid ((l.take j).all rightB = true) ∧ SetIs lm cm (fun i => (decide (0 ≤ i) && decide (i < mN)) && touches block (l.take j) i) ∧ Known w0 wr (mrow gm lm cm :: L))
    case atStart => exact ⟨0, [], 0, by go_num, by omega, Lib.hid rfl, (SetIs.nil 0).eq (fun i => by simp [touches]), K⟩
    case round =>
      clear K
      obtain ⟨j, lm, cm, rfl, hd, HA, HS, K⟩ := hrel
      by_cases hj : j < n
      · have hj2 : decide ((j : Int) < (n : Int)) = true := decide_eq_true (by omega)
        have hjj : (0 : Int) ≤ (j : Int) ∧ (j : Int) < (n : Int) := by omega
        have i1 := IntWalk.i64_in ((j : Int) + 1) (by omega)
        obtain ⟨b, off, rfl⟩ := R.form (K.cov Cov.auto) (by omega)
        obtain ⟨p, hp⟩ : ∃ p, p = l[j]'(by omega) := ⟨_, rfl⟩
        have HP := Lib.hid (show encAt asC l j = [.int .u8 p.kind, .int .i64 p.from_, .int .i64 p.len, .slice p.A p.n p.c] by rw [encAt_get (by omega), ← hp]; rfl)
        have HT := Lib.hid (fun i => show touches block (l.take (j + 1)) i = (touches block (l.take j) i || touch block i p) by rw [touches_take (by omega), hp])
        have HAT := Lib.hid (show (l.take (j + 1)).all rightB = ((l.take j).all rightB && rightB p) by rw [all_take (by omega), hp])
        have HBD := Lib.hid (show rightB p = false → l.all rightB = false from fun h => all_bad (j := j) (by omega) (by rw [← hp]; exact h))
        clear hp hl
        cases hrb : rightB p
        · have HRB := Lib.hid hrb
          have HG := Lib.hid (show greads l block mN = ([], 3) by rw [greads, HMB.out, HBD.out hrb]; rfl)
          clear hrb
          go_wp2_with (first | ((with_reducible refine at_load rfl ?_); refine wpList_reads (by rfl) (kr_load_rec K _ _ (by rfl) (j) [.int .u8 p.kind, .int .i64 p.from_, .int .i64 p.len, .slice p.A p.n p.c] (by rfl) (R.cov Cov.auto) (by omega) HP.out (by omega) (by kernel_rfl) (by kernel_rfl) (by rfl)) ?_) | (go_at_call 46; (with_reducible refine (pright_any (s := p) K).mono ?_); clear K; rintro e w1 ⟨rfl, K⟩; rw [HRB.out]) | ((with_reducible refine at_slot (N := 10) rfl ?_); (with_reducible refine at_alloc rfl ?_); refine wpList_does rfl (kd_alloc (z := (.agg #[.int .u8 0, .int .i64 0, .int .i64 0, .slice none 0 0])) K _ rfl (by kernel_rfl)) ?_; clear K; rintro _ w1 ⟨go, rfl, K⟩; (try dsimp only [Value.cells] at K)) | ((with_reducible refine at_eqnil rfl ?_); refine wpList_reads rfl (kr_eqnil rfl rfl (by kernel_rfl)) ?_) | ((with_reducible refine at_box rfl ?_); refine wpList_does rfl (kd_box K _ _ rfl (by conv => lhs; whnf)) ?_; clear K; rintro _ w1 ⟨g, rfl, K⟩; (try dsimp only [Value.cells] at K)) | ((with_reducible refine at_alloc rfl ?_); refine wpList_does rfl (kd_alloc K _ rfl rfl) ?_; clear K; rintro _ w1 ⟨g, rfl, K⟩; (try dsimp only [Value.cells] at K)) | ((with_reducible refine at_buildSlice rfl ?_); refine wpList_does rfl (kd_lits (cs := _) K _ _ _ rfl (by first | rfl | (go_simp; done) | (go_simp; rfl)) (by first | rfl | (go_simp; done) | (go_simp; rfl))) ?_; clear K; rintro _ w1 ⟨g, rfl, K⟩) | ((with_reducible refine at_load rfl ?_); first | (refine wpList_reads (by rfl) (kr_load_cell K _ _ (by rfl) (by rfl) Has.auto (by decide +kernel) (by (try simp only [List.getElem?_toArray, List.getElem?_cons_succ, List.getElem?_cons_zero]); exact rfl)) ?_) | (refine wpList_reads (by rfl) (kr_load_row K _ _ (by rfl) (by rfl) Has.auto (by decide +kernel) (by kernel_rfl)) ?_)) | ((with_reducible refine at_store rfl ?_); (first | (refine wpList_does rfl (kd_store_cell K _ _ _ rfl rfl (by conv => lhs; whnf) Repl.auto rfl rfl (by kernel_rfl) (by kernel_rfl) (by first | (simp only [List.setIfInBounds_toArray, List.set_cons_succ, List.set_cons_zero]; rfl) | rfl)) ?_) | (refine wpList_does rfl (kd_store_row K _ _ _ rfl rfl rfl Repl.auto (by kernel_rfl) (by kernel_rfl) (by kernel_rfl)) ?_)); clear K; intro _ w1 K; (try simp only [Act.put])))
          go_ret2
          exact ⟨_, _, _, by rw [HG.out]; rfl, Lib.hid (by rw [HG.out]; rfl), [], by rw [HG.out]; exact OwnL.nil _ _, K.cov Cov.auto⟩
        · have HRB := Lib.hid hrb
          have hry := rightB_yes hrb
          clear hrb
          by_cases hk : p.kind = 1
          · have e1 : (p.kind == 1) = true := by simpa using hk
            have HT1 := Lib.hid (fun i => show touch block i p = false by rw [touch, decide_eq_false (by simpa using hk)]; rfl)
            clear hk
            go_wp2_with (first | ((with_reducible refine at_load rfl ?_); refine wpList_reads (by rfl) (kr_load_rec K _ _ (by rfl) (j) [.int .u8 p.kind, .int .i64 p.from_, .int .i64 p.len, .slice p.A p.n p.c] (by rfl) (R.cov Cov.auto) (by omega) HP.out (by omega) (by kernel_rfl) (by kernel_rfl) (by rfl)) ?_) | (go_at_call 46; (with_reducible refine (pright_any (s := p) K).mono ?_); clear K; rintro e w1 ⟨rfl, K⟩; rw [HRB.out]) | ((with_reducible refine at_slot (N := 10) rfl ?_); (with_reducible refine at_alloc rfl ?_); refine wpList_does rfl (kd_alloc (z := (.agg #[.int .u8 0, .int .i64 0, .int .i64 0, .slice none 0 0])) K _ rfl (by kernel_rfl)) ?_; clear K; rintro _ w1 ⟨go, rfl, K⟩; (try dsimp only [Value.cells] at K)) | ((with_reducible refine at_eqnil rfl ?_); refine wpList_reads rfl (kr_eqnil rfl rfl (by kernel_rfl)) ?_) | ((with_reducible refine at_box rfl ?_); refine wpList_does rfl (kd_box K _ _ rfl (by conv => lhs; whnf)) ?_; clear K; rintro _ w1 ⟨g, rfl, K⟩; (try dsimp only [Value.cells] at K)) | ((with_reducible refine at_alloc rfl ?_); refine wpList_does rfl (kd_alloc K _ rfl rfl) ?_; clear K; rintro _ w1 ⟨g, rfl, K⟩; (try dsimp only [Value.cells] at K)) | ((with_reducible refine at_buildSlice rfl ?_); refine wpList_does rfl (kd_lits (cs := _) K _ _ _ rfl (by first | rfl | (go_simp; done) | (go_simp; rfl)) (by first | rfl | (go_simp; done) | (go_simp; rfl))) ?_; clear K; rintro _ w1 ⟨g, rfl, K⟩) | ((with_reducible refine at_load rfl ?_); first | (refine wpList_reads (by rfl) (kr_load_cell K _ _ (by rfl) (by rfl) Has.auto (by decide +kernel) (by (try simp only [List.getElem?_toArray, List.getElem?_cons_succ, List.getElem?_cons_zero]); exact rfl)) ?_) | (refine wpList_reads (by rfl) (kr_load_row K _ _ (by rfl) (by rfl) Has.auto (by decide +kernel) (by kernel_rfl)) ?_)) | ((with_reducible refine at_store rfl ?_); (first | (refine wpList_does rfl (kd_store_cell K _ _ _ rfl rfl (by conv => lhs; whnf) Repl.auto rfl rfl (by kernel_rfl) (by kernel_rfl) (by first | (simp only [List.setIfInBounds_toArray, List.set_cons_succ, List.set_cons_zero]; rfl) | rfl)) ?_) | (refine wpList_does rfl (kd_store_row K _ _ _ rfl rfl rfl Repl.auto (by kernel_rfl) (by kernel_rfl) (by kernel_rfl)) ?_)); clear K; intro _ w1 K; (try simp only [Act.put])))
            go_roundg (gk - 1)
            case measure => omega
            case rel => exact ⟨j + 1, lm, cm, by go_num, by omega, Lib.hid (by rw [HAT.out, HA.out, HRB.out]; rfl), HS.eq (fun i => by rw [HT.out i, HT1.out i, Bool.or_false]), K.cov Cov.auto⟩
          · have e1 : (p.kind == 1) = false := by simpa using hk
            have HT1 := Lib.hid (fun i => show touch block i p = (decide (p.from_ / block ≤ i) && decide (i ≤ (p.from_ + p.len - 1) / block)) by rw [touch, decide_eq_true hk, Bool.true_and])
            have hb0 : block ≠ 0 := by omega
            obtain ⟨q0, hq0⟩ : ∃ q0, p.from_ / block = q0 := ⟨_, rfl⟩
            obtain ⟨q1, hq1⟩ : ∃ q1, (p.from_ + p.len - 1) / block = q1 := ⟨_, rfl⟩
            have ht0 : Int.tdiv p.from_ block = q0 := by rw [Int.tdiv_eq_ediv_of_nonneg (by omega), hq0]
            have ht1 : Int.tdiv (p.from_ + p.len - 1) block = q1 := by rw [Int.tdiv_eq_ediv_of_nonneg (by omega), hq1]
            have hq0b : 0 ≤ q0 ∧ q0 ≤ 2147483647 := by rw [← hq0]; exact ⟨Int.ediv_nonneg (by omega) (by omega), Int.le_trans (Int.ediv_le_self _ (by omega)) (by omega)⟩
            have hq1b : 0 ≤ q1 ∧ q1 ≤ 2147487743 := by rw [← hq1]; exact ⟨Int.ediv_nonneg (by omega) (by omega), Int.le_trans (Int.ediv_le_self _ (by omega)) (by omega)⟩
            have iq0 := IntWalk.i64_in q0 (by omega)
            have iq1 := IntWalk.i64_in q1 (by omega)
            have is1 := IntWalk.i64_in (p.from_ + p.len) (by omega)
            have is2 := IntWalk.i64_in (p.from_ + p.len - 1) (by omega)
            clear hk
            go_upto_region 11 with ((first | ((with_reducible refine at_load rfl ?_); refine wpList_reads (by rfl) (kr_load_rec K _ _ (by rfl) (j) [.int .u8 p.kind, .int .i64 p.from_, .int .i64 p.len, .slice p.A p.n p.c] (by rfl) (R.cov Cov.auto) (by omega) HP.out (by omega) (by kernel_rfl) (by kernel_rfl) (by rfl)) ?_) | (go_at_call 46; (with_reducible refine (pright_any (s := p) K).mono ?_); clear K; rintro e w1 ⟨rfl, K⟩; rw [HRB.out]) | ((with_reducible refine at_slot (N := 10) rfl ?_); (with_reducible refine at_alloc rfl ?_); refine wpList_does rfl (kd_alloc (z := (.agg #[.int .u8 0, .int .i64 0, .int .i64 0, .slice none 0 0])) K _ rfl (by kernel_rfl)) ?_; clear K; rintro _ w1 ⟨go, rfl, K⟩; (try dsimp only [Value.cells] at K)) | ((with_reducible refine at_eqnil rfl ?_); refine wpList_reads rfl (kr_eqnil rfl rfl (by kernel_rfl)) ?_) | ((with_reducible refine at_box rfl ?_); refine wpList_does rfl (kd_box K _ _ rfl (by conv => lhs; whnf)) ?_; clear K; rintro _ w1 ⟨g, rfl, K⟩; (try dsimp only [Value.cells] at K)) | ((with_reducible refine at_alloc rfl ?_); refine wpList_does rfl (kd_alloc K _ rfl rfl) ?_; clear K; rintro _ w1 ⟨g, rfl, K⟩; (try dsimp only [Value.cells] at K)) | ((with_reducible refine at_buildSlice rfl ?_); refine wpList_does rfl (kd_lits (cs := _) K _ _ _ rfl (by first | rfl | (go_simp; done) | (go_simp; rfl)) (by first | rfl | (go_simp; done) | (go_simp; rfl))) ?_; clear K; rintro _ w1 ⟨g, rfl, K⟩) | ((with_reducible refine at_load rfl ?_); first | (refine wpList_reads (by rfl) (kr_load_cell K _ _ (by rfl) (by rfl) Has.auto (by decide +kernel) (by (try simp only [List.getElem?_toArray, List.getElem?_cons_succ, List.getElem?_cons_zero]); exact rfl)) ?_) | (refine wpList_reads (by rfl) (kr_load_row K _ _ (by rfl) (by rfl) Has.auto (by decide +kernel) (by kernel_rfl)) ?_)) | ((with_reducible refine at_store rfl ?_); (first | (refine wpList_does rfl (kd_store_cell K _ _ _ rfl rfl (by conv => lhs; whnf) Repl.auto rfl rfl (by kernel_rfl) (by kernel_rfl) (by first | (simp only [List.setIfInBounds_toArray, List.set_cons_succ, List.set_cons_zero]; rfl) | rfl)) ?_) | (refine wpList_does rfl (kd_store_row K _ _ _ rfl rfl rfl Repl.auto (by kernel_rfl) (by kernel_rfl) (by kernel_rfl)) ?_)); clear K; intro _ w1 K; (try simp only [Act.put]))))
            replace K : Known w0 _ (mrow gm lm cm :: row go #[.int .u8 p.kind, .int .i64 p.from_, .int .i64 p.len, .slice p.A p.n p.c] 71 :: L) := K.cov Cov.auto
            obtain ⟨og, hog⟩ : ∃ og, og = gk := ⟨_, rfl⟩
            have HS0 := HS
            go_loopg [11] (q1 + 1 - q0).toNat (fun d v wr => ∃ (i : Int) (lm1 : List ME) (cm1 : Nat), v = .int .i64 i ∧ (q0 ≤ i ∧ (i = q0 ∨ (i ≤ q1 + 1 ∧ i ≤ mN))) ∧ (q1 + 1 - i).toNat ≤ d ∧ SetIs lm1 cm1 (fun k => ((decide (0 ≤ k) && decide (k < mN)) && touches block (l.take j) k) || (decide (q0 ≤ k) && decide (k < i))) ∧ Known w0 wr (mrow gm lm1 cm1 :: row go #[.int .u8 p.kind, .int .i64 p.from_, .int .i64 p.len, .slice p.A p.n p.c] 71 :: L))
            case atStart => exact ⟨q0, lm, cm, rfl, ⟨Int.le_refl _, .inl rfl⟩, Nat.le_refl _, HS.eq (fun k => by rw [show (decide (q0 ≤ k) && decide (k < q0)) = false by rw [Bool.and_eq_false_iff, decide_eq_false_iff_not, decide_eq_false_iff_not]; omega, Bool.or_false]), K⟩
            case round =>
              clear K HS HS0
              obtain ⟨i, lm1, cm1, rfl, hi, hdi, HS, K⟩ := hrel
              by_cases c1 : i ≤ q1
              · have d1 : decide (i ≤ q1) = true := decide_eq_true c1
                by_cases c2 : i < mN
                · have d2 : decide (i < (mN : Int)) = true := decide_eq_true c2
                  have i2 := IntWalk.i64_in (i + 1) (by omega)
                  go_wp2_with (first | ((with_reducible refine at_mapUpdate1 rfl ?_); refine wpList_does (by rfl) (kd_mapUpdate K (by rfl) (by rfl) (by rfl) (by conv => lhs; whnf) Repl.auto Try.underlying74 Try.underlying3) ?_; clear K; intro _ w1 K) | ((with_reducible refine at_eqnil rfl ?_); refine wpList_reads rfl (kr_eqnil rfl rfl (by kernel_rfl)) ?_) | ((with_reducible refine at_box rfl ?_); refine wpList_does rfl (kd_box K _ _ rfl (by conv => lhs; whnf)) ?_; clear K; rintro _ w1 ⟨g, rfl, K⟩; (try dsimp only [Value.cells] at K)) | ((with_reducible refine at_alloc rfl ?_); refine wpList_does rfl (kd_alloc K _ rfl rfl) ?_; clear K; rintro _ w1 ⟨g, rfl, K⟩; (try dsimp only [Value.cells] at K)) | ((with_reducible refine at_buildSlice rfl ?_); refine wpList_does rfl (kd_lits (cs := _) K _ _ _ rfl (by first | rfl | (go_simp; done) | (go_simp; rfl)) (by first | rfl | (go_simp; done) | (go_simp; rfl))) ?_; clear K; rintro _ w1 ⟨g, rfl, K⟩) | ((with_reducible refine at_load rfl ?_); first | (refine wpList_reads (by rfl) (kr_load_cell K _ _ (by rfl) (by rfl) Has.auto (by decide +kernel) (by (try simp only [List.getElem?_toArray, List.getElem?_cons_succ, List.getElem?_cons_zero]); exact rfl)) ?_) | (refine wpList_reads (by rfl) (kr_load_row K _ _ (by rfl) (by rfl) Has.auto (by decide +kernel) (by kernel_rfl)) ?_)) | ((with_reducible refine at_store rfl ?_); (first | (refine wpList_does rfl (kd_store_cell K _ _ _ rfl rfl (by conv => lhs; whnf) Repl.auto rfl rfl (by kernel_rfl) (by kernel_rfl) (by first | (simp only [List.setIfInBounds_toArray, List.set_cons_succ, List.set_cons_zero]; rfl) | rfl)) ?_) | (refine wpList_does rfl (kd_store_row K _ _ _ rfl rfl rfl Repl.auto (by kernel_rfl) (by kernel_rfl) (by kernel_rfl)) ?_)); clear K; intro _ w1 K; (try simp only [Act.put])))
                  go_roundg (gk - 1)
                  case measure => omega
                  case rel => exact ⟨i + 1, _, _, rfl, by omega, by omega, (HS.put i _).eq (fun k => by cases touches block (l.take j) k <;> (rw [Bool.eq_iff_iff]; simp; omega)), K⟩
                · have d2 : decide (i < (mN : Int)) = false := decide_eq_false c2
                  go_wp2_with (first | ((with_reducible refine at_eqnil rfl ?_); refine wpList_reads rfl (kr_eqnil rfl rfl (by kernel_rfl)) ?_) | ((with_reducible refine at_box rfl ?_); refine wpList_does rfl (kd_box K _ _ rfl (by conv => lhs; whnf)) ?_; clear K; rintro _ w1 ⟨g, rfl, K⟩; (try dsimp only [Value.cells] at K)) | ((with_reducible refine at_alloc rfl ?_); refine wpList_does rfl (kd_alloc K _ rfl rfl) ?_; clear K; rintro _ w1 ⟨g, rfl, K⟩; (try dsimp only [Value.cells] at K)) | ((with_reducible refine at_buildSlice rfl ?_); refine wpList_does rfl (kd_lits (cs := _) K _ _ _ rfl (by first | rfl | (go_simp; done) | (go_simp; rfl)) (by first | rfl | (go_simp; done) | (go_simp; rfl))) ?_; clear K; rintro _ w1 ⟨g, rfl, K⟩) | ((with_reducible refine at_load rfl ?_); first | (refine wpList_reads (by rfl) (kr_load_cell K _ _ (by rfl) (by rfl) Has.auto (by decide +kernel) (by (try simp only [List.getElem?_toArray, List.getElem?_cons_succ, List.getElem?_cons_zero]); exact rfl)) ?_) | (refine wpList_reads (by rfl) (kr_load_row K _ _ (by rfl) (by rfl) Has.auto (by decide +kernel) (by kernel_rfl)) ?_)) | ((with_reducible refine at_store rfl ?_); (first | (refine wpList_does rfl (kd_store_cell K _ _ _ rfl rfl (by conv => lhs; whnf) Repl.auto rfl rfl (by kernel_rfl) (by kernel_rfl) (by first | (simp only [List.setIfInBounds_toArray, List.set_cons_succ, List.set_cons_zero]; rfl) | rfl)) ?_) | (refine wpList_does rfl (kd_store_row K _ _ _ rfl rfl rfl Repl.auto (by kernel_rfl) (by kernel_rfl) (by kernel_rfl)) ?_)); clear K; intro _ w1 K; (try simp only [Act.put])))
                  go_roundg (og - 1)
                  case measure => omega
                  case rel => exact ⟨j + 1, lm1, cm1, by go_num, by omega, Lib.hid (by rw [HAT.out, HA.out, HRB.out]; rfl), HS.eq (fun k => by rw [HT.out k, HT1.out k, hq0, hq1]; cases touches block (l.take j) k <;> (rw [Bool.eq_iff_iff]; simp; omega)), K.cov Cov.auto⟩
              · have d1 : decide (i ≤ q1) = false := decide_eq_false c1
                go_wp2_with (first | ((with_reducible refine at_eqnil rfl ?_); refine wpList_reads rfl (kr_eqnil rfl rfl (by kernel_rfl)) ?_) | ((with_reducible refine at_box rfl ?_); refine wpList_does rfl (kd_box K _ _ rfl (by conv => lhs; whnf)) ?_; clear K; rintro _ w1 ⟨g, rfl, K⟩; (try dsimp only [Value.cells] at K)) | ((with_reducible refine at_alloc rfl ?_); refine wpList_does rfl (kd_alloc K _ rfl rfl) ?_; clear K; rintro _ w1 ⟨g, rfl, K⟩; (try dsimp only [Value.cells] at K)) | ((with_reducible refine at_buildSlice rfl ?_); refine wpList_does rfl (kd_lits (cs := _) K _ _ _ rfl (by first | rfl | (go_simp; done) | (go_simp; rfl)) (by first | rfl | (go_simp; done) | (go_simp; rfl))) ?_; clear K; rintro _ w1 ⟨g, rfl, K⟩) | ((with_reducible refine at_load rfl ?_); first | (refine wpList_reads (by rfl) (kr_load_cell K _ _ (by rfl) (by rfl) Has.auto (by decide +kernel) (by (try simp only [List.getElem?_toArray, List.getElem?_cons_succ, List.getElem?_cons_zero]); exact rfl)) ?_) | (refine wpList_reads (by rfl) (kr_load_row K _ _ (by rfl) (by rfl) Has.auto (by decide +kernel) (by kernel_rfl)) ?_)) | ((with_reducible refine at_store rfl ?_); (first | (refine wpList_does rfl (kd_store_cell K _ _ _ rfl rfl (by conv => lhs; whnf) Repl.auto rfl rfl (by kernel_rfl) (by kernel_rfl) (by first | (simp only [List.setIfInBounds_toArray, List.set_cons_succ, List.set_cons_zero]; rfl) | rfl)) ?_) | (refine wpList_does rfl (kd_store_row K _ _ _ rfl rfl rfl Repl.auto (by kernel_rfl) (by kernel_rfl) (by kernel_rfl)) ?_)); clear K; intro _ w1 K; (try simp only [Act.put])))
                go_roundg (og - 1)
                case measure => omega
                case rel => exact ⟨j + 1, lm1, cm1, by go_num, by omega, Lib.hid (by rw [HAT.out, HA.out, HRB.out]; rfl), HS.eq (fun k => by rw [HT.out k, HT1.out k, hq0, hq1]; cases touches block (l.take j) k <;> (rw [Bool.eq_iff_iff]; simp; omega)), K.cov Cov.auto⟩
      · have hj2 : decide ((j : Int) < (n : Int)) = false := decide_eq_false (by omega)
        have htl : l.take j = l := List.take_of_length_le (by omega)
        rw [htl] at HA HS
        have hm2 : ∀ i, i ∈ lm.map ME.k ↔ i ∈ gset l block mN := fun i => by rw [← mhas_key, HS.has i, gset_mem]; simp
        have hsrt := sort_same HS.nd (gset_lt l block mN) hm2
        have HG := Lib.hid (show greads l block mN = (gset l block mN, 0) by rw [greads, HMB.out, HA.out, Int.toNat_natCast]; rfl)
        have hl9 : lm.length ≤ 100000000 := by
          have h1 := congrArg List.length hsrt
          rw [(List.mergeSort_perm _ _).length_eq, List.length_map] at h1
          have h2 := gset_len l block mN
          omega
        have HLN := Lib.hid (show lm.length = (gset l block mN).length by
          have h1 := congrArg List.length hsrt
          rw [(List.mergeSort_perm _ _).length_eq, List.length_map] at h1
          exact h1)
        have HWF := Lib.hid (show ∀ e ∈ lm, (Lit.int .i64 e.k).wf = true from fun e he => by
          have h1 := gset_mem.1 ((hm2 e.k).1 (List.mem_map_of_mem he))
          have h4 : IntKind.i64.min = -9223372036854775808 := rfl
          have h5 : IntKind.i64.max = 9223372036854775807 := rfl
          simp [Lit.wf]
          omega)
        have HSR := Lib.hid hsrt
        clear hsrt hm2 htl hl
        go_wp2_with (first | (go_at_call 48; (with_reducible refine (mkeys_any K gm).mono ?_); clear K; rintro e w1 ⟨gb, rfl, K⟩) | (go_at_call 47; (with_reducible refine (msorted_any K (Has.hd _ _) (Has.tl _ (Has.hd _ _)) hl9 HS.lt HS.born HS.nd HWF.out).mono ?_); clear K; rintro e w1 ⟨A3, n3, c3, rfl, X3, rfl, O3, K⟩))
        go_ret2
        rw [HSR.out] at O3
        exact ⟨_, _, _, by rw [HG.out]; rfl, Lib.hid (by rw [HG.out]; exact HLN.out), X3, by rw [HG.out]; exact O3, K.cov Cov.auto⟩
end
end Go.Proofs.Ytffednkdmkohdaa
