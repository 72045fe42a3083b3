/-
  graph: the document's Edges (contract).
-/
import Derived.Test.YtffednkdmkohdaaGrY
set_option linter.unusedVariables false
set_option linter.unusedSimpArgs false
namespace Go.Proofs.Ytffednkdmkohdaa
open Go.RowKit
theorem but_take {i : Int} {xs : List Int} {p : Nat} (h : p < xs.length) : but i (xs.take (p + 1)) = but i (xs.take p) ++ (if xs.getD p 0 = i then [] else [xs.getD p 0]) := by
  unfold but
  rw [List.take_succ_eq_append_getElem h, List.filter_append, show xs.getD p 0 = xs[p] by simp [List.getD, h]]
  congr 1
  by_cases hx : xs[p] = i <;> simp [hx]
theorem but_len (i : Int) (xs : List Int) : (but i xs).length ≤ xs.length := List.length_filter_le _ _
theorem gedgesE_one {rs : List (List Ast)} {block : Int} (h : gmayB block rs.length = false) : gedgesE rs block = ([], 1) := by rw [gedgesE, if_neg (by rw [h]; exact Bool.false_ne_true)]

section
variable {w0 w : World} {L : List Ent} {A : Option Addr} {n c : Nat} {rows : List (Arow Ast)} {block : Int}
set_option maxHeartbeats 3200000 in
set_option maxRecDepth 100000 in
theorem redges_any (K : Known w0 w L) (G : Plans w0 [] A n rows) (hc : n ≤ c) (hn : n ≤ 40) (h6 : ∀ r ∈ rows, r.n ≤ 60) : Calls Try.prog 26 #[.slice A n c, .int .i64 block] w fun e w' => ∃ A' n' c', e = .returned (.tuple #[.slice A' n' c', .int .i64 (gedgesE (rows.map (·.l)) block).2]) ∧ n' ≤ c' ∧ ∃ (rows' : List (Arow Int)), rows'.map (·.l) = (gedgesE (rows.map (·.l)) block).1 ∧ ∃ X, Grid w0 X A' n' rows' ∧ (∀ r ∈ rows', r.n ≤ n) ∧ Known w0 w' (X ++ L) := by
  have hl := G.R.len
  have d2 : decide (4096 < (n : Int)) = false := decide_eq_false (by omega)
  have hb9 : ∀ (hb : block < 128 ∨ 4096 < block), gedgesE (rows.map (·.l)) block = ([], 1) := fun hb => gedgesE_one (by
    cases h : gmayB block (rows.map (·.l)).length
    · rfl
    · have := gmayB_iff.1 h
      omega)
  by_cases q0 : block < 128
  · have d0 : decide (block < 128) = true := decide_eq_true q0
    have HG := Lib.hid (hb9 (.inl q0))
    clear hb9 hl
    go_enter Try.func26, Try.ntmps26
    go_wp2_with (first | ((with_reducible refine at_slot (N := 13) rfl ?_); (with_reducible refine at_buildSlice (n := 0) rfl ?_); refine wpList_does rfl (kd_lit0 K _ 25 1 rfl Try.underlying33 (by kernel_rfl)) ?_; clear K; rintro _ w1 ⟨gn, rfl, K⟩) | ((with_reducible refine at_eqnil rfl ?_); refine wpList_reads rfl (kr_eqnil rfl rfl (by kernel_rfl)) ?_) | ((with_reducible refine at_box rfl ?_); refine wpList_does rfl (kd_box K _ _ rfl (by conv => lhs; whnf)) ?_; clear K; rintro _ w1 ⟨g, rfl, K⟩; (try dsimp only [Value.cells] at K)) | ((with_reducible refine at_alloc rfl ?_); refine wpList_does rfl (kd_alloc K _ rfl rfl) ?_; clear K; rintro _ w1 ⟨g, rfl, K⟩; (try dsimp only [Value.cells] at K)) | ((with_reducible refine at_buildSlice rfl ?_); refine wpList_does rfl (kd_lits (cs := _) K _ _ _ rfl (by first | rfl | (go_simp; done) | (go_simp; rfl)) (by first | rfl | (go_simp; done) | (go_simp; rfl))) ?_; clear K; rintro _ w1 ⟨g, rfl, K⟩) | ((with_reducible refine at_load rfl ?_); first | (refine wpList_reads (by rfl) (kr_load_cell K _ _ (by rfl) (by rfl) Has.auto (by decide +kernel) (by (try simp only [List.getElem?_toArray, List.getElem?_cons_succ, List.getElem?_cons_zero]); exact rfl)) ?_) | (refine wpList_reads (by rfl) (kr_load_row K _ _ (by rfl) (by rfl) Has.auto (by decide +kernel) (by kernel_rfl)) ?_)) | ((with_reducible refine at_store rfl ?_); (first | (refine wpList_does rfl (kd_store_cell K _ _ _ rfl rfl (by conv => lhs; whnf) Repl.auto rfl rfl (by kernel_rfl) (by kernel_rfl) (by first | (simp only [List.setIfInBounds_toArray, List.set_cons_succ, List.set_cons_zero]; rfl) | rfl)) ?_) | (refine wpList_does rfl (kd_store_row K _ _ _ rfl rfl rfl Repl.auto (by kernel_rfl) (by kernel_rfl) (by kernel_rfl)) ?_)); clear K; intro _ w1 K; (try simp only [Act.put])))
    go_ret2
    exact ⟨_, 0, _, by rw [HG.out]; rfl, Nat.le_refl _, [], by rw [HG.out]; rfl, [], ⟨RdM.nil _ _ _ _ _, by simp⟩, by simp, K.cov Cov.auto⟩
  have d0 : decide (block < 128) = false := decide_eq_false q0
  by_cases q1 : 4096 < block
  · have d1 : decide (4096 < block) = true := decide_eq_true q1
    have HG := Lib.hid (hb9 (.inr q1))
    clear hb9 hl
    go_enter Try.func26, Try.ntmps26
    go_wp2_with (first | ((with_reducible refine at_slot (N := 13) rfl ?_); (with_reducible refine at_buildSlice (n := 0) rfl ?_); refine wpList_does rfl (kd_lit0 K _ 25 1 rfl Try.underlying33 (by kernel_rfl)) ?_; clear K; rintro _ w1 ⟨gn, rfl, K⟩) | ((with_reducible refine at_eqnil rfl ?_); refine wpList_reads rfl (kr_eqnil rfl rfl (by kernel_rfl)) ?_) | ((with_reducible refine at_box rfl ?_); refine wpList_does rfl (kd_box K _ _ rfl (by conv => lhs; whnf)) ?_; clear K; rintro _ w1 ⟨g, rfl, K⟩; (try dsimp only [Value.cells] at K)) | ((with_reducible refine at_alloc rfl ?_); refine wpList_does rfl (kd_alloc K _ rfl rfl) ?_; clear K; rintro _ w1 ⟨g, rfl, K⟩; (try dsimp only [Value.cells] at K)) | ((with_reducible refine at_buildSlice rfl ?_); refine wpList_does rfl (kd_lits (cs := _) K _ _ _ rfl (by first | rfl | (go_simp; done) | (go_simp; rfl)) (by first | rfl | (go_simp; done) | (go_simp; rfl))) ?_; clear K; rintro _ w1 ⟨g, rfl, K⟩) | ((with_reducible refine at_load rfl ?_); first | (refine wpList_reads (by rfl) (kr_load_cell K _ _ (by rfl) (by rfl) Has.auto (by decide +kernel) (by (try simp only [List.getElem?_toArray, List.getElem?_cons_succ, List.getElem?_cons_zero]); exact rfl)) ?_) | (refine wpList_reads (by rfl) (kr_load_row K _ _ (by rfl) (by rfl) Has.auto (by decide +kernel) (by kernel_rfl)) ?_)) | ((with_reducible refine at_store rfl ?_); (first | (refine wpList_does rfl (kd_store_cell K _ _ _ rfl rfl (by conv => lhs; whnf) Repl.auto rfl rfl (by kernel_rfl) (by kernel_rfl) (by first | (simp only [List.setIfInBounds_toArray, List.set_cons_succ, List.set_cons_zero]; rfl) | rfl)) ?_) | (refine wpList_does rfl (kd_store_row K _ _ _ rfl rfl rfl Repl.auto (by kernel_rfl) (by kernel_rfl) (by kernel_rfl)) ?_)); clear K; intro _ w1 K; (try simp only [Act.put])))
    go_ret2
    exact ⟨_, 0, _, by rw [HG.out]; rfl, Nat.le_refl _, [], by rw [HG.out]; rfl, [], ⟨RdM.nil _ _ _ _ _, by simp⟩, by simp, K.cov Cov.auto⟩
  have d1 : decide (4096 < block) = false := decide_eq_false q1
  have HM := Lib.hid (show gmayB block n = true from gmayB_iff.2 (by omega))
  clear hb9
  go_enter Try.func26, Try.ntmps26
  go_upto_region 6 with ((first | ((with_reducible refine at_slot (N := 13) rfl ?_); (with_reducible refine at_buildSlice (n := 0) rfl ?_); refine wpList_does rfl (kd_lit0 K _ 25 1 rfl Try.underlying33 (by kernel_rfl)) ?_; clear K; rintro _ w1 ⟨gn, rfl, K⟩) | ((with_reducible refine at_slot (N := 26) rfl ?_); (with_reducible refine at_buildSlice (n := 0) rfl ?_); refine wpList_does rfl (kd_lit0 K _ 25 1 rfl Try.underlying33 (by kernel_rfl)) ?_; clear K; rintro _ w1 ⟨go, rfl, K⟩)))
  have OO : OwnL 25 1 (some ⟨go, 0, none⟩) 0 0 (([] : List (Arow Int)).flatMap arC) [row go #[] 25] := OwnL.lit0 _ _
  replace K : Known w0 _ (row go #[] 25 :: (row gn #[] 25 :: L)) := K.cov Cov.auto
  go_loopg [7, 29] n (fun q v3 v10 wr => ∃ (i : Nat) (ro : List (Arow Int)) (Ao : Option Addr) (co : Nat) (Xo Xr : List Ent), v3 = .slice Ao i co ∧ v10 = .int .i64 i ∧ i + q = n ∧ OwnL 25 1 Ao i co (ro.flatMap arC) Xo ∧ Hid (((rows.map (·.l)).take i).all (·.all rightB) = true) ∧ Hid (ro.map (·.l) = (List.range i).map fun q => gedge ((rows.map (·.l)).getD q []) block n q) ∧ (∀ r ∈ ro, (RdS w0 Xr .i64 r.A r.n r.l ∧ r.n ≤ r.c) ∧ r.n ≤ n) ∧ Known w0 wr (Xo ++ (Xr ++ (row gn #[] 25 :: L))))
  case atStart => exact ⟨0, [], _, _, _, [], rfl, by go_num, by omega, OO, Lib.hid rfl, Lib.hid rfl, by simp, K⟩
  case round =>
    clear K OO
    obtain ⟨i, ro, Ao, co, Xo, Xr, rfl, rfl, hdi, OO, HAL, HRO, hro, K⟩ := hrel
    by_cases hi : i < n
    · have hi2 : decide ((i : Int) < (n : Int)) = true := decide_eq_true (by omega)
      have hii : (0 : Int) ≤ (i : Int) ∧ (i : Int) < (n : Int) := by omega
      have i1 := IntWalk.i64_in ((i : Int) + 1) (by omega)
      obtain ⟨b, off, rfl⟩ := G.R.form (K.cov (Cov.nil _)) (by omega)
      obtain ⟨⟨rA, rn, rc, rl⟩, hp⟩ : ∃ r, r = rows[i]'(by omega) := ⟨_, rfl⟩
      have hpm : (⟨rA, rn, rc, rl⟩ : Arow Ast) ∈ rows := by rw [hp]; exact List.getElem_mem _
      have HP := Lib.hid (show encAt arC rows i = [.slice rA rn rc] by rw [encAt_get (by omega), ← hp]; rfl)
      have HRL := Lib.hid (show (rows.map (·.l)).getD i [] = rl by simp [List.getD, show i < rows.length by omega, ← hp])
      obtain ⟨RR, hrc, hrs⟩ := G.row _ hpm
      have hrn : rn ≤ 100000 := by have := h6 _ hpm; simp only at this; omega
      simp only at RR hrc hrs
      have HT := Lib.hid (show ((rows.map (·.l)).take (i + 1)).all (·.all rightB) = (((rows.map (·.l)).take i).all (·.all rightB) && rl.all rightB) by
        rw [List.take_succ_eq_append_getElem (by rw [List.length_map]; omega), List.all_append]
        simp [← hp])
      cases hra : rl.all rightB
      · have HG := Lib.hid (show greads rl block n = ([], 3) by rw [greads, HM.out, if_pos rfl, if_neg (by rw [hra]; exact Bool.false_ne_true)])
        have HNA := Lib.hid (show gedgesE (rows.map (·.l)) block = ([], 3) by
          rw [gedgesE, List.length_map, hl, HM.out, if_pos rfl, if_neg]
          rw [Bool.not_eq_true, List.all_eq_false]
          exact ⟨rl, List.mem_map.2 ⟨_, hpm, rfl⟩, by rw [hra]; exact Bool.false_ne_true⟩)
        clear hp hpm hra
        go_wp2_with (first | ((with_reducible refine at_load rfl ?_); refine wpList_reads (by rfl) (kr_load_rcell K _ _ (by rfl) (i) 0 (by rfl) (G.R.cov Cov.auto) (by omega) HP.out (by rfl) (by omega) (by kernel_rfl)) ?_) | (go_at_call 17; (with_reducible refine (rgreads_any K (RR.cov (Cov.nil _)) hrc hrn _ _).mono ?_); clear K; rintro e w1 ⟨A3, n3, c3, rfl, hn3, X3, O3, K⟩; rw [HG.out]; rw [HG.out] at O3 hn3) | ((with_reducible refine at_eqnil rfl ?_); refine wpList_reads rfl (kr_eqnil rfl rfl (by kernel_rfl)) ?_) | ((with_reducible refine at_box rfl ?_); refine wpList_does rfl (kd_box K _ _ rfl (by conv => lhs; whnf)) ?_; clear K; rintro _ w1 ⟨g, rfl, K⟩; (try dsimp only [Value.cells] at K)) | ((with_reducible refine at_alloc rfl ?_); refine wpList_does rfl (kd_alloc K _ rfl rfl) ?_; clear K; rintro _ w1 ⟨g, rfl, K⟩; (try dsimp only [Value.cells] at K)) | ((with_reducible refine at_buildSlice rfl ?_); refine wpList_does rfl (kd_lits (cs := _) K _ _ _ rfl (by first | rfl | (go_simp; done) | (go_simp; rfl)) (by first | rfl | (go_simp; done) | (go_simp; rfl))) ?_; clear K; rintro _ w1 ⟨g, rfl, K⟩) | ((with_reducible refine at_load rfl ?_); first | (refine wpList_reads (by rfl) (kr_load_cell K _ _ (by rfl) (by rfl) Has.auto (by decide +kernel) (by (try simp only [List.getElem?_toArray, List.getElem?_cons_succ, List.getElem?_cons_zero]); exact rfl)) ?_) | (refine wpList_reads (by rfl) (kr_load_row K _ _ (by rfl) (by rfl) Has.auto (by decide +kernel) (by kernel_rfl)) ?_)) | ((with_reducible refine at_store rfl ?_); (first | (refine wpList_does rfl (kd_store_cell K _ _ _ rfl rfl (by conv => lhs; whnf) Repl.auto rfl rfl (by kernel_rfl) (by kernel_rfl) (by first | (simp only [List.setIfInBounds_toArray, List.set_cons_succ, List.set_cons_zero]; rfl) | rfl)) ?_) | (refine wpList_does rfl (kd_store_row K _ _ _ rfl rfl rfl Repl.auto (by kernel_rfl) (by kernel_rfl) (by kernel_rfl)) ?_)); clear K; intro _ w1 K; (try simp only [Act.put])))
        go_ret2
        exact ⟨_, 0, _, by rw [HNA.out]; rfl, Nat.le_refl _, [], by rw [HNA.out]; rfl, [], ⟨RdM.nil _ _ _ _ _, by simp⟩, (by simp), K.cov Cov.auto⟩
      have HRA := Lib.hid hra
      have HG := Lib.hid (show greads rl block n = (gset rl block n, 0) by rw [greads, HM.out, if_pos rfl, if_pos hra, Int.toNat_natCast])
      have HSL := Lib.hid (gset_len rl block n)
      clear hp hpm hra
      go_upto_region 13 with ((first | ((with_reducible refine at_load rfl ?_); refine wpList_reads (by rfl) (kr_load_rcell K _ _ (by rfl) (i) 0 (by rfl) (G.R.cov Cov.auto) (by omega) HP.out (by rfl) (by omega) (by kernel_rfl)) ?_) | (go_at_call 17; (with_reducible refine (rgreads_any K (RR.cov (Cov.nil _)) hrc hrn _ _).mono ?_); clear K; rintro e w1 ⟨A3, n3, c3, rfl, hn3, X3, O3, K⟩; rw [HG.out]; rw [HG.out] at O3 hn3) | ((with_reducible refine at_slot (N := 47) rfl ?_); (with_reducible refine at_buildSlice (n := 0) rfl ?_); refine wpList_does rfl (kd_lit0 K _ 3 1 rfl Try.underlying25 (by kernel_rfl)) ?_; clear K; rintro _ w1 ⟨gr, rfl, K⟩)))
      have hn4 : n3 ≤ n := by have := hn3.out; have := HSL.out; omega
      have OR : OwnL 3 1 (some ⟨gr, 0, none⟩) 0 0 ((but i ((gset rl block n).take 0)).map (Value.int .i64)) [row gr #[] 3] := OwnL.lit0 _ _
      have R3 := RdS.own (w0 := w0) (L := X3) O3 (Seg.all X3)
      have hl3 := R3.len
      have hc3 := O3.le
      clear O3
      replace K : Known w0 _ ([row gr #[] 3] ++ (X3 ++ (Xo ++ (Xr ++ (row gn #[] 25 :: L))))) := K.cov Cov.auto
      obtain ⟨og, hog⟩ : ∃ og, og = gk := ⟨_, rfl⟩
      go_loopg [11, 50] n3 (fun q v5 v16 w2 => ∃ (p nr : Nat) (Ar : Option Addr) (cr : Nat) (X5 : List Ent), v5 = .slice Ar nr cr ∧ v16 = .int .i64 p ∧ p + q = n3 ∧ nr ≤ p ∧ OwnL 3 1 Ar nr cr ((but i ((gset rl block n).take p)).map (Value.int .i64)) X5 ∧ Known w0 w2 (X5 ++ (X3 ++ (Xo ++ (Xr ++ (row gn #[] 25 :: L))))))
      case atStart => exact ⟨0, 0, _, _, _, rfl, by go_num, by omega, by omega, OR, K⟩
      case round =>
        clear K OR
        obtain ⟨p, nr, Ar, cr, X5, rfl, rfl, hdp, hnr, OR, K⟩ := hrel
        by_cases hpp : p < n3
        · have hp2 : decide ((p : Int) < (n3 : Int)) = true := decide_eq_true (by omega)
          have hp3 : (0 : Int) ≤ (p : Int) ∧ (p : Int) < (n3 : Int) := by omega
          have i2 := IntWalk.i64_in ((p : Int) + 1) (by omega)
          obtain ⟨x, hx⟩ : ∃ x, (gset rl block n).getD p 0 = x := ⟨_, rfl⟩
          have HX := Lib.hid hx
          have HBT := Lib.hid (show but i ((gset rl block n).take (p + 1)) = but i ((gset rl block n).take p) ++ (if x = (i : Int) then [] else [x]) by rw [but_take (by omega), hx])
          obtain ⟨b3, off3, rfl⟩ := R3.form (K.cov Cov.auto) (by omega)
          clear hx
          by_cases hxi : x = (i : Int)
          · have e1 : (x == (i : Int)) = true := by simpa using hxi
            have HXI := Lib.hid hxi
            clear hxi
            go_wp2_with (first | ((with_reducible refine at_load rfl ?_); refine wpList_reads (by rfl) (kr_load_fact _ _ (by rfl) (by rfl) (R3.cell (j := p) (K.cov Cov.auto) (by omega) HX.out rfl) (by decide +kernel)) ?_))
            go_roundg (gk - 1)
            case measure => omega
            case rel => exact ⟨p + 1, nr, _, _, X5, rfl, by go_num, by omega, by omega, by rw [HBT.out, if_pos HXI.out, List.append_nil]; exact OR, K⟩
          · have e1 : (x == (i : Int)) = false := by simpa using hxi
            have HXI := Lib.hid hxi
            clear hxi
            go_wp2_with (first | ((with_reducible refine at_load rfl ?_); refine wpList_reads (by rfl) (kr_load_fact _ _ (by rfl) (by rfl) (R3.cell (j := p) (K.cov Cov.auto) (by omega) HX.out rfl) (by decide +kernel)) ?_) | (at_builtin; refine wpList_does rfl (kd_appendN K _ _ rfl rfl rfl (by with_reducible assumption) Seg.auto (Rd.ofBlk (n := 1) (xs := [_]) (K.blk Has.auto) rfl rfl) (by kernel_rfl) (by kernel_rfl) (by omega)) ?_; clear K; rintro _ w1 ⟨A1, c1, X1, rfl, OR, K⟩; (try simp only [Nat.zero_add, List.nil_append] at OR)) | ((with_reducible refine at_eqnil rfl ?_); refine wpList_reads rfl (kr_eqnil rfl rfl (by kernel_rfl)) ?_) | ((with_reducible refine at_box rfl ?_); refine wpList_does rfl (kd_box K _ _ rfl (by conv => lhs; whnf)) ?_; clear K; rintro _ w1 ⟨g, rfl, K⟩; (try dsimp only [Value.cells] at K)) | ((with_reducible refine at_alloc rfl ?_); refine wpList_does rfl (kd_alloc K _ rfl rfl) ?_; clear K; rintro _ w1 ⟨g, rfl, K⟩; (try dsimp only [Value.cells] at K)) | ((with_reducible refine at_buildSlice rfl ?_); refine wpList_does rfl (kd_lits (cs := _) K _ _ _ rfl (by first | rfl | (go_simp; done) | (go_simp; rfl)) (by first | rfl | (go_simp; done) | (go_simp; rfl))) ?_; clear K; rintro _ w1 ⟨g, rfl, K⟩) | ((with_reducible refine at_load rfl ?_); first | (refine wpList_reads (by rfl) (kr_load_cell K _ _ (by rfl) (by rfl) Has.auto (by decide +kernel) (by (try simp only [List.getElem?_toArray, List.getElem?_cons_succ, List.getElem?_cons_zero]); exact rfl)) ?_) | (refine wpList_reads (by rfl) (kr_load_row K _ _ (by rfl) (by rfl) Has.auto (by decide +kernel) (by kernel_rfl)) ?_)) | ((with_reducible refine at_store rfl ?_); (first | (refine wpList_does rfl (kd_store_cell K _ _ _ rfl rfl (by conv => lhs; whnf) Repl.auto rfl rfl (by kernel_rfl) (by kernel_rfl) (by first | (simp only [List.setIfInBounds_toArray, List.set_cons_succ, List.set_cons_zero]; rfl) | rfl)) ?_) | (refine wpList_does rfl (kd_store_row K _ _ _ rfl rfl rfl Repl.auto (by kernel_rfl) (by kernel_rfl) (by kernel_rfl)) ?_)); clear K; intro _ w1 K; (try simp only [Act.put])))
            go_roundg (gk - 1)
            case measure => omega
            case rel => exact ⟨p + 1, nr + 1, _, _, _, rfl, by go_num, by omega, by omega, by rw [HBT.out, if_neg HXI.out]; exact OR, K.cov Cov.auto⟩
        · have hp2 : decide ((p : Int) < (n3 : Int)) = false := decide_eq_false (by omega)
          rw [List.take_of_length_le (by omega)] at OR
          go_wp2_with (first | (at_builtin; refine wpList_does rfl (kd_appendR (r := (⟨Ar, nr, cr, but i (gset rl block n)⟩ : Arow Int)) K 33 25 rfl rfl rfl OO Seg.auto Has.auto (by rfl) Try.underlying33 (by kernel_rfl) (by omega) rfl (arC_one _) (by omega)) ?_; clear K OO; rintro _ w1 ⟨Ao2, co2, Xo2, rfl, OO, K⟩) | ((with_reducible refine at_eqnil rfl ?_); refine wpList_reads rfl (kr_eqnil rfl rfl (by kernel_rfl)) ?_) | ((with_reducible refine at_box rfl ?_); refine wpList_does rfl (kd_box K _ _ rfl (by conv => lhs; whnf)) ?_; clear K; rintro _ w1 ⟨g, rfl, K⟩; (try dsimp only [Value.cells] at K)) | ((with_reducible refine at_alloc rfl ?_); refine wpList_does rfl (kd_alloc K _ rfl rfl) ?_; clear K; rintro _ w1 ⟨g, rfl, K⟩; (try dsimp only [Value.cells] at K)) | ((with_reducible refine at_buildSlice rfl ?_); refine wpList_does rfl (kd_lits (cs := _) K _ _ _ rfl (by first | rfl | (go_simp; done) | (go_simp; rfl)) (by first | rfl | (go_simp; done) | (go_simp; rfl))) ?_; clear K; rintro _ w1 ⟨g, rfl, K⟩) | ((with_reducible refine at_load rfl ?_); first | (refine wpList_reads (by rfl) (kr_load_cell K _ _ (by rfl) (by rfl) Has.auto (by decide +kernel) (by (try simp only [List.getElem?_toArray, List.getElem?_cons_succ, List.getElem?_cons_zero]); exact rfl)) ?_) | (refine wpList_reads (by rfl) (kr_load_row K _ _ (by rfl) (by rfl) Has.auto (by decide +kernel) (by kernel_rfl)) ?_)) | ((with_reducible refine at_store rfl ?_); (first | (refine wpList_does rfl (kd_store_cell K _ _ _ rfl rfl (by conv => lhs; whnf) Repl.auto rfl rfl (by kernel_rfl) (by kernel_rfl) (by first | (simp only [List.setIfInBounds_toArray, List.set_cons_succ, List.set_cons_zero]; rfl) | rfl)) ?_) | (refine wpList_does rfl (kd_store_row K _ _ _ rfl rfl rfl Repl.auto (by kernel_rfl) (by kernel_rfl) (by kernel_rfl)) ?_)); clear K; intro _ w1 K; (try simp only [Act.put])))
          have RN := RdS.own (w0 := w0) (L := X5 ++ Xr) OR (Seg.ap X5 Xr)
          have hle := OR.le
          go_roundg (og - 1)
          case measure => omega
          case rel => exact ⟨i + 1, ro ++ [(⟨Ar, nr, cr, but i (gset rl block n)⟩ : Arow Int)], _, _, Xo2, X5 ++ Xr, rfl, by go_num, by omega, OO, Lib.hid (by rw [HT.out, HAL.out, HRA.out]; rfl), Lib.hid (by rw [List.map_append, HRO.out, List.range_succ, List.map_append]; congr 1; simp only [List.map_cons, List.map_nil]; rw [HRL.out]; rfl), (by
            intro r hr
            rcases List.mem_append.1 hr with hr | hr
            · exact ⟨⟨(hro r hr).1.1.cov (Cov.skip X5 (Cov.all Xr)), (hro r hr).1.2⟩, (hro r hr).2⟩
            · rw [List.mem_singleton.1 hr]
              exact ⟨⟨RN, hle⟩, by show nr ≤ n; omega⟩), by rw [List.append_assoc]; exact K.cov Cov.auto⟩
    · have hi2 : decide ((i : Int) < (n : Int)) = false := decide_eq_false (by omega)
      obtain rfl : n = i := by omega
      have HAA := HAL.out
      rw [List.take_of_length_le (by rw [List.length_map]; omega)] at HAA
      have HNA := Lib.hid (show gedgesE (rows.map (·.l)) block = (gedges (rows.map (·.l)) block, 0) by rw [gedgesE, List.length_map, hl, HM.out, if_pos rfl, if_pos HAA])
      clear HAA
      go_wp2
      go_ret2
      have RO := RdM.own (w0 := w0) (L := Xo ++ Xr) OO (Seg.ap Xo Xr) arC_len (by omega)
      exact ⟨Ao, n, co, by rw [HNA.out]; rfl, OO.le, ro, by rw [HNA.out, HRO.out, gedges, List.length_map, hl], Xo ++ Xr, ⟨RO, fun r hr => ⟨(hro r hr).1.1.cov (Cov.skip Xo (Cov.all Xr)), (hro r hr).1.2⟩⟩, fun r hr => (hro r hr).2, by rw [List.append_assoc]; exact K.cov Cov.auto⟩
end
end Go.Proofs.Ytffednkdmkohdaa
