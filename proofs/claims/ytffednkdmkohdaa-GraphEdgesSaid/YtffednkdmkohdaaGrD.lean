/-
  drogherlaw18: Same, awake, GraphReads (walks).
-/
import Derived.Test.YtffednkdmkohdaaGrC
set_option linter.unusedVariables false
set_option linter.unusedSimpArgs false
namespace Go.Proofs.Ytffednkdmkohdaa
open Go.RowKit

section
variable {w0 w : World} {L : List Ent} {A B : Option Addr} {n c m d : Nat} {xs : List Int}
set_option maxRecDepth 100000 in
theorem rsame_any (K : Known w0 w L) (R1 : RdS w0 L .i64 A n xs) (R2 : RdS w0 L .i64 B n xs) (hc : n ≤ c) (hd : n ≤ d) (hn : n ≤ 1000000000) : Calls Try.prog 18 #[.slice A n c, .slice B n d] w fun e w' => e = .returned (.bool true) ∧ Known w0 w' L := by
  have hl := R1.len
  go_enter Try.func18, Try.ntmps18
  go_upto_region 4 with (fail)
  go_loopg [13] n (fun q v wr => ∃ (j : Nat), v = .int .i64 j ∧ j + q = n ∧ Known w0 wr L)
  case atStart => exact ⟨0, by go_num, by omega, K⟩
  case round =>
    clear K
    obtain ⟨j, rfl, hdj, K⟩ := hrel
    by_cases hj : j < n
    · have hj2 : decide ((j : Int) < (n : Int)) = true := decide_eq_true (by omega)
      have hjj : (0 : Int) ≤ (j : Int) ∧ (j : Int) < (n : Int) := by omega
      have i1 := IntWalk.i64_in ((j : Int) + 1) (by omega)
      obtain ⟨b, off, rfl⟩ := R1.form K (by omega)
      obtain ⟨b2, off2, rfl⟩ := R2.form K (by omega)
      obtain ⟨u, hu⟩ : ∃ u, xs.getD j 0 = u := ⟨_, rfl⟩
      have HU := Lib.hid hu
      clear hu hl
      go_upto_region 6 with (fail)
      refine wp_region_QLK K (by kernel_rfl) (by kernel_rfl) ?_
      clear K
      refine wpQL_A (k := 0) (v := ?_) ?_ ?_
      rotate_left
      · (intro w hS; (clear hS; go_simp); try with_reducible rfl)
      try simp only [Act.put, List.setIfInBounds_toArray, List.set_cons_zero, List.set_cons_succ]
      refine wpQL_A (k := 1) (v := ?_) ?_ ?_
      rotate_left
      · (intro w hS; (clear hS; go_simp); try with_reducible rfl)
      try simp only [Act.put, List.setIfInBounds_toArray, List.set_cons_zero, List.set_cons_succ]
      refine wpQL_A (k := 2) (v := ?_) ?_ ?_
      rotate_left
      · (intro w hS; (clear hS; go_simp); try with_reducible rfl)
      try simp only [Act.put, List.setIfInBounds_toArray, List.set_cons_zero, List.set_cons_succ]
      refine wpQL_A (k := 3) (v := .int .i64 u) ?_ ?_
      · (intro w hS; exact kr_load_fact _ _ (by rfl) (by rfl) (R1.cell hS (by omega) HU.out rfl) (by kernel_rfl))
      try simp only [Act.put, List.setIfInBounds_toArray, List.set_cons_zero, List.set_cons_succ]
      refine wpQL_A (k := 4) (v := ?_) ?_ ?_
      rotate_left
      · (intro w hS; (clear hS; go_simp); try with_reducible rfl)
      try simp only [Act.put, List.setIfInBounds_toArray, List.set_cons_zero, List.set_cons_succ]
      refine wpQL_A (k := 5) (v := ?_) ?_ ?_
      rotate_left
      · (intro w hS; (clear hS; go_simp); try with_reducible rfl)
      try simp only [Act.put, List.setIfInBounds_toArray, List.set_cons_zero, List.set_cons_succ]
      refine wpQL_A (k := 6) (v := ?_) ?_ ?_
      rotate_left
      · (intro w hS; (clear hS; go_simp); try with_reducible rfl)
      try simp only [Act.put, List.setIfInBounds_toArray, List.set_cons_zero, List.set_cons_succ]
      refine wpQL_A (k := 7) (v := .int .i64 u) ?_ ?_
      · (intro w hS; exact kr_load_fact _ _ (by rfl) (by rfl) (R2.cell hS (by omega) HU.out rfl) (by kernel_rfl))
      try simp only [Act.put, List.setIfInBounds_toArray, List.set_cons_zero, List.set_cons_succ]
      refine wpQL_endA (k := 8) (fun w1 K K9 hK => ?_)
      refine st_reads (v := ?_) (by rfl) ?_ ?_
      rotate_left
      · (go_simp; try with_reducible rfl)
      refine hK.out _ _ ?_
      clear hK K9
      try simp only [Act.put, List.setIfInBounds_toArray, List.set_cons_zero, List.set_cons_succ]
      skip
      go_wp2
      go_roundg (gk - 1)
      case measure => omega
      case rel => exact ⟨j + 1, by go_num, by omega, K⟩
    · have hj2 : decide ((j : Int) < (n : Int)) = false := decide_eq_false (by omega)
      go_wp2
      go_ret
      exact ⟨rfl, K⟩
end
theorem greads_len (l : List Ast) (block many : Int) : (greads l block many).1.length ≤ 4096 := by
  unfold greads
  split
  · next h =>
    have := gmayB_iff.1 h
    split
    · have := gset_len l block many.toNat
      show (gset l block many.toNat).length ≤ 4096
      omega
    · simp
  · simp
def aw18 : Ast := ⟨2, 127, 2, none, 0, 0, []⟩
theorem aw18_rd {w0 : World} {L : List Ent} {g : Nat} {te : TypeId} (h : Has (row g #[.int .u8 2, .int .i64 127, .int .i64 2, .slice none 0 0] te) L) : RdM w0 L asC 4 (some ⟨g, 0, none⟩) 1 [aw18] := RdM.ofLit (m := [aw18]) h rfl asC_len
theorem aw18_ok (w : World) : AsOk w aw18 := ⟨by decide, by decide, by decide, RdS.nil _ _ _ _, Nat.le_refl _, by simp [aw18, maxLen], by simp [aw18]⟩
set_option maxRecDepth 100000 in
theorem aw18_reads : greads [aw18] 128 2 = ([0, 1], 0) := by kernel_rfl

section
variable {w0 w : World} {L : List Ent} {A : Option Addr} {n c : Nat} {l : List Ast}
set_option maxHeartbeats 800000 in
set_option maxRecDepth 100000 in
theorem awake18K (K : Known w0 w L) : Calls Try.prog 15 #[] w fun e w' => e = .returned (.bool true) ∧ Known w0 w' L := by
  go_enter Try.func15, Try.ntmps15
  go_upto_region 2 with ((first | (go_at_call 16; (with_reducible refine (greads_any (l := [aw18]) K (aw18_rd (Has.hd _ _)) (Nat.le_refl _) (by decide) (fun s hs => by rw [List.mem_singleton.1 hs]; exact aw18_ok _) 128 2).mono ?_); clear K; rintro e w1 ⟨A1, n1, c1, rfl, hn1, X1, O1, K⟩; rw [aw18_reads] at O1 hn1 ⊢; obtain rfl : n1 = 2 := hn1.out) | ((with_reducible refine at_eqnil rfl ?_); refine wpList_reads rfl (kr_eqnil rfl rfl (by kernel_rfl)) ?_) | ((with_reducible refine at_box rfl ?_); refine wpList_does rfl (kd_box K _ _ rfl (by conv => lhs; whnf)) ?_; clear K; rintro _ w1 ⟨g, rfl, K⟩; (try dsimp only [Value.cells] at K)) | ((with_reducible refine at_alloc rfl ?_); refine wpList_does rfl (kd_alloc K _ rfl rfl) ?_; clear K; rintro _ w1 ⟨g, rfl, K⟩; (try dsimp only [Value.cells] at K)) | ((with_reducible refine at_buildSlice rfl ?_); refine wpList_does rfl (kd_lits (cs := _) K _ _ _ rfl (by first | rfl | (go_simp; done) | (go_simp; rfl)) (by first | rfl | (go_simp; done) | (go_simp; rfl))) ?_; clear K; rintro _ w1 ⟨g, rfl, K⟩) | ((with_reducible refine at_load rfl ?_); first | (refine wpList_reads (by rfl) (kr_load_cell K _ _ (by rfl) (by rfl) Has.auto (by decide +kernel) (by (try simp only [List.getElem?_toArray, List.getElem?_cons_succ, List.getElem?_cons_zero]); exact rfl)) ?_) | (refine wpList_reads (by rfl) (kr_load_row K _ _ (by rfl) (by rfl) Has.auto (by decide +kernel) (by kernel_rfl)) ?_)) | ((with_reducible refine at_store rfl ?_); (first | (refine wpList_does rfl (kd_store_cell K _ _ _ rfl rfl (by conv => lhs; whnf) Repl.auto rfl rfl (by kernel_rfl) (by kernel_rfl) (by first | (simp only [List.setIfInBounds_toArray, List.set_cons_succ, List.set_cons_zero]; rfl) | rfl)) ?_) | (refine wpList_does rfl (kd_store_row K _ _ _ rfl rfl rfl Repl.auto (by kernel_rfl) (by kernel_rfl) (by kernel_rfl)) ?_)); clear K; intro _ w1 K; (try simp only [Act.put]))))
  have R1 := RdS.own (w0 := w0) (L := X1) (xs := [0, 1]) O1 (Seg.all X1)
  obtain ⟨b, off, rfl⟩ := R1.form (K.cov Cov.auto) (by omega)
  go_wp2_with (first | ((with_reducible refine at_load rfl ?_); first | (refine wpList_reads (by rfl) (kr_load_cell K _ _ (by rfl) (by rfl) Has.auto (by decide +kernel) (by (try simp only [List.getElem?_toArray, List.getElem?_cons_succ, List.getElem?_cons_zero]); exact rfl)) ?_) | (refine wpList_reads (by rfl) (kr_load_row K _ _ (by rfl) (by rfl) Has.auto (by decide +kernel) (by kernel_rfl)) ?_) | (refine wpList_reads (by rfl) (kr_load_fact _ _ (by rfl) (by rfl) (R1.cell (j := 0) (v := 0) (K.cov Cov.auto) (by omega) rfl rfl) (by decide +kernel)) ?_) | (refine wpList_reads (by rfl) (kr_load_fact _ _ (by rfl) (by rfl) (R1.cell (j := 1) (v := 1) (K.cov Cov.auto) (by omega) rfl rfl) (by decide +kernel)) ?_)))
  go_ret
  exact ⟨rfl, K.cov Cov.auto⟩

set_option maxHeartbeats 800000 in
set_option maxRecDepth 100000 in
theorem graphReads_any (K : Known w0 w L) (R : RdM w0 [] asC 4 A n l) (hc : n ≤ c) (hs : ∀ s ∈ l, AsOk w0 s) (block many : Int) : Calls Try.prog 3 #[.slice A n c, .int .i64 block, .int .i64 many] w fun e w' => e = .returned (.bool true) ∧ Known w0 w' L := by
  cases hg : greatA l
  · have HG := Lib.hid hg
    have hgn := greatA_no hg
    have hl := R.len
    clear hg
    by_cases q0 : 200 < many
    · have b0 : decide (200 < many) = true := decide_eq_true q0
      by_cases q1 : many ≤ 4096
      · have b1 : decide (many ≤ 4096) = true := decide_eq_true q1
        go_enter Try.func3, Try.ntmps3
        go_wp2_with (first | (go_at_call 14; (with_reducible refine (agreat_any K (R.cov (Cov.nil _))).mono ?_); rintro e w' ⟨rfl, rfl⟩; rw [HG.out]) | (go_at_call 15; (with_reducible refine (awake18K K).mono ?_); clear K; rintro e w1 ⟨rfl, K⟩))
        go_ret
        exact ⟨rfl, K⟩
      · have b1 : decide (many ≤ 4096) = false := decide_eq_false q1
        obtain ⟨res, hres⟩ : ∃ res, res = greads l block many := ⟨_, rfl⟩
        have HRES := Lib.hid hres
        have HLE := Lib.hid (show res.1.length ≤ 4096 by rw [hres]; exact greads_len l block many)
        have hn6 : n ≤ 60 := by omega
        clear hres hl
        go_enter Try.func3, Try.ntmps3
        go_upto_region 5 with ((first | (go_at_call 14; (with_reducible refine (agreat_any K (R.cov (Cov.nil _))).mono ?_); rintro e w' ⟨rfl, rfl⟩; rw [HG.out]) | (go_at_call 16; (with_reducible refine (greads_any K (R.cov (Cov.nil _)) hc (by omega) hs _ _).mono ?_); clear K; rintro e w1 ⟨A1, n1, c1, rfl, hn1, X1, O1, K⟩; rw [← HRES.out] at O1 hn1 ⊢) | (go_at_call 17; (with_reducible refine (rgreads_any K (R.cov (Cov.nil _)) hc (by omega) _ _).mono ?_); clear K; rintro e w1 ⟨A2, n2, c2, rfl, hn2, X2, O2, K⟩; rw [← HRES.out] at O2 hn2 ⊢; obtain rfl : n1 = n2 := hn1.out.trans hn2.out.symm)))
        have hc1 := O1.le
        have hc2 := O2.le
        have hn9 : n1 ≤ 1000000000 := by have := hn1.out; have := HLE.out; omega
        go_wp2_with (first | (go_at_call 18; (with_reducible refine (rsame_any K (RdS.own (L := _) O1 Seg.auto) (RdS.own (L := _) O2 Seg.auto) hc1 hc2 hn9).mono ?_); clear K; rintro e w1 ⟨rfl, K⟩) | (go_at_call 15; (with_reducible refine (awake18K K).mono ?_); clear K; rintro e w1 ⟨rfl, K⟩))
        go_ret
        exact ⟨rfl, K.cov Cov.auto⟩
    · have b0 : decide (200 < many) = false := decide_eq_false q0
      obtain ⟨res, hres⟩ : ∃ res, res = greads l block many := ⟨_, rfl⟩
      have HRES := Lib.hid hres
      have HLE := Lib.hid (show res.1.length ≤ 4096 by rw [hres]; exact greads_len l block many)
      have hn6 : n ≤ 60 := by omega
      clear hres hl
      go_enter Try.func3, Try.ntmps3
      go_upto_region 5 with ((first | (go_at_call 14; (with_reducible refine (agreat_any K (R.cov (Cov.nil _))).mono ?_); rintro e w' ⟨rfl, rfl⟩; rw [HG.out]) | (go_at_call 16; (with_reducible refine (greads_any K (R.cov (Cov.nil _)) hc (by omega) hs _ _).mono ?_); clear K; rintro e w1 ⟨A1, n1, c1, rfl, hn1, X1, O1, K⟩; rw [← HRES.out] at O1 hn1 ⊢) | (go_at_call 17; (with_reducible refine (rgreads_any K (R.cov (Cov.nil _)) hc (by omega) _ _).mono ?_); clear K; rintro e w1 ⟨A2, n2, c2, rfl, hn2, X2, O2, K⟩; rw [← HRES.out] at O2 hn2 ⊢; obtain rfl : n1 = n2 := hn1.out.trans hn2.out.symm)))
      have hc1 := O1.le
      have hc2 := O2.le
      have hn9 : n1 ≤ 1000000000 := by have := hn1.out; have := HLE.out; omega
      go_wp2_with (first | (go_at_call 18; (with_reducible refine (rsame_any K (RdS.own (L := _) O1 Seg.auto) (RdS.own (L := _) O2 Seg.auto) hc1 hc2 hn9).mono ?_); clear K; rintro e w1 ⟨rfl, K⟩) | (go_at_call 15; (with_reducible refine (awake18K K).mono ?_); clear K; rintro e w1 ⟨rfl, K⟩))
      go_ret
      exact ⟨rfl, K.cov Cov.auto⟩
  · have HG := Lib.hid hg
    clear hg
    go_enter Try.func3, Try.ntmps3
    go_wp2_with (first | (go_at_call 14; (with_reducible refine (agreat_any K (R.cov (Cov.nil _))).mono ?_); rintro e w' ⟨rfl, rfl⟩; rw [HG.out]) | (go_at_call 15; (with_reducible refine (awake18K K).mono ?_); clear K; rintro e w1 ⟨rfl, K⟩))
    go_ret
    exact ⟨rfl, K⟩
end
end Go.Proofs.Ytffednkdmkohdaa
