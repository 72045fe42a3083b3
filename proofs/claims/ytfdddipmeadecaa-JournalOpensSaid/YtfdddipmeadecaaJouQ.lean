/-
  drogherlaw24: JournalOpens (walk).
-/
import Derived.Test.YtfdddipmeadecaaJouP
import Derived.Test.YtfdddipmeadecaaJouL
set_option linter.unusedVariables false
set_option linter.unusedSimpArgs false
namespace Go.Proofs.Ytfdddipmeadecaa
open Go.RowKit
/-- two sectors written -/
theorem dw_first (xs : List Int) (h : xs.length = 128) : dwrite (Dev.new 128 4) 0 xs = (0, ⟨128, 4, [], [(0, ⟨xs, false⟩)], false, 0, -1, 1⟩) := by
  rw [dwrite, if_neg (by simp [dmay, Dev.new]), if_neg (by rw [h]; simp [Dev.new]), if_neg (by simp [Dev.new])]
  rfl
theorem dw_second (f : Face) (ys : List Int) (h : ys.length = 128) : dwrite ⟨128, 4, [], [(0, f)], false, 0, -1, 1⟩ 1 ys = (0, ⟨128, 4, [], [(0, f), (1, ⟨ys, false⟩)], false, 0, -1, 2⟩) := by
  rw [dwrite, if_neg (by simp [dmay, Dev.new]), if_neg (by rw [h]; simp [Dev.new]), if_neg (by simp [Dev.new])]
  rfl

section
variable {w0 w : World} {L : List Ent} {A B : Option Addr} {n c m d : Nat} {xs ys : List Int} {t : Int}
theorem devNewJ (w0 : World) : RefIs w0 [] (Dev.new 128 4) none 0 0 none 0 0 := ⟨RdM.nil _ _ _ _ _, RdM.nil _ _ _ _ _, Nat.le_refl _, Nat.le_refl _, devNew_ok (by omega) (by omega)⟩
set_option maxRecDepth 100000 in
theorem rnew_raw (K : Known w0 w L) : Calls Try.prog 13 #[.int .i64 128, .int .i64 4] w fun e w' => e = .returned (.agg #[.int .i64 128, .int .i64 4, .slice none 0 0, .slice none 0 0, .bool false, .int .i64 0, .int .i64 (-1), .int .u64 0]) ∧ Known w0 w' L := by
  go_enter Try.func13, Try.ntmps13
  go_wp2_with (first | ((with_reducible refine at_slot (N := 4) rfl ?_); (with_reducible refine at_alloc rfl ?_); refine wpList_does rfl (kd_alloc (z := (.agg #[.int .i64 0, .int .i64 0, .slice none 0 0, .slice none 0 0, .bool false, .int .i64 0, .int .i64 0, .int .u64 0])) K _ rfl (by kernel_rfl)) ?_; clear K; rintro _ w1 ⟨gr, rfl, K⟩; (try dsimp only [Value.cells] at K)) | ((with_reducible refine at_eqnil rfl ?_); refine wpList_reads rfl (kr_eqnil rfl rfl (by kernel_rfl)) ?_) | ((with_reducible refine at_box rfl ?_); refine wpList_does rfl (kd_box K _ _ rfl (by conv => lhs; whnf)) ?_; clear K; rintro _ w1 ⟨g, rfl, K⟩; (try dsimp only [Value.cells] at K)) | ((with_reducible refine at_alloc rfl ?_); refine wpList_does rfl (kd_alloc K _ rfl rfl) ?_; clear K; rintro _ w1 ⟨g, rfl, K⟩; (try dsimp only [Value.cells] at K)) | ((with_reducible refine at_buildSlice rfl ?_); refine wpList_does rfl (kd_lits (cs := _) K _ _ _ rfl (by first | rfl | (go_simp; done) | (go_simp; rfl)) (by first | rfl | (go_simp; done) | (go_simp; rfl))) ?_; clear K; rintro _ w1 ⟨g, rfl, K⟩) | ((with_reducible refine at_load rfl ?_); first | (refine wpList_reads (by rfl) (kr_load_cell K _ _ (by rfl) (by rfl) Has.auto (by decide +kernel) (by (try simp only [List.getElem?_toArray, List.getElem?_cons_succ, List.getElem?_cons_zero]); exact rfl)) ?_) | (refine wpList_reads (by rfl) (kr_load_row K _ _ (by rfl) (by rfl) Has.auto (by decide +kernel) (by kernel_rfl)) ?_)) | ((with_reducible refine at_store rfl ?_); (first | (refine wpList_does rfl (kd_store_cell K _ _ _ rfl rfl (by conv => lhs; whnf) Repl.auto rfl rfl (by kernel_rfl) (by kernel_rfl) (by first | (simp only [List.setIfInBounds_toArray, List.set_cons_succ, List.set_cons_zero]; rfl) | rfl)) ?_) | (refine wpList_does rfl (kd_store_row K _ _ _ rfl rfl rfl Repl.auto (by kernel_rfl) (by kernel_rfl) (by kernel_rfl)) ?_)); clear K; intro _ w1 K; (try simp only [Act.put])))
  exact bodyPost_cellK K (by rfl) (by rfl) Has.auto (by kernel_rfl) (by kernel_rfl) rfl ⟨rfl, K.cov Cov.auto⟩
theorem rnew_J (K : Known w0 w L) : Calls Try.prog 13 #[.int .i64 128, .int .i64 4] w fun e w' => e = .returned (.agg #[.int .i64 (((Dev.new 128 4)).size : Nat), .int .i64 (((Dev.new 128 4)).count : Nat), .slice none 0 0, .slice none 0 0, .bool ((Dev.new 128 4)).off, .int .i64 ((Dev.new 128 4)).offs, .int .i64 ((Dev.new 128 4)).fuse, .int .u64 ((Dev.new 128 4)).writes]) ∧ Known w0 w' L := rnew_raw K
set_option maxHeartbeats 3200000 in
set_option maxRecDepth 100000 in
theorem journalOpens_any (K : Known w0 w L) (RX : RdS w0 [] .u8 A n xs) (hcx : n ≤ c) (hbx : ∀ v ∈ xs, 0 ≤ v ∧ v ≤ 255) (RY : RdS w0 [] .u8 B m ys) (hcy : m ≤ d) (hby : ∀ v ∈ ys, 0 ≤ v ∧ v ≤ 255) (ht : 0 ≤ t ∧ t ≤ 255) : Calls Try.prog 4 #[.slice A n c, .slice B m d, .int .u8 t] w fun e w' => e = .returned (.bool true) ∧ Known w0 w' L := by
  by_cases hn : n = 128
  rotate_left
  · have e1 : ((n : Int) == 128) = false := by simpa using (show ¬ (n : Int) = 128 by omega)
    go_enter Try.func4, Try.ntmps4
    go_wp2_with (first | (go_at_call 9; (with_reducible refine (awake24K K).mono ?_); clear K; rintro e w1 ⟨rfl, K⟩))
    go_ret
    exact ⟨rfl, K.cov Cov.auto⟩
  by_cases hm : m = 128
  rotate_left
  · have e1 : ((m : Int) == 128) = false := by simpa using (show ¬ (m : Int) = 128 by omega)
    subst hn
    go_enter Try.func4, Try.ntmps4
    go_wp2_with (first | (go_at_call 9; (with_reducible refine (awake24K K).mono ?_); clear K; rintro e w1 ⟨rfl, K⟩))
    go_ret
    exact ⟨rfl, K.cov Cov.auto⟩
  subst hn hm
  have HBX := Lib.hid hbx
  have HBY := Lib.hid hby
  obtain ⟨D1, hD1⟩ : ∃ D1 : Dev, D1 = ⟨128, 4, [], [(0, ⟨xs, false⟩)], false, 0, -1, 1⟩ := ⟨_, rfl⟩
  obtain ⟨D2, hD2⟩ : ∃ D2 : Dev, D2 = ⟨128, 4, [], [(0, ⟨xs, false⟩), (1, ⟨ys, false⟩)], false, 0, -1, 2⟩ := ⟨_, rfl⟩
  have HW0 := Lib.hid (show dwrite (Dev.new 128 4) 0 xs = (0, D1) by rw [hD1]; exact dw_first xs RX.len)
  have HW1 := Lib.hid (show dwrite D1 1 ys = (0, D2) by rw [hD1, hD2]; exact dw_second ⟨xs, false⟩ ys RY.len)
  have HZ := Lib.hid (show (Dev.new 128 4).offs < 1000000000000 ∧ (Dev.new 128 4).writes < 1000000000000 ∧ D1.offs < 1000000000000 ∧ D1.writes < 1000000000000 ∧ D2.offs < 1000000000000 by rw [hD1, hD2]; exact ⟨by decide, by decide, (show (0 : Int) < 1000000000000 by decide), (show (1 : Int) < 1000000000000 by decide), (show (0 : Int) < 1000000000000 by decide)⟩)
  have HB2 := Lib.hid (show ∀ ps, 2 ≤ (dback D2 ps).count ∧ (dback D2 ps).off = false ∧ (dback D2 ps).offs < 1000000000000 ∧ 2 ≤ (dfall (dback D2 ps)).count ∧ (dfall (dback D2 ps)).off = true by
    intro ps
    rw [hD2]
    exact ⟨(show 2 ≤ 4 by decide), rfl, (show (1 : Int) < 1000000000000 by decide), (show 2 ≤ 4 by decide), rfl⟩)
  clear hD1 hD2
  clear hbx hby
  go_enter Try.func4, Try.ntmps4
  by_cases h0 : t = 0
  · subst h0
    obtain ⟨D3, hD3⟩ : ∃ D3, dback D2 [2, 1] = D3 := ⟨_, rfl⟩
    have HB3 := Lib.hid hD3
    have h5 := HB2.out [2, 1]
    rw [hD3] at h5
    have HC3 := Lib.hid h5.1
    have HO3 := Lib.hid h5.2.1
    have HF3 := Lib.hid h5.2.2.1
    have HC4 := Lib.hid h5.2.2.2.1
    have HO4 := Lib.hid h5.2.2.2.2
    clear h5
    clear hD3
    go_upto_region 17 with ((first | (go_at_call 6; (with_reducible refine (snew_J K).mono ?_); clear K; rintro e w1 ⟨g, rfl, X0, HD0, K⟩) | (go_at_call 13; (with_reducible refine (rnew_J K).mono ?_); clear K; rintro e w1 ⟨rfl, K⟩) | ((with_reducible refine at_slot (N := 9) rfl ?_); (with_reducible refine at_alloc rfl ?_); refine wpList_does rfl (kd_alloc (z := (.agg #[.int .i64 0, .int .i64 0, .slice none 0 0, .slice none 0 0, .bool false, .int .i64 0, .int .i64 0, .int .u64 0])) K _ rfl (by kernel_rfl)) ?_; clear K; rintro _ w1 ⟨gm, rfl, K⟩; (try dsimp only [Value.cells] at K)) | (go_at_call 14; (with_reducible refine (swrite_any (K.sel (by repeat (first | with_reducible exact Sel.nil _ | with_reducible exact Sel.ap _ _ | with_reducible exact Sel.hd _ _ | with_reducible exact Sel.all _ | with_reducible apply Sel.tl | with_reducible apply Sel.sk))) HD1 1 (RY.cov (Cov.nil _)) HBY.out (by omega) HZ.out.2.2.1 HZ.out.2.2.2.1).mono ?_); clear K; rintro e w1 ⟨rfl, X2, HD2, K⟩; rw [HW1.out] at HD2) | (go_at_call 14; (with_reducible refine (swrite_any (K.sel (by repeat (first | with_reducible exact Sel.nil _ | with_reducible exact Sel.ap _ _ | with_reducible exact Sel.hd _ _ | with_reducible exact Sel.all _ | with_reducible apply Sel.tl | with_reducible apply Sel.sk))) HD0 0 (RX.cov (Cov.nil _)) HBX.out (by omega) HZ.out.1 HZ.out.2.1).mono ?_); clear K; rintro e w1 ⟨rfl, X1, HD1, K⟩; rw [HW0.out] at HD1) | ((with_reducible refine at_slot (N := 46) rfl ?_); refine wpList_reads rfl (kr_string rfl rfl ((RX.cov (Cov.nil _)).at_ _ K) Try.underlying46 Try.underlying5 Try.underlying9) ?_) | ((with_reducible refine at_slot (N := 53) rfl ?_); refine wpList_reads rfl (kr_string rfl rfl ((RY.cov (Cov.nil _)).at_ _ K) Try.underlying46 Try.underlying5 Try.underlying9) ?_) | ((with_reducible refine at_load (t := 49) rfl ?_); refine wpList_reads (by rfl) (kr_load_row K _ _ (by rfl) (by rfl) Has.auto (by kernel_rfl) (by kernel_rfl)) ?_) | (go_at_call 15; (with_reducible refine (rwrite_any K HR1 Cov.auto 1 ys HBY.out HZ.out.2.2.1 HZ.out.2.2.2.1).mono ?_); clear K; rintro e w1 ⟨B2, m2, d2, rfl, Y2, HR2, K⟩; rw [HW1.out]; rw [HW1.out] at HR2) | (go_at_call 15; (with_reducible refine (rwrite_any K (devNewJ w0) (Cov.nil _) 0 xs HBX.out HZ.out.1 HZ.out.2.1).mono ?_); clear K; rintro e w1 ⟨B1, m1, d1, rfl, Y1, HR1, K⟩; rw [HW0.out]; rw [HW0.out] at HR1) | ((with_reducible refine at_store (t := 49) rfl ?_); refine wpList_does (by rfl) (kd_store_row K _ _ _ (by rfl) (by rfl) (by rfl) Repl.auto (by kernel_rfl) (by kernel_rfl) (by kernel_rfl)) ?_; clear K; intro _ w1 K; (try simp only [Act.put])) | ((with_reducible refine at_slot (N := 57) rfl ?_); refine wpList_does rfl (kd_lits (cs := _) K _ _ _ rfl (by first | rfl | (go_simp; done) | (go_simp; rfl)) (by first | rfl | (go_simp; done) | (go_simp; rfl))) ?_; clear K; rintro _ w1 ⟨gt, rfl, K⟩) | (go_at_call 16; (with_reducible refine (sback_any (K.sel (by repeat (first | with_reducible exact Sel.nil _ | with_reducible exact Sel.ap _ _ | with_reducible exact Sel.hd _ _ | with_reducible exact Sel.all _ | with_reducible apply Sel.tl | with_reducible apply Sel.sk))) HD2 HZ.out.2.2.2.2 (Has.objRd (k := .u8) (off := 0) (n := 2) (xs := [2, 1]) Has.auto rfl rfl) (by omega) (by omega)).mono ?_); clear K; rintro e w1 ⟨rfl, X3, HD3, K⟩; rw [HB3.out] at HD3) | (go_at_call 17; (with_reducible refine (rback_any K HR2 Cov.auto HZ.out.2.2.2.2 (Has.objRd (k := .u8) (off := 0) (n := 2) (xs := [2, 1]) Has.auto rfl rfl) (by omega) (by omega)).mono ?_); clear K; rintro e w1 ⟨A3, n3, c3, B3, m3, d3, rfl, Y3, HR3, K⟩; rw [HB3.out]; rw [HB3.out] at HR3) | (go_at_call 8; (with_reducible refine (places_any K).mono ?_); clear K; rintro e w1 ⟨rfl, K⟩) | (go_at_call 7; (with_reducible refine (jopen_any (K.sel (by repeat (first | with_reducible exact Sel.nil _ | with_reducible exact Sel.ap _ _ | with_reducible exact Sel.hd _ _ | with_reducible exact Sel.all _ | with_reducible apply Sel.tl | with_reducible apply Sel.sk))) HD3 HC3.out HO3.out).mono ?_); clear K; rintro e w1 ⟨gj, gp, gq, rfl, K⟩) | ((with_reducible refine at_eqnil rfl ?_); refine wpList_reads rfl (kr_eqnil rfl rfl (by kernel_rfl)) ?_) | ((with_reducible refine at_box rfl ?_); refine wpList_does rfl (kd_box K _ _ rfl (by conv => lhs; whnf)) ?_; clear K; rintro _ w1 ⟨g, rfl, K⟩; (try dsimp only [Value.cells] at K)) | ((with_reducible refine at_alloc rfl ?_); refine wpList_does rfl (kd_alloc K _ rfl rfl) ?_; clear K; rintro _ w1 ⟨g, rfl, K⟩; (try dsimp only [Value.cells] at K)) | ((with_reducible refine at_buildSlice rfl ?_); refine wpList_does rfl (kd_lits (cs := _) K _ _ _ rfl (by first | rfl | (go_simp; done) | (go_simp; rfl)) (by first | rfl | (go_simp; done) | (go_simp; rfl))) ?_; clear K; rintro _ w1 ⟨g, rfl, K⟩) | ((with_reducible refine at_load rfl ?_); first | (refine wpList_reads (by rfl) (kr_load_cell K _ _ (by rfl) (by rfl) Has.auto (by decide +kernel) (by (try simp only [List.getElem?_toArray, List.getElem?_cons_succ, List.getElem?_cons_zero]); exact rfl)) ?_) | (refine wpList_reads (by rfl) (kr_load_row K _ _ (by rfl) (by rfl) Has.auto (by decide +kernel) (by kernel_rfl)) ?_)) | ((with_reducible refine at_store rfl ?_); (first | (refine wpList_does rfl (kd_store_cell K _ _ _ rfl rfl (by conv => lhs; whnf) Repl.auto rfl rfl (by kernel_rfl) (by kernel_rfl) (by first | (simp only [List.setIfInBounds_toArray, List.set_cons_succ, List.set_cons_zero]; rfl) | rfl)) ?_) | (refine wpList_does rfl (kd_store_row K _ _ _ rfl rfl rfl Repl.auto (by kernel_rfl) (by kernel_rfl) (by kernel_rfl)) ?_)); clear K; intro _ w1 K; (try simp only [Act.put]))))
    have HML := Lib.hid (show (lastJ D3).man.length = 32 from (stJ_ok HD3.ok 2).man)
    refine wp_region_GK K (Cov.all _) (by kernel_rfl) (by kernel_rfl) (by kernel_rfl) (fun K hHeld => ?_)
    refine wpG_takeA 0 (v := ?_) ?_ hHeld ?_
    rotate_left
    · (intro w hS; (clear hS; go_simp); try with_reducible rfl)
    try simp only [Act.put, List.setIfInBounds_toArray, List.set_cons_zero, List.set_cons_succ]
    refine wpG_takeA 1 (v := ?_) ?_ hHeld ?_
    rotate_left
    · (intro w hS; (clear hS; go_simp); try with_reducible rfl)
    try simp only [Act.put, List.setIfInBounds_toArray, List.set_cons_zero, List.set_cons_succ]
    refine wpG_takeA 2 (v := ?_) ?_ hHeld ?_
    rotate_left
    · (intro w hS; (clear hS; go_simp); try with_reducible rfl)
    try simp only [Act.put, List.setIfInBounds_toArray, List.set_cons_zero, List.set_cons_succ]
    refine wpG_takeA 3 (v := ?_) ?_ hHeld ?_
    rotate_left
    · (intro w hS; (clear hS; go_simp); try with_reducible rfl)
    try simp only [Act.put, List.setIfInBounds_toArray, List.set_cons_zero, List.set_cons_succ]
    refine wpG_takeA 4 (v := ?_) ?_ hHeld ?_
    rotate_left
    · (intro w hS; (clear hS; go_simp); try with_reducible rfl)
    try simp only [Act.put, List.setIfInBounds_toArray, List.set_cons_zero, List.set_cons_succ]
    refine wpG_takeA 5 (v := ?_) ?_ hHeld ?_
    rotate_left
    · (intro w hS; (clear hS; go_simp); try with_reducible rfl)
    try simp only [Act.put, List.setIfInBounds_toArray, List.set_cons_zero, List.set_cons_succ]
    refine wpG_takeA 6 (v := ?_) ?_ hHeld ?_
    rotate_left
    · (intro w hS; (clear hS; go_simp); try with_reducible rfl)
    try simp only [Act.put, List.setIfInBounds_toArray, List.set_cons_zero, List.set_cons_succ]
    refine wpG_takeA 7 (v := ?_) ?_ hHeld ?_
    rotate_left
    · (intro w hS; (clear hS; go_simp); try with_reducible rfl)
    try simp only [Act.put, List.setIfInBounds_toArray, List.set_cons_zero, List.set_cons_succ]
    refine wpG_takeA 9 (v := .agg #[.int .i64 ((D3).size : Nat), .int .i64 ((D3).count : Nat), .slice A3 n3 c3, .slice B3 m3 d3, .bool (D3).off, .int .i64 (D3).offs, .int .i64 (D3).fuse, .int .u64 (D3).writes]) ?_ hHeld ?_
    · (intro w hS; first | exact kr_load_row hS _ _ (by rfl) (by rfl) Has.auto (by kernel_rfl) (by kernel_rfl))
    try simp only [Act.put, List.setIfInBounds_toArray, List.set_cons_zero, List.set_cons_succ]
    refine wpG_oneA 8 (fun K9 hK => ?_)
    go_simp
    (go_at_call 10; (with_reducible refine (jlast_any K Has.auto HML.out).mono ?_); clear K; rintro e w1 ⟨rfl, K⟩)
    refine hK.out _ _ (K.cov Cov.auto) (fun hHeld => ?_)
    clear hK K9
    try simp only [Act.put, List.setIfInBounds_toArray, List.set_cons_zero, List.set_cons_succ]
    refine wpG_oneA 10 (fun K9 hK => ?_)
    go_simp
    (go_at_call 18; (with_reducible refine (rlast_any K (HR3.cov Cov.auto)).mono ?_); clear K; rintro e w1 ⟨rfl, K⟩)
    refine hK.out _ _ (K.cov Cov.auto) (fun hHeld => ?_)
    clear hK K9
    try simp only [Act.put, List.setIfInBounds_toArray, List.set_cons_zero, List.set_cons_succ]
    refine wpG_takeA 11 (v := .bool false) ?_ hHeld ?_
    · (intro w hS; first | exact kr_neqR (by rfl) (by rfl) (by rfl) HML.out rfl)
    try simp only [Act.put, List.setIfInBounds_toArray, List.set_cons_zero, List.set_cons_succ]
    refine wpG_takeA 12 (v := ?_) ?_ hHeld ?_
    rotate_left
    · (intro w hS; (clear hS; go_simp); try with_reducible rfl)
    try simp only [Act.put, List.setIfInBounds_toArray, List.set_cons_zero, List.set_cons_succ]
    refine wpG_done (by kernel_rfl) ?_
    skip
    go_wp2_with (first | (go_at_call 19; (with_reducible refine (soff_any (K.sel (by repeat (first | with_reducible exact Sel.nil _ | with_reducible exact Sel.ap _ _ | with_reducible exact Sel.hd _ _ | with_reducible exact Sel.all _ | with_reducible apply Sel.tl | with_reducible apply Sel.sk))) HD3 HF3.out).mono ?_); clear K; rintro e w1 ⟨rfl, X4, HD4, K⟩) | (go_at_call 8; (with_reducible refine (places_any K).mono ?_); clear K; rintro e w1 ⟨rfl, K⟩) | (go_at_call 7; (with_reducible refine (jopen_off (K.sel (by repeat (first | with_reducible exact Sel.nil _ | with_reducible exact Sel.ap _ _ | with_reducible exact Sel.hd _ _ | with_reducible exact Sel.all _ | with_reducible apply Sel.tl | with_reducible apply Sel.sk))) HD4 HC4.out HO4.out).mono ?_); clear K; rintro e w1 ⟨rfl, K⟩) | ((with_reducible refine at_build (t := 34) rfl ?_); refine ev_build0 rfl 34 rfl (show (Instr.build 34 #[]).run Try.prog _ = .ok (.agg mapZ) _ by kernel_rfl) ?_) | (go_at_call 7; (with_reducible refine (jopen_zero (K.sel (by repeat (first | with_reducible exact Sel.nil _ | with_reducible exact Sel.ap _ _ | with_reducible exact Sel.hd _ _ | with_reducible exact Sel.all _ | with_reducible apply Sel.tl | with_reducible apply Sel.sk))) HD4).mono ?_); clear K; rintro e w1 ⟨rfl, K⟩) | (go_at_call 9; (with_reducible refine (awake24K K).mono ?_); clear K; rintro e w1 ⟨rfl, K⟩))
    go_ret
    exact ⟨rfl, K.cov Cov.auto⟩
  by_cases h1 : t = 1
  · subst h1
    obtain ⟨D3, hD3⟩ : ∃ D3, dback D2 [1, 2] = D3 := ⟨_, rfl⟩
    have HB3 := Lib.hid hD3
    have h5 := HB2.out [1, 2]
    rw [hD3] at h5
    have HC3 := Lib.hid h5.1
    have HO3 := Lib.hid h5.2.1
    have HF3 := Lib.hid h5.2.2.1
    have HC4 := Lib.hid h5.2.2.2.1
    have HO4 := Lib.hid h5.2.2.2.2
    clear h5
    clear hD3
    go_upto_region 17 with ((first | (go_at_call 6; (with_reducible refine (snew_J K).mono ?_); clear K; rintro e w1 ⟨g, rfl, X0, HD0, K⟩) | (go_at_call 13; (with_reducible refine (rnew_J K).mono ?_); clear K; rintro e w1 ⟨rfl, K⟩) | ((with_reducible refine at_slot (N := 9) rfl ?_); (with_reducible refine at_alloc rfl ?_); refine wpList_does rfl (kd_alloc (z := (.agg #[.int .i64 0, .int .i64 0, .slice none 0 0, .slice none 0 0, .bool false, .int .i64 0, .int .i64 0, .int .u64 0])) K _ rfl (by kernel_rfl)) ?_; clear K; rintro _ w1 ⟨gm, rfl, K⟩; (try dsimp only [Value.cells] at K)) | (go_at_call 14; (with_reducible refine (swrite_any (K.sel (by repeat (first | with_reducible exact Sel.nil _ | with_reducible exact Sel.ap _ _ | with_reducible exact Sel.hd _ _ | with_reducible exact Sel.all _ | with_reducible apply Sel.tl | with_reducible apply Sel.sk))) HD1 1 (RY.cov (Cov.nil _)) HBY.out (by omega) HZ.out.2.2.1 HZ.out.2.2.2.1).mono ?_); clear K; rintro e w1 ⟨rfl, X2, HD2, K⟩; rw [HW1.out] at HD2) | (go_at_call 14; (with_reducible refine (swrite_any (K.sel (by repeat (first | with_reducible exact Sel.nil _ | with_reducible exact Sel.ap _ _ | with_reducible exact Sel.hd _ _ | with_reducible exact Sel.all _ | with_reducible apply Sel.tl | with_reducible apply Sel.sk))) HD0 0 (RX.cov (Cov.nil _)) HBX.out (by omega) HZ.out.1 HZ.out.2.1).mono ?_); clear K; rintro e w1 ⟨rfl, X1, HD1, K⟩; rw [HW0.out] at HD1) | ((with_reducible refine at_slot (N := 46) rfl ?_); refine wpList_reads rfl (kr_string rfl rfl ((RX.cov (Cov.nil _)).at_ _ K) Try.underlying46 Try.underlying5 Try.underlying9) ?_) | ((with_reducible refine at_slot (N := 53) rfl ?_); refine wpList_reads rfl (kr_string rfl rfl ((RY.cov (Cov.nil _)).at_ _ K) Try.underlying46 Try.underlying5 Try.underlying9) ?_) | ((with_reducible refine at_load (t := 49) rfl ?_); refine wpList_reads (by rfl) (kr_load_row K _ _ (by rfl) (by rfl) Has.auto (by kernel_rfl) (by kernel_rfl)) ?_) | (go_at_call 15; (with_reducible refine (rwrite_any K HR1 Cov.auto 1 ys HBY.out HZ.out.2.2.1 HZ.out.2.2.2.1).mono ?_); clear K; rintro e w1 ⟨B2, m2, d2, rfl, Y2, HR2, K⟩; rw [HW1.out]; rw [HW1.out] at HR2) | (go_at_call 15; (with_reducible refine (rwrite_any K (devNewJ w0) (Cov.nil _) 0 xs HBX.out HZ.out.1 HZ.out.2.1).mono ?_); clear K; rintro e w1 ⟨B1, m1, d1, rfl, Y1, HR1, K⟩; rw [HW0.out]; rw [HW0.out] at HR1) | ((with_reducible refine at_store (t := 49) rfl ?_); refine wpList_does (by rfl) (kd_store_row K _ _ _ (by rfl) (by rfl) (by rfl) Repl.auto (by kernel_rfl) (by kernel_rfl) (by kernel_rfl)) ?_; clear K; intro _ w1 K; (try simp only [Act.put])) | ((with_reducible refine at_slot (N := 57) rfl ?_); refine wpList_does rfl (kd_lits (cs := _) K _ _ _ rfl (by first | rfl | (go_simp; done) | (go_simp; rfl)) (by first | rfl | (go_simp; done) | (go_simp; rfl))) ?_; clear K; rintro _ w1 ⟨gt, rfl, K⟩) | (go_at_call 16; (with_reducible refine (sback_any (K.sel (by repeat (first | with_reducible exact Sel.nil _ | with_reducible exact Sel.ap _ _ | with_reducible exact Sel.hd _ _ | with_reducible exact Sel.all _ | with_reducible apply Sel.tl | with_reducible apply Sel.sk))) HD2 HZ.out.2.2.2.2 (Has.objRd (k := .u8) (off := 0) (n := 2) (xs := [1, 2]) Has.auto rfl rfl) (by omega) (by omega)).mono ?_); clear K; rintro e w1 ⟨rfl, X3, HD3, K⟩; rw [HB3.out] at HD3) | (go_at_call 17; (with_reducible refine (rback_any K HR2 Cov.auto HZ.out.2.2.2.2 (Has.objRd (k := .u8) (off := 0) (n := 2) (xs := [1, 2]) Has.auto rfl rfl) (by omega) (by omega)).mono ?_); clear K; rintro e w1 ⟨A3, n3, c3, B3, m3, d3, rfl, Y3, HR3, K⟩; rw [HB3.out]; rw [HB3.out] at HR3) | (go_at_call 8; (with_reducible refine (places_any K).mono ?_); clear K; rintro e w1 ⟨rfl, K⟩) | (go_at_call 7; (with_reducible refine (jopen_any (K.sel (by repeat (first | with_reducible exact Sel.nil _ | with_reducible exact Sel.ap _ _ | with_reducible exact Sel.hd _ _ | with_reducible exact Sel.all _ | with_reducible apply Sel.tl | with_reducible apply Sel.sk))) HD3 HC3.out HO3.out).mono ?_); clear K; rintro e w1 ⟨gj, gp, gq, rfl, K⟩) | ((with_reducible refine at_eqnil rfl ?_); refine wpList_reads rfl (kr_eqnil rfl rfl (by kernel_rfl)) ?_) | ((with_reducible refine at_box rfl ?_); refine wpList_does rfl (kd_box K _ _ rfl (by conv => lhs; whnf)) ?_; clear K; rintro _ w1 ⟨g, rfl, K⟩; (try dsimp only [Value.cells] at K)) | ((with_reducible refine at_alloc rfl ?_); refine wpList_does rfl (kd_alloc K _ rfl rfl) ?_; clear K; rintro _ w1 ⟨g, rfl, K⟩; (try dsimp only [Value.cells] at K)) | ((with_reducible refine at_buildSlice rfl ?_); refine wpList_does rfl (kd_lits (cs := _) K _ _ _ rfl (by first | rfl | (go_simp; done) | (go_simp; rfl)) (by first | rfl | (go_simp; done) | (go_simp; rfl))) ?_; clear K; rintro _ w1 ⟨g, rfl, K⟩) | ((with_reducible refine at_load rfl ?_); first | (refine wpList_reads (by rfl) (kr_load_cell K _ _ (by rfl) (by rfl) Has.auto (by decide +kernel) (by (try simp only [List.getElem?_toArray, List.getElem?_cons_succ, List.getElem?_cons_zero]); exact rfl)) ?_) | (refine wpList_reads (by rfl) (kr_load_row K _ _ (by rfl) (by rfl) Has.auto (by decide +kernel) (by kernel_rfl)) ?_)) | ((with_reducible refine at_store rfl ?_); (first | (refine wpList_does rfl (kd_store_cell K _ _ _ rfl rfl (by conv => lhs; whnf) Repl.auto rfl rfl (by kernel_rfl) (by kernel_rfl) (by first | (simp only [List.setIfInBounds_toArray, List.set_cons_succ, List.set_cons_zero]; rfl) | rfl)) ?_) | (refine wpList_does rfl (kd_store_row K _ _ _ rfl rfl rfl Repl.auto (by kernel_rfl) (by kernel_rfl) (by kernel_rfl)) ?_)); clear K; intro _ w1 K; (try simp only [Act.put]))))
    have HML := Lib.hid (show (lastJ D3).man.length = 32 from (stJ_ok HD3.ok 2).man)
    refine wp_region_GK K (Cov.all _) (by kernel_rfl) (by kernel_rfl) (by kernel_rfl) (fun K hHeld => ?_)
    refine wpG_takeA 0 (v := ?_) ?_ hHeld ?_
    rotate_left
    · (intro w hS; (clear hS; go_simp); try with_reducible rfl)
    try simp only [Act.put, List.setIfInBounds_toArray, List.set_cons_zero, List.set_cons_succ]
    refine wpG_takeA 1 (v := ?_) ?_ hHeld ?_
    rotate_left
    · (intro w hS; (clear hS; go_simp); try with_reducible rfl)
    try simp only [Act.put, List.setIfInBounds_toArray, List.set_cons_zero, List.set_cons_succ]
    refine wpG_takeA 2 (v := ?_) ?_ hHeld ?_
    rotate_left
    · (intro w hS; (clear hS; go_simp); try with_reducible rfl)
    try simp only [Act.put, List.setIfInBounds_toArray, List.set_cons_zero, List.set_cons_succ]
    refine wpG_takeA 3 (v := ?_) ?_ hHeld ?_
    rotate_left
    · (intro w hS; (clear hS; go_simp); try with_reducible rfl)
    try simp only [Act.put, List.setIfInBounds_toArray, List.set_cons_zero, List.set_cons_succ]
    refine wpG_takeA 4 (v := ?_) ?_ hHeld ?_
    rotate_left
    · (intro w hS; (clear hS; go_simp); try with_reducible rfl)
    try simp only [Act.put, List.setIfInBounds_toArray, List.set_cons_zero, List.set_cons_succ]
    refine wpG_takeA 5 (v := ?_) ?_ hHeld ?_
    rotate_left
    · (intro w hS; (clear hS; go_simp); try with_reducible rfl)
    try simp only [Act.put, List.setIfInBounds_toArray, List.set_cons_zero, List.set_cons_succ]
    refine wpG_takeA 6 (v := ?_) ?_ hHeld ?_
    rotate_left
    · (intro w hS; (clear hS; go_simp); try with_reducible rfl)
    try simp only [Act.put, List.setIfInBounds_toArray, List.set_cons_zero, List.set_cons_succ]
    refine wpG_takeA 7 (v := ?_) ?_ hHeld ?_
    rotate_left
    · (intro w hS; (clear hS; go_simp); try with_reducible rfl)
    try simp only [Act.put, List.setIfInBounds_toArray, List.set_cons_zero, List.set_cons_succ]
    refine wpG_takeA 9 (v := .agg #[.int .i64 ((D3).size : Nat), .int .i64 ((D3).count : Nat), .slice A3 n3 c3, .slice B3 m3 d3, .bool (D3).off, .int .i64 (D3).offs, .int .i64 (D3).fuse, .int .u64 (D3).writes]) ?_ hHeld ?_
    · (intro w hS; first | exact kr_load_row hS _ _ (by rfl) (by rfl) Has.auto (by kernel_rfl) (by kernel_rfl))
    try simp only [Act.put, List.setIfInBounds_toArray, List.set_cons_zero, List.set_cons_succ]
    refine wpG_oneA 8 (fun K9 hK => ?_)
    go_simp
    (go_at_call 10; (with_reducible refine (jlast_any K Has.auto HML.out).mono ?_); clear K; rintro e w1 ⟨rfl, K⟩)
    refine hK.out _ _ (K.cov Cov.auto) (fun hHeld => ?_)
    clear hK K9
    try simp only [Act.put, List.setIfInBounds_toArray, List.set_cons_zero, List.set_cons_succ]
    refine wpG_oneA 10 (fun K9 hK => ?_)
    go_simp
    (go_at_call 18; (with_reducible refine (rlast_any K (HR3.cov Cov.auto)).mono ?_); clear K; rintro e w1 ⟨rfl, K⟩)
    refine hK.out _ _ (K.cov Cov.auto) (fun hHeld => ?_)
    clear hK K9
    try simp only [Act.put, List.setIfInBounds_toArray, List.set_cons_zero, List.set_cons_succ]
    refine wpG_takeA 11 (v := .bool false) ?_ hHeld ?_
    · (intro w hS; first | exact kr_neqR (by rfl) (by rfl) (by rfl) HML.out rfl)
    try simp only [Act.put, List.setIfInBounds_toArray, List.set_cons_zero, List.set_cons_succ]
    refine wpG_takeA 12 (v := ?_) ?_ hHeld ?_
    rotate_left
    · (intro w hS; (clear hS; go_simp); try with_reducible rfl)
    try simp only [Act.put, List.setIfInBounds_toArray, List.set_cons_zero, List.set_cons_succ]
    refine wpG_done (by kernel_rfl) ?_
    skip
    go_wp2_with (first | (go_at_call 19; (with_reducible refine (soff_any (K.sel (by repeat (first | with_reducible exact Sel.nil _ | with_reducible exact Sel.ap _ _ | with_reducible exact Sel.hd _ _ | with_reducible exact Sel.all _ | with_reducible apply Sel.tl | with_reducible apply Sel.sk))) HD3 HF3.out).mono ?_); clear K; rintro e w1 ⟨rfl, X4, HD4, K⟩) | (go_at_call 8; (with_reducible refine (places_any K).mono ?_); clear K; rintro e w1 ⟨rfl, K⟩) | (go_at_call 7; (with_reducible refine (jopen_off (K.sel (by repeat (first | with_reducible exact Sel.nil _ | with_reducible exact Sel.ap _ _ | with_reducible exact Sel.hd _ _ | with_reducible exact Sel.all _ | with_reducible apply Sel.tl | with_reducible apply Sel.sk))) HD4 HC4.out HO4.out).mono ?_); clear K; rintro e w1 ⟨rfl, K⟩) | ((with_reducible refine at_build (t := 34) rfl ?_); refine ev_build0 rfl 34 rfl (show (Instr.build 34 #[]).run Try.prog _ = .ok (.agg mapZ) _ by kernel_rfl) ?_) | (go_at_call 7; (with_reducible refine (jopen_zero (K.sel (by repeat (first | with_reducible exact Sel.nil _ | with_reducible exact Sel.ap _ _ | with_reducible exact Sel.hd _ _ | with_reducible exact Sel.all _ | with_reducible apply Sel.tl | with_reducible apply Sel.sk))) HD4).mono ?_); clear K; rintro e w1 ⟨rfl, K⟩) | (go_at_call 9; (with_reducible refine (awake24K K).mono ?_); clear K; rintro e w1 ⟨rfl, K⟩))
    go_ret
    exact ⟨rfl, K.cov Cov.auto⟩
  have h2 : ¬ t < 2 := by omega
  clear h0 h1
  obtain ⟨D3, hD3⟩ : ∃ D3, dback D2 [1, 1] = D3 := ⟨_, rfl⟩
  have HB3 := Lib.hid hD3
  have h5 := HB2.out [1, 1]
  rw [hD3] at h5
  have HC3 := Lib.hid h5.1
  have HO3 := Lib.hid h5.2.1
  have HF3 := Lib.hid h5.2.2.1
  have HC4 := Lib.hid h5.2.2.2.1
  have HO4 := Lib.hid h5.2.2.2.2
  clear h5
  clear hD3
  go_upto_region 17 with ((first | (go_at_call 6; (with_reducible refine (snew_J K).mono ?_); clear K; rintro e w1 ⟨g, rfl, X0, HD0, K⟩) | (go_at_call 13; (with_reducible refine (rnew_J K).mono ?_); clear K; rintro e w1 ⟨rfl, K⟩) | ((with_reducible refine at_slot (N := 9) rfl ?_); (with_reducible refine at_alloc rfl ?_); refine wpList_does rfl (kd_alloc (z := (.agg #[.int .i64 0, .int .i64 0, .slice none 0 0, .slice none 0 0, .bool false, .int .i64 0, .int .i64 0, .int .u64 0])) K _ rfl (by kernel_rfl)) ?_; clear K; rintro _ w1 ⟨gm, rfl, K⟩; (try dsimp only [Value.cells] at K)) | (go_at_call 14; (with_reducible refine (swrite_any (K.sel (by repeat (first | with_reducible exact Sel.nil _ | with_reducible exact Sel.ap _ _ | with_reducible exact Sel.hd _ _ | with_reducible exact Sel.all _ | with_reducible apply Sel.tl | with_reducible apply Sel.sk))) HD1 1 (RY.cov (Cov.nil _)) HBY.out (by omega) HZ.out.2.2.1 HZ.out.2.2.2.1).mono ?_); clear K; rintro e w1 ⟨rfl, X2, HD2, K⟩; rw [HW1.out] at HD2) | (go_at_call 14; (with_reducible refine (swrite_any (K.sel (by repeat (first | with_reducible exact Sel.nil _ | with_reducible exact Sel.ap _ _ | with_reducible exact Sel.hd _ _ | with_reducible exact Sel.all _ | with_reducible apply Sel.tl | with_reducible apply Sel.sk))) HD0 0 (RX.cov (Cov.nil _)) HBX.out (by omega) HZ.out.1 HZ.out.2.1).mono ?_); clear K; rintro e w1 ⟨rfl, X1, HD1, K⟩; rw [HW0.out] at HD1) | ((with_reducible refine at_slot (N := 46) rfl ?_); refine wpList_reads rfl (kr_string rfl rfl ((RX.cov (Cov.nil _)).at_ _ K) Try.underlying46 Try.underlying5 Try.underlying9) ?_) | ((with_reducible refine at_slot (N := 53) rfl ?_); refine wpList_reads rfl (kr_string rfl rfl ((RY.cov (Cov.nil _)).at_ _ K) Try.underlying46 Try.underlying5 Try.underlying9) ?_) | ((with_reducible refine at_load (t := 49) rfl ?_); refine wpList_reads (by rfl) (kr_load_row K _ _ (by rfl) (by rfl) Has.auto (by kernel_rfl) (by kernel_rfl)) ?_) | (go_at_call 15; (with_reducible refine (rwrite_any K HR1 Cov.auto 1 ys HBY.out HZ.out.2.2.1 HZ.out.2.2.2.1).mono ?_); clear K; rintro e w1 ⟨B2, m2, d2, rfl, Y2, HR2, K⟩; rw [HW1.out]; rw [HW1.out] at HR2) | (go_at_call 15; (with_reducible refine (rwrite_any K (devNewJ w0) (Cov.nil _) 0 xs HBX.out HZ.out.1 HZ.out.2.1).mono ?_); clear K; rintro e w1 ⟨B1, m1, d1, rfl, Y1, HR1, K⟩; rw [HW0.out]; rw [HW0.out] at HR1) | ((with_reducible refine at_store (t := 49) rfl ?_); refine wpList_does (by rfl) (kd_store_row K _ _ _ (by rfl) (by rfl) (by rfl) Repl.auto (by kernel_rfl) (by kernel_rfl) (by kernel_rfl)) ?_; clear K; intro _ w1 K; (try simp only [Act.put])) | ((with_reducible refine at_slot (N := 57) rfl ?_); refine wpList_does rfl (kd_lits (cs := _) K _ _ _ rfl (by first | rfl | (go_simp; done) | (go_simp; rfl)) (by first | rfl | (go_simp; done) | (go_simp; rfl))) ?_; clear K; rintro _ w1 ⟨gt, rfl, K⟩) | (go_at_call 16; (with_reducible refine (sback_any (K.sel (by repeat (first | with_reducible exact Sel.nil _ | with_reducible exact Sel.ap _ _ | with_reducible exact Sel.hd _ _ | with_reducible exact Sel.all _ | with_reducible apply Sel.tl | with_reducible apply Sel.sk))) HD2 HZ.out.2.2.2.2 (Has.objRd (k := .u8) (off := 0) (n := 2) (xs := [1, 1]) Has.auto rfl rfl) (by omega) (by omega)).mono ?_); clear K; rintro e w1 ⟨rfl, X3, HD3, K⟩; rw [HB3.out] at HD3) | (go_at_call 17; (with_reducible refine (rback_any K HR2 Cov.auto HZ.out.2.2.2.2 (Has.objRd (k := .u8) (off := 0) (n := 2) (xs := [1, 1]) Has.auto rfl rfl) (by omega) (by omega)).mono ?_); clear K; rintro e w1 ⟨A3, n3, c3, B3, m3, d3, rfl, Y3, HR3, K⟩; rw [HB3.out]; rw [HB3.out] at HR3) | (go_at_call 8; (with_reducible refine (places_any K).mono ?_); clear K; rintro e w1 ⟨rfl, K⟩) | (go_at_call 7; (with_reducible refine (jopen_any (K.sel (by repeat (first | with_reducible exact Sel.nil _ | with_reducible exact Sel.ap _ _ | with_reducible exact Sel.hd _ _ | with_reducible exact Sel.all _ | with_reducible apply Sel.tl | with_reducible apply Sel.sk))) HD3 HC3.out HO3.out).mono ?_); clear K; rintro e w1 ⟨gj, gp, gq, rfl, K⟩) | ((with_reducible refine at_eqnil rfl ?_); refine wpList_reads rfl (kr_eqnil rfl rfl (by kernel_rfl)) ?_) | ((with_reducible refine at_box rfl ?_); refine wpList_does rfl (kd_box K _ _ rfl (by conv => lhs; whnf)) ?_; clear K; rintro _ w1 ⟨g, rfl, K⟩; (try dsimp only [Value.cells] at K)) | ((with_reducible refine at_alloc rfl ?_); refine wpList_does rfl (kd_alloc K _ rfl rfl) ?_; clear K; rintro _ w1 ⟨g, rfl, K⟩; (try dsimp only [Value.cells] at K)) | ((with_reducible refine at_buildSlice rfl ?_); refine wpList_does rfl (kd_lits (cs := _) K _ _ _ rfl (by first | rfl | (go_simp; done) | (go_simp; rfl)) (by first | rfl | (go_simp; done) | (go_simp; rfl))) ?_; clear K; rintro _ w1 ⟨g, rfl, K⟩) | ((with_reducible refine at_load rfl ?_); first | (refine wpList_reads (by rfl) (kr_load_cell K _ _ (by rfl) (by rfl) Has.auto (by decide +kernel) (by (try simp only [List.getElem?_toArray, List.getElem?_cons_succ, List.getElem?_cons_zero]); exact rfl)) ?_) | (refine wpList_reads (by rfl) (kr_load_row K _ _ (by rfl) (by rfl) Has.auto (by decide +kernel) (by kernel_rfl)) ?_)) | ((with_reducible refine at_store rfl ?_); (first | (refine wpList_does rfl (kd_store_cell K _ _ _ rfl rfl (by conv => lhs; whnf) Repl.auto rfl rfl (by kernel_rfl) (by kernel_rfl) (by first | (simp only [List.setIfInBounds_toArray, List.set_cons_succ, List.set_cons_zero]; rfl) | rfl)) ?_) | (refine wpList_does rfl (kd_store_row K _ _ _ rfl rfl rfl Repl.auto (by kernel_rfl) (by kernel_rfl) (by kernel_rfl)) ?_)); clear K; intro _ w1 K; (try simp only [Act.put]))))
  have HML := Lib.hid (show (lastJ D3).man.length = 32 from (stJ_ok HD3.ok 2).man)
  refine wp_region_GK K (Cov.all _) (by kernel_rfl) (by kernel_rfl) (by kernel_rfl) (fun K hHeld => ?_)
  refine wpG_takeA 0 (v := ?_) ?_ hHeld ?_
  rotate_left
  · (intro w hS; (clear hS; go_simp); try with_reducible rfl)
  try simp only [Act.put, List.setIfInBounds_toArray, List.set_cons_zero, List.set_cons_succ]
  refine wpG_takeA 1 (v := ?_) ?_ hHeld ?_
  rotate_left
  · (intro w hS; (clear hS; go_simp); try with_reducible rfl)
  try simp only [Act.put, List.setIfInBounds_toArray, List.set_cons_zero, List.set_cons_succ]
  refine wpG_takeA 2 (v := ?_) ?_ hHeld ?_
  rotate_left
  · (intro w hS; (clear hS; go_simp); try with_reducible rfl)
  try simp only [Act.put, List.setIfInBounds_toArray, List.set_cons_zero, List.set_cons_succ]
  refine wpG_takeA 3 (v := ?_) ?_ hHeld ?_
  rotate_left
  · (intro w hS; (clear hS; go_simp); try with_reducible rfl)
  try simp only [Act.put, List.setIfInBounds_toArray, List.set_cons_zero, List.set_cons_succ]
  refine wpG_takeA 4 (v := ?_) ?_ hHeld ?_
  rotate_left
  · (intro w hS; (clear hS; go_simp); try with_reducible rfl)
  try simp only [Act.put, List.setIfInBounds_toArray, List.set_cons_zero, List.set_cons_succ]
  refine wpG_takeA 5 (v := ?_) ?_ hHeld ?_
  rotate_left
  · (intro w hS; (clear hS; go_simp); try with_reducible rfl)
  try simp only [Act.put, List.setIfInBounds_toArray, List.set_cons_zero, List.set_cons_succ]
  refine wpG_takeA 6 (v := ?_) ?_ hHeld ?_
  rotate_left
  · (intro w hS; (clear hS; go_simp); try with_reducible rfl)
  try simp only [Act.put, List.setIfInBounds_toArray, List.set_cons_zero, List.set_cons_succ]
  refine wpG_takeA 7 (v := ?_) ?_ hHeld ?_
  rotate_left
  · (intro w hS; (clear hS; go_simp); try with_reducible rfl)
  try simp only [Act.put, List.setIfInBounds_toArray, List.set_cons_zero, List.set_cons_succ]
  refine wpG_takeA 9 (v := .agg #[.int .i64 ((D3).size : Nat), .int .i64 ((D3).count : Nat), .slice A3 n3 c3, .slice B3 m3 d3, .bool (D3).off, .int .i64 (D3).offs, .int .i64 (D3).fuse, .int .u64 (D3).writes]) ?_ hHeld ?_
  · (intro w hS; first | exact kr_load_row hS _ _ (by rfl) (by rfl) Has.auto (by kernel_rfl) (by kernel_rfl))
  try simp only [Act.put, List.setIfInBounds_toArray, List.set_cons_zero, List.set_cons_succ]
  refine wpG_oneA 8 (fun K9 hK => ?_)
  go_simp
  (go_at_call 10; (with_reducible refine (jlast_any K Has.auto HML.out).mono ?_); clear K; rintro e w1 ⟨rfl, K⟩)
  refine hK.out _ _ (K.cov Cov.auto) (fun hHeld => ?_)
  clear hK K9
  try simp only [Act.put, List.setIfInBounds_toArray, List.set_cons_zero, List.set_cons_succ]
  refine wpG_oneA 10 (fun K9 hK => ?_)
  go_simp
  (go_at_call 18; (with_reducible refine (rlast_any K (HR3.cov Cov.auto)).mono ?_); clear K; rintro e w1 ⟨rfl, K⟩)
  refine hK.out _ _ (K.cov Cov.auto) (fun hHeld => ?_)
  clear hK K9
  try simp only [Act.put, List.setIfInBounds_toArray, List.set_cons_zero, List.set_cons_succ]
  refine wpG_takeA 11 (v := .bool false) ?_ hHeld ?_
  · (intro w hS; first | exact kr_neqR (by rfl) (by rfl) (by rfl) HML.out rfl)
  try simp only [Act.put, List.setIfInBounds_toArray, List.set_cons_zero, List.set_cons_succ]
  refine wpG_takeA 12 (v := ?_) ?_ hHeld ?_
  rotate_left
  · (intro w hS; (clear hS; go_simp); try with_reducible rfl)
  try simp only [Act.put, List.setIfInBounds_toArray, List.set_cons_zero, List.set_cons_succ]
  refine wpG_done (by kernel_rfl) ?_
  skip
  go_wp2_with (first | (go_at_call 19; (with_reducible refine (soff_any (K.sel (by repeat (first | with_reducible exact Sel.nil _ | with_reducible exact Sel.ap _ _ | with_reducible exact Sel.hd _ _ | with_reducible exact Sel.all _ | with_reducible apply Sel.tl | with_reducible apply Sel.sk))) HD3 HF3.out).mono ?_); clear K; rintro e w1 ⟨rfl, X4, HD4, K⟩) | (go_at_call 8; (with_reducible refine (places_any K).mono ?_); clear K; rintro e w1 ⟨rfl, K⟩) | (go_at_call 7; (with_reducible refine (jopen_off (K.sel (by repeat (first | with_reducible exact Sel.nil _ | with_reducible exact Sel.ap _ _ | with_reducible exact Sel.hd _ _ | with_reducible exact Sel.all _ | with_reducible apply Sel.tl | with_reducible apply Sel.sk))) HD4 HC4.out HO4.out).mono ?_); clear K; rintro e w1 ⟨rfl, K⟩) | ((with_reducible refine at_build (t := 34) rfl ?_); refine ev_build0 rfl 34 rfl (show (Instr.build 34 #[]).run Try.prog _ = .ok (.agg mapZ) _ by kernel_rfl) ?_) | (go_at_call 7; (with_reducible refine (jopen_zero (K.sel (by repeat (first | with_reducible exact Sel.nil _ | with_reducible exact Sel.ap _ _ | with_reducible exact Sel.hd _ _ | with_reducible exact Sel.all _ | with_reducible apply Sel.tl | with_reducible apply Sel.sk))) HD4).mono ?_); clear K; rintro e w1 ⟨rfl, K⟩) | (go_at_call 9; (with_reducible refine (awake24K K).mono ?_); clear K; rintro e w1 ⟨rfl, K⟩))
  go_ret
  exact ⟨rfl, K.cov Cov.auto⟩
end
end Go.Proofs.Ytfdddipmeadecaa
