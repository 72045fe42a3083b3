/-
  The reference's May of a manifest (contract).
-/
import Derived.Test.YtgloienpmikcfaaManE
set_option linter.unusedVariables false
set_option linter.unusedSimpArgs false
namespace Go.Proofs.Ytgloienpmikcfaa
open Go.RowKit

section
variable (mode ver blk ol nl : Int) (D : List Int) (A : Option Addr) (n c : Nat) (xs : List Int) (w : World)
theorem goodLens_iff (x y : Int) : goodLens x y = true ↔ (0 ≤ x ∧ x ≤ 2147483647) ∧ (0 ≤ y ∧ y ≤ 2147483647) := by
  simp only [goodLens, badLen, Bool.and_eq_true, Bool.not_eq_true', decide_eq_false_iff_not]
  omega
set_option maxHeartbeats 400000 in
set_option maxRecDepth 100000 in
theorem rmay_bad (h : ¬ (128 ≤ blk ∧ blk ≤ 4096 ∧ 0 ≤ ol ∧ ol ≤ 2147483647 ∧ 0 ≤ nl ∧ nl ≤ 2147483647)) :
    Calls Try.prog 31 #[.agg (mfc mode ver blk ol nl D (.slice A n c))] w fun e w' => e = .returned (.bool false) ∧ Below w.heap.size w w' := by
  have F : Fr w w := Fr.refl w
  have H := Lib.hid h
  clear h
  go_enter Try.func31, Try.ntmps31
  go_wp2_with (first | ((with_reducible refine at_slot (N := 1) rfl ?_); refine ev_new rfl (cs := mfc mode ver blk ol nl D (.slice A n c)) (t := 41) (by first | (go_simp; done) | (go_simp; rfl)) ?_; intro gC hgC wC C nbC; have GEC : w.heap.size ≤ gC := (by rw [hgC]; exact F.size); clear hgC; replace F := F.step nbC; clear nbC; have c2 := (C.cell 2).trans (mfc_2 _ _ _ _ _ _ _); have c3 := (C.cell 3).trans (mfc_3 _ _ _ _ _ _ _); have c4 := (C.cell 4).trans (mfc_4 _ _ _ _ _ _ _)))
  all_goals
    first
      | (go_ret; exact ⟨rfl, F.out⟩)
      | (exfalso; exact H.out (by omega))
set_option maxHeartbeats 800000 in
set_option maxRecDepth 100000 in
theorem rmay_many (h : 128 ≤ blk ∧ blk ≤ 4096 ∧ 0 ≤ ol ∧ ol ≤ 2147483647 ∧ 0 ≤ nl ∧ nl ≤ 2147483647) (h3 : 4096 < blocksN nl blk) :
    Calls Try.prog 31 #[.agg (mfc mode ver blk ol nl D (.slice A n c))] w fun e w' => e = .returned (.bool false) ∧ Below w.heap.size w w' := by
  have F : Fr w w := Fr.refl w
  obtain ⟨h1, h2, h4, h5, h6, h7⟩ := h
  have d1 : decide (blk < 128) = false := by simpa using h1
  have d2 : decide (4096 < blk) = false := by simpa using h2
  have d3 : decide (ol < 0) = false := by simpa using h4
  have d4 : decide (2147483647 < ol) = false := by simpa using h5
  have d5 : decide (nl < 0) = false := by simpa using h6
  have d6 : decide (2147483647 < nl) = false := by simpa using h7
  go_enter Try.func31, Try.ntmps31
  go_wp2_with (first | ((with_reducible refine at_slot (N := 1) rfl ?_); refine ev_new rfl (cs := mfc mode ver blk ol nl D (.slice A n c)) (t := 41) (by first | (go_simp; done) | (go_simp; rfl)) ?_; intro gC hgC wC C nbC; have GEC : w.heap.size ≤ gC := (by rw [hgC]; exact F.size); clear hgC; replace F := F.step nbC; clear nbC) | ((with_reducible refine at_load (t := 3) rfl ?_); refine ev_load_cell rfl 3 _ rfl (i := 2) C rfl (by kernel_rfl) (by kernel_rfl) (mfc_2 _ _ _ _ _ _ _) ?_) | ((with_reducible refine at_load (t := 3) rfl ?_); refine ev_load_cell rfl 3 _ rfl (i := 3) C rfl (by kernel_rfl) (by kernel_rfl) (mfc_3 _ _ _ _ _ _ _) ?_) | ((with_reducible refine at_load (t := 3) rfl ?_); refine ev_load_cell rfl 3 _ rfl (i := 4) C rfl (by kernel_rfl) (by kernel_rfl) (mfc_4 _ _ _ _ _ _ _) ?_) | (go_at_call 32; (with_reducible refine (rblocks_any _ _ (by omega) _).mono ?_); rintro e w' ⟨rfl, rfl⟩))
  go_ret
  exact ⟨rfl, F.out⟩
theorem blocksN_nonneg (x y : Int) : 0 ≤ blocksN x y := by
  unfold blocksN
  split
  · omega
  · have := Int.ediv_nonneg (a := x - 1) (b := y) (by omega) (by omega)
    omega
set_option maxHeartbeats 800000 in
set_option maxRecDepth 100000 in
theorem rmay_place1 (h : 128 ≤ blk ∧ blk ≤ 4096 ∧ 0 ≤ ol ∧ ol ≤ 2147483647 ∧ 0 ≤ nl ∧ nl ≤ 2147483647) (h3 : blocksN nl blk ≤ 4096) (hD : D.length = 96) (hm : mode = 2) (hl : ¬ (n : Int) = blocksN nl blk) :
    Calls Try.prog 31 #[.agg (mfc mode ver blk ol nl D (.slice A n c))] w fun e w' => e = .returned (.bool false) ∧ Below w.heap.size w w' := by
  have F : Fr w w := Fr.refl w
  obtain ⟨h1, h2, h4, h5, h6, h7⟩ := h
  have d1 : decide (blk < 128) = false := by simpa using h1
  have d2 : decide (4096 < blk) = false := by simpa using h2
  have d3 : decide (ol < 0) = false := by simpa using h4
  have d4 : decide (2147483647 < ol) = false := by simpa using h5
  have d5 : decide (nl < 0) = false := by simpa using h6
  have d6 : decide (2147483647 < nl) = false := by simpa using h7
  have m2 : (mode == 2) = true := by simp [hm]
  have l0 : ((n : Int) != blocksN nl blk) = true := by simpa using hl
  clear hm hl
  go_enter Try.func31, Try.ntmps31
  go_wp2_with (first | ((with_reducible refine at_slot (N := 1) rfl ?_); refine ev_new rfl (cs := mfc mode ver blk ol nl D (.slice A n c)) (t := 41) (by first | (go_simp; done) | (go_simp; rfl)) ?_; intro gC hgC wC C nbC; have GEC : w.heap.size ≤ gC := (by rw [hgC]; exact F.size); clear hgC; replace F := F.step nbC; clear nbC) | ((with_reducible refine at_load (t := 5) rfl ?_); refine ev_load_cell rfl 5 _ rfl (i := 0) C rfl (by kernel_rfl) (by kernel_rfl) (mfc_0 _ _ _ _ _ _ _) ?_) | ((with_reducible refine at_load (t := 36) rfl ?_); refine ev_load_cell rfl 36 _ rfl (i := 1) C rfl (by kernel_rfl) (by kernel_rfl) (mfc_1 _ _ _ _ _ _ _) ?_) | ((with_reducible refine at_load (t := 3) rfl ?_); refine ev_load_cell rfl 3 _ rfl (i := 2) C rfl (by kernel_rfl) (by kernel_rfl) (mfc_2 _ _ _ _ _ _ _) ?_) | ((with_reducible refine at_load (t := 3) rfl ?_); refine ev_load_cell rfl 3 _ rfl (i := 3) C rfl (by kernel_rfl) (by kernel_rfl) (mfc_3 _ _ _ _ _ _ _) ?_) | ((with_reducible refine at_load (t := 3) rfl ?_); refine ev_load_cell rfl 3 _ rfl (i := 4) C rfl (by kernel_rfl) (by kernel_rfl) (mfc_4 _ _ _ _ _ _ _) ?_) | ((with_reducible refine at_load (t := 39) rfl ?_); refine ev_load_cell rfl 39 _ rfl (i := 101) C rfl (by kernel_rfl) (by kernel_rfl) (mfc_o _ _ _ _ _ _ _ hD) ?_) | (go_at_call 32; (with_reducible refine (rblocks_any _ _ (by omega) _).mono ?_); rintro e w' ⟨rfl, rfl⟩))
  go_ret
  exact ⟨rfl, F.out⟩
set_option maxHeartbeats 800000 in
set_option maxRecDepth 100000 in
theorem rmay_place2 (h : 128 ≤ blk ∧ blk ≤ 4096 ∧ 0 ≤ ol ∧ ol ≤ 2147483647 ∧ 0 ≤ nl ∧ nl ≤ 2147483647) (h3 : blocksN nl blk ≤ 4096) (hD : D.length = 96) (hm : mode = 2) (R : Rd w .i64 A n xs) (hn : n ≤ 1152921504606846976) (hc : n ≤ c) (hl : (n : Int) = blocksN nl blk) :
    Calls Try.prog 31 #[.agg (mfc mode ver blk ol nl D (.slice A n c))] w fun e w' => e = .returned (.bool (onceB xs (blocksN nl blk))) ∧ Below w.heap.size w w' := by
  have F : Fr w w := Fr.refl w
  obtain ⟨h1, h2, h4, h5, h6, h7⟩ := h
  have d1 : decide (blk < 128) = false := by simpa using h1
  have d2 : decide (4096 < blk) = false := by simpa using h2
  have d3 : decide (ol < 0) = false := by simpa using h4
  have d4 : decide (2147483647 < ol) = false := by simpa using h5
  have d5 : decide (nl < 0) = false := by simpa using h6
  have d6 : decide (2147483647 < nl) = false := by simpa using h7
  have m2 : (mode == 2) = true := by simp [hm]
  have l0 : ((n : Int) != blocksN nl blk) = false := by simp [hl]
  have HO : Hid (onceB xs (blocksN nl blk) = decide (∀ i : Nat, i < n → cntL xs i = 1)) := Lib.hid (by rw [← hl]; exact once_iff xs n R.len)
  have HL := Lib.hid hl
  clear hm hl
  obtain ⟨N, hN⟩ : ∃ N, N = blocksN nl blk := ⟨_, rfl⟩
  rw [← hN] at l0 HO HL h3 ⊢
  have HB : ∀ w : World, Calls Try.prog 32 #[.int .i64 nl, .int .i64 blk] w fun e w' => e = .returned (.int .i64 N) ∧ w = w' := fun w => by rw [hN]; exact rblocks_any _ _ (by omega) _
  replace HB := Lib.hid HB
  clear hN
  go_enter Try.func31, Try.ntmps31
  go_wp2_with (first | ((with_reducible refine at_slot (N := 1) rfl ?_); refine ev_new rfl (cs := mfc mode ver blk ol nl D (.slice A n c)) (t := 41) (by first | (go_simp; done) | (go_simp; rfl)) ?_; intro gC hgC wC C nbC; have GEC : w.heap.size ≤ gC := (by rw [hgC]; exact F.size); clear hgC; replace F := F.step nbC; replace R := R.below nbC; clear nbC) | ((with_reducible refine at_load (t := 5) rfl ?_); refine ev_load_cell rfl 5 _ rfl (i := 0) C rfl (by kernel_rfl) (by kernel_rfl) (mfc_0 _ _ _ _ _ _ _) ?_) | ((with_reducible refine at_load (t := 36) rfl ?_); refine ev_load_cell rfl 36 _ rfl (i := 1) C rfl (by kernel_rfl) (by kernel_rfl) (mfc_1 _ _ _ _ _ _ _) ?_) | ((with_reducible refine at_load (t := 3) rfl ?_); refine ev_load_cell rfl 3 _ rfl (i := 2) C rfl (by kernel_rfl) (by kernel_rfl) (mfc_2 _ _ _ _ _ _ _) ?_) | ((with_reducible refine at_load (t := 3) rfl ?_); refine ev_load_cell rfl 3 _ rfl (i := 3) C rfl (by kernel_rfl) (by kernel_rfl) (mfc_3 _ _ _ _ _ _ _) ?_) | ((with_reducible refine at_load (t := 3) rfl ?_); refine ev_load_cell rfl 3 _ rfl (i := 4) C rfl (by kernel_rfl) (by kernel_rfl) (mfc_4 _ _ _ _ _ _ _) ?_) | ((with_reducible refine at_load (t := 39) rfl ?_); refine ev_load_cell rfl 39 _ rfl (i := 101) C rfl (by kernel_rfl) (by kernel_rfl) (mfc_o _ _ _ _ _ _ _ hD) ?_) | (go_at_call 32; (with_reducible refine (HB.out _).mono ?_); rintro e w' ⟨rfl, rfl⟩))
  go_loop [4] (fun i => ∃ k : Nat, (k : Int) ≤ N ∧ i = .int .i64 k ∧ Hid (∀ j : Nat, j < k → cntL xs j = 1)) (fun i => N.toNat - (intOf i).toNat)
  case atStart => exact ⟨0, by have := HL.out; omega, rfl, Lib.hid (fun j hj => absurd hj (Nat.not_lt_zero j))⟩
  case round =>
    obtain ⟨k, hk, rfl, G⟩ := hrel
    by_cases hlt : (k : Int) < N
    · by_cases h1 : cntL xs k = 1
      · have e1 : (cntL xs k != 1) = false := by simp [h1]
        have H1 := Lib.hid h1
        clear h1
        go_wp2_with (first | ((with_reducible refine at_load (t := 5) rfl ?_); refine ev_load_cell rfl 5 _ rfl (i := 0) C rfl (by kernel_rfl) (by kernel_rfl) (mfc_0 _ _ _ _ _ _ _) ?_) | ((with_reducible refine at_load (t := 36) rfl ?_); refine ev_load_cell rfl 36 _ rfl (i := 1) C rfl (by kernel_rfl) (by kernel_rfl) (mfc_1 _ _ _ _ _ _ _) ?_) | ((with_reducible refine at_load (t := 3) rfl ?_); refine ev_load_cell rfl 3 _ rfl (i := 2) C rfl (by kernel_rfl) (by kernel_rfl) (mfc_2 _ _ _ _ _ _ _) ?_) | ((with_reducible refine at_load (t := 3) rfl ?_); refine ev_load_cell rfl 3 _ rfl (i := 3) C rfl (by kernel_rfl) (by kernel_rfl) (mfc_3 _ _ _ _ _ _ _) ?_) | ((with_reducible refine at_load (t := 3) rfl ?_); refine ev_load_cell rfl 3 _ rfl (i := 4) C rfl (by kernel_rfl) (by kernel_rfl) (mfc_4 _ _ _ _ _ _ _) ?_) | ((with_reducible refine at_load (t := 39) rfl ?_); refine ev_load_cell rfl 39 _ rfl (i := 101) C rfl (by kernel_rfl) (by kernel_rfl) (mfc_o _ _ _ _ _ _ _ hD) ?_) | (go_at_call 56; (with_reducible refine (has_any _ _ _ _ _ _ R hn hc).mono ?_); rintro e w' ⟨rfl, rfl⟩))
        go_round
        case rel => exact ⟨k + 1, by omega, by go_num, Lib.hid (fun j hj => by rcases Nat.lt_succ_iff_lt_or_eq.1 hj with h | h; exact G.out j h; rw [h]; exact H1.out)⟩
        case measure => simp [intOf]; omega
      · have e1 : (cntL xs k != 1) = true := by simpa using h1
        have H1 : Hid (onceB xs N = false) := Lib.hid (by rw [HO.out, decide_eq_false_iff_not]; intro h; exact h1 (h k (by have := HL.out; omega)))
        clear h1
        go_wp2_with (first | ((with_reducible refine at_load (t := 5) rfl ?_); refine ev_load_cell rfl 5 _ rfl (i := 0) C rfl (by kernel_rfl) (by kernel_rfl) (mfc_0 _ _ _ _ _ _ _) ?_) | ((with_reducible refine at_load (t := 36) rfl ?_); refine ev_load_cell rfl 36 _ rfl (i := 1) C rfl (by kernel_rfl) (by kernel_rfl) (mfc_1 _ _ _ _ _ _ _) ?_) | ((with_reducible refine at_load (t := 3) rfl ?_); refine ev_load_cell rfl 3 _ rfl (i := 2) C rfl (by kernel_rfl) (by kernel_rfl) (mfc_2 _ _ _ _ _ _ _) ?_) | ((with_reducible refine at_load (t := 3) rfl ?_); refine ev_load_cell rfl 3 _ rfl (i := 3) C rfl (by kernel_rfl) (by kernel_rfl) (mfc_3 _ _ _ _ _ _ _) ?_) | ((with_reducible refine at_load (t := 3) rfl ?_); refine ev_load_cell rfl 3 _ rfl (i := 4) C rfl (by kernel_rfl) (by kernel_rfl) (mfc_4 _ _ _ _ _ _ _) ?_) | ((with_reducible refine at_load (t := 39) rfl ?_); refine ev_load_cell rfl 39 _ rfl (i := 101) C rfl (by kernel_rfl) (by kernel_rfl) (mfc_o _ _ _ _ _ _ _ hD) ?_) | (go_at_call 56; (with_reducible refine (has_any _ _ _ _ _ _ R hn hc).mono ?_); rintro e w' ⟨rfl, rfl⟩))
        go_ret
        exact ⟨ret_bool' H1.out.symm, F.out⟩
    · have H1 : Hid (onceB xs N = true) := Lib.hid (by rw [HO.out, decide_eq_true_eq]; intro i hi; exact G.out i (by have := HL.out; omega))
      go_wp2
      go_ret
      exact ⟨ret_bool' H1.out.symm, F.out⟩
set_option maxHeartbeats 800000 in
set_option maxRecDepth 100000 in
theorem rmay_len (h : 128 ≤ blk ∧ blk ≤ 4096 ∧ 0 ≤ ol ∧ ol ≤ 2147483647 ∧ 0 ≤ nl ∧ nl ≤ 2147483647) (h3 : blocksN nl blk ≤ 4096) (hD : D.length = 96) (hm : ¬ mode = 2) (hl : ¬ n = 0) :
    Calls Try.prog 31 #[.agg (mfc mode ver blk ol nl D (.slice A n c))] w fun e w' => e = .returned (.bool false) ∧ Below w.heap.size w w' := by
  have F : Fr w w := Fr.refl w
  obtain ⟨h1, h2, h4, h5, h6, h7⟩ := h
  have d1 : decide (blk < 128) = false := by simpa using h1
  have d2 : decide (4096 < blk) = false := by simpa using h2
  have d3 : decide (ol < 0) = false := by simpa using h4
  have d4 : decide (2147483647 < ol) = false := by simpa using h5
  have d5 : decide (nl < 0) = false := by simpa using h6
  have d6 : decide (2147483647 < nl) = false := by simpa using h7
  have m2 : (mode == 2) = false := by simpa using hm
  have l0 : 0 < n := by omega
  clear hm hl
  go_enter Try.func31, Try.ntmps31
  go_wp2_with (first | ((with_reducible refine at_slot (N := 1) rfl ?_); refine ev_new rfl (cs := mfc mode ver blk ol nl D (.slice A n c)) (t := 41) (by first | (go_simp; done) | (go_simp; rfl)) ?_; intro gC hgC wC C nbC; have GEC : w.heap.size ≤ gC := (by rw [hgC]; exact F.size); clear hgC; replace F := F.step nbC; clear nbC) | ((with_reducible refine at_load (t := 5) rfl ?_); refine ev_load_cell rfl 5 _ rfl (i := 0) C rfl (by kernel_rfl) (by kernel_rfl) (mfc_0 _ _ _ _ _ _ _) ?_) | ((with_reducible refine at_load (t := 36) rfl ?_); refine ev_load_cell rfl 36 _ rfl (i := 1) C rfl (by kernel_rfl) (by kernel_rfl) (mfc_1 _ _ _ _ _ _ _) ?_) | ((with_reducible refine at_load (t := 3) rfl ?_); refine ev_load_cell rfl 3 _ rfl (i := 2) C rfl (by kernel_rfl) (by kernel_rfl) (mfc_2 _ _ _ _ _ _ _) ?_) | ((with_reducible refine at_load (t := 3) rfl ?_); refine ev_load_cell rfl 3 _ rfl (i := 3) C rfl (by kernel_rfl) (by kernel_rfl) (mfc_3 _ _ _ _ _ _ _) ?_) | ((with_reducible refine at_load (t := 3) rfl ?_); refine ev_load_cell rfl 3 _ rfl (i := 4) C rfl (by kernel_rfl) (by kernel_rfl) (mfc_4 _ _ _ _ _ _ _) ?_) | ((with_reducible refine at_load (t := 39) rfl ?_); refine ev_load_cell rfl 39 _ rfl (i := 101) C rfl (by kernel_rfl) (by kernel_rfl) (mfc_o _ _ _ _ _ _ _ hD) ?_) | (go_at_call 32; (with_reducible refine (rblocks_any _ _ (by omega) _).mono ?_); rintro e w' ⟨rfl, rfl⟩))
  go_ret
  exact ⟨rfl, F.out⟩
set_option maxHeartbeats 800000 in
set_option maxRecDepth 100000 in
theorem rmay_other (h : 128 ≤ blk ∧ blk ≤ 4096 ∧ 0 ≤ ol ∧ ol ≤ 2147483647 ∧ 0 ≤ nl ∧ nl ≤ 2147483647) (h3 : blocksN nl blk ≤ 4096) (hD : D.length = 96) (hm : ¬ mode = 2) (hm3 : ¬ mode = 3) (hl : n = 0) :
    Calls Try.prog 31 #[.agg (mfc mode ver blk ol nl D (.slice A n c))] w fun e w' => e = .returned (.bool (decide (mode = 1))) ∧ Below w.heap.size w w' := by
  have F : Fr w w := Fr.refl w
  obtain ⟨h1, h2, h4, h5, h6, h7⟩ := h
  have d1 : decide (blk < 128) = false := by simpa using h1
  have d2 : decide (4096 < blk) = false := by simpa using h2
  have d3 : decide (ol < 0) = false := by simpa using h4
  have d4 : decide (2147483647 < ol) = false := by simpa using h5
  have d5 : decide (nl < 0) = false := by simpa using h6
  have d6 : decide (2147483647 < nl) = false := by simpa using h7
  have m2 : (mode == 2) = false := by simpa using hm
  have m3 : (mode == 3) = false := by simpa using hm3
  clear hm hm3
  subst hl
  go_enter Try.func31, Try.ntmps31
  go_wp2_with (first | ((with_reducible refine at_slot (N := 1) rfl ?_); refine ev_new rfl (cs := mfc mode ver blk ol nl D (.slice A 0 c)) (t := 41) (by first | (go_simp; done) | (go_simp; rfl)) ?_; intro gC hgC wC C nbC; have GEC : w.heap.size ≤ gC := (by rw [hgC]; exact F.size); clear hgC; replace F := F.step nbC; clear nbC) | ((with_reducible refine at_load (t := 5) rfl ?_); refine ev_load_cell rfl 5 _ rfl (i := 0) C rfl (by kernel_rfl) (by kernel_rfl) (mfc_0 _ _ _ _ _ _ _) ?_) | ((with_reducible refine at_load (t := 36) rfl ?_); refine ev_load_cell rfl 36 _ rfl (i := 1) C rfl (by kernel_rfl) (by kernel_rfl) (mfc_1 _ _ _ _ _ _ _) ?_) | ((with_reducible refine at_load (t := 3) rfl ?_); refine ev_load_cell rfl 3 _ rfl (i := 2) C rfl (by kernel_rfl) (by kernel_rfl) (mfc_2 _ _ _ _ _ _ _) ?_) | ((with_reducible refine at_load (t := 3) rfl ?_); refine ev_load_cell rfl 3 _ rfl (i := 3) C rfl (by kernel_rfl) (by kernel_rfl) (mfc_3 _ _ _ _ _ _ _) ?_) | ((with_reducible refine at_load (t := 3) rfl ?_); refine ev_load_cell rfl 3 _ rfl (i := 4) C rfl (by kernel_rfl) (by kernel_rfl) (mfc_4 _ _ _ _ _ _ _) ?_) | ((with_reducible refine at_load (t := 39) rfl ?_); refine ev_load_cell rfl 39 _ rfl (i := 101) C rfl (by kernel_rfl) (by kernel_rfl) (mfc_o _ _ _ _ _ _ _ hD) ?_) | (go_at_call 32; (with_reducible refine (rblocks_any _ _ (by omega) _).mono ?_); rintro e w' ⟨rfl, rfl⟩))
  go_ret
  exact ⟨ret_bool' (by rw [Bool.eq_iff_iff]; simp), F.out⟩
end
end Go.Proofs.Ytgloienpmikcfaa
