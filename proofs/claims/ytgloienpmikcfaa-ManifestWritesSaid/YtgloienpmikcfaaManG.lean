/-
  The reference's May of a manifest, whole; the reference's size of a block (contracts).
-/
import Derived.Test.YtgloienpmikcfaaManF
set_option linter.unusedVariables false
set_option linter.unusedSimpArgs false
namespace Go.Proofs.Ytgloienpmikcfaa
open Go.RowKit

theorem zeros_iff (D : List Int) (hD : D.length = 96) : (D.take 32 == zeros32) = decide (∀ j : Nat, j < 32 → D.getD j 0 = 0) := by
  rw [Bool.eq_iff_iff, beq_iff_eq, decide_eq_true_eq]
  constructor
  · intro h j hj
    have h2 : (D.take 32)[j]? = zeros32[j]? := by rw [h]
    rw [List.getElem?_take, if_pos hj, zeros32, List.getElem?_replicate, if_pos hj] at h2
    rw [List.getD_eq_getElem?_getD, h2]
    rfl
  · intro h
    apply List.ext_getElem?
    intro j
    rw [List.getElem?_take, zeros32, List.getElem?_replicate]
    split
    · rename_i hj
      have h2 := h j hj
      rw [List.getD_eq_getElem?_getD, List.getElem?_eq_getElem (by omega)] at h2
      rw [List.getElem?_eq_getElem (by omega)]
      simpa using h2
    · rfl

section
variable (mode ver blk ol nl : Int) (D : List Int) (A : Option Addr) (n c : Nat) (xs : List Int) (w : World)
set_option maxHeartbeats 800000 in
set_option maxRecDepth 100000 in
theorem rmay_full (h : 128 ≤ blk ∧ blk ≤ 4096 ∧ 0 ≤ ol ∧ ol ≤ 2147483647 ∧ 0 ≤ nl ∧ nl ≤ 2147483647) (h3 : blocksN nl blk ≤ 4096) (hD : D.length = 96) (hm : ¬ mode = 2) (hm3 : mode = 3) :
    Calls Try.prog 31 #[.agg (mfc mode ver blk ol nl D (.slice A 0 c))] w fun e w' => e = .returned (.bool (decide (ol = 0) && (D.take 32 == zeros32))) ∧ Below w.heap.size w w' := by
  have F : Fr w w := Fr.refl w
  have HZ := Lib.hid (zeros_iff D hD)
  obtain ⟨h1, h2, h4, h5, h6, h7⟩ := h
  have d1 : decide (blk < 128) = false := by simpa using h1
  have d2 : decide (4096 < blk) = false := by simpa using h2
  have d3 : decide (ol < 0) = false := by simpa using h4
  have d4 : decide (2147483647 < ol) = false := by simpa using h5
  have d5 : decide (nl < 0) = false := by simpa using h6
  have d6 : decide (2147483647 < nl) = false := by simpa using h7
  have m2 : (mode == 2) = false := by simpa using hm
  have m3 : (mode == 3) = true := by simpa using hm3
  clear hm hm3
  go_enter Try.func31, Try.ntmps31
  go_wp2_with (first | ((with_reducible refine at_slot (N := 1) rfl ?_); refine ev_new rfl (cs := mfc mode ver blk ol nl D (.slice A 0 c)) (t := 41) (by first | (go_simp; done) | (go_simp; rfl)) ?_; intro gC hgC wC C nbC; have GEC : w.heap.size ≤ gC := (by rw [hgC]; exact F.size); clear hgC; replace F := F.step nbC; clear nbC) | ((with_reducible refine at_load (t := 5) rfl ?_); refine ev_load_cell rfl 5 _ rfl (i := 0) C rfl (by kernel_rfl) (by kernel_rfl) (mfc_0 _ _ _ _ _ _ _) ?_) | ((with_reducible refine at_load (t := 36) rfl ?_); refine ev_load_cell rfl 36 _ rfl (i := 1) C rfl (by kernel_rfl) (by kernel_rfl) (mfc_1 _ _ _ _ _ _ _) ?_) | ((with_reducible refine at_load (t := 3) rfl ?_); refine ev_load_cell rfl 3 _ rfl (i := 2) C rfl (by kernel_rfl) (by kernel_rfl) (mfc_2 _ _ _ _ _ _ _) ?_) | ((with_reducible refine at_load (t := 3) rfl ?_); refine ev_load_cell rfl 3 _ rfl (i := 3) C rfl (by kernel_rfl) (by kernel_rfl) (mfc_3 _ _ _ _ _ _ _) ?_) | ((with_reducible refine at_load (t := 3) rfl ?_); refine ev_load_cell rfl 3 _ rfl (i := 4) C rfl (by kernel_rfl) (by kernel_rfl) (mfc_4 _ _ _ _ _ _ _) ?_) | ((with_reducible refine at_load (t := 39) rfl ?_); refine ev_load_cell rfl 39 _ rfl (i := 101) C rfl (by kernel_rfl) (by kernel_rfl) (mfc_o _ _ _ _ _ _ _ hD) ?_) | (go_at_call 32; (with_reducible refine (rblocks_any _ _ (by omega) _).mono ?_); rintro e w' ⟨rfl, rfl⟩))
  go_loop [66] (fun i => ∃ k : Nat, k ≤ 32 ∧ i = .int .i64 k ∧ Hid (∀ j : Nat, j < k → D.getD j 0 = 0)) (fun i => 32 - (intOf i).toNat)
  case atStart => exact ⟨0, by omega, rfl, Lib.hid (fun j hj => absurd hj (Nat.not_lt_zero j))⟩
  case round =>
    obtain ⟨k, hk, rfl, G⟩ := hrel
    by_cases hlt : k < 32
    · have hl1 : (k : Int) < 32 := by omega
      obtain ⟨y, hy⟩ : ∃ y, y = D.getD k 0 := ⟨_, rfl⟩
      have hcell := mfc_D mode ver blk ol nl D (.slice A 0 c) k (by omega)
      rw [← hy] at hcell
      replace hcell := Lib.hid hcell
      by_cases h1 : y = 0
      · have e1 : (y != 0) = false := by simp [h1]
        have H1 := Lib.hid h1
        have HY := Lib.hid hy
        clear h1 hy
        go_wp2_with (first | ((with_reducible refine at_load (t := 5) rfl ?_); refine ev_load_cell rfl 5 _ rfl (i := 5 + k) C rfl (by kernel_rfl) (by kernel_rfl) (hcell.out) ?_))
        go_round
        case rel => exact ⟨k + 1, by omega, by go_num, Lib.hid (fun j hj => by rcases Nat.lt_succ_iff_lt_or_eq.1 hj with h | h; exact G.out j h; rw [h, ← HY.out]; exact H1.out)⟩
        case measure => simp [intOf]; omega
      · have e1 : (y != 0) = true := by simpa using h1
        have H1 : Hid ((D.take 32 == zeros32) = false) := Lib.hid (by rw [HZ.out, decide_eq_false_iff_not]; intro h; exact h1 (hy.trans (h k hlt)))
        clear h1 hy
        go_wp2_with (first | ((with_reducible refine at_load (t := 5) rfl ?_); refine ev_load_cell rfl 5 _ rfl (i := 5 + k) C rfl (by kernel_rfl) (by kernel_rfl) (hcell.out) ?_))
        go_ret
        exact ⟨ret_bool' (by rw [H1.out, Bool.and_false]), F.out⟩
    · have hl1 : ¬ (k : Int) < 32 := by omega
      have H1 : Hid ((D.take 32 == zeros32) = true) := Lib.hid (by rw [HZ.out, decide_eq_true_eq]; intro i hi; exact G.out i (by omega))
      go_wp2_with (first | ((with_reducible refine at_load (t := 5) rfl ?_); refine ev_load_cell rfl 5 _ rfl (i := 0) C rfl (by kernel_rfl) (by kernel_rfl) (mfc_0 _ _ _ _ _ _ _) ?_) | ((with_reducible refine at_load (t := 36) rfl ?_); refine ev_load_cell rfl 36 _ rfl (i := 1) C rfl (by kernel_rfl) (by kernel_rfl) (mfc_1 _ _ _ _ _ _ _) ?_) | ((with_reducible refine at_load (t := 3) rfl ?_); refine ev_load_cell rfl 3 _ rfl (i := 2) C rfl (by kernel_rfl) (by kernel_rfl) (mfc_2 _ _ _ _ _ _ _) ?_) | ((with_reducible refine at_load (t := 3) rfl ?_); refine ev_load_cell rfl 3 _ rfl (i := 3) C rfl (by kernel_rfl) (by kernel_rfl) (mfc_3 _ _ _ _ _ _ _) ?_) | ((with_reducible refine at_load (t := 3) rfl ?_); refine ev_load_cell rfl 3 _ rfl (i := 4) C rfl (by kernel_rfl) (by kernel_rfl) (mfc_4 _ _ _ _ _ _ _) ?_) | ((with_reducible refine at_load (t := 39) rfl ?_); refine ev_load_cell rfl 39 _ rfl (i := 101) C rfl (by kernel_rfl) (by kernel_rfl) (mfc_o _ _ _ _ _ _ _ hD) ?_))
      go_ret
      exact ⟨ret_bool' (by rw [H1.out, Bool.and_true, Bool.eq_iff_iff]; simp), F.out⟩

/-- the reference's May, whole: it is the program's -/
theorem rmay_any (v : Bool) (hv : mayM mode blk ol nl D xs = v) (R : Rd w .i64 A n xs) (hD : D.length = 96) (hn : n ≤ 1152921504606846976) (hc : n ≤ c) :
    Calls Try.prog 31 #[.agg (mfc mode ver blk ol nl D (.slice A n c))] w fun e w' => e = .returned (.bool v) ∧ Below w.heap.size w w' := by
  have hl := R.len
  subst hv
  by_cases h : 128 ≤ blk ∧ blk ≤ 4096 ∧ 0 ≤ ol ∧ ol ≤ 2147483647 ∧ 0 ≤ nl ∧ nl ≤ 2147483647
  · have h2 : goodLens ol nl = true := (goodLens_iff ol nl).2 ⟨⟨h.2.2.1, h.2.2.2.1⟩, h.2.2.2.2⟩
    by_cases h3 : blocksN nl blk ≤ 4096
    · have e0 : mayM mode blk ol nl D xs = (if mode = 2 then onceB xs (blocksN nl blk) else if mode = 3 then decide (xs.length = 0) && (decide (ol = 0) && (D.take 32 == zeros32)) else decide (mode = 1) && decide (xs.length = 0)) := by simp [mayM, h.1, h.2.1, h2, h3]
      rw [e0, hl]
      by_cases hm2 : mode = 2
      · rw [if_pos hm2]
        by_cases hb : (n : Int) = blocksN nl blk
        · exact rmay_place2 _ _ _ _ _ _ _ _ _ _ _ h h3 hD hm2 R hn hc hb
        · rw [show onceB xs (blocksN nl blk) = false by rw [onceB, decide_eq_false_iff_not]; rintro ⟨h', -⟩; exact hb (by rw [← h', hl])]
          exact rmay_place1 _ _ _ _ _ _ _ _ _ _ h h3 hD hm2 hb
      · rw [if_neg hm2]
        by_cases hl0 : n = 0
        · subst hl0
          rw [decide_eq_true rfl, Bool.true_and, Bool.and_true]
          by_cases hm3 : mode = 3
          · rw [if_pos hm3]
            exact rmay_full _ _ _ _ _ _ _ _ _ h h3 hD hm2 hm3
          · rw [if_neg hm3]
            exact rmay_other _ _ _ _ _ _ _ _ _ _ h h3 hD hm2 hm3 rfl
        · rw [decide_eq_false hl0, Bool.false_and, Bool.and_false, ite_self]
          exact rmay_len _ _ _ _ _ _ _ _ _ _ h h3 hD hm2 hl0
    · rw [show mayM mode blk ol nl D xs = false by simp [mayM, h3]]
      exact rmay_many _ _ _ _ _ _ _ _ _ _ h (by omega)
  · rw [show mayM mode blk ol nl D xs = false by
      rw [Bool.eq_false_iff]
      intro hm
      have := mayM_bounds hm
      exact h ⟨this.1, this.2.1, this.2.2.1, this.2.2.2.1, this.2.2.2.2.1, this.2.2.2.2.2.1⟩]
    exact rmay_bad _ _ _ _ _ _ _ _ _ _ h

set_option maxHeartbeats 400000 in
set_option maxRecDepth 100000 in
theorem rsize_any (b : Int) (R : Rd w .i64 A n xs) (hD : D.length = 96) (hn : n ≤ 1152921504606846976) (hc : n ≤ c) (hnl : nl ≤ 9223372036854775807) :
    Calls Try.prog 18 #[.agg (mfc mode ver blk ol nl D (.slice A n c)), .int .i64 b] w fun e w' => e = .returned (.int .i64 (sizeM mode blk ol nl D xs b)) ∧ Below w.heap.size w w' := by
  have F : Fr w w := Fr.refl w
  cases hv : mayM mode blk ol nl D xs
  · have e : sizeM mode blk ol nl D xs b = 0 := by simp [sizeM, blocksM, hv]; omega
    rw [e]
    have HV := Lib.hid hv
    clear hv e
    go_enter Try.func18, Try.ntmps18
    go_wp2_with (first | ((with_reducible refine at_slot (N := 2) rfl ?_); refine ev_new rfl (cs := mfc mode ver blk ol nl D (.slice A n c)) (t := 41) (by first | (go_simp; done) | (go_simp; rfl)) ?_; intro gC hgC wC C nbC; have GEC : w.heap.size ≤ gC := (by rw [hgC]; exact F.size); clear hgC; replace F := F.step nbC; replace R := R.below nbC; clear nbC) | ((with_reducible refine at_load (t := 41) rfl ?_); refine ev_load_row rfl 41 _ rfl C rfl Try.underlying41 rfl (by rw [mfc_size _ _ _ _ _ _ _ hD]; kernel_rfl) ?_) | (go_at_call 31; (with_reducible refine (rmay_any _ _ _ _ _ _ _ _ _ _ _ _ HV.out R hD hn hc).mono ?_); rintro e w1 ⟨rfl, nb⟩; replace F := F.step nb; replace C := C.below nb; clear nb))
    go_ret
    exact ⟨rfl, F.out⟩
  · obtain ⟨b1, b2, o1, o2, n1, n2, k⟩ := mayM_bounds hv
    have eb : blocksM mode blk ol nl D xs = blocksN nl blk := by simp [blocksM, hv]
    have HV := Lib.hid hv
    clear hv
    by_cases h0 : 0 ≤ b
    · have d0 : decide (b < 0) = false := by simpa using h0
      by_cases h1 : b < blocksN nl blk
      · have d1 : decide (blocksN nl blk ≤ b) = false := by simpa using h1
        have e : sizeM mode blk ol nl D xs b = if nl - b * blk < blk then nl - b * blk else blk := by rw [sizeM, eb, if_pos ⟨h0, h1⟩]
        have m1 : 0 ≤ b * blk := Int.mul_nonneg h0 (by omega)
        have m2 : b * blk ≤ 4095 * 4096 := Int.mul_le_mul (by omega) b2 (by omega) (by omega)
        rw [e]
        clear e eb h1 k
        by_cases h2 : nl - b * blk < blk
        all_goals
          simp only [h2, if_true, if_false]
          go_enter Try.func18, Try.ntmps18
          go_wp2_with (first | ((with_reducible refine at_slot (N := 2) rfl ?_); refine ev_new rfl (cs := mfc mode ver blk ol nl D (.slice A n c)) (t := 41) (by first | (go_simp; done) | (go_simp; rfl)) ?_; intro gC hgC wC C nbC; have GEC : w.heap.size ≤ gC := (by rw [hgC]; exact F.size); clear hgC; replace F := F.step nbC; replace R := R.below nbC; clear nbC) | ((with_reducible refine at_load (t := 41) rfl ?_); refine ev_load_row rfl 41 _ rfl C rfl Try.underlying41 rfl (by rw [mfc_size _ _ _ _ _ _ _ hD]; kernel_rfl) ?_) | ((with_reducible refine at_load (t := 3) rfl ?_); refine ev_load_cell rfl 3 _ rfl (i := 2) C rfl (by kernel_rfl) (by kernel_rfl) (mfc_2 _ _ _ _ _ _ _) ?_) | ((with_reducible refine at_load (t := 3) rfl ?_); refine ev_load_cell rfl 3 _ rfl (i := 3) C rfl (by kernel_rfl) (by kernel_rfl) (mfc_3 _ _ _ _ _ _ _) ?_) | ((with_reducible refine at_load (t := 3) rfl ?_); refine ev_load_cell rfl 3 _ rfl (i := 4) C rfl (by kernel_rfl) (by kernel_rfl) (mfc_4 _ _ _ _ _ _ _) ?_) | (go_at_call 31; (with_reducible refine (rmay_any _ _ _ _ _ _ _ _ _ _ _ _ HV.out R hD hn hc).mono ?_); rintro e w1 ⟨rfl, nb⟩; replace F := F.step nb; replace C := C.below nb; clear nb) | (go_at_call 32; (with_reducible refine (rblocks_any _ _ hnl _).mono ?_); rintro e w' ⟨rfl, rfl⟩))
          go_ret
          exact ⟨rfl, F.out⟩
      · have d1 : decide (blocksN nl blk ≤ b) = true := by simpa using h1
        have e : sizeM mode blk ol nl D xs b = 0 := by rw [sizeM, eb, if_neg (fun h => h1 h.2)]
        rw [e]
        clear e eb h1 k
        go_enter Try.func18, Try.ntmps18
        go_wp2_with (first | ((with_reducible refine at_slot (N := 2) rfl ?_); refine ev_new rfl (cs := mfc mode ver blk ol nl D (.slice A n c)) (t := 41) (by first | (go_simp; done) | (go_simp; rfl)) ?_; intro gC hgC wC C nbC; have GEC : w.heap.size ≤ gC := (by rw [hgC]; exact F.size); clear hgC; replace F := F.step nbC; replace R := R.below nbC; clear nbC) | ((with_reducible refine at_load (t := 41) rfl ?_); refine ev_load_row rfl 41 _ rfl C rfl Try.underlying41 rfl (by rw [mfc_size _ _ _ _ _ _ _ hD]; kernel_rfl) ?_) | ((with_reducible refine at_load (t := 3) rfl ?_); refine ev_load_cell rfl 3 _ rfl (i := 2) C rfl (by kernel_rfl) (by kernel_rfl) (mfc_2 _ _ _ _ _ _ _) ?_) | ((with_reducible refine at_load (t := 3) rfl ?_); refine ev_load_cell rfl 3 _ rfl (i := 3) C rfl (by kernel_rfl) (by kernel_rfl) (mfc_3 _ _ _ _ _ _ _) ?_) | ((with_reducible refine at_load (t := 3) rfl ?_); refine ev_load_cell rfl 3 _ rfl (i := 4) C rfl (by kernel_rfl) (by kernel_rfl) (mfc_4 _ _ _ _ _ _ _) ?_) | (go_at_call 31; (with_reducible refine (rmay_any _ _ _ _ _ _ _ _ _ _ _ _ HV.out R hD hn hc).mono ?_); rintro e w1 ⟨rfl, nb⟩; replace F := F.step nb; replace C := C.below nb; clear nb) | (go_at_call 32; (with_reducible refine (rblocks_any _ _ hnl _).mono ?_); rintro e w' ⟨rfl, rfl⟩))
        go_ret
        exact ⟨rfl, F.out⟩
    · have d0 : decide (b < 0) = true := by simpa using h0
      have e : sizeM mode blk ol nl D xs b = 0 := by rw [sizeM, if_neg (fun h => h0 h.1)]
      rw [e]
      clear e eb k
      go_enter Try.func18, Try.ntmps18
      go_wp2_with (first | ((with_reducible refine at_slot (N := 2) rfl ?_); refine ev_new rfl (cs := mfc mode ver blk ol nl D (.slice A n c)) (t := 41) (by first | (go_simp; done) | (go_simp; rfl)) ?_; intro gC hgC wC C nbC; have GEC : w.heap.size ≤ gC := (by rw [hgC]; exact F.size); clear hgC; replace F := F.step nbC; replace R := R.below nbC; clear nbC) | ((with_reducible refine at_load (t := 41) rfl ?_); refine ev_load_row rfl 41 _ rfl C rfl Try.underlying41 rfl (by rw [mfc_size _ _ _ _ _ _ _ hD]; kernel_rfl) ?_) | ((with_reducible refine at_load (t := 3) rfl ?_); refine ev_load_cell rfl 3 _ rfl (i := 2) C rfl (by kernel_rfl) (by kernel_rfl) (mfc_2 _ _ _ _ _ _ _) ?_) | ((with_reducible refine at_load (t := 3) rfl ?_); refine ev_load_cell rfl 3 _ rfl (i := 3) C rfl (by kernel_rfl) (by kernel_rfl) (mfc_3 _ _ _ _ _ _ _) ?_) | ((with_reducible refine at_load (t := 3) rfl ?_); refine ev_load_cell rfl 3 _ rfl (i := 4) C rfl (by kernel_rfl) (by kernel_rfl) (mfc_4 _ _ _ _ _ _ _) ?_) | (go_at_call 31; (with_reducible refine (rmay_any _ _ _ _ _ _ _ _ _ _ _ _ HV.out R hD hn hc).mono ?_); rintro e w1 ⟨rfl, nb⟩; replace F := F.step nb; replace C := C.below nb; clear nb) | (go_at_call 32; (with_reducible refine (rblocks_any _ _ hnl _).mono ?_); rintro e w' ⟨rfl, rfl⟩))
      go_ret
      exact ⟨rfl, F.out⟩
end
end Go.Proofs.Ytgloienpmikcfaa
