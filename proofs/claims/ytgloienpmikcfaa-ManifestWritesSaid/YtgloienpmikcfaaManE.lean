/-
  Packages manifest, chunk: how many blocks, a block's size (contracts).
-/
import Derived.Test.YtgloienpmikcfaaManD
set_option linter.unusedVariables false
set_option linter.unusedSimpArgs false
namespace Go.Proofs.Ytgloienpmikcfaa
open Go.RowKit

section
variable (mode ver blk ol nl : Int) (D : List Int) (A : Option Addr) (n c : Nat) (xs : List Int) (w : World)
def blocksM (mode blk ol nl : Int) (D xs : List Int) : Int := if mayM mode blk ol nl D xs then blocksN nl blk else 0
set_option maxHeartbeats 400000 in
set_option maxRecDepth 100000 in
theorem mblocks_any (R : Rd w .i64 A n xs) (hD : D.length = 96) (hn : n ≤ 1152921504606846976) (hc : n ≤ c) (hnl : nl ≤ 9223372036854775807) :
    Calls Try.prog 33 #[.agg (mfc mode ver blk ol nl D (.slice A n c))] w fun e w' => e = .returned (.int .i64 (blocksM mode blk ol nl D xs)) ∧ Below w.heap.size w w' := by
  have F : Fr w w := Fr.refl w
  cases hv : mayM mode blk ol nl D xs
  · have e : blocksM mode blk ol nl D xs = 0 := by simp [blocksM, hv]
    rw [e]
    clear e
    have HV := Lib.hid hv
    clear hv
    go_enter Try.func33, Try.ntmps33
    go_wp2_with (first | ((with_reducible refine at_slot (N := 1) rfl ?_); refine ev_new rfl (cs := mfc mode ver blk ol nl D (.slice A n c)) (t := 41) (by first | (go_simp; done) | (go_simp; rfl)) ?_; intro gC hgC wC C nbC; have GEC : w.heap.size ≤ gC := (by rw [hgC]; exact F.size); clear hgC; replace F := F.step nbC; replace R := R.below nbC; clear nbC) | ((with_reducible refine at_load (t := 41) rfl ?_); refine ev_load_row rfl 41 _ rfl C rfl Try.underlying41 rfl (by rw [mfc_size _ _ _ _ _ _ _ hD]; kernel_rfl) ?_) | (go_at_call 37; (with_reducible refine (mmay_any _ _ _ _ _ _ _ _ _ _ _ _ HV.out R hD hn hc hnl).mono ?_); rintro e w1 ⟨rfl, nb⟩; replace F := F.step nb; replace C := C.below nb; clear nb))
    go_ret
    exact ⟨rfl, F.out⟩
  · have e : blocksM mode blk ol nl D xs = blocksN nl blk := by simp [blocksM, hv]
    rw [e]
    clear e
    have HV := Lib.hid hv
    clear hv
    go_enter Try.func33, Try.ntmps33
    go_wp2_with (first | ((with_reducible refine at_slot (N := 1) rfl ?_); refine ev_new rfl (cs := mfc mode ver blk ol nl D (.slice A n c)) (t := 41) (by first | (go_simp; done) | (go_simp; rfl)) ?_; intro gC hgC wC C nbC; have GEC : w.heap.size ≤ gC := (by rw [hgC]; exact F.size); clear hgC; replace F := F.step nbC; replace R := R.below nbC; clear nbC) | ((with_reducible refine at_load (t := 41) rfl ?_); refine ev_load_row rfl 41 _ rfl C rfl Try.underlying41 rfl (by rw [mfc_size _ _ _ _ _ _ _ hD]; kernel_rfl) ?_) | ((with_reducible refine at_load (t := 3) rfl ?_); refine ev_load_cell rfl 3 _ rfl (i := 2) C rfl (by kernel_rfl) (by kernel_rfl) (mfc_2 _ _ _ _ _ _ _) ?_) | ((with_reducible refine at_load (t := 3) rfl ?_); refine ev_load_cell rfl 3 _ rfl (i := 3) C rfl (by kernel_rfl) (by kernel_rfl) (mfc_3 _ _ _ _ _ _ _) ?_) | ((with_reducible refine at_load (t := 3) rfl ?_); refine ev_load_cell rfl 3 _ rfl (i := 4) C rfl (by kernel_rfl) (by kernel_rfl) (mfc_4 _ _ _ _ _ _ _) ?_) | (go_at_call 37; (with_reducible refine (mmay_any _ _ _ _ _ _ _ _ _ _ _ _ HV.out R hD hn hc hnl).mono ?_); rintro e w1 ⟨rfl, nb⟩; replace F := F.step nb; replace C := C.below nb; clear nb) | (go_at_call 57; (with_reducible refine (blocks_any _ _ hnl _).mono ?_); rintro e w' ⟨rfl, rfl⟩))
    go_ret
    exact ⟨rfl, F.out⟩

theorem mayM_bounds {mode blk ol nl : Int} {D xs : List Int} (h : mayM mode blk ol nl D xs = true) : 128 ≤ blk ∧ blk ≤ 4096 ∧ 0 ≤ ol ∧ ol ≤ 2147483647 ∧ 0 ≤ nl ∧ nl ≤ 2147483647 ∧ blocksN nl blk ≤ 4096 := by
  simp only [mayM, Bool.and_eq_true, decide_eq_true_eq, goodLens, badLen, Bool.not_eq_true', decide_eq_false_iff_not] at h
  obtain ⟨h1, ⟨h2, h3⟩, h4, -⟩ := h
  omega

def sizeM (mode blk ol nl : Int) (D xs : List Int) (b : Int) : Int := if 0 ≤ b ∧ b < blocksM mode blk ol nl D xs then (if nl - b * blk < blk then nl - b * blk else blk) else 0
set_option maxHeartbeats 400000 in
set_option maxRecDepth 100000 in
theorem csize_any (b : Int) (R : Rd w .i64 A n xs) (hD : D.length = 96) (hn : n ≤ 1152921504606846976) (hc : n ≤ c) (hnl : nl ≤ 9223372036854775807) :
    Calls Try.prog 17 #[.agg (mfc mode ver blk ol nl D (.slice A n c)), .int .i64 b] w fun e w' => e = .returned (.int .i64 (sizeM mode blk ol nl D xs b)) ∧ Below w.heap.size w w' := by
  have F : Fr w w := Fr.refl w
  by_cases h0 : 0 ≤ b
  · by_cases h1 : b < blocksM mode blk ol nl D xs
    · cases hv : mayM mode blk ol nl D xs
      · simp [blocksM, hv] at h1; omega
      · obtain ⟨b1, b2, o1, o2, n1, n2, k⟩ := mayM_bounds hv
        have e : sizeM mode blk ol nl D xs b = if nl - b * blk < blk then nl - b * blk else blk := by rw [sizeM, if_pos ⟨h0, h1⟩]
        have eb : blocksM mode blk ol nl D xs = blocksN nl blk := by simp [blocksM, hv]
        have hb : b ≤ 4095 := by omega
        have m1 : 0 ≤ b * blk := Int.mul_nonneg h0 (by omega)
        have m2 : b * blk ≤ 4095 * 4096 := Int.mul_le_mul hb b2 (by omega) (by omega)
        rw [e]
        clear e eb hb hv k
        have d0 : decide (b < 0) = false := by simpa using h0
        have d1 : decide (blocksM mode blk ol nl D xs ≤ b) = false := by simpa using h1
        clear h1
        go_enter Try.func17, Try.ntmps17
        go_wp2_with (first | ((with_reducible refine at_slot (N := 2) rfl ?_); refine ev_new rfl (cs := mfc mode ver blk ol nl D (.slice A n c)) (t := 41) (by first | (go_simp; done) | (go_simp; rfl)) ?_; intro gC hgC wC C nbC; have GEC : w.heap.size ≤ gC := (by rw [hgC]; exact F.size); clear hgC; replace F := F.step nbC; replace R := R.below nbC; clear nbC) | ((with_reducible refine at_load (t := 41) rfl ?_); refine ev_load_row rfl 41 _ rfl C rfl Try.underlying41 rfl (by rw [mfc_size _ _ _ _ _ _ _ hD]; kernel_rfl) ?_) | ((with_reducible refine at_load (t := 3) rfl ?_); refine ev_load_cell rfl 3 _ rfl (i := 2) C rfl (by kernel_rfl) (by kernel_rfl) (mfc_2 _ _ _ _ _ _ _) ?_) | ((with_reducible refine at_load (t := 3) rfl ?_); refine ev_load_cell rfl 3 _ rfl (i := 3) C rfl (by kernel_rfl) (by kernel_rfl) (mfc_3 _ _ _ _ _ _ _) ?_) | ((with_reducible refine at_load (t := 3) rfl ?_); refine ev_load_cell rfl 3 _ rfl (i := 4) C rfl (by kernel_rfl) (by kernel_rfl) (mfc_4 _ _ _ _ _ _ _) ?_) | (go_at_call 33; (with_reducible refine (mblocks_any _ _ _ _ _ _ _ _ _ _ _ R hD hn hc hnl).mono ?_); rintro e w1 ⟨rfl, nb⟩; replace F := F.step nb; replace C := C.below nb; clear nb))
        all_goals
          go_ret
          exact ⟨rfl, F.out⟩
    · have e : sizeM mode blk ol nl D xs b = 0 := by rw [sizeM, if_neg (fun h => h1 h.2)]
      rw [e]
      clear e
      have d0 : decide (b < 0) = false := by simpa using h0
      have d1 : decide (blocksM mode blk ol nl D xs ≤ b) = true := by simpa using h1
      clear h1
      go_enter Try.func17, Try.ntmps17
      go_wp2_with (first | ((with_reducible refine at_slot (N := 2) rfl ?_); refine ev_new rfl (cs := mfc mode ver blk ol nl D (.slice A n c)) (t := 41) (by first | (go_simp; done) | (go_simp; rfl)) ?_; intro gC hgC wC C nbC; have GEC : w.heap.size ≤ gC := (by rw [hgC]; exact F.size); clear hgC; replace F := F.step nbC; replace R := R.below nbC; clear nbC) | ((with_reducible refine at_load (t := 41) rfl ?_); refine ev_load_row rfl 41 _ rfl C rfl Try.underlying41 rfl (by rw [mfc_size _ _ _ _ _ _ _ hD]; kernel_rfl) ?_) | ((with_reducible refine at_load (t := 3) rfl ?_); refine ev_load_cell rfl 3 _ rfl (i := 2) C rfl (by kernel_rfl) (by kernel_rfl) (mfc_2 _ _ _ _ _ _ _) ?_) | ((with_reducible refine at_load (t := 3) rfl ?_); refine ev_load_cell rfl 3 _ rfl (i := 3) C rfl (by kernel_rfl) (by kernel_rfl) (mfc_3 _ _ _ _ _ _ _) ?_) | ((with_reducible refine at_load (t := 3) rfl ?_); refine ev_load_cell rfl 3 _ rfl (i := 4) C rfl (by kernel_rfl) (by kernel_rfl) (mfc_4 _ _ _ _ _ _ _) ?_) | (go_at_call 33; (with_reducible refine (mblocks_any _ _ _ _ _ _ _ _ _ _ _ R hD hn hc hnl).mono ?_); rintro e w1 ⟨rfl, nb⟩; replace F := F.step nb; replace C := C.below nb; clear nb))
      go_ret
      exact ⟨rfl, F.out⟩
  · have e : sizeM mode blk ol nl D xs b = 0 := by rw [sizeM, if_neg (fun h => h0 h.1)]
    rw [e]
    clear e
    have d0 : decide (b < 0) = true := by simpa using h0
    go_enter Try.func17, Try.ntmps17
    go_wp2_with (first | ((with_reducible refine at_slot (N := 2) rfl ?_); refine ev_new rfl (cs := mfc mode ver blk ol nl D (.slice A n c)) (t := 41) (by first | (go_simp; done) | (go_simp; rfl)) ?_; intro gC hgC wC C nbC; have GEC : w.heap.size ≤ gC := (by rw [hgC]; exact F.size); clear hgC; replace F := F.step nbC; replace R := R.below nbC; clear nbC))
    go_ret
    exact ⟨rfl, F.out⟩
end
end Go.Proofs.Ytgloienpmikcfaa
