/-
  Package manifest: May (contract).
-/
import Derived.Test.YtgloienpmikcfaaManC
import Derived.Test.YtgloienpmikcfaaEq8
set_option linter.unusedVariables false
set_option linter.unusedSimpArgs false
namespace Go.Proofs.Ytgloienpmikcfaa
open Go.RowKit

def zeros32 : List Int := List.replicate 32 0
/-- may a manifest be -/
def mayM (mode blk ol nl : Int) (D xs : List Int) : Bool :=
  decide (128 ≤ blk ∧ blk ≤ 4096) && (goodLens ol nl && (decide (blocksN nl blk ≤ 4096) && (if mode = 2 then onceB xs (blocksN nl blk) else if mode = 3 then decide (xs.length = 0) && (decide (ol = 0) && (D.take 32 == zeros32)) else decide (mode = 1) && decide (xs.length = 0))))

theorem zeros_u8s (w : World) : (Instr.build 38 #[]).run Try.prog w = .ok (.agg (u8s zeros32)) w := by kernel_rfl
theorem eq_dig (xs ys : List Int) (hx : xs.length = 32) (hy : ys.length = 32) (w : World) : (binOp .eql 38 (.agg (u8s xs)) (.agg (u8s ys))).run Try.prog w = .ok (.bool (xs == ys)) w :=
  eql_u8s w (e := 5) 32 Try.underlying38 Try.underlying5 (by kernel_rfl) xs ys hx hy

section
variable (mode ver blk ol nl : Int) (D : List Int) (A : Option Addr) (n c : Nat) (xs : List Int) (w : World)
set_option maxHeartbeats 400000 in
set_option maxRecDepth 100000 in
theorem mmay_no1 (h1 : ¬ (128 ≤ blk ∧ blk ≤ 4096)) :
    Calls Try.prog 37 #[.agg (mfc mode ver blk ol nl D (.slice A n c))] w fun e w' => e = .returned (.bool false) ∧ Below w.heap.size w w' := by
  have F : Fr w w := Fr.refl w
  have e0 : (dmostN blk == 0) = true := by simp [dmostN, h1]
  clear h1
  go_enter Try.func37, Try.ntmps37
  go_wp2_with (first | ((with_reducible refine at_slot (N := 1) rfl ?_); refine ev_new rfl (cs := mfc mode ver blk ol nl D (.slice A n c)) (t := 41) (by first | (go_simp; done) | (go_simp; rfl)) ?_; intro gC hgC wC C nbC; have GEC : w.heap.size ≤ gC := (by rw [hgC]; exact F.size); clear hgC; replace F := F.step nbC; clear nbC) | ((with_reducible refine at_load (t := 5) rfl ?_); refine ev_load_cell rfl 5 _ rfl (i := 0) C rfl (by kernel_rfl) (by kernel_rfl) (mfc_0 _ _ _ _ _ _ _) ?_) | ((with_reducible refine at_load (t := 36) rfl ?_); refine ev_load_cell rfl 36 _ rfl (i := 1) C rfl (by kernel_rfl) (by kernel_rfl) (mfc_1 _ _ _ _ _ _ _) ?_) | ((with_reducible refine at_load (t := 3) rfl ?_); refine ev_load_cell rfl 3 _ rfl (i := 2) C rfl (by kernel_rfl) (by kernel_rfl) (mfc_2 _ _ _ _ _ _ _) ?_) | ((with_reducible refine at_load (t := 3) rfl ?_); refine ev_load_cell rfl 3 _ rfl (i := 3) C rfl (by kernel_rfl) (by kernel_rfl) (mfc_3 _ _ _ _ _ _ _) ?_) | ((with_reducible refine at_load (t := 3) rfl ?_); refine ev_load_cell rfl 3 _ rfl (i := 4) C rfl (by kernel_rfl) (by kernel_rfl) (mfc_4 _ _ _ _ _ _ _) ?_) | (go_at_call 58; (with_reducible refine (dmost_any _ _).mono ?_); rintro e w' ⟨rfl, rfl⟩))
  go_ret
  exact ⟨rfl, F.out⟩
set_option maxHeartbeats 400000 in
set_option maxRecDepth 100000 in
theorem mmay_no2 (h1 : 128 ≤ blk ∧ blk ≤ 4096) (h2 : goodLens ol nl = false) :
    Calls Try.prog 37 #[.agg (mfc mode ver blk ol nl D (.slice A n c))] w fun e w' => e = .returned (.bool false) ∧ Below w.heap.size w w' := by
  have F : Fr w w := Fr.refl w
  have e0 : (dmostN blk == 0) = false := by simp [dmostN, h1]; omega
  clear h1
  go_enter Try.func37, Try.ntmps37
  go_wp2_with (first | ((with_reducible refine at_slot (N := 1) rfl ?_); refine ev_new rfl (cs := mfc mode ver blk ol nl D (.slice A n c)) (t := 41) (by first | (go_simp; done) | (go_simp; rfl)) ?_; intro gC hgC wC C nbC; have GEC : w.heap.size ≤ gC := (by rw [hgC]; exact F.size); clear hgC; replace F := F.step nbC; clear nbC) | ((with_reducible refine at_slot (N := 13) rfl ?_); refine ev_new_slice (n := 2) (c := 2) rfl (cs := #[.int .i64 ol, .int .i64 nl]) (t := 3) (by first | (go_simp; done) | (go_simp; rfl)) ?_; intro gS hgS wS S nbS; have GES : w.heap.size ≤ gS := (by rw [hgS]; exact F.size); have neCS : gC ≠ gS := (by have := C.lt; omega); have neSC : gS ≠ gC := Ne.symm neCS; clear hgS; replace F := F.step nbS; replace C := C.below nbS; clear nbS) | ((with_reducible refine at_load (t := 5) rfl ?_); refine ev_load_cell rfl 5 _ rfl (i := 0) C rfl (by kernel_rfl) (by kernel_rfl) (mfc_0 _ _ _ _ _ _ _) ?_) | ((with_reducible refine at_load (t := 36) rfl ?_); refine ev_load_cell rfl 36 _ rfl (i := 1) C rfl (by kernel_rfl) (by kernel_rfl) (mfc_1 _ _ _ _ _ _ _) ?_) | ((with_reducible refine at_load (t := 3) rfl ?_); refine ev_load_cell rfl 3 _ rfl (i := 2) C rfl (by kernel_rfl) (by kernel_rfl) (mfc_2 _ _ _ _ _ _ _) ?_) | ((with_reducible refine at_load (t := 3) rfl ?_); refine ev_load_cell rfl 3 _ rfl (i := 3) C rfl (by kernel_rfl) (by kernel_rfl) (mfc_3 _ _ _ _ _ _ _) ?_) | ((with_reducible refine at_load (t := 3) rfl ?_); refine ev_load_cell rfl 3 _ rfl (i := 4) C rfl (by kernel_rfl) (by kernel_rfl) (mfc_4 _ _ _ _ _ _ _) ?_) | (go_at_call 58; (with_reducible refine (dmost_any _ _).mono ?_); rintro e w' ⟨rfl, rfl⟩) | (go_at_call 59; (with_reducible refine (lengths_any _ _ _ _ S).mono ?_); rintro e w' ⟨rfl, rfl⟩))
  go_ret
  exact ⟨rfl, F.out⟩
set_option maxHeartbeats 400000 in
set_option maxRecDepth 100000 in
theorem mmay_no3 (h1 : 128 ≤ blk ∧ blk ≤ 4096) (h2 : goodLens ol nl = true) (hnl : nl ≤ 9223372036854775807) (h3 : 4096 < blocksN nl blk) :
    Calls Try.prog 37 #[.agg (mfc mode ver blk ol nl D (.slice A n c))] w fun e w' => e = .returned (.bool false) ∧ Below w.heap.size w w' := by
  have F : Fr w w := Fr.refl w
  have e0 : (dmostN blk == 0) = false := by simp [dmostN, h1]; omega
  clear h1
  go_enter Try.func37, Try.ntmps37
  go_wp2_with (first | ((with_reducible refine at_slot (N := 1) rfl ?_); refine ev_new rfl (cs := mfc mode ver blk ol nl D (.slice A n c)) (t := 41) (by first | (go_simp; done) | (go_simp; rfl)) ?_; intro gC hgC wC C nbC; have GEC : w.heap.size ≤ gC := (by rw [hgC]; exact F.size); clear hgC; replace F := F.step nbC; clear nbC) | ((with_reducible refine at_slot (N := 13) rfl ?_); refine ev_new_slice (n := 2) (c := 2) rfl (cs := #[.int .i64 ol, .int .i64 nl]) (t := 3) (by first | (go_simp; done) | (go_simp; rfl)) ?_; intro gS hgS wS S nbS; have GES : w.heap.size ≤ gS := (by rw [hgS]; exact F.size); have neCS : gC ≠ gS := (by have := C.lt; omega); have neSC : gS ≠ gC := Ne.symm neCS; clear hgS; replace F := F.step nbS; replace C := C.below nbS; clear nbS) | ((with_reducible refine at_load (t := 5) rfl ?_); refine ev_load_cell rfl 5 _ rfl (i := 0) C rfl (by kernel_rfl) (by kernel_rfl) (mfc_0 _ _ _ _ _ _ _) ?_) | ((with_reducible refine at_load (t := 36) rfl ?_); refine ev_load_cell rfl 36 _ rfl (i := 1) C rfl (by kernel_rfl) (by kernel_rfl) (mfc_1 _ _ _ _ _ _ _) ?_) | ((with_reducible refine at_load (t := 3) rfl ?_); refine ev_load_cell rfl 3 _ rfl (i := 2) C rfl (by kernel_rfl) (by kernel_rfl) (mfc_2 _ _ _ _ _ _ _) ?_) | ((with_reducible refine at_load (t := 3) rfl ?_); refine ev_load_cell rfl 3 _ rfl (i := 3) C rfl (by kernel_rfl) (by kernel_rfl) (mfc_3 _ _ _ _ _ _ _) ?_) | ((with_reducible refine at_load (t := 3) rfl ?_); refine ev_load_cell rfl 3 _ rfl (i := 4) C rfl (by kernel_rfl) (by kernel_rfl) (mfc_4 _ _ _ _ _ _ _) ?_) | ((with_reducible refine at_load (t := 39) rfl ?_); refine ev_load_cell rfl 39 _ rfl (i := 101) C rfl (by kernel_rfl) (by kernel_rfl) (mfc_o _ _ _ _ _ _ _ hD) ?_) | (go_at_call 58; (with_reducible refine (dmost_any _ _).mono ?_); rintro e w' ⟨rfl, rfl⟩) | (go_at_call 59; (with_reducible refine (lengths_any _ _ _ _ S).mono ?_); rintro e w' ⟨rfl, rfl⟩) | (go_at_call 57; (with_reducible refine (blocks_any _ _ hnl _).mono ?_); rintro e w' ⟨rfl, rfl⟩))
  go_ret
  exact ⟨rfl, F.out⟩
set_option maxHeartbeats 400000 in
set_option maxRecDepth 100000 in
theorem mmay_place (h1 : 128 ≤ blk ∧ blk ≤ 4096) (h2 : goodLens ol nl = true) (hnl : nl ≤ 9223372036854775807) (h3 : blocksN nl blk ≤ 4096) (R : Rd w .i64 A n xs) (hD : D.length = 96) (hn : n ≤ 1152921504606846976) (hc : n ≤ c) (hm : mode = 2) :
    Calls Try.prog 37 #[.agg (mfc mode ver blk ol nl D (.slice A n c))] w fun e w' => e = .returned (.bool (onceB xs (blocksN nl blk))) ∧ Below w.heap.size w w' := by
  have F : Fr w w := Fr.refl w
  have e0 : (dmostN blk == 0) = false := by simp [dmostN, h1]; omega
  clear h1
  have m2 : (mode == 2) = true := by simp [hm]
  clear hm
  go_enter Try.func37, Try.ntmps37
  go_wp2_with (first | ((with_reducible refine at_slot (N := 1) rfl ?_); refine ev_new rfl (cs := mfc mode ver blk ol nl D (.slice A n c)) (t := 41) (by first | (go_simp; done) | (go_simp; rfl)) ?_; intro gC hgC wC C nbC; have GEC : w.heap.size ≤ gC := (by rw [hgC]; exact F.size); clear hgC; replace F := F.step nbC; replace R := R.below nbC; clear nbC) | ((with_reducible refine at_slot (N := 13) rfl ?_); refine ev_new_slice (n := 2) (c := 2) rfl (cs := #[.int .i64 ol, .int .i64 nl]) (t := 3) (by first | (go_simp; done) | (go_simp; rfl)) ?_; intro gS hgS wS S nbS; have GES : w.heap.size ≤ gS := (by rw [hgS]; exact F.size); have neCS : gC ≠ gS := (by have := C.lt; omega); have neSC : gS ≠ gC := Ne.symm neCS; clear hgS; replace F := F.step nbS; replace C := C.below nbS; replace R := R.below nbS; clear nbS) | ((with_reducible refine at_load (t := 5) rfl ?_); refine ev_load_cell rfl 5 _ rfl (i := 0) C rfl (by kernel_rfl) (by kernel_rfl) (mfc_0 _ _ _ _ _ _ _) ?_) | ((with_reducible refine at_load (t := 36) rfl ?_); refine ev_load_cell rfl 36 _ rfl (i := 1) C rfl (by kernel_rfl) (by kernel_rfl) (mfc_1 _ _ _ _ _ _ _) ?_) | ((with_reducible refine at_load (t := 3) rfl ?_); refine ev_load_cell rfl 3 _ rfl (i := 2) C rfl (by kernel_rfl) (by kernel_rfl) (mfc_2 _ _ _ _ _ _ _) ?_) | ((with_reducible refine at_load (t := 3) rfl ?_); refine ev_load_cell rfl 3 _ rfl (i := 3) C rfl (by kernel_rfl) (by kernel_rfl) (mfc_3 _ _ _ _ _ _ _) ?_) | ((with_reducible refine at_load (t := 3) rfl ?_); refine ev_load_cell rfl 3 _ rfl (i := 4) C rfl (by kernel_rfl) (by kernel_rfl) (mfc_4 _ _ _ _ _ _ _) ?_) | ((with_reducible refine at_load (t := 39) rfl ?_); refine ev_load_cell rfl 39 _ rfl (i := 101) C rfl (by kernel_rfl) (by kernel_rfl) (mfc_o _ _ _ _ _ _ _ hD) ?_) | (go_at_call 58; (with_reducible refine (dmost_any _ _).mono ?_); rintro e w' ⟨rfl, rfl⟩) | (go_at_call 59; (with_reducible refine (lengths_any _ _ _ _ S).mono ?_); rintro e w' ⟨rfl, rfl⟩) | (go_at_call 57; (with_reducible refine (blocks_any _ _ hnl _).mono ?_); rintro e w' ⟨rfl, rfl⟩) | (go_at_call 60; (with_reducible refine (once_any _ _ _ _ _ _ R hn (by omega) hc).mono ?_); rintro e w2 ⟨rfl, nb⟩; replace F := F.step nb; replace C := C.below nb; clear nb))
  go_ret
  exact ⟨rfl, F.out⟩
set_option maxHeartbeats 400000 in
set_option maxRecDepth 100000 in
theorem mmay_full1 (h1 : 128 ≤ blk ∧ blk ≤ 4096) (h2 : goodLens ol nl = true) (hnl : nl ≤ 9223372036854775807) (h3 : blocksN nl blk ≤ 4096) (hD : D.length = 96) (hm2 : ¬ mode = 2) (hm3 : mode = 3) (hl : ¬ n = 0) :
    Calls Try.prog 37 #[.agg (mfc mode ver blk ol nl D (.slice A n c))] w fun e w' => e = .returned (.bool false) ∧ Below w.heap.size w w' := by
  have F : Fr w w := Fr.refl w
  have e0 : (dmostN blk == 0) = false := by simp [dmostN, h1]; omega
  clear h1
  have m2 : (mode == 2) = false := by simpa using hm2
  clear hm2
  have m3 : (mode == 3) = true := by simpa using hm3
  clear hm3
  have l0 : ((n : Int) == 0) = false := by simp; omega
  clear hl
  go_enter Try.func37, Try.ntmps37
  go_wp2_with (first | ((with_reducible refine at_slot (N := 1) rfl ?_); refine ev_new rfl (cs := mfc mode ver blk ol nl D (.slice A n c)) (t := 41) (by first | (go_simp; done) | (go_simp; rfl)) ?_; intro gC hgC wC C nbC; have GEC : w.heap.size ≤ gC := (by rw [hgC]; exact F.size); clear hgC; replace F := F.step nbC; clear nbC) | ((with_reducible refine at_slot (N := 13) rfl ?_); refine ev_new_slice (n := 2) (c := 2) rfl (cs := #[.int .i64 ol, .int .i64 nl]) (t := 3) (by first | (go_simp; done) | (go_simp; rfl)) ?_; intro gS hgS wS S nbS; have GES : w.heap.size ≤ gS := (by rw [hgS]; exact F.size); have neCS : gC ≠ gS := (by have := C.lt; omega); have neSC : gS ≠ gC := Ne.symm neCS; clear hgS; replace F := F.step nbS; replace C := C.below nbS; clear nbS) | ((with_reducible refine at_load (t := 5) rfl ?_); refine ev_load_cell rfl 5 _ rfl (i := 0) C rfl (by kernel_rfl) (by kernel_rfl) (mfc_0 _ _ _ _ _ _ _) ?_) | ((with_reducible refine at_load (t := 36) rfl ?_); refine ev_load_cell rfl 36 _ rfl (i := 1) C rfl (by kernel_rfl) (by kernel_rfl) (mfc_1 _ _ _ _ _ _ _) ?_) | ((with_reducible refine at_load (t := 3) rfl ?_); refine ev_load_cell rfl 3 _ rfl (i := 2) C rfl (by kernel_rfl) (by kernel_rfl) (mfc_2 _ _ _ _ _ _ _) ?_) | ((with_reducible refine at_load (t := 3) rfl ?_); refine ev_load_cell rfl 3 _ rfl (i := 3) C rfl (by kernel_rfl) (by kernel_rfl) (mfc_3 _ _ _ _ _ _ _) ?_) | ((with_reducible refine at_load (t := 3) rfl ?_); refine ev_load_cell rfl 3 _ rfl (i := 4) C rfl (by kernel_rfl) (by kernel_rfl) (mfc_4 _ _ _ _ _ _ _) ?_) | ((with_reducible refine at_load (t := 39) rfl ?_); refine ev_load_cell rfl 39 _ rfl (i := 101) C rfl (by kernel_rfl) (by kernel_rfl) (mfc_o _ _ _ _ _ _ _ hD) ?_) | (go_at_call 58; (with_reducible refine (dmost_any _ _).mono ?_); rintro e w' ⟨rfl, rfl⟩) | (go_at_call 59; (with_reducible refine (lengths_any _ _ _ _ S).mono ?_); rintro e w' ⟨rfl, rfl⟩) | (go_at_call 57; (with_reducible refine (blocks_any _ _ hnl _).mono ?_); rintro e w' ⟨rfl, rfl⟩))
  go_ret
  exact ⟨rfl, F.out⟩
set_option maxHeartbeats 400000 in
set_option maxRecDepth 100000 in
theorem mmay_full2 (h1 : 128 ≤ blk ∧ blk ≤ 4096) (h2 : goodLens ol nl = true) (hnl : nl ≤ 9223372036854775807) (h3 : blocksN nl blk ≤ 4096) (hD : D.length = 96) (hm2 : ¬ mode = 2) (hm3 : mode = 3) (hl : n = 0) (ho : ¬ ol = 0) :
    Calls Try.prog 37 #[.agg (mfc mode ver blk ol nl D (.slice A n c))] w fun e w' => e = .returned (.bool false) ∧ Below w.heap.size w w' := by
  have F : Fr w w := Fr.refl w
  have e0 : (dmostN blk == 0) = false := by simp [dmostN, h1]; omega
  clear h1
  have m2 : (mode == 2) = false := by simpa using hm2
  clear hm2
  have m3 : (mode == 3) = true := by simpa using hm3
  clear hm3
  have l0 : ((n : Int) == 0) = true := by simp [hl]
  have o0 : (ol == 0) = false := by simpa using ho
  clear hl ho
  go_enter Try.func37, Try.ntmps37
  go_wp2_with (first | ((with_reducible refine at_slot (N := 1) rfl ?_); refine ev_new rfl (cs := mfc mode ver blk ol nl D (.slice A n c)) (t := 41) (by first | (go_simp; done) | (go_simp; rfl)) ?_; intro gC hgC wC C nbC; have GEC : w.heap.size ≤ gC := (by rw [hgC]; exact F.size); clear hgC; replace F := F.step nbC; clear nbC) | ((with_reducible refine at_slot (N := 13) rfl ?_); refine ev_new_slice (n := 2) (c := 2) rfl (cs := #[.int .i64 ol, .int .i64 nl]) (t := 3) (by first | (go_simp; done) | (go_simp; rfl)) ?_; intro gS hgS wS S nbS; have GES : w.heap.size ≤ gS := (by rw [hgS]; exact F.size); have neCS : gC ≠ gS := (by have := C.lt; omega); have neSC : gS ≠ gC := Ne.symm neCS; clear hgS; replace F := F.step nbS; replace C := C.below nbS; clear nbS) | ((with_reducible refine at_load (t := 5) rfl ?_); refine ev_load_cell rfl 5 _ rfl (i := 0) C rfl (by kernel_rfl) (by kernel_rfl) (mfc_0 _ _ _ _ _ _ _) ?_) | ((with_reducible refine at_load (t := 36) rfl ?_); refine ev_load_cell rfl 36 _ rfl (i := 1) C rfl (by kernel_rfl) (by kernel_rfl) (mfc_1 _ _ _ _ _ _ _) ?_) | ((with_reducible refine at_load (t := 3) rfl ?_); refine ev_load_cell rfl 3 _ rfl (i := 2) C rfl (by kernel_rfl) (by kernel_rfl) (mfc_2 _ _ _ _ _ _ _) ?_) | ((with_reducible refine at_load (t := 3) rfl ?_); refine ev_load_cell rfl 3 _ rfl (i := 3) C rfl (by kernel_rfl) (by kernel_rfl) (mfc_3 _ _ _ _ _ _ _) ?_) | ((with_reducible refine at_load (t := 3) rfl ?_); refine ev_load_cell rfl 3 _ rfl (i := 4) C rfl (by kernel_rfl) (by kernel_rfl) (mfc_4 _ _ _ _ _ _ _) ?_) | ((with_reducible refine at_load (t := 39) rfl ?_); refine ev_load_cell rfl 39 _ rfl (i := 101) C rfl (by kernel_rfl) (by kernel_rfl) (mfc_o _ _ _ _ _ _ _ hD) ?_) | (go_at_call 58; (with_reducible refine (dmost_any _ _).mono ?_); rintro e w' ⟨rfl, rfl⟩) | (go_at_call 59; (with_reducible refine (lengths_any _ _ _ _ S).mono ?_); rintro e w' ⟨rfl, rfl⟩) | (go_at_call 57; (with_reducible refine (blocks_any _ _ hnl _).mono ?_); rintro e w' ⟨rfl, rfl⟩))
  go_ret
  exact ⟨rfl, F.out⟩
set_option maxHeartbeats 400000 in
set_option maxRecDepth 100000 in
theorem mmay_full3 (h1 : 128 ≤ blk ∧ blk ≤ 4096) (h2 : goodLens ol nl = true) (hnl : nl ≤ 9223372036854775807) (h3 : blocksN nl blk ≤ 4096) (hD : D.length = 96) (hm2 : ¬ mode = 2) (hm3 : mode = 3) (hl : n = 0) (ho : ol = 0) :
    Calls Try.prog 37 #[.agg (mfc mode ver blk ol nl D (.slice A n c))] w fun e w' => e = .returned (.bool (D.take 32 == zeros32)) ∧ Below w.heap.size w w' := by
  have F : Fr w w := Fr.refl w
  have e0 : (dmostN blk == 0) = false := by simp [dmostN, h1]; omega
  clear h1
  have m2 : (mode == 2) = false := by simpa using hm2
  clear hm2
  have m3 : (mode == 3) = true := by simpa using hm3
  clear hm3
  have l0 : ((n : Int) == 0) = true := by simp [hl]
  have o0 : (ol == 0) = true := by simpa using ho
  clear hl ho
  go_enter Try.func37, Try.ntmps37
  go_wp2_with (first | ((with_reducible refine at_slot (N := 1) rfl ?_); refine ev_new rfl (cs := mfc mode ver blk ol nl D (.slice A n c)) (t := 41) (by first | (go_simp; done) | (go_simp; rfl)) ?_; intro gC hgC wC C nbC; have GEC : w.heap.size ≤ gC := (by rw [hgC]; exact F.size); clear hgC; replace F := F.step nbC; clear nbC) | ((with_reducible refine at_slot (N := 13) rfl ?_); refine ev_new_slice (n := 2) (c := 2) rfl (cs := #[.int .i64 ol, .int .i64 nl]) (t := 3) (by first | (go_simp; done) | (go_simp; rfl)) ?_; intro gS hgS wS S nbS; have GES : w.heap.size ≤ gS := (by rw [hgS]; exact F.size); have neCS : gC ≠ gS := (by have := C.lt; omega); have neSC : gS ≠ gC := Ne.symm neCS; clear hgS; replace F := F.step nbS; replace C := C.below nbS; clear nbS) | ((with_reducible refine at_load (t := 5) rfl ?_); refine ev_load_cell rfl 5 _ rfl (i := 0) C rfl (by kernel_rfl) (by kernel_rfl) (mfc_0 _ _ _ _ _ _ _) ?_) | ((with_reducible refine at_load (t := 36) rfl ?_); refine ev_load_cell rfl 36 _ rfl (i := 1) C rfl (by kernel_rfl) (by kernel_rfl) (mfc_1 _ _ _ _ _ _ _) ?_) | ((with_reducible refine at_load (t := 3) rfl ?_); refine ev_load_cell rfl 3 _ rfl (i := 2) C rfl (by kernel_rfl) (by kernel_rfl) (mfc_2 _ _ _ _ _ _ _) ?_) | ((with_reducible refine at_load (t := 3) rfl ?_); refine ev_load_cell rfl 3 _ rfl (i := 3) C rfl (by kernel_rfl) (by kernel_rfl) (mfc_3 _ _ _ _ _ _ _) ?_) | ((with_reducible refine at_load (t := 3) rfl ?_); refine ev_load_cell rfl 3 _ rfl (i := 4) C rfl (by kernel_rfl) (by kernel_rfl) (mfc_4 _ _ _ _ _ _ _) ?_) | ((with_reducible refine at_load (t := 39) rfl ?_); refine ev_load_cell rfl 39 _ rfl (i := 101) C rfl (by kernel_rfl) (by kernel_rfl) (mfc_o _ _ _ _ _ _ _ hD) ?_) | (go_at_call 58; (with_reducible refine (dmost_any _ _).mono ?_); rintro e w' ⟨rfl, rfl⟩) | (go_at_call 59; (with_reducible refine (lengths_any _ _ _ _ S).mono ?_); rintro e w' ⟨rfl, rfl⟩) | (go_at_call 57; (with_reducible refine (blocks_any _ _ hnl _).mono ?_); rintro e w' ⟨rfl, rfl⟩) | ((with_reducible refine at_load (t := 38) rfl ?_); refine ev_load_mid rfl 38 _ rfl (i := 5) (n := 32) C rfl Try.underlying38 rfl (by kernel_rfl) (by rw [mfc_size _ _ _ _ _ _ _ hD]; decide) (u8s (D.take 32)) (by have h := mfc_cut mode ver blk ol nl D (.slice A n c) 0 32 (by omega); simpa using h) ?_) | ((with_reducible refine at_build (t := 38) rfl ?_); refine ev_build0 rfl 38 rfl (zeros_u8s _) ?_) | ((with_reducible refine at_bin (b := .eql) (t := 38) rfl ?_); refine ev_eql rfl 38 _ _ rfl rfl rfl (by kernel_rfl) (eq_dig _ _ (by simp; omega) (by rfl) _) ?_))
  go_ret
  exact ⟨rfl, F.out⟩
set_option maxHeartbeats 400000 in
set_option maxRecDepth 100000 in
theorem mmay_ab1 (h1 : 128 ≤ blk ∧ blk ≤ 4096) (h2 : goodLens ol nl = true) (hnl : nl ≤ 9223372036854775807) (h3 : blocksN nl blk ≤ 4096) (hD : D.length = 96) (hm2 : ¬ mode = 2) (hm3 : ¬ mode = 3) (hm1 : ¬ mode = 1) :
    Calls Try.prog 37 #[.agg (mfc mode ver blk ol nl D (.slice A n c))] w fun e w' => e = .returned (.bool false) ∧ Below w.heap.size w w' := by
  have F : Fr w w := Fr.refl w
  have e0 : (dmostN blk == 0) = false := by simp [dmostN, h1]; omega
  clear h1
  have m2 : (mode == 2) = false := by simpa using hm2
  clear hm2
  have m3 : (mode == 3) = false := by simpa using hm3
  clear hm3
  have m1 : (mode == 1) = false := by simpa using hm1
  clear hm1
  go_enter Try.func37, Try.ntmps37
  go_wp2_with (first | ((with_reducible refine at_slot (N := 1) rfl ?_); refine ev_new rfl (cs := mfc mode ver blk ol nl D (.slice A n c)) (t := 41) (by first | (go_simp; done) | (go_simp; rfl)) ?_; intro gC hgC wC C nbC; have GEC : w.heap.size ≤ gC := (by rw [hgC]; exact F.size); clear hgC; replace F := F.step nbC; clear nbC) | ((with_reducible refine at_slot (N := 13) rfl ?_); refine ev_new_slice (n := 2) (c := 2) rfl (cs := #[.int .i64 ol, .int .i64 nl]) (t := 3) (by first | (go_simp; done) | (go_simp; rfl)) ?_; intro gS hgS wS S nbS; have GES : w.heap.size ≤ gS := (by rw [hgS]; exact F.size); have neCS : gC ≠ gS := (by have := C.lt; omega); have neSC : gS ≠ gC := Ne.symm neCS; clear hgS; replace F := F.step nbS; replace C := C.below nbS; clear nbS) | ((with_reducible refine at_load (t := 5) rfl ?_); refine ev_load_cell rfl 5 _ rfl (i := 0) C rfl (by kernel_rfl) (by kernel_rfl) (mfc_0 _ _ _ _ _ _ _) ?_) | ((with_reducible refine at_load (t := 36) rfl ?_); refine ev_load_cell rfl 36 _ rfl (i := 1) C rfl (by kernel_rfl) (by kernel_rfl) (mfc_1 _ _ _ _ _ _ _) ?_) | ((with_reducible refine at_load (t := 3) rfl ?_); refine ev_load_cell rfl 3 _ rfl (i := 2) C rfl (by kernel_rfl) (by kernel_rfl) (mfc_2 _ _ _ _ _ _ _) ?_) | ((with_reducible refine at_load (t := 3) rfl ?_); refine ev_load_cell rfl 3 _ rfl (i := 3) C rfl (by kernel_rfl) (by kernel_rfl) (mfc_3 _ _ _ _ _ _ _) ?_) | ((with_reducible refine at_load (t := 3) rfl ?_); refine ev_load_cell rfl 3 _ rfl (i := 4) C rfl (by kernel_rfl) (by kernel_rfl) (mfc_4 _ _ _ _ _ _ _) ?_) | ((with_reducible refine at_load (t := 39) rfl ?_); refine ev_load_cell rfl 39 _ rfl (i := 101) C rfl (by kernel_rfl) (by kernel_rfl) (mfc_o _ _ _ _ _ _ _ hD) ?_) | (go_at_call 58; (with_reducible refine (dmost_any _ _).mono ?_); rintro e w' ⟨rfl, rfl⟩) | (go_at_call 59; (with_reducible refine (lengths_any _ _ _ _ S).mono ?_); rintro e w' ⟨rfl, rfl⟩) | (go_at_call 57; (with_reducible refine (blocks_any _ _ hnl _).mono ?_); rintro e w' ⟨rfl, rfl⟩))
  go_ret
  exact ⟨rfl, F.out⟩
set_option maxHeartbeats 400000 in
set_option maxRecDepth 100000 in
theorem mmay_ab2 (h1 : 128 ≤ blk ∧ blk ≤ 4096) (h2 : goodLens ol nl = true) (hnl : nl ≤ 9223372036854775807) (h3 : blocksN nl blk ≤ 4096) (hD : D.length = 96) (hm2 : ¬ mode = 2) (hm3 : ¬ mode = 3) (hm1 : mode = 1) :
    Calls Try.prog 37 #[.agg (mfc mode ver blk ol nl D (.slice A n c))] w fun e w' => e = .returned (.bool (decide (n = 0))) ∧ Below w.heap.size w w' := by
  have F : Fr w w := Fr.refl w
  have e0 : (dmostN blk == 0) = false := by simp [dmostN, h1]; omega
  clear h1
  have m2 : (mode == 2) = false := by simpa using hm2
  clear hm2
  have m3 : (mode == 3) = false := by simpa using hm3
  clear hm3
  have m1 : (mode == 1) = true := by simpa using hm1
  clear hm1
  go_enter Try.func37, Try.ntmps37
  go_wp2_with (first | ((with_reducible refine at_slot (N := 1) rfl ?_); refine ev_new rfl (cs := mfc mode ver blk ol nl D (.slice A n c)) (t := 41) (by first | (go_simp; done) | (go_simp; rfl)) ?_; intro gC hgC wC C nbC; have GEC : w.heap.size ≤ gC := (by rw [hgC]; exact F.size); clear hgC; replace F := F.step nbC; clear nbC) | ((with_reducible refine at_slot (N := 13) rfl ?_); refine ev_new_slice (n := 2) (c := 2) rfl (cs := #[.int .i64 ol, .int .i64 nl]) (t := 3) (by first | (go_simp; done) | (go_simp; rfl)) ?_; intro gS hgS wS S nbS; have GES : w.heap.size ≤ gS := (by rw [hgS]; exact F.size); have neCS : gC ≠ gS := (by have := C.lt; omega); have neSC : gS ≠ gC := Ne.symm neCS; clear hgS; replace F := F.step nbS; replace C := C.below nbS; clear nbS) | ((with_reducible refine at_load (t := 5) rfl ?_); refine ev_load_cell rfl 5 _ rfl (i := 0) C rfl (by kernel_rfl) (by kernel_rfl) (mfc_0 _ _ _ _ _ _ _) ?_) | ((with_reducible refine at_load (t := 36) rfl ?_); refine ev_load_cell rfl 36 _ rfl (i := 1) C rfl (by kernel_rfl) (by kernel_rfl) (mfc_1 _ _ _ _ _ _ _) ?_) | ((with_reducible refine at_load (t := 3) rfl ?_); refine ev_load_cell rfl 3 _ rfl (i := 2) C rfl (by kernel_rfl) (by kernel_rfl) (mfc_2 _ _ _ _ _ _ _) ?_) | ((with_reducible refine at_load (t := 3) rfl ?_); refine ev_load_cell rfl 3 _ rfl (i := 3) C rfl (by kernel_rfl) (by kernel_rfl) (mfc_3 _ _ _ _ _ _ _) ?_) | ((with_reducible refine at_load (t := 3) rfl ?_); refine ev_load_cell rfl 3 _ rfl (i := 4) C rfl (by kernel_rfl) (by kernel_rfl) (mfc_4 _ _ _ _ _ _ _) ?_) | ((with_reducible refine at_load (t := 39) rfl ?_); refine ev_load_cell rfl 39 _ rfl (i := 101) C rfl (by kernel_rfl) (by kernel_rfl) (mfc_o _ _ _ _ _ _ _ hD) ?_) | (go_at_call 58; (with_reducible refine (dmost_any _ _).mono ?_); rintro e w' ⟨rfl, rfl⟩) | (go_at_call 59; (with_reducible refine (lengths_any _ _ _ _ S).mono ?_); rintro e w' ⟨rfl, rfl⟩) | (go_at_call 57; (with_reducible refine (blocks_any _ _ hnl _).mono ?_); rintro e w' ⟨rfl, rfl⟩))
  go_ret
  exact ⟨ret_bool' (by rw [Bool.eq_iff_iff]; simp), F.out⟩

/-- May, whole. -/
theorem mmay_any (v : Bool) (hv : mayM mode blk ol nl D xs = v) (R : Rd w .i64 A n xs) (hD : D.length = 96) (hn : n ≤ 1152921504606846976) (hc : n ≤ c) (hnl : nl ≤ 9223372036854775807) :
    Calls Try.prog 37 #[.agg (mfc mode ver blk ol nl D (.slice A n c))] w fun e w' => e = .returned (.bool v) ∧ Below w.heap.size w w' := by
  have hl := R.len
  subst hv
  by_cases h1 : 128 ≤ blk ∧ blk ≤ 4096
  · cases h2 : goodLens ol nl
    · rw [show mayM mode blk ol nl D xs = false by simp [mayM, h2]]
      exact mmay_no2 _ _ _ _ _ _ _ _ _ _ h1 h2
    · by_cases h3 : blocksN nl blk ≤ 4096
      · have e0 : mayM mode blk ol nl D xs = (if mode = 2 then onceB xs (blocksN nl blk) else if mode = 3 then decide (xs.length = 0) && (decide (ol = 0) && (D.take 32 == zeros32)) else decide (mode = 1) && decide (xs.length = 0)) := by simp [mayM, h1, h2, h3]
        rw [e0, hl]
        by_cases hm2 : mode = 2
        · rw [if_pos hm2]
          exact mmay_place _ _ _ _ _ _ _ _ _ _ _ h1 h2 hnl h3 R hD hn hc hm2
        · rw [if_neg hm2]
          by_cases hm3 : mode = 3
          · rw [if_pos hm3]
            by_cases hl0 : n = 0
            · rw [decide_eq_true hl0, Bool.true_and]
              by_cases ho : ol = 0
              · rw [decide_eq_true ho, Bool.true_and]
                exact mmay_full3 _ _ _ _ _ _ _ _ _ _ h1 h2 hnl h3 hD hm2 hm3 hl0 ho
              · rw [decide_eq_false ho, Bool.false_and]
                exact mmay_full2 _ _ _ _ _ _ _ _ _ _ h1 h2 hnl h3 hD hm2 hm3 hl0 ho
            · rw [decide_eq_false hl0, Bool.false_and]
              exact mmay_full1 _ _ _ _ _ _ _ _ _ _ h1 h2 hnl h3 hD hm2 hm3 hl0
          · rw [if_neg hm3]
            by_cases hm1 : mode = 1
            · rw [decide_eq_true hm1, Bool.true_and]
              exact mmay_ab2 _ _ _ _ _ _ _ _ _ _ h1 h2 hnl h3 hD hm2 hm3 hm1
            · rw [decide_eq_false hm1, Bool.false_and]
              exact mmay_ab1 _ _ _ _ _ _ _ _ _ _ h1 h2 hnl h3 hD hm2 hm3 hm1
      · rw [show mayM mode blk ol nl D xs = false by simp [mayM, h3]]
        exact mmay_no3 _ _ _ _ _ _ _ _ _ _ h1 h2 hnl (by omega)
  · rw [show mayM mode blk ol nl D xs = false by simp [mayM, h1]]
    exact mmay_no1 _ _ _ _ _ _ _ _ _ _ h1
end
end Go.Proofs.Ytgloienpmikcfaa
