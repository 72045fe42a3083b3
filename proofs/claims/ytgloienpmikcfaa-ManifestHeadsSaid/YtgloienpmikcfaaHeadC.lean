/-
  The statement ManifestHeads (walk).
-/
import Derived.Test.YtgloienpmikcfaaHeadB
set_option linter.unusedVariables false
set_option linter.unusedSimpArgs false
namespace Go.Proofs.Ytgloienpmikcfaa
open Go.RowKit

section
variable (mode ver blk ol nl : Int) (D : List Int) (A : Option Addr) (n c : Nat) (xs : List Int) (B : Option Addr) (m c2 : Nat) (ys : List Int) (w : World)
set_option maxHeartbeats 1600000 in
set_option maxRecDepth 100000 in
theorem manifestHeads_walk (R : Rd w .i64 A n xs) (hD : D.length = 96) (hc : n ≤ c) (hnl : nl ≤ 9223372036854775807) (R2 : Rd w .u8 B m ys) :
    Calls Try.prog 7 #[.agg (mfc mode ver blk ol nl D (.slice A n c)), .slice B m c2] w fun e w' => e = .returned (.bool true) ∧ Below w.heap.size w w' := by
  have F : Fr w w := Fr.refl w
  by_cases h60 : 60 < n
  · have d0 : decide (60 < (n : Int)) = true := decide_eq_true (by omega)
    go_enter Try.func7, Try.ntmps7
    go_wp2_with (first | ((with_reducible refine at_slot (N := 2) rfl ?_); go_loud (refine ev_new rfl (cs := mfc mode ver blk ol nl D (.slice A n c)) (t := 41) (by first | (go_simp; done) | (go_simp; rfl)) ?_; intro gC hgC wC C nbC; have GEC : w.heap.size ≤ gC := (by rw [hgC]; exact F.size); clear hgC; replace F := F.step nbC; clear nbC)) | ((with_reducible refine at_load (t := 39) rfl ?_); go_loud (refine ev_load_cell rfl 39 _ rfl (i := 101) C rfl (by kernel_rfl) (by kernel_rfl) (mfc_o _ _ _ _ _ _ _ hD) ?_)) | (go_at_call 28; go_loud ((with_reducible refine (awake22_any _).mono ?_); rintro e w1 ⟨rfl, nb⟩; replace F := F.step nb; clear nb)))
    go_ret
    exact ⟨rfl, F.out⟩
  have d0 : decide (60 < (n : Int)) = false := decide_eq_false (by omega)
  by_cases h14 : 140000 < m
  · have d1 : decide (140000 < (m : Int)) = true := decide_eq_true (by omega)
    go_enter Try.func7, Try.ntmps7
    go_wp2_with (first | ((with_reducible refine at_slot (N := 2) rfl ?_); go_loud (refine ev_new rfl (cs := mfc mode ver blk ol nl D (.slice A n c)) (t := 41) (by first | (go_simp; done) | (go_simp; rfl)) ?_; intro gC hgC wC C nbC; have GEC : w.heap.size ≤ gC := (by rw [hgC]; exact F.size); clear hgC; replace F := F.step nbC; clear nbC)) | ((with_reducible refine at_load (t := 39) rfl ?_); go_loud (refine ev_load_cell rfl 39 _ rfl (i := 101) C rfl (by kernel_rfl) (by kernel_rfl) (mfc_o _ _ _ _ _ _ _ hD) ?_)) | (go_at_call 28; go_loud ((with_reducible refine (awake22_any _).mono ?_); rintro e w1 ⟨rfl, nb⟩; replace F := F.step nb; clear nb)))
    go_ret
    exact ⟨rfl, F.out⟩
  have d1 : decide (140000 < (m : Int)) = false := decide_eq_false (by omega)
  have hn : n ≤ 1152921504606846976 := by omega
  cases hv : mayM mode blk ol nl D xs
  · have HV := Lib.hid hv
    clear hv
    go_enter Try.func7, Try.ntmps7
    go_wp2_with (first | ((with_reducible refine at_slot (N := 2) rfl ?_); go_loud (refine ev_new rfl (cs := mfc mode ver blk ol nl D (.slice A n c)) (t := 41) (by first | (go_simp; done) | (go_simp; rfl)) ?_; intro gC hgC wC C nbC; have GEC : w.heap.size ≤ gC := (by rw [hgC]; exact F.size); clear hgC; replace F := F.step nbC; clear nbC)) | ((with_reducible refine at_load (t := 41) rfl ?_); go_loud (refine ev_load_row rfl 41 _ rfl C rfl Try.underlying41 rfl (by rw [mfc_size _ _ _ _ _ _ _ hD]; kernel_rfl) ?_)) | ((with_reducible refine at_load (t := 39) rfl ?_); go_loud (refine ev_load_cell rfl 39 _ rfl (i := 101) C rfl (by kernel_rfl) (by kernel_rfl) (mfc_o _ _ _ _ _ _ _ hD) ?_)) | (go_at_call 29; go_loud ((with_reducible refine (header_no _ _ _ _ _ _ _ _ _ _ _ _ _ _ HV.out (R.below F.out) hD hn hc hnl).mono ?_); rintro e w1 ⟨rfl, nb⟩; replace F := F.step nb; replace C := C.below nb; clear nb)) | (go_at_call 30; go_loud ((with_reducible refine (rheader_no _ _ _ _ _ _ _ _ _ _ _ _ _ _ HV.out (R.below F.out) hD hn hc hnl).mono ?_); rintro e w1 ⟨A1, c1, rfl, ON, nb⟩; replace ON := ON.mono F.size; replace C := C.below nb; replace F := F.step nb; (try clear O); have O := ON; clear ON nb)) | ((with_reducible refine at_convert (t := 44) (u := 9) rfl ?_); go_loud (refine ev_string rfl 44 9 5 rfl Try.underlying44 Try.underlying5 Try.underlying9 ((Rd.nil _ _ _)) rfl ?_)) | ((with_reducible refine at_convert (t := 44) (u := 9) rfl ?_); go_loud (refine ev_string rfl 44 9 5 rfl Try.underlying44 Try.underlying5 Try.underlying9 (O.rd) rfl ?_)) | (go_at_call 28; go_loud ((with_reducible refine (awake22_any _).mono ?_); rintro e w1 ⟨rfl, nb⟩; replace F := F.step nb; clear nb)))
    go_ret
    exact ⟨rfl, F.out⟩
  · by_cases hl : 131060 < 118 + 2 * n + m
    · have HV := Lib.hid hv
      have HL := Lib.hid hl
      clear hv hl
      go_enter Try.func7, Try.ntmps7
      go_wp2_with (first | ((with_reducible refine at_slot (N := 2) rfl ?_); go_loud (refine ev_new rfl (cs := mfc mode ver blk ol nl D (.slice A n c)) (t := 41) (by first | (go_simp; done) | (go_simp; rfl)) ?_; intro gC hgC wC C nbC; have GEC : w.heap.size ≤ gC := (by rw [hgC]; exact F.size); clear hgC; replace F := F.step nbC; clear nbC)) | ((with_reducible refine at_load (t := 41) rfl ?_); go_loud (refine ev_load_row rfl 41 _ rfl C rfl Try.underlying41 rfl (by rw [mfc_size _ _ _ _ _ _ _ hD]; kernel_rfl) ?_)) | ((with_reducible refine at_load (t := 39) rfl ?_); go_loud (refine ev_load_cell rfl 39 _ rfl (i := 101) C rfl (by kernel_rfl) (by kernel_rfl) (mfc_o _ _ _ _ _ _ _ hD) ?_)) | (go_at_call 29; go_loud ((with_reducible refine (header_long _ _ _ _ _ _ _ _ _ _ _ _ _ _ HV.out HL.out (R.below F.out) hD hc (by omega)).mono ?_); rintro e w1 ⟨rfl, nb⟩; replace F := F.step nb; replace C := C.below nb; clear nb)) | (go_at_call 30; go_loud ((with_reducible refine (rheader_long _ _ _ _ _ _ _ _ _ _ _ _ _ _ HV.out HL.out (R.below F.out) hD hc (by omega)).mono ?_); rintro e w1 ⟨A1, c1, rfl, ON, nb⟩; replace ON := ON.mono F.size; replace C := C.below nb; replace F := F.step nb; (try clear O); have O := ON; clear ON nb)) | ((with_reducible refine at_convert (t := 44) (u := 9) rfl ?_); go_loud (refine ev_string rfl 44 9 5 rfl Try.underlying44 Try.underlying5 Try.underlying9 ((Rd.nil _ _ _)) rfl ?_)) | ((with_reducible refine at_convert (t := 44) (u := 9) rfl ?_); go_loud (refine ev_string rfl 44 9 5 rfl Try.underlying44 Try.underlying5 Try.underlying9 (O.rd) rfl ?_)) | (go_at_call 28; go_loud ((with_reducible refine (awake22_any _).mono ?_); rintro e w1 ⟨rfl, nb⟩; replace F := F.step nb; clear nb)))
      go_ret
      exact ⟨rfl, F.out⟩
    · have HV := Lib.hid hv
      have HL := Lib.hid (show 118 + 2 * n + m ≤ 131060 by omega)
      clear hv hl
      obtain ⟨hb, hhb⟩ : ∃ b, hbytes (mbytes mode ver blk ol nl D xs) ys = b := ⟨_, rfl⟩
      have HB := Lib.hid hhb
      clear hhb
      go_enter Try.func7, Try.ntmps7
      go_wp2_with (first | ((with_reducible refine at_slot (N := 2) rfl ?_); go_loud (refine ev_new rfl (cs := mfc mode ver blk ol nl D (.slice A n c)) (t := 41) (by first | (go_simp; done) | (go_simp; rfl)) ?_; intro gC hgC wC C nbC; have GEC : w.heap.size ≤ gC := (by rw [hgC]; exact F.size); clear hgC; replace F := F.step nbC; clear nbC)) | ((with_reducible refine at_load (t := 41) rfl ?_); go_loud (refine ev_load_row rfl 41 _ rfl C rfl Try.underlying41 rfl (by rw [mfc_size _ _ _ _ _ _ _ hD]; kernel_rfl) ?_)) | ((with_reducible refine at_load (t := 39) rfl ?_); go_loud (refine ev_load_cell rfl 39 _ rfl (i := 101) C rfl (by kernel_rfl) (by kernel_rfl) (mfc_o _ _ _ _ _ _ _ hD) ?_)) | (go_at_call 29; go_loud ((with_reducible refine (header_yes _ _ _ _ _ _ _ _ _ _ _ _ _ _ _ HV.out HL.out (R.below F.out) hD hc (R2.below F.out)).mono ?_); rintro e w1 ⟨A1, c3, N1, rfl, ON, nb⟩; replace ON := ON.mono F.size; replace C := C.below nb; replace F := F.step nb; (try clear O); have O := ON; clear ON nb; rw [HB.out] at O; have ob := O; clear O; have O1 := ob; clear ob)) | (go_at_call 30; go_loud ((with_reducible refine (rheader_yes _ _ _ _ _ _ _ _ _ _ _ _ _ _ _ HV.out HL.out (R.below F.out) hD hc (R2.below F.out)).mono ?_); rintro e w1 ⟨A2, c4, N2, rfl, ON, nb⟩; replace ON := ON.mono F.size; replace C := C.below nb; replace O1 := O1.below nb; replace F := F.step nb; (try clear O); have O := ON; clear ON nb; rw [HB.out] at O)) | ((with_reducible refine at_convert (t := 44) (u := 9) rfl ?_); go_loud (refine ev_string rfl 44 9 5 rfl Try.underlying44 Try.underlying5 Try.underlying9 (O1.rd) rfl ?_)) | ((with_reducible refine at_convert (t := 44) (u := 9) rfl ?_); go_loud (refine ev_string rfl 44 9 5 rfl Try.underlying44 Try.underlying5 Try.underlying9 (O.rd) rfl ?_)) | (go_at_call 28; go_loud ((with_reducible refine (awake22_any _).mono ?_); rintro e w1 ⟨rfl, nb⟩; replace F := F.step nb; clear nb)))
      go_ret
      exact ⟨rfl, F.out⟩
end
end Go.Proofs.Ytgloienpmikcfaa
