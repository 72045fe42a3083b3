/-
  The document's package 22: Header (contracts); the statement ManifestHeads (walk).
-/
import Derived.Test.YtgloienpmikcfaaHeadA
import Derived.Test.YtgloienpmikcfaaManI
set_option linter.unusedVariables false
set_option linter.unusedSimpArgs false
namespace Go.Proofs.Ytgloienpmikcfaa
open Go.RowKit

section
variable (mode ver blk ol nl : Int) (D : List Int) (A : Option Addr) (n c : Nat) (xs : List Int) (B : Option Addr) (m c2 : Nat) (ys : List Int) (w : World)
set_option maxHeartbeats 800000 in
set_option maxRecDepth 100000 in
theorem rheader_no (hv : mayM mode blk ol nl D xs = false) (R : Rd w .i64 A n xs) (hD : D.length = 96) (hn : n ≤ 1152921504606846976) (hc : n ≤ c) (hnl : nl ≤ 9223372036854775807) :
    Calls Try.prog 30 #[.agg (mfc mode ver blk ol nl D (.slice A n c)), .slice B m c2] w fun e w' => ∃ A' c', e = .returned (.tuple #[.slice A' 0 c', .int .i64 3]) ∧ Own w' w.heap.size 5 .u8 A' 0 c' [] ∧ Below w.heap.size w w' := by
  have F : Fr w w := Fr.refl w
  have HV := Lib.hid hv
  clear hv
  go_enter Try.func30, Try.ntmps30
  go_wp2_with (first | ((with_reducible refine at_slot (N := 2) rfl ?_); go_loud (refine ev_new rfl (cs := mfc mode ver blk ol nl D (.slice A n c)) (t := 41) (by first | (go_simp; done) | (go_simp; rfl)) ?_; intro gC hgC wC C nbC; have GEC : w.heap.size ≤ gC := (by rw [hgC]; exact F.size); clear hgC; replace F := F.step nbC; clear nbC)) | ((with_reducible refine at_load (t := 41) rfl ?_); go_loud (refine ev_load_row rfl 41 _ rfl C rfl Try.underlying41 rfl (by rw [mfc_size _ _ _ _ _ _ _ hD]; kernel_rfl) ?_)) | (go_at_call 36; go_loud ((with_reducible refine (rput_no _ _ _ _ _ _ _ _ _ _ _ HV.out (R.below F.out) hD hn hc hnl).mono ?_); rintro e w1 ⟨A1, c1, rfl, ON, nb⟩; replace ON := ON.mono F.size; replace C := C.below nb; replace F := F.step nb; (try clear O); have O := ON; clear ON nb; clear O)) | ((with_reducible refine at_slot (N := 16) rfl ?_); go_loud (refine ev_new_slice (n := 0) (c := 0) rfl (cs := #[]) (t := 5) (by first | (go_simp; done) | (go_simp; rfl)) ?_; intro gS hgS wS S nbS; have GES : w.heap.size ≤ gS := (by rw [hgS]; exact F.size); clear hgS; replace F := F.step nbS; clear nbS; have O : Own _ _ _ .u8 _ _ _ _ := Own.ofBlk (xs := []) (n := 0) (c := 0) S GES rfl (by unfold maxLen; omega) (Nat.le_refl _) rfl rfl; clear S)))
  go_ret2
  exact ⟨_, _, rfl, O, F.out⟩

theorem rputN (N : Nat) (hN : 118 + 2 * n = N) (hv : mayM mode blk ol nl D xs = true) (R : Rd w .i64 A n xs) (hD : D.length = 96) (hc : n ≤ c) :
    Calls Try.prog 36 #[.agg (mfc mode ver blk ol nl D (.slice A n c))] w fun e w' => ∃ A' c', e = .returned (.tuple #[.slice A' N c', .int .i64 0]) ∧
      Own w' w.heap.size 5 .u8 A' N c' (mbytes mode ver blk ol nl D xs) ∧ Below w.heap.size w w' := by
  subst hN; exact rput_yes mode ver blk ol nl D A n c xs w hv R hD hc

set_option maxHeartbeats 800000 in
set_option maxRecDepth 100000 in
theorem rheader_long (hv : mayM mode blk ol nl D xs = true) (hl : 131060 < 118 + 2 * n + m) (R : Rd w .i64 A n xs) (hD : D.length = 96) (hc : n ≤ c) (hm : m ≤ 1152921504606846976) :
    Calls Try.prog 30 #[.agg (mfc mode ver blk ol nl D (.slice A n c)), .slice B m c2] w fun e w' => ∃ A' c', e = .returned (.tuple #[.slice A' 0 c', .int .i64 4]) ∧ Own w' w.heap.size 5 .u8 A' 0 c' [] ∧ Below w.heap.size w w' := by
  have F : Fr w w := Fr.refl w
  have hn : n ≤ 4096 := by have := (mayM_order hv).1; have := R.len; omega
  have HV := Lib.hid hv
  clear hv
  obtain ⟨N, hN⟩ : ∃ N, 118 + 2 * n = N := ⟨_, rfl⟩
  have hN2 : N ≤ 8310 := by omega
  have HNN := Lib.hid hN
  have d1 : 131060 < (N : Int) + (m : Int) := by omega
  clear hl hN
  go_enter Try.func30, Try.ntmps30
  go_wp2_with (first | ((with_reducible refine at_slot (N := 2) rfl ?_); go_loud (refine ev_new rfl (cs := mfc mode ver blk ol nl D (.slice A n c)) (t := 41) (by first | (go_simp; done) | (go_simp; rfl)) ?_; intro gC hgC wC C nbC; have GEC : w.heap.size ≤ gC := (by rw [hgC]; exact F.size); clear hgC; replace F := F.step nbC; clear nbC)) | ((with_reducible refine at_load (t := 41) rfl ?_); go_loud (refine ev_load_row rfl 41 _ rfl C rfl Try.underlying41 rfl (by rw [mfc_size _ _ _ _ _ _ _ hD]; kernel_rfl) ?_)) | (go_at_call 36; go_loud ((with_reducible refine (rputN _ _ _ _ _ _ _ _ _ _ _ N HNN.out HV.out (R.below F.out) hD hc).mono ?_); rintro e w1 ⟨A1, c1, rfl, ON, nb⟩; replace ON := ON.mono F.size; replace C := C.below nb; replace F := F.step nb; (try clear O); have O := ON; clear ON nb; clear O)) | ((with_reducible refine at_slot (N := 24) rfl ?_); go_loud (refine ev_new_slice (n := 0) (c := 0) rfl (cs := #[]) (t := 5) (by first | (go_simp; done) | (go_simp; rfl)) ?_; intro gS hgS wS S nbS; have GES : w.heap.size ≤ gS := (by rw [hgS]; exact F.size); clear hgS; replace F := F.step nbS; clear nbS; have O : Own _ _ _ .u8 _ _ _ _ := Own.ofBlk (xs := []) (n := 0) (c := 0) S GES rfl (by unfold maxLen; omega) (Nat.le_refl _) rfl rfl; clear S)))
  go_ret2
  exact ⟨_, _, rfl, O, F.out⟩

set_option maxHeartbeats 800000 in
set_option maxRecDepth 100000 in
theorem rheader_yes (hv : mayM mode blk ol nl D xs = true) (hl : 118 + 2 * n + m ≤ 131060) (R : Rd w .i64 A n xs) (hD : D.length = 96) (hc : n ≤ c) (R2 : Rd w .u8 B m ys) :
    Calls Try.prog 30 #[.agg (mfc mode ver blk ol nl D (.slice A n c)), .slice B m c2] w fun e w' => ∃ A' c' N, e = .returned (.tuple #[.slice A' N c', .int .i64 0]) ∧
      Own w' w.heap.size 5 .u8 A' N c' (hbytes (mbytes mode ver blk ol nl D xs) ys) ∧ Below w.heap.size w w' := by
  have F : Fr w w := Fr.refl w
  have hn : n ≤ 4096 := by have := (mayM_order hv).1; have := R.len; omega
  have HV := Lib.hid hv
  clear hv
  obtain ⟨N, hN⟩ : ∃ N, 118 + 2 * n = N := ⟨_, rfl⟩
  have hN2 : N + m ≤ 131060 := by omega
  have HNN := Lib.hid hN
  have d1 : ¬ (131060 < (N : Int) + (m : Int)) := by omega
  obtain ⟨mb, hmb⟩ : ∃ mb, mbytes mode ver blk ol nl D xs = mb := ⟨_, rfl⟩
  have HMB := Lib.hid (show mbytes mode ver blk ol nl D xs = mb from hmb)
  clear hl hN hmb
  go_enter Try.func30, Try.ntmps30
  go_wp2_with (first | ((with_reducible refine at_slot (N := 2) rfl ?_); go_loud (refine ev_new rfl (cs := mfc mode ver blk ol nl D (.slice A n c)) (t := 41) (by first | (go_simp; done) | (go_simp; rfl)) ?_; intro gC hgC wC C nbC; have GEC : w.heap.size ≤ gC := (by rw [hgC]; exact F.size); clear hgC; replace F := F.step nbC; clear nbC)) | ((with_reducible refine at_load (t := 41) rfl ?_); go_loud (refine ev_load_row rfl 41 _ rfl C rfl Try.underlying41 rfl (by rw [mfc_size _ _ _ _ _ _ _ hD]; kernel_rfl) ?_)) | (go_at_call 36; go_loud ((with_reducible refine (rputN _ _ _ _ _ _ _ _ _ _ _ N HNN.out HV.out (R.below F.out) hD hc).mono ?_); rintro e w1 ⟨A1, c1, rfl, ON, nb⟩; replace ON := ON.mono F.size; replace C := C.below nb; replace F := F.step nb; (try clear O); have O := ON; clear ON nb; rw [HMB.out] at O; clear C; have ob := O; clear O; have O1 := ob; clear ob)) | ((with_reducible refine at_slot (N := 25) rfl ?_); go_loud (refine ev_new_slice (n := 4) (c := 4) rfl (cs := #[.int .u8 68, .int .u8 82, .int .u8 71, .int .u8 72]) (t := 5) (by first | (go_simp; done) | (go_simp; rfl)) ?_; intro gS hgS wS S nbS; have GES : w.heap.size ≤ gS := (by rw [hgS]; exact F.size); have neO1S := O1.fresh hgS; clear hgS; replace F := F.step nbS; replace O1 := O1.below nbS; clear nbS; have RS := Rd.ofBlk (k := .u8) (off := 0) (n := 4) (xs := [68, 82, 71, 72]) S rfl rfl)) | (go_at_call 55; go_loud ((with_reducible refine (rput_any _ 4 4 4 _ 4 _ _ RS (by omega) rfl (by omega) (by omega)).mono ?_); rintro e w1 ⟨A2, c3, rfl, ON, nb⟩; replace ON := ON.mono F.size; replace O1 := O1.below nb; replace F := F.step nb; (try clear O); have O := ON; clear ON nb; replace O : Own _ _ _ _ _ 8 _ _ := O)) | (go_at_call 55; go_loud ((with_reducible refine (rput_any _ (8 + N) _ 4 _ 4 _ _ O.rd (by omega) rfl (by omega) (by omega)).mono ?_); rintro e w1 ⟨A4, c5, rfl, ON, nb⟩; replace ON := ON.mono F.size; replace F := F.step nb; (try clear O); have O := ON; clear ON nb; clear O1)) | (at_builtin; go_loud (refine ev_append rfl 44 5 rfl Try.underlying44 u8_info rfl O (R2.below F.out) rfl rfl (by unfold maxLen; omega) (F.size) ?_; intro A5 c6 w1 ON gr; replace F := F.grew gr (fun a ha => (O.lt a ha).1); replace O := ON; clear ON gr)) | (at_builtin; go_loud (refine ev_append rfl 44 5 rfl Try.underlying44 u8_info rfl O (O1.rd) rfl rfl (by unfold maxLen; omega) (F.size) ?_; intro A3 c4 w1 ON gr; replace F := F.grew gr (fun a ha => (O.lt a ha).1); replace O := ON; clear ON gr)))
  have hl1 : mb.length = N := by rw [← HMB.out]; simp [mbytes, headB, beN_length, ordB_length, R.len, hD]; have := HNN.out; omega
  go_ret2
  refine ⟨_, _, _, rfl, ?_, F.out⟩
  rw [HMB.out, hbytes, hl1, R2.len]
  exact O
end
end Go.Proofs.Ytgloienpmikcfaa
