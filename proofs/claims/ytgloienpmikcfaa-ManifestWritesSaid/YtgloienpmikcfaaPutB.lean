/-
  Package manifest: Put (contract).
-/
import Derived.Test.YtgloienpmikcfaaPutA
set_option linter.unusedVariables false
set_option linter.unusedSimpArgs false
namespace Go.Proofs.Ytgloienpmikcfaa
open Go.RowKit

/-- an order's bytes -/
def ordB : List Int → List Int
  | [] => []
  | x :: xs => x / 256 % 256 :: x % 256 :: ordB xs
theorem ordB_length : ∀ xs : List Int, (ordB xs).length = 2 * xs.length
  | [] => rfl
  | x :: xs => by simp [ordB, ordB_length xs]; omega
theorem ordB_snoc : ∀ (xs : List Int) (y : Int), ordB (xs ++ [y]) = ordB xs ++ [y / 256 % 256, y % 256]
  | [], y => rfl
  | x :: xs, y => by simp [ordB, ordB_snoc xs y]
/-- a manifest's bytes -/
def headB (mode ver blk ol nl : Int) (D : List Int) : List Int := [1, mode] ++ beN 8 ver ++ beN 4 blk ++ beN 4 ol ++ beN 4 nl ++ D.take 32 ++ (D.drop 32).take 32 ++ (D.drop 64).take 32
def mbytes (mode ver blk ol nl : Int) (D xs : List Int) : List Int := headB mode ver blk ol nl D ++ ordB xs

theorem mayM_order {mode blk ol nl : Int} {D xs : List Int} (h : mayM mode blk ol nl D xs = true) : xs.length ≤ 4096 ∧ ∀ x ∈ xs, 0 ≤ x ∧ x < 4096 := by
  have hb := (mayM_bounds h).2.2.2.2.2.2
  simp only [mayM, Bool.and_eq_true, decide_eq_true_eq] at h
  obtain ⟨h1, h2, h3, h4⟩ := h
  by_cases hm : mode = 2
  · rw [if_pos hm] at h4
    rw [onceB, decide_eq_true_eq] at h4
    obtain ⟨a, b, _⟩ := h4
    refine ⟨by omega, fun x hx => ?_⟩
    have := b x hx
    omega
  · rw [if_neg hm] at h4
    have : xs = [] := by
      by_cases hm3 : mode = 3
      · rw [if_pos hm3] at h4
        simp at h4
        exact h4.1
      · rw [if_neg hm3] at h4
        simp at h4
        exact h4.2
    subst this
    simp

section
variable (mode ver blk ol nl : Int) (D : List Int) (A : Option Addr) (n c : Nat) (xs : List Int) (w : World)
set_option maxHeartbeats 1600000 in
set_option maxRecDepth 100000 in
theorem mput_yes (hv : mayM mode blk ol nl D xs = true) (R : Rd w .i64 A n xs) (hD : D.length = 96) (hn : n ≤ 1152921504606846976) (hc : n ≤ c) :
    Calls Try.prog 35 #[.agg (mfc mode ver blk ol nl D (.slice A n c))] w fun e w' => ∃ A' c', e = .returned (.tuple #[.slice A' (118 + 2 * n) c', .int .i64 0]) ∧
      Own w' w.heap.size 5 .u8 A' (118 + 2 * n) c' (mbytes mode ver blk ol nl D xs) ∧ Below w.heap.size w w' := by
  have F : Fr w w := Fr.refl w
  obtain ⟨b1, b2, o1, o2, n1, n2, k⟩ := mayM_bounds hv
  have hnl : nl ≤ 9223372036854775807 := by omega
  have hn' : n ≤ 4096 := by have := (mayM_order hv).1; have := R.len; omega
  have HV := Lib.hid hv
  clear hv k
  go_enter Try.func35, Try.ntmps35
  go_wp2_with (first | ((with_reducible refine at_slot (N := 1) rfl ?_); refine ev_new rfl (cs := mfc mode ver blk ol nl D (.slice A n c)) (t := 41) (by first | (go_simp; done) | (go_simp; rfl)) ?_; intro gC hgC wC C nbC; have GEC : w.heap.size ≤ gC := (by rw [hgC]; exact F.size); clear hgC; replace F := F.step nbC; clear nbC) | ((with_reducible refine at_load (t := 41) rfl ?_); refine ev_load_row rfl 41 _ rfl C rfl Try.underlying41 rfl (by rw [mfc_size _ _ _ _ _ _ _ hD]; kernel_rfl) ?_) | ((with_reducible refine at_load (t := 5) rfl ?_); refine ev_load_cell rfl 5 _ rfl (i := 0) C rfl (by kernel_rfl) (by kernel_rfl) (mfc_0 _ _ _ _ _ _ _) ?_) | ((with_reducible refine at_load (t := 36) rfl ?_); refine ev_load_cell rfl 36 _ rfl (i := 1) C rfl (by kernel_rfl) (by kernel_rfl) (mfc_1 _ _ _ _ _ _ _) ?_) | ((with_reducible refine at_load (t := 3) rfl ?_); refine ev_load_cell rfl 3 _ rfl (i := 2) C rfl (by kernel_rfl) (by kernel_rfl) (mfc_2 _ _ _ _ _ _ _) ?_) | ((with_reducible refine at_load (t := 3) rfl ?_); refine ev_load_cell rfl 3 _ rfl (i := 3) C rfl (by kernel_rfl) (by kernel_rfl) (mfc_3 _ _ _ _ _ _ _) ?_) | ((with_reducible refine at_load (t := 3) rfl ?_); refine ev_load_cell rfl 3 _ rfl (i := 4) C rfl (by kernel_rfl) (by kernel_rfl) (mfc_4 _ _ _ _ _ _ _) ?_) | ((with_reducible refine at_load (t := 39) rfl ?_); refine ev_load_cell rfl 39 _ rfl (i := 101) C rfl (by kernel_rfl) (by kernel_rfl) (mfc_o _ _ _ _ _ _ _ hD) ?_) | (go_at_call 37; (with_reducible refine (mmay_any _ _ _ _ _ _ _ _ _ _ _ _ HV.out (R.below F.out) hD hn hc hnl).mono ?_); rintro e w1 ⟨rfl, nb⟩; replace F := F.step nb; replace C := C.below nb; clear nb) | ((with_reducible refine at_slot (N := 16) rfl ?_); refine ev_new_slice (n := 2) (c := 2) rfl (cs := #[.int .u8 1, .int .u8 mode]) (t := 5) (by first | (go_simp; done) | (go_simp; rfl)) ?_; intro gS hgS wS S nbS; have GES : w.heap.size ≤ gS := (by rw [hgS]; exact F.size); have neCS : gC ≠ gS := (by have := C.lt; omega); have neSC : gS ≠ gC := Ne.symm neCS; clear hgS; replace F := F.step nbS; replace C := C.below nbS; clear nbS; have RS := Rd.ofBlk (k := .u8) (off := 0) (n := 2) (xs := [1, mode]) S rfl rfl) | (go_at_call 54; (with_reducible refine (put_any _ 2 2 8 ver 8 [1, mode] _ RS (by omega) rfl (by omega) (by omega)).mono ?_); rintro e w1 ⟨A1, c1, rfl, ON, nb⟩; replace ON := ON.mono F.size; replace C := C.below nb; replace F := F.step nb; (try clear O); have O := ON; clear ON nb; replace O : Own _ _ _ _ _ 10 _ _ := O))
  refine wp_loop_rounds 4 ?_
  rw [rounds_succ]; go_wp2_with (first | ((with_reducible refine at_index (t := 81) rfl ?_); refine ev_index rfl 81 rfl rfl rfl (v := .int .i64 blk) (by kernel_rfl) ?_) | (go_at_call 54; (with_reducible refine (put_any _ 10 _ 4 blk 4 _ _ O.rd (by omega) rfl (by omega) (by omega)).mono ?_); rintro e w1 ⟨A1, c1, rfl, ON, nb⟩; replace ON := ON.mono F.size; replace C := C.below nb; replace F := F.step nb; (try clear O); have O := ON; clear ON nb; replace O : Own _ _ _ _ _ 14 _ _ := O))
  rw [rounds_succ]; go_wp2_with (first | ((with_reducible refine at_index (t := 81) rfl ?_); refine ev_index rfl 81 rfl rfl rfl (v := .int .i64 ol) (by kernel_rfl) ?_) | (go_at_call 54; (with_reducible refine (put_any _ 14 _ 4 ol 4 _ _ O.rd (by omega) rfl (by omega) (by omega)).mono ?_); rintro e w1 ⟨A1, c1, rfl, ON, nb⟩; replace ON := ON.mono F.size; replace C := C.below nb; replace F := F.step nb; (try clear O); have O := ON; clear ON nb; replace O : Own _ _ _ _ _ 18 _ _ := O))
  rw [rounds_succ]; go_wp2_with (first | ((with_reducible refine at_index (t := 81) rfl ?_); refine ev_index rfl 81 rfl rfl rfl (v := .int .i64 nl) (by kernel_rfl) ?_) | (go_at_call 54; (with_reducible refine (put_any _ 18 _ 4 nl 4 _ _ O.rd (by omega) rfl (by omega) (by omega)).mono ?_); rintro e w1 ⟨A1, c1, rfl, ON, nb⟩; replace ON := ON.mono F.size; replace C := C.below nb; replace F := F.step nb; (try clear O); have O := ON; clear ON nb; replace O : Own _ _ _ _ _ 22 _ _ := O))
  have e1 : D.take 32 ++ ((D.drop 32).take 32 ++ (D.drop 64).take 32) = D := by
    have h2 : (D.drop 64).take 32 = D.drop 64 := List.take_of_length_le (by simp [hD])
    rw [h2, show D.drop 64 = (D.drop 32).drop 32 by simp, List.take_append_drop, List.take_append_drop]
  have e2 : (D.take 32).length = 32 ∧ ((D.drop 32).take 32).length = 32 ∧ ((D.drop 64).take 32).length = 32 := by simp [hD]
  rw [rounds_succ]
  have x0 := mfc_cut mode ver blk ol nl D (.slice A n c) 0 32 (by omega)
  have x1 := mfc_cut mode ver blk ol nl D (.slice A n c) 32 32 (by omega)
  have x2 := mfc_cut mode ver blk ol nl D (.slice A n c) 64 32 (by omega)
  have xs0 : 102 ≤ (mfc mode ver blk ol nl D (.slice A n c)).size := by rw [mfc_size _ _ _ _ _ _ _ hD]; omega
  rw [List.drop_zero] at x0
  have i0 := fun w => index_digs w D hD 0 (by omega)
  have i1 := fun w => index_digs w D hD 1 (by omega)
  have i2 := fun w => index_digs w D hD 2 (by omega)
  simp only [Nat.mul_zero, List.drop_zero, Nat.reduceMul] at i0 i1 i2
  obtain ⟨d0, hd0⟩ : ∃ d, D.take 32 = d := ⟨_, rfl⟩
  obtain ⟨d1, hd1⟩ : ∃ d, (D.drop 32).take 32 = d := ⟨_, rfl⟩
  obtain ⟨d2, hd2⟩ : ∃ d, (D.drop 64).take 32 = d := ⟨_, rfl⟩
  have HX0 := Lib.hid x0; have HX1 := Lib.hid x1; have HX2 := Lib.hid x2; have HXS := Lib.hid xs0; have HI0 := Lib.hid i0; have HI1 := Lib.hid i1; have HI2 := Lib.hid i2; have HE2 := Lib.hid e2; have HE1 := Lib.hid e1; have Hd0 := Lib.hid hd0; have Hd1 := Lib.hid hd1; have Hd2 := Lib.hid hd2
  clear x0 x1 x2 xs0 i0 i1 i2 e2 e1 
  rw [hd0] at HX0 HI0 HE1 HE2; rw [hd1] at HX1 HI1 HE1 HE2; rw [hd2] at HX2 HI2 HE1 HE2
  clear hd0 hd1 hd2
  have hb := fun w => build_digs w d0 d1 d2 HE2.out.1 HE2.out.2.1 HE2.out.2.2
  rw [HE1.out] at hb
  have HB := Lib.hid hb
  clear hb
  go_wp2_with (first | ((with_reducible refine at_load (t := 38) rfl ?_); refine ev_load_mid rfl 38 _ rfl (i := 5) (n := 32) C rfl Try.underlying38 rfl (by kernel_rfl) (by have := HXS.out; omega) (u8s d0) HX0.out ?_) | ((with_reducible refine at_load (t := 38) rfl ?_); refine ev_load_mid rfl 38 _ rfl (i := 37) (n := 32) C rfl Try.underlying38 rfl (by kernel_rfl) (by have := HXS.out; omega) (u8s d1) HX1.out ?_) | ((with_reducible refine at_load (t := 38) rfl ?_); refine ev_load_mid rfl 38 _ rfl (i := 69) (n := 32) C rfl Try.underlying38 rfl (by kernel_rfl) (by have := HXS.out; omega) (u8s d2) HX2.out ?_) | ((with_reducible refine at_build (t := 82) rfl ?_); refine ev_build rfl 82 rfl (vals := #[(0, .agg (u8s d0)), (1, .agg (u8s d1)), (2, .agg (u8s d2))]) (by first | rfl | (go_simp; done) | (go_simp; rfl)) (HB.out _) ?_))
  refine wp_loop_rounds 4 ?_
  have RX : ∀ (d : List Int) (g : Nat) (w : World), d.length = 32 → Blk w g (u8s d) 38 → Rd w .u8 (some ⟨g, 0, none⟩) 32 d := fun d g w hd B => Rd.ofBlk B hd (by
    rw [u8s, List.drop_zero, List.take_of_length_le (by simp [hd])])
  rw [rounds_succ]; go_wp2_with (first | ((with_reducible refine at_index (t := 82) rfl ?_); refine ev_index rfl 82 rfl rfl rfl (v := .agg (u8s d0)) (HI0.out _) ?_) | ((with_reducible refine at_slot (N := 8) rfl ?_); refine ev_new rfl (cs := u8s zeros32) (t := 38) (by first | (go_simp; done) | (go_simp; rfl)) ?_; intro gG hgG wG G nbG; have GEG : w.heap.size ≤ gG := (by rw [hgG]; exact F.size); have neCG : gC ≠ gG := (by have := C.lt; omega); have neGC : gG ≠ gC := Ne.symm neCG; clear hgG; replace F := F.step nbG; replace C := C.below nbG; replace O := O.below nbG; clear nbG; have neOG := O.ne G (by decide)) | ((with_reducible refine at_store (t := 38) rfl ?_); refine ev_store_row rfl 38 _ _ rfl G rfl rfl (by simp only [u8s_size]; rw [HE2.out.1]; kernel_rfl) (by simp only [u8s_size]; rw [HE2.out.1]; kernel_rfl) (u8s_one _) ?_; intro w1 G np; replace F := F.put np GEG; replace C := C.put np neCG; replace O := O.put np neOG; clear np) | (at_builtin; refine ev_append rfl 44 5 rfl Try.underlying44 u8_info rfl O (RX _ _ _ HE2.out.1 G) rfl rfl (by unfold maxLen; omega) (F.size) ?_; intro A1 c1 w1 ON gr; replace C := C.grew gr (O.ne C (by decide)); replace F := F.grew gr (fun a ha => (O.lt a ha).1); replace O := ON; clear ON gr))
  rw [rounds_succ]; go_wp2_with (first | ((with_reducible refine at_index (t := 82) rfl ?_); refine ev_index rfl 82 rfl rfl rfl (v := .agg (u8s d1)) (HI1.out _) ?_) | ((with_reducible refine at_slot (N := 8) rfl ?_); refine ev_new rfl (cs := u8s zeros32) (t := 38) (by first | (go_simp; done) | (go_simp; rfl)) ?_; intro gG hgG wG G nbG; have GEG : w.heap.size ≤ gG := (by rw [hgG]; exact F.size); have neCG : gC ≠ gG := (by have := C.lt; omega); have neGC : gG ≠ gC := Ne.symm neCG; clear hgG; replace F := F.step nbG; replace C := C.below nbG; replace O := O.below nbG; clear nbG; have neOG := O.ne G (by decide)) | ((with_reducible refine at_store (t := 38) rfl ?_); refine ev_store_row rfl 38 _ _ rfl G rfl rfl (by simp only [u8s_size]; rw [HE2.out.2.1]; kernel_rfl) (by simp only [u8s_size]; rw [HE2.out.2.1]; kernel_rfl) (u8s_one _) ?_; intro w1 G np; replace F := F.put np GEG; replace C := C.put np neCG; replace O := O.put np neOG; clear np) | (at_builtin; refine ev_append rfl 44 5 rfl Try.underlying44 u8_info rfl O (RX _ _ _ HE2.out.2.1 G) rfl rfl (by unfold maxLen; omega) (F.size) ?_; intro A1 c1 w1 ON gr; replace C := C.grew gr (O.ne C (by decide)); replace F := F.grew gr (fun a ha => (O.lt a ha).1); replace O := ON; clear ON gr))
  rw [rounds_succ]; go_wp2_with (first | ((with_reducible refine at_index (t := 82) rfl ?_); refine ev_index rfl 82 rfl rfl rfl (v := .agg (u8s d2)) (HI2.out _) ?_) | ((with_reducible refine at_slot (N := 8) rfl ?_); refine ev_new rfl (cs := u8s zeros32) (t := 38) (by first | (go_simp; done) | (go_simp; rfl)) ?_; intro gG hgG wG G nbG; have GEG : w.heap.size ≤ gG := (by rw [hgG]; exact F.size); have neCG : gC ≠ gG := (by have := C.lt; omega); have neGC : gG ≠ gC := Ne.symm neCG; clear hgG; replace F := F.step nbG; replace C := C.below nbG; replace O := O.below nbG; clear nbG; have neOG := O.ne G (by decide)) | ((with_reducible refine at_store (t := 38) rfl ?_); refine ev_store_row rfl 38 _ _ rfl G rfl rfl (by simp only [u8s_size]; rw [HE2.out.2.2]; kernel_rfl) (by simp only [u8s_size]; rw [HE2.out.2.2]; kernel_rfl) (u8s_one _) ?_; intro w1 G np; replace F := F.put np GEG; replace C := C.put np neCG; replace O := O.put np neOG; clear np) | (at_builtin; refine ev_append rfl 44 5 rfl Try.underlying44 u8_info rfl O (RX _ _ _ HE2.out.2.2 G) rfl rfl (by unfold maxLen; omega) (F.size) ?_; intro A1 c1 w1 ON gr; replace C := C.grew gr (O.ne C (by decide)); replace F := F.grew gr (fun a ha => (O.lt a ha).1); replace O := ON; clear ON gr))
  rw [rounds_succ]
  go_wp2_with (first | ((with_reducible refine at_load (t := 39) rfl ?_); refine ev_load_cell rfl 39 _ rfl (i := 101) C rfl (by kernel_rfl) (by kernel_rfl) (mfc_o _ _ _ _ _ _ _ hD) ?_))
  replace O : Own w1 w.heap.size 5 .u8 A1 118 c1 (headB mode ver blk ol nl D) := by rw [headB, Hd0.out, Hd1.out, Hd2.out]; exact O
  clear HX0 HX1 HX2 HXS HI0 HI1 HI2 HE2 HE1 Hd0 Hd1 Hd2 HB RX C G
  have HL := Lib.hid R.len
  obtain ⟨hb, hhb⟩ : ∃ h, headB mode ver blk ol nl D = h := ⟨_, rfl⟩
  have HM := Lib.hid (show mbytes mode ver blk ol nl D xs = hb ++ ordB xs by rw [mbytes, hhb])
  rw [hhb] at O
  clear hhb
  go_loopw [4, 52] (fun v i wr => ∃ (j : Nat) (A' : Option Addr) (c' : Nat), j ≤ n ∧ i = .int .i64 (j : Int) ∧ v = .slice A' (118 + 2 * j) c' ∧ Own wr w.heap.size 5 .u8 A' (118 + 2 * j) c' (hb ++ ordB (xs.take j)) ∧ Fr w wr) (fun _ i _ => n - (intOf i).toNat)
  case atStart => exact ⟨0, A1, c1, Nat.zero_le _, rfl, rfl, by simpa [ordB] using O, F⟩
  case round =>
    clear O F
    obtain ⟨j, A', c', hj, rfl, rfl, O, F⟩ := hrel
    by_cases hlt : j < n
    · obtain ⟨b, off, rfl, hb', hcell⟩ := (R.below F.out).form (by omega)
      have hc' := hcell j hlt
      obtain ⟨y, hy⟩ : ∃ y, y = xs.getD j 0 := ⟨_, rfl⟩
      rw [← hy] at hc'
      have HT := Lib.hid ((take_snoc' xs j (by rw [HL.out]; omega)).trans (by rw [← hy]) : xs.take (j + 1) = xs.take j ++ [y])
      clear hy hcell hb'
      go_wp2_with (first | ((with_reducible refine at_slot (N := 62) rfl ?_); refine ev_new_slice (n := 2) (c := 2) rfl (cs := #[.int .u8 (y / 256 % 256), .int .u8 (y % 256)]) (t := 5) (by first | (go_simp; done) | (go_simp; rfl)) ?_; intro gS hgS wS S nbS; have GES : w.heap.size ≤ gS := (by rw [hgS]; exact F.size); clear hgS; replace F := F.step nbS; replace O := O.below nbS; clear nbS) | (at_builtin; refine ev_append rfl 44 5 rfl Try.underlying44 u8_info rfl O (Rd.ofBlk (n := 2) (xs := [y / 256 % 256, y % 256]) S rfl rfl) rfl rfl (by unfold maxLen; omega) (F.size) ?_; intro A1 c1 w1 ON gr; replace F := F.grew gr (fun a ha => (O.lt a ha).1); replace O := ON; clear ON gr))
      go_roundw
      case rel => exact ⟨j + 1, _, _, by omega, by go_num, rfl, by rw [HT.out, ordB_snoc]; simpa [List.append_assoc, Nat.mul_add, Nat.add_assoc] using O, F⟩
      case measure => simp [intOf]; omega
    · have e : j = n := by omega
      subst e
      have hfull : xs.take j = xs := List.take_of_length_le (by rw [HL.out]; exact Nat.le_refl _)
      rw [hfull, ← HM.out] at O
      clear hfull
      go_wp2
      go_ret2
      exact ⟨_, _, rfl, O, F.out⟩

set_option maxHeartbeats 400000 in
set_option maxRecDepth 100000 in
theorem mput_no (hv : mayM mode blk ol nl D xs = false) (R : Rd w .i64 A n xs) (hD : D.length = 96) (hn : n ≤ 1152921504606846976) (hc : n ≤ c) (hnl : nl ≤ 9223372036854775807) :
    Calls Try.prog 35 #[.agg (mfc mode ver blk ol nl D (.slice A n c))] w fun e w' => e = .returned (.tuple #[.slice none 0 0, .int .i64 3]) ∧ Below w.heap.size w w' := by
  have F : Fr w w := Fr.refl w
  have HV := Lib.hid hv
  clear hv
  go_enter Try.func35, Try.ntmps35
  go_wp2_with (first | ((with_reducible refine at_slot (N := 1) rfl ?_); refine ev_new rfl (cs := mfc mode ver blk ol nl D (.slice A n c)) (t := 41) (by first | (go_simp; done) | (go_simp; rfl)) ?_; intro gC hgC wC C nbC; have GEC : w.heap.size ≤ gC := (by rw [hgC]; exact F.size); clear hgC; replace F := F.step nbC; clear nbC) | ((with_reducible refine at_load (t := 41) rfl ?_); refine ev_load_row rfl 41 _ rfl C rfl Try.underlying41 rfl (by rw [mfc_size _ _ _ _ _ _ _ hD]; kernel_rfl) ?_) | (go_at_call 37; (with_reducible refine (mmay_any _ _ _ _ _ _ _ _ _ _ _ _ HV.out (R.below F.out) hD hn hc hnl).mono ?_); rintro e w1 ⟨rfl, nb⟩; replace F := F.step nb; replace C := C.below nb; clear nb))
  go_ret2
  exact ⟨rfl, F.out⟩
end
end Go.Proofs.Ytgloienpmikcfaa
