/-
  The document's package 2: a number put behind bytes (contract).
-/
import Derived.Test.YthbehlohdoajbaaOct
set_option linter.unusedVariables false
set_option linter.unusedSimpArgs false
namespace Go.Proofs.Ythbehlohdoajbaa
open Go.RowKit

set_option maxRecDepth 100000 in
set_option maxHeartbeats 1600000 in
/-- octet's Put, as the document has it. -/
theorem rput_any (A : Option Addr) (n c k : Nat) (x y : Int) (xs : List Int) (w : World) (R : Rd w .u8 A n xs) (hn : n ≤ 274877906944) (hy : y = k) (h1 : 1 ≤ k) (h8 : k ≤ 8) :
    Calls Try.prog 35 #[.slice A n c, .int .i64 y, .int .u64 x] w fun e w1 =>
    ∃ A' c', e = .returned (.slice A' (n + k) c') ∧ Own w1 w.heap.size 5 .u8 A' (n + k) c' (xs ++ beN k x) ∧ Below w.heap.size w w1 := by
  subst hy
  have F := Fr.refl w
  have m1 : ¬ ((k : Int) < 1) := by omega
  have m2 : ¬ (8 < (k : Int)) := by omega
  go_enter Try.func35, Try.ntmps35
  go_wp2_with (first | ((with_reducible refine at_slot (N := 10) rfl ?_); refine ev_new_slice (n := 0) (c := 0) rfl (cs := #[]) (t := 5) (by first | (go_simp; done) | (go_simp; rfl)) ?_; intro gS hgS wS S nbS; have GES : w.heap.size ≤ gS := (by rw [hgS]; exact F.size); clear hgS; replace F := F.step nbS; clear nbS; have O : Own _ _ _ .u8 _ _ _ _ := Own.ofBlk (xs := []) (n := 0) (c := 0) S GES rfl (by unfold maxLen; omega) (Nat.le_refl _) rfl rfl; clear S) | (at_builtin; refine ev_append rfl 22 5 rfl Try.underlying22 u8_info rfl O (R.below F.out) rfl rfl (by unfold maxLen; omega) (F.size) ?_; intro A1 c1 w1 ON gr; replace F := F.grew gr (fun a ha => (O.lt a ha).1); replace O := ON; clear ON gr; simp only [Nat.zero_add, List.nil_append] at O))
  go_loopw [7, 9] (fun v i wr => ∃ (j m : Nat) (A' : Option Addr) (c' : Nat) (ys : List Int), j ≤ k ∧ i = .int .i64 ((j : Int) - 1) ∧ v = .slice A' m c' ∧ Own wr w.heap.size 5 .u8 A' m c' ys ∧ Fr w wr ∧ m + j = n + k ∧ ys ++ beN j x = xs ++ beN k x) (fun v i _ => (intOf i + 1).toNat)
  case atStart => exact ⟨k, n, A1, c1, xs, Nat.le_refl _, rfl, rfl, O, F, by omega, rfl⟩
  case round =>
    clear O F
    obtain ⟨j, m, A', c', ys, hj, rfl, rfl, O, F, hm, hys⟩ := hrel
    replace hys := Lib.hid hys
    have hjj : j = 0 ∨ j = 1 ∨ j = 2 ∨ j = 3 ∨ j = 4 ∨ j = 5 ∨ j = 6 ∨ j = 7 ∨ j = 8 := by omega
    clear m1 m2 h1
    have hmB := Lib.hid (show m ≤ 274877906952 by omega)
    replace hm := Lib.hid hm
    rcases hjj with rfl | rfl | rfl | rfl | rfl | rfl | rfl | rfl | rfl
    · have hmm : m = n + k := by have := hm.out; omega
      have hy2 := hys.out
      simp only [beN, List.append_nil] at hy2
      subst hmm hy2
      go_wp2
      go_ret
      exact ⟨_, _, rfl, O, F.out⟩
    · go_wp2_with (first | ((with_reducible refine at_slot (N := 31) rfl ?_); refine ev_new_slice (n := 1) (c := 1) rfl (cs := #[.int .u8 (x % 256)]) (t := 5) (by first | (go_simp; done) | (go_simp; rfl)) ?_; intro gS hgS wS S nbS; have GES : w.heap.size ≤ gS := (by rw [hgS]; exact F.size); clear hgS; replace F := F.step nbS; replace O := O.below nbS; clear nbS) | (at_builtin; refine ev_append rfl 22 5 rfl Try.underlying22 u8_info rfl O (Rd.ofBlk (n := 1) (xs := [x % 256]) S rfl rfl) rfl rfl (by have := hmB.out; unfold maxLen; omega) (F.size) ?_; intro A1 c1 w1 ON gr; replace F := F.grew gr (fun a ha => (O.lt a ha).1); replace O := ON; clear ON gr))
      go_roundw
      exact ⟨0, _, _, _, _, by omega, rfl, rfl, O, F, by have := hm.out; omega, by have h := hys.out; simpa [beN] using h⟩
      case measure => simp [intOf]
    · go_wp2_with (first | ((with_reducible refine at_slot (N := 31) rfl ?_); refine ev_new_slice (n := 1) (c := 1) rfl (cs := #[.int .u8 (x / 256 % 256)]) (t := 5) (by first | (go_simp; done) | (go_simp; rfl)) ?_; intro gS hgS wS S nbS; have GES : w.heap.size ≤ gS := (by rw [hgS]; exact F.size); clear hgS; replace F := F.step nbS; replace O := O.below nbS; clear nbS) | (at_builtin; refine ev_append rfl 22 5 rfl Try.underlying22 u8_info rfl O (Rd.ofBlk (n := 1) (xs := [x / 256 % 256]) S rfl rfl) rfl rfl (by have := hmB.out; unfold maxLen; omega) (F.size) ?_; intro A1 c1 w1 ON gr; replace F := F.grew gr (fun a ha => (O.lt a ha).1); replace O := ON; clear ON gr))
      go_roundw
      exact ⟨1, _, _, _, _, by omega, rfl, rfl, O, F, by have := hm.out; omega, by have h := hys.out; simpa [beN] using h⟩
      case measure => simp [intOf]
    · go_wp2_with (first | ((with_reducible refine at_slot (N := 31) rfl ?_); refine ev_new_slice (n := 1) (c := 1) rfl (cs := #[.int .u8 (x / 65536 % 256)]) (t := 5) (by first | (go_simp; done) | (go_simp; rfl)) ?_; intro gS hgS wS S nbS; have GES : w.heap.size ≤ gS := (by rw [hgS]; exact F.size); clear hgS; replace F := F.step nbS; replace O := O.below nbS; clear nbS) | (at_builtin; refine ev_append rfl 22 5 rfl Try.underlying22 u8_info rfl O (Rd.ofBlk (n := 1) (xs := [x / 65536 % 256]) S rfl rfl) rfl rfl (by have := hmB.out; unfold maxLen; omega) (F.size) ?_; intro A1 c1 w1 ON gr; replace F := F.grew gr (fun a ha => (O.lt a ha).1); replace O := ON; clear ON gr))
      go_roundw
      exact ⟨2, _, _, _, _, by omega, rfl, rfl, O, F, by have := hm.out; omega, by have h := hys.out; simpa [beN] using h⟩
      case measure => simp [intOf]
    · go_wp2_with (first | ((with_reducible refine at_slot (N := 31) rfl ?_); refine ev_new_slice (n := 1) (c := 1) rfl (cs := #[.int .u8 (x / 16777216 % 256)]) (t := 5) (by first | (go_simp; done) | (go_simp; rfl)) ?_; intro gS hgS wS S nbS; have GES : w.heap.size ≤ gS := (by rw [hgS]; exact F.size); clear hgS; replace F := F.step nbS; replace O := O.below nbS; clear nbS) | (at_builtin; refine ev_append rfl 22 5 rfl Try.underlying22 u8_info rfl O (Rd.ofBlk (n := 1) (xs := [x / 16777216 % 256]) S rfl rfl) rfl rfl (by have := hmB.out; unfold maxLen; omega) (F.size) ?_; intro A1 c1 w1 ON gr; replace F := F.grew gr (fun a ha => (O.lt a ha).1); replace O := ON; clear ON gr))
      go_roundw
      exact ⟨3, _, _, _, _, by omega, rfl, rfl, O, F, by have := hm.out; omega, by have h := hys.out; simpa [beN] using h⟩
      case measure => simp [intOf]
    · go_wp2_with (first | ((with_reducible refine at_slot (N := 31) rfl ?_); refine ev_new_slice (n := 1) (c := 1) rfl (cs := #[.int .u8 (x / 4294967296 % 256)]) (t := 5) (by first | (go_simp; done) | (go_simp; rfl)) ?_; intro gS hgS wS S nbS; have GES : w.heap.size ≤ gS := (by rw [hgS]; exact F.size); clear hgS; replace F := F.step nbS; replace O := O.below nbS; clear nbS) | (at_builtin; refine ev_append rfl 22 5 rfl Try.underlying22 u8_info rfl O (Rd.ofBlk (n := 1) (xs := [x / 4294967296 % 256]) S rfl rfl) rfl rfl (by have := hmB.out; unfold maxLen; omega) (F.size) ?_; intro A1 c1 w1 ON gr; replace F := F.grew gr (fun a ha => (O.lt a ha).1); replace O := ON; clear ON gr))
      go_roundw
      exact ⟨4, _, _, _, _, by omega, rfl, rfl, O, F, by have := hm.out; omega, by have h := hys.out; simpa [beN] using h⟩
      case measure => simp [intOf]
    · go_wp2_with (first | ((with_reducible refine at_slot (N := 31) rfl ?_); refine ev_new_slice (n := 1) (c := 1) rfl (cs := #[.int .u8 (x / 1099511627776 % 256)]) (t := 5) (by first | (go_simp; done) | (go_simp; rfl)) ?_; intro gS hgS wS S nbS; have GES : w.heap.size ≤ gS := (by rw [hgS]; exact F.size); clear hgS; replace F := F.step nbS; replace O := O.below nbS; clear nbS) | (at_builtin; refine ev_append rfl 22 5 rfl Try.underlying22 u8_info rfl O (Rd.ofBlk (n := 1) (xs := [x / 1099511627776 % 256]) S rfl rfl) rfl rfl (by have := hmB.out; unfold maxLen; omega) (F.size) ?_; intro A1 c1 w1 ON gr; replace F := F.grew gr (fun a ha => (O.lt a ha).1); replace O := ON; clear ON gr))
      go_roundw
      exact ⟨5, _, _, _, _, by omega, rfl, rfl, O, F, by have := hm.out; omega, by have h := hys.out; simpa [beN] using h⟩
      case measure => simp [intOf]
    · go_wp2_with (first | ((with_reducible refine at_slot (N := 31) rfl ?_); refine ev_new_slice (n := 1) (c := 1) rfl (cs := #[.int .u8 (x / 281474976710656 % 256)]) (t := 5) (by first | (go_simp; done) | (go_simp; rfl)) ?_; intro gS hgS wS S nbS; have GES : w.heap.size ≤ gS := (by rw [hgS]; exact F.size); clear hgS; replace F := F.step nbS; replace O := O.below nbS; clear nbS) | (at_builtin; refine ev_append rfl 22 5 rfl Try.underlying22 u8_info rfl O (Rd.ofBlk (n := 1) (xs := [x / 281474976710656 % 256]) S rfl rfl) rfl rfl (by have := hmB.out; unfold maxLen; omega) (F.size) ?_; intro A1 c1 w1 ON gr; replace F := F.grew gr (fun a ha => (O.lt a ha).1); replace O := ON; clear ON gr))
      go_roundw
      exact ⟨6, _, _, _, _, by omega, rfl, rfl, O, F, by have := hm.out; omega, by have h := hys.out; simpa [beN] using h⟩
      case measure => simp [intOf]
    · go_wp2_with (first | ((with_reducible refine at_slot (N := 31) rfl ?_); refine ev_new_slice (n := 1) (c := 1) rfl (cs := #[.int .u8 (x / 72057594037927936 % 256)]) (t := 5) (by first | (go_simp; done) | (go_simp; rfl)) ?_; intro gS hgS wS S nbS; have GES : w.heap.size ≤ gS := (by rw [hgS]; exact F.size); clear hgS; replace F := F.step nbS; replace O := O.below nbS; clear nbS) | (at_builtin; refine ev_append rfl 22 5 rfl Try.underlying22 u8_info rfl O (Rd.ofBlk (n := 1) (xs := [x / 72057594037927936 % 256]) S rfl rfl) rfl rfl (by have := hmB.out; unfold maxLen; omega) (F.size) ?_; intro A1 c1 w1 ON gr; replace F := F.grew gr (fun a ha => (O.lt a ha).1); replace O := ON; clear ON gr))
      go_roundw
      exact ⟨7, _, _, _, _, by omega, rfl, rfl, O, F, by have := hm.out; omega, by have h := hys.out; simpa [beN] using h⟩
      case measure => simp [intOf]
end Go.Proofs.Ythbehlohdoajbaa
