/-
  Packages slices and octet: Grow and Concat of bytes, a number put behind bytes (contracts); the reference's.
-/
import Derived.Test.YthbehlohdoajbaaOwn
set_option linter.unusedVariables false
set_option linter.unusedSimpArgs false
namespace Go.Proofs.Ythbehlohdoajbaa
open Go.RowKit

theorem u8_info : (Try.prog.info? 5).map (fun i => (i.zero, i.size, i.bytes)) = some (some (.int .u8 0), 1, 1) := by kernel_rfl

theorem run_grow_nil (w : World) (m : Nat) (h0 : 0 < m) (hm : m ≤ 1099511627776) (ty : TypeId) :
    ∃ A c w1, (Builtin.append_ #[22, 3] ty #[.slice none 0 0, .int .i64 m]).run Try.prog w = .ok (.slice A m c) w1 ∧ m ≤ c ∧ c ≤ 9223372036854775807 ∧ (A = none → c = 0) ∧ (∀ a, A = some a → a.spot = none) ∧
      Own w1 w.heap.size 5 .u8 A 0 c [] ∧ Below w.heap.size w w1 := by
  cases hq : Try.prog.info? 5 with
  | none => have := u8_info; simp [hq] at this
  | some i =>
    have hi := u8_info
    simp only [hq, Option.map_some, Option.some.injEq, Prod.mk.injEq] at hi
    obtain ⟨h1, h2, h3⟩ := hi
    have hge := grownCap_ge w (0 + m) 0 5
    have hle := grownCap_le_maxLen w (0 + m) 0 5 (by unfold maxLen; omega)
    have h := Lib.run_append_grow_zeros w 22 3 ty 5 i (.int .u8 0) .i64 .i64 Try.underlying22 Try.underlying3 hq h1 none 0 0 [] (run_firstCells_none w.drew i.size 0 0 0) m h0 (by omega) (by omega) (by omega)
      (by rw [h3]; omega) (growslice_fits (by omega) (by rw [h3]; omega))
    refine ⟨_, _, _, by rw [Nat.zero_add] at h; exact h, by simp only [Nat.zero_add] at hge; exact hge, by unfold maxLen at hle; simp only [Nat.zero_add] at hle ⊢; omega, by simp, by rintro a ⟨⟩; rfl, Own.ofBlk (cs := ?_) ?_ (Nat.le_refl _) ?_ ?_ (Nat.zero_le _) rfl rfl, ?_⟩
    rotate_left
    · exact Blk.new w.drew _ _
    · simp only [Array.size_append, size_zeroCells]
      simp [Value.cells]
      simp only [Nat.zero_add] at hge
      omega
    · simpa using hle
    · exact (Below.refl _ _).drew.alloc (Nat.le_refl _) _

set_option maxRecDepth 100000 in
set_option maxHeartbeats 400000 in
theorem grow_nil_any (m : Nat) (hm : m ≤ 1099511627776) (w : World) : Calls Try.prog 53 #[.slice none 0 0, .int .i64 m] w fun e w1 =>
    ∃ A c, e = .returned (.slice A 0 c) ∧ Own w1 w.heap.size 5 .u8 A 0 c [] ∧ Below w.heap.size w w1 := by
  by_cases h0 : m = 0
  · subst h0
    go_enter Try.func53, Try.ntmps53
    go_wp2
    go_ret
    exact ⟨_, _, rfl, Own.nil _ _ _ _, Below.refl _ _⟩
  · obtain ⟨A, c, w1, hrun, h1, h2, h3, hs, h4, h5⟩ := run_grow_nil w m (by omega) hm 22
    have hm1 : ¬ ((m : Int) < 0) := by omega
    have hm2 : (m : Int) > 0 := by omega
    obtain ⟨g, rfl⟩ : ∃ g, A = some ⟨g, 0, none⟩ := by
      rcases h4.form with ⟨rfl, _⟩ | ⟨g, rfl, _⟩
      · have := h3 rfl; omega
      · exact ⟨g, rfl⟩
    go_enter Try.func53, Try.ntmps53
    go_wp2_with (at_builtin; refine Lib.wpList_append_run _ rfl _ _ _ _ rfl _ _ rfl rfl _ _ hrun ?_)
    all_goals go_ret
    exact ⟨_, _, rfl, h4, h5⟩
theorem grow_nil_of (x : Int) (m : Nat) (hx : x = m) (hm : m ≤ 1099511627776) (w : World) : Calls Try.prog 53 #[.slice none 0 0, .int .i64 x] w fun e w1 =>
    ∃ A c, e = .returned (.slice A 0 c) ∧ Own w1 w.heap.size 5 .u8 A 0 c [] ∧ Below w.heap.size w w1 := by
  subst hx; exact grow_nil_any m hm w

set_option maxRecDepth 100000 in
set_option maxHeartbeats 400000 in
/-- slices.Concat of two. -/
theorem concat_any (gS : Nat) (A B : Option Addr) (n c m c2 : Nat) (xs ys : List Int) (w : World) (S : Blk w gS #[.slice A n c, .slice B m c2] 22) (R1 : Rd w .u8 A n xs) (R2 : Rd w .u8 B m ys) (hn : n ≤ 274877906944) (hm : m ≤ 274877906944) :
    Calls Try.prog 44 #[.slice (some ⟨gS, 0, none⟩) 2 2] w fun e w1 =>
    ∃ A' c', e = .returned (.slice A' (n + m) c') ∧ Own w1 w.heap.size 5 .u8 A' (n + m) c' (xs ++ ys) ∧ Below w.heap.size w w1 := by
  have F := Fr.refl w
  have h1 : ¬ ((n : Int) < 0) := by omega
  have h2 : ¬ ((n : Int) + (m : Int) < 0) := by omega
  go_enter Try.func44, Try.ntmps44
  go_wp2
  refine wp_loop_rounds 3 ?_
  iterate 3 (rw [rounds_succ]; go_wp2_with (first | ((with_reducible refine at_load (t := 22) rfl ?_); refine ev_load_cell rfl 22 _ rfl S rfl (by kernel_rfl) (by kernel_rfl) rfl ?_) | (go_at_call 53; (with_reducible refine (grow_nil_of _ (n + m) (by omega) (by omega) _).mono ?_); rintro e w1 ⟨A1, c1, rfl, ON, nb⟩; replace ON := ON.mono F.size; replace F := F.step nb; (try clear O); have O := ON; clear ON nb)))
  refine wp_loop_rounds 3 ?_
  rw [rounds_succ]
  go_wp2_with (first | ((with_reducible refine at_load (t := 22) rfl ?_); refine ev_load_cell rfl 22 _ rfl (S.below F.out) rfl (by kernel_rfl) (by kernel_rfl) rfl ?_) | (at_builtin; refine ev_append rfl 22 5 rfl Try.underlying22 u8_info rfl O (R1.below F.out) rfl rfl (by unfold maxLen; omega) (F.size) ?_; intro A1 c1 w1 ON gr; replace F := F.grew gr (fun a ha => (O.lt a ha).1); replace O := ON; clear ON gr; simp only [Nat.zero_add, List.nil_append] at O))
  rw [rounds_succ]
  go_wp2_with (first | ((with_reducible refine at_load (t := 22) rfl ?_); refine ev_load_cell rfl 22 _ rfl (S.below F.out) rfl (by kernel_rfl) (by kernel_rfl) rfl ?_) | (at_builtin; refine ev_append rfl 22 5 rfl Try.underlying22 u8_info rfl O (R2.below F.out) rfl rfl (by unfold maxLen; omega) (F.size) ?_; intro A1 c1 w1 ON gr; replace F := F.grew gr (fun a ha => (O.lt a ha).1); replace O := ON; clear ON gr))
  rw [rounds_succ]
  go_wp2
  go_ret
  exact ⟨_, _, rfl, by simpa using O, F.out⟩
/-- a number in k bytes, the highest first -/
def beN : Nat → Int → List Int
  | 0, _ => []
  | k + 1, x => x / 2 ^ (8 * k) % 256 :: beN k x
theorem beN_length (k : Nat) (x : Int) : (beN k x).length = k := by induction k with | zero => rfl | succ k ih => simp [beN, ih]

set_option maxRecDepth 100000 in
set_option maxHeartbeats 800000 in
/-- octet.Put. -/
theorem put_any (A : Option Addr) (n c k : Nat) (x y : Int) (xs : List Int) (w : World) (R : Rd w .u8 A n xs) (hn : n ≤ 274877906944) (hy : y = k) (h1 : 1 ≤ k) (h8 : k ≤ 8) :
    Calls Try.prog 34 #[.slice A n c, .int .i64 y, .int .u64 x] w fun e w1 =>
    ∃ A' c', e = .returned (.slice A' (n + k) c') ∧ Own w1 w.heap.size 5 .u8 A' (n + k) c' (xs ++ beN k x) ∧ Below w.heap.size w w1 := by
  subst hy
  have F := Fr.refl w
  have m1 : ¬ ((k : Int) < 1) := by omega
  have m2 : ¬ (8 < (k : Int)) := by omega
  go_enter Try.func34, Try.ntmps34
  go_wp2_with (first | ((with_reducible refine at_slot (N := 7) rfl ?_); refine ev_new rfl (cs := #[.int .u8 0, .int .u8 0, .int .u8 0, .int .u8 0, .int .u8 0, .int .u8 0, .int .u8 0, .int .u8 0]) (t := 79) (by first | (go_simp; done) | (go_simp; rfl)) ?_; intro gL hgL wL L nbL; have GEL : w.heap.size ≤ gL := (by rw [hgL]; exact F.size); clear hgL; replace F := F.step nbL; clear nbL))
  refine wp_loop_rounds 9 ?_
  rw [rounds_succ]; go_wp2_with (first | ((with_reducible refine at_store (t := 5) rfl ?_); refine ev_store_cell rfl 5 _ _ rfl L rfl ((.int .u8 (x / 72057594037927936 % 256))) rfl rfl rfl (by kernel_rfl) (of_decide_eq_true (by kernel_rfl)) ?_; intro w1 L np; replace F := F.put np GEL; clear np)); replace L : Blk _ _ #[.int .u8 (x / 72057594037927936 % 256), .int .u8 0, .int .u8 0, .int .u8 0, .int .u8 0, .int .u8 0, .int .u8 0, .int .u8 0] _ := L
  rw [rounds_succ]; go_wp2_with (first | ((with_reducible refine at_store (t := 5) rfl ?_); refine ev_store_cell rfl 5 _ _ rfl L rfl ((.int .u8 (x / 281474976710656 % 256))) rfl rfl rfl (by kernel_rfl) (of_decide_eq_true (by kernel_rfl)) ?_; intro w1 L np; replace F := F.put np GEL; clear np)); replace L : Blk _ _ #[.int .u8 (x / 72057594037927936 % 256), .int .u8 (x / 281474976710656 % 256), .int .u8 0, .int .u8 0, .int .u8 0, .int .u8 0, .int .u8 0, .int .u8 0] _ := L
  rw [rounds_succ]; go_wp2_with (first | ((with_reducible refine at_store (t := 5) rfl ?_); refine ev_store_cell rfl 5 _ _ rfl L rfl ((.int .u8 (x / 1099511627776 % 256))) rfl rfl rfl (by kernel_rfl) (of_decide_eq_true (by kernel_rfl)) ?_; intro w1 L np; replace F := F.put np GEL; clear np)); replace L : Blk _ _ #[.int .u8 (x / 72057594037927936 % 256), .int .u8 (x / 281474976710656 % 256), .int .u8 (x / 1099511627776 % 256), .int .u8 0, .int .u8 0, .int .u8 0, .int .u8 0, .int .u8 0] _ := L
  rw [rounds_succ]; go_wp2_with (first | ((with_reducible refine at_store (t := 5) rfl ?_); refine ev_store_cell rfl 5 _ _ rfl L rfl ((.int .u8 (x / 4294967296 % 256))) rfl rfl rfl (by kernel_rfl) (of_decide_eq_true (by kernel_rfl)) ?_; intro w1 L np; replace F := F.put np GEL; clear np)); replace L : Blk _ _ #[.int .u8 (x / 72057594037927936 % 256), .int .u8 (x / 281474976710656 % 256), .int .u8 (x / 1099511627776 % 256), .int .u8 (x / 4294967296 % 256), .int .u8 0, .int .u8 0, .int .u8 0, .int .u8 0] _ := L
  rw [rounds_succ]; go_wp2_with (first | ((with_reducible refine at_store (t := 5) rfl ?_); refine ev_store_cell rfl 5 _ _ rfl L rfl ((.int .u8 (x / 16777216 % 256))) rfl rfl rfl (by kernel_rfl) (of_decide_eq_true (by kernel_rfl)) ?_; intro w1 L np; replace F := F.put np GEL; clear np)); replace L : Blk _ _ #[.int .u8 (x / 72057594037927936 % 256), .int .u8 (x / 281474976710656 % 256), .int .u8 (x / 1099511627776 % 256), .int .u8 (x / 4294967296 % 256), .int .u8 (x / 16777216 % 256), .int .u8 0, .int .u8 0, .int .u8 0] _ := L
  rw [rounds_succ]; go_wp2_with (first | ((with_reducible refine at_store (t := 5) rfl ?_); refine ev_store_cell rfl 5 _ _ rfl L rfl ((.int .u8 (x / 65536 % 256))) rfl rfl rfl (by kernel_rfl) (of_decide_eq_true (by kernel_rfl)) ?_; intro w1 L np; replace F := F.put np GEL; clear np)); replace L : Blk _ _ #[.int .u8 (x / 72057594037927936 % 256), .int .u8 (x / 281474976710656 % 256), .int .u8 (x / 1099511627776 % 256), .int .u8 (x / 4294967296 % 256), .int .u8 (x / 16777216 % 256), .int .u8 (x / 65536 % 256), .int .u8 0, .int .u8 0] _ := L
  rw [rounds_succ]; go_wp2_with (first | ((with_reducible refine at_store (t := 5) rfl ?_); refine ev_store_cell rfl 5 _ _ rfl L rfl ((.int .u8 (x / 256 % 256))) rfl rfl rfl (by kernel_rfl) (of_decide_eq_true (by kernel_rfl)) ?_; intro w1 L np; replace F := F.put np GEL; clear np)); replace L : Blk _ _ #[.int .u8 (x / 72057594037927936 % 256), .int .u8 (x / 281474976710656 % 256), .int .u8 (x / 1099511627776 % 256), .int .u8 (x / 4294967296 % 256), .int .u8 (x / 16777216 % 256), .int .u8 (x / 65536 % 256), .int .u8 (x / 256 % 256), .int .u8 0] _ := L
  rw [rounds_succ]; go_wp2_with (first | ((with_reducible refine at_store (t := 5) rfl ?_); refine ev_store_cell rfl 5 _ _ rfl L rfl ((.int .u8 (x % 256))) rfl rfl rfl (by kernel_rfl) (of_decide_eq_true (by kernel_rfl)) ?_; intro w1 L np; replace F := F.put np GEL; clear np)); replace L : Blk _ _ #[.int .u8 (x / 72057594037927936 % 256), .int .u8 (x / 281474976710656 % 256), .int .u8 (x / 1099511627776 % 256), .int .u8 (x / 4294967296 % 256), .int .u8 (x / 16777216 % 256), .int .u8 (x / 65536 % 256), .int .u8 (x / 256 % 256), .int .u8 (x % 256)] _ := L
  rw [rounds_succ]
  have hk : k = 1 ∨ k = 2 ∨ k = 3 ∨ k = 4 ∨ k = 5 ∨ k = 6 ∨ k = 7 ∨ k = 8 := by omega
  clear m1 m2 h1 h8
  rcases hk with rfl | rfl | rfl | rfl | rfl | rfl | rfl | rfl
  · have L2 := Rd.ofBlk (k := .u8) (off := 7) (n := 1) (xs := beN 1 x) L rfl (by simp [beN])
    go_wp2_with (first | ((with_reducible refine at_slot (N := 28) rfl ?_); refine ev_new_slice (n := 2) (c := 2) rfl (cs := #[.slice A n c, .slice (some ⟨gL, 7, none⟩) 1 1]) (t := 22) (by first | (go_simp; done) | (go_simp; rfl)) ?_; intro gS hgS wS S nbS; have GES : w.heap.size ≤ gS := (by rw [hgS]; exact F.size); clear hgS; replace F := F.step nbS; replace L2 := L2.below nbS; clear nbS) | (go_at_call 44; (with_reducible refine (concat_any gS A (some ⟨gL, 7, none⟩) n c 1 1 xs (beN 1 x) _ S (R.below F.out) L2 hn (by omega)).mono ?_); rintro e w1 ⟨A1, c1, rfl, ON, nb⟩; replace ON := ON.mono F.size; replace F := F.step nb; (try clear O); have O := ON; clear ON nb))
    go_ret
    exact ⟨_, _, rfl, O, F.out⟩
  · have L2 := Rd.ofBlk (k := .u8) (off := 6) (n := 2) (xs := beN 2 x) L rfl (by simp [beN])
    go_wp2_with (first | ((with_reducible refine at_slot (N := 28) rfl ?_); refine ev_new_slice (n := 2) (c := 2) rfl (cs := #[.slice A n c, .slice (some ⟨gL, 6, none⟩) 2 2]) (t := 22) (by first | (go_simp; done) | (go_simp; rfl)) ?_; intro gS hgS wS S nbS; have GES : w.heap.size ≤ gS := (by rw [hgS]; exact F.size); clear hgS; replace F := F.step nbS; replace L2 := L2.below nbS; clear nbS) | (go_at_call 44; (with_reducible refine (concat_any gS A (some ⟨gL, 6, none⟩) n c 2 2 xs (beN 2 x) _ S (R.below F.out) L2 hn (by omega)).mono ?_); rintro e w1 ⟨A1, c1, rfl, ON, nb⟩; replace ON := ON.mono F.size; replace F := F.step nb; (try clear O); have O := ON; clear ON nb))
    go_ret
    exact ⟨_, _, rfl, O, F.out⟩
  · have L2 := Rd.ofBlk (k := .u8) (off := 5) (n := 3) (xs := beN 3 x) L rfl (by simp [beN])
    go_wp2_with (first | ((with_reducible refine at_slot (N := 28) rfl ?_); refine ev_new_slice (n := 2) (c := 2) rfl (cs := #[.slice A n c, .slice (some ⟨gL, 5, none⟩) 3 3]) (t := 22) (by first | (go_simp; done) | (go_simp; rfl)) ?_; intro gS hgS wS S nbS; have GES : w.heap.size ≤ gS := (by rw [hgS]; exact F.size); clear hgS; replace F := F.step nbS; replace L2 := L2.below nbS; clear nbS) | (go_at_call 44; (with_reducible refine (concat_any gS A (some ⟨gL, 5, none⟩) n c 3 3 xs (beN 3 x) _ S (R.below F.out) L2 hn (by omega)).mono ?_); rintro e w1 ⟨A1, c1, rfl, ON, nb⟩; replace ON := ON.mono F.size; replace F := F.step nb; (try clear O); have O := ON; clear ON nb))
    go_ret
    exact ⟨_, _, rfl, O, F.out⟩
  · have L2 := Rd.ofBlk (k := .u8) (off := 4) (n := 4) (xs := beN 4 x) L rfl (by simp [beN])
    go_wp2_with (first | ((with_reducible refine at_slot (N := 28) rfl ?_); refine ev_new_slice (n := 2) (c := 2) rfl (cs := #[.slice A n c, .slice (some ⟨gL, 4, none⟩) 4 4]) (t := 22) (by first | (go_simp; done) | (go_simp; rfl)) ?_; intro gS hgS wS S nbS; have GES : w.heap.size ≤ gS := (by rw [hgS]; exact F.size); clear hgS; replace F := F.step nbS; replace L2 := L2.below nbS; clear nbS) | (go_at_call 44; (with_reducible refine (concat_any gS A (some ⟨gL, 4, none⟩) n c 4 4 xs (beN 4 x) _ S (R.below F.out) L2 hn (by omega)).mono ?_); rintro e w1 ⟨A1, c1, rfl, ON, nb⟩; replace ON := ON.mono F.size; replace F := F.step nb; (try clear O); have O := ON; clear ON nb))
    go_ret
    exact ⟨_, _, rfl, O, F.out⟩
  · have L2 := Rd.ofBlk (k := .u8) (off := 3) (n := 5) (xs := beN 5 x) L rfl (by simp [beN])
    go_wp2_with (first | ((with_reducible refine at_slot (N := 28) rfl ?_); refine ev_new_slice (n := 2) (c := 2) rfl (cs := #[.slice A n c, .slice (some ⟨gL, 3, none⟩) 5 5]) (t := 22) (by first | (go_simp; done) | (go_simp; rfl)) ?_; intro gS hgS wS S nbS; have GES : w.heap.size ≤ gS := (by rw [hgS]; exact F.size); clear hgS; replace F := F.step nbS; replace L2 := L2.below nbS; clear nbS) | (go_at_call 44; (with_reducible refine (concat_any gS A (some ⟨gL, 3, none⟩) n c 5 5 xs (beN 5 x) _ S (R.below F.out) L2 hn (by omega)).mono ?_); rintro e w1 ⟨A1, c1, rfl, ON, nb⟩; replace ON := ON.mono F.size; replace F := F.step nb; (try clear O); have O := ON; clear ON nb))
    go_ret
    exact ⟨_, _, rfl, O, F.out⟩
  · have L2 := Rd.ofBlk (k := .u8) (off := 2) (n := 6) (xs := beN 6 x) L rfl (by simp [beN])
    go_wp2_with (first | ((with_reducible refine at_slot (N := 28) rfl ?_); refine ev_new_slice (n := 2) (c := 2) rfl (cs := #[.slice A n c, .slice (some ⟨gL, 2, none⟩) 6 6]) (t := 22) (by first | (go_simp; done) | (go_simp; rfl)) ?_; intro gS hgS wS S nbS; have GES : w.heap.size ≤ gS := (by rw [hgS]; exact F.size); clear hgS; replace F := F.step nbS; replace L2 := L2.below nbS; clear nbS) | (go_at_call 44; (with_reducible refine (concat_any gS A (some ⟨gL, 2, none⟩) n c 6 6 xs (beN 6 x) _ S (R.below F.out) L2 hn (by omega)).mono ?_); rintro e w1 ⟨A1, c1, rfl, ON, nb⟩; replace ON := ON.mono F.size; replace F := F.step nb; (try clear O); have O := ON; clear ON nb))
    go_ret
    exact ⟨_, _, rfl, O, F.out⟩
  · have L2 := Rd.ofBlk (k := .u8) (off := 1) (n := 7) (xs := beN 7 x) L rfl (by simp [beN])
    go_wp2_with (first | ((with_reducible refine at_slot (N := 28) rfl ?_); refine ev_new_slice (n := 2) (c := 2) rfl (cs := #[.slice A n c, .slice (some ⟨gL, 1, none⟩) 7 7]) (t := 22) (by first | (go_simp; done) | (go_simp; rfl)) ?_; intro gS hgS wS S nbS; have GES : w.heap.size ≤ gS := (by rw [hgS]; exact F.size); clear hgS; replace F := F.step nbS; replace L2 := L2.below nbS; clear nbS) | (go_at_call 44; (with_reducible refine (concat_any gS A (some ⟨gL, 1, none⟩) n c 7 7 xs (beN 7 x) _ S (R.below F.out) L2 hn (by omega)).mono ?_); rintro e w1 ⟨A1, c1, rfl, ON, nb⟩; replace ON := ON.mono F.size; replace F := F.step nb; (try clear O); have O := ON; clear ON nb))
    go_ret
    exact ⟨_, _, rfl, O, F.out⟩
  · have L2 := Rd.ofBlk (k := .u8) (off := 0) (n := 8) (xs := beN 8 x) L rfl (by simp [beN])
    go_wp2_with (first | ((with_reducible refine at_slot (N := 28) rfl ?_); refine ev_new_slice (n := 2) (c := 2) rfl (cs := #[.slice A n c, .slice (some ⟨gL, 0, none⟩) 8 8]) (t := 22) (by first | (go_simp; done) | (go_simp; rfl)) ?_; intro gS hgS wS S nbS; have GES : w.heap.size ≤ gS := (by rw [hgS]; exact F.size); clear hgS; replace F := F.step nbS; replace L2 := L2.below nbS; clear nbS) | (go_at_call 44; (with_reducible refine (concat_any gS A (some ⟨gL, 0, none⟩) n c 8 8 xs (beN 8 x) _ S (R.below F.out) L2 hn (by omega)).mono ?_); rintro e w1 ⟨A1, c1, rfl, ON, nb⟩; replace ON := ON.mono F.size; replace F := F.step nb; (try clear O); have O := ON; clear ON nb))
    go_ret
    exact ⟨_, _, rfl, O, F.out⟩
end Go.Proofs.Ythbehlohdoajbaa
