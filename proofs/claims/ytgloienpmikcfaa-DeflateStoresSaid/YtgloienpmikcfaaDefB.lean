/-
  Package deflate: the symbols of lengths and distances; the reference's (contracts).
-/
import Derived.Test.YtgloienpmikcfaaDefA
set_option linter.unusedVariables false
set_option linter.unusedSimpArgs false
namespace Go.Proofs.Ytgloienpmikcfaa
open Go.RowKit
def lastK (p : Nat → Int) (n : Int) : Nat → Nat
  | 0 => 0
  | k + 1 => if p k ≤ n then k else lastK p n k
theorem lastK_le (p : Nat → Int) (n : Int) (h : p 0 ≤ n) : ∀ k, 0 < k → p (lastK p n k) ≤ n ∧ lastK p n k < k
  | 0, h => absurd h (Nat.lt_irrefl _)
  | k + 1, _ => by
    simp only [lastK]
    split
    · exact ⟨‹_›, by omega⟩
    · by_cases hk : k = 0
      · subst hk; contradiction
      · have := lastK_le p n h k (by omega)
        exact ⟨this.1, by omega⟩
def tblL : List (Int × Int) := [(3, 0), (4, 0), (5, 0), (6, 0), (7, 0), (8, 0), (9, 0), (10, 0), (11, 1), (13, 1), (15, 1), (17, 1), (19, 2), (23, 2), (27, 2), (31, 2), (35, 3), (43, 3), (51, 3), (59, 3), (67, 4), (83, 4), (99, 4), (115, 4), (131, 5), (163, 5), (195, 5), (227, 5), (258, 0)]
def tblD : List (Int × Int) := [(1, 0), (2, 0), (3, 0), (4, 0), (5, 1), (7, 1), (9, 2), (13, 2), (17, 3), (25, 3), (33, 4), (49, 4), (65, 5), (97, 5), (129, 6), (193, 6), (257, 7), (385, 7), (513, 8), (769, 8), (1025, 9), (1537, 9), (2049, 10), (3073, 10), (4097, 11), (6145, 11), (8193, 12), (12289, 12), (16385, 13), (24577, 13)]
def ent (t : List (Int × Int)) (j : Nat) : Int × Int := t.getD j (0, 0)
def encP (p : Int × Int) : List Value := [.int .i64 p.1, .int .i64 p.2]

theorem lits_lengths (w : World) : (Instr.buildSlice 74 29 #[(0, .agg #[.int .i64 3, .int .i64 0]), (1, .agg #[.int .i64 4, .int .i64 0]), (2, .agg #[.int .i64 5, .int .i64 0]), (3, .agg #[.int .i64 6, .int .i64 0]), (4, .agg #[.int .i64 7, .int .i64 0]), (5, .agg #[.int .i64 8, .int .i64 0]), (6, .agg #[.int .i64 9, .int .i64 0]), (7, .agg #[.int .i64 10, .int .i64 0]), (8, .agg #[.int .i64 11, .int .i64 1]), (9, .agg #[.int .i64 13, .int .i64 1]), (10, .agg #[.int .i64 15, .int .i64 1]), (11, .agg #[.int .i64 17, .int .i64 1]), (12, .agg #[.int .i64 19, .int .i64 2]), (13, .agg #[.int .i64 23, .int .i64 2]), (14, .agg #[.int .i64 27, .int .i64 2]), (15, .agg #[.int .i64 31, .int .i64 2]), (16, .agg #[.int .i64 35, .int .i64 3]), (17, .agg #[.int .i64 43, .int .i64 3]), (18, .agg #[.int .i64 51, .int .i64 3]), (19, .agg #[.int .i64 59, .int .i64 3]), (20, .agg #[.int .i64 67, .int .i64 4]), (21, .agg #[.int .i64 83, .int .i64 4]), (22, .agg #[.int .i64 99, .int .i64 4]), (23, .agg #[.int .i64 115, .int .i64 4]), (24, .agg #[.int .i64 131, .int .i64 5]), (25, .agg #[.int .i64 163, .int .i64 5]), (26, .agg #[.int .i64 195, .int .i64 5]), (27, .agg #[.int .i64 227, .int .i64 5]), (28, .agg #[.int .i64 258, .int .i64 0])]).run Try.prog w = .ok (.slice (some ⟨w.heap.size, 0, none⟩) 29 29) (w.alloc (.cells ((List.range 29).flatMap fun j => encP (ent tblL j)).toArray 98 (0, 0))) := by kernel_rfl
theorem lits_dists (w : World) : (Instr.buildSlice 74 30 #[(0, .agg #[.int .i64 1, .int .i64 0]), (1, .agg #[.int .i64 2, .int .i64 0]), (2, .agg #[.int .i64 3, .int .i64 0]), (3, .agg #[.int .i64 4, .int .i64 0]), (4, .agg #[.int .i64 5, .int .i64 1]), (5, .agg #[.int .i64 7, .int .i64 1]), (6, .agg #[.int .i64 9, .int .i64 2]), (7, .agg #[.int .i64 13, .int .i64 2]), (8, .agg #[.int .i64 17, .int .i64 3]), (9, .agg #[.int .i64 25, .int .i64 3]), (10, .agg #[.int .i64 33, .int .i64 4]), (11, .agg #[.int .i64 49, .int .i64 4]), (12, .agg #[.int .i64 65, .int .i64 5]), (13, .agg #[.int .i64 97, .int .i64 5]), (14, .agg #[.int .i64 129, .int .i64 6]), (15, .agg #[.int .i64 193, .int .i64 6]), (16, .agg #[.int .i64 257, .int .i64 7]), (17, .agg #[.int .i64 385, .int .i64 7]), (18, .agg #[.int .i64 513, .int .i64 8]), (19, .agg #[.int .i64 769, .int .i64 8]), (20, .agg #[.int .i64 1025, .int .i64 9]), (21, .agg #[.int .i64 1537, .int .i64 9]), (22, .agg #[.int .i64 2049, .int .i64 10]), (23, .agg #[.int .i64 3073, .int .i64 10]), (24, .agg #[.int .i64 4097, .int .i64 11]), (25, .agg #[.int .i64 6145, .int .i64 11]), (26, .agg #[.int .i64 8193, .int .i64 12]), (27, .agg #[.int .i64 12289, .int .i64 12]), (28, .agg #[.int .i64 16385, .int .i64 13]), (29, .agg #[.int .i64 24577, .int .i64 13])]).run Try.prog w = .ok (.slice (some ⟨w.heap.size, 0, none⟩) 30 30) (w.alloc (.cells ((List.range 30).flatMap fun j => encP (ent tblD j)).toArray 98 (0, 0))) := by kernel_rfl
section
variable {w0 w : World} {L : List Ent}
set_option maxHeartbeats 4000000 in
set_option maxRecDepth 100000 in
theorem lengths_any (K : Known w0 w L) : Calls Try.prog 49 #[] w fun e w' => ∃ g, e = .returned (.slice (some ⟨g, 0, none⟩) 29 29) ∧ Known w0 w' (row g ((List.range 29).flatMap fun j => encP (ent tblL j)).toArray 98 :: L) := by
  go_enter Try.func49, Try.ntmps49
  go_wp2_with (first | ((with_reducible refine at_buildSlice rfl ?_); go_loud (refine wpList_does rfl (kd_lits (cs := _) K _ _ _ rfl (by kernel_rfl) (lits_lengths _)) ?_; clear K; rintro _ w1 ⟨g, rfl, K⟩)) | ((with_reducible refine at_eqnil rfl ?_); go_loud (refine wpList_reads rfl (kr_eqnil rfl rfl (by kernel_rfl)) ?_)) | ((with_reducible refine at_box rfl ?_); go_loud (refine wpList_does rfl (kd_box K _ _ rfl (by conv => lhs; whnf)) ?_; clear K; rintro _ w1 ⟨g, rfl, K⟩; (try dsimp only [Value.cells] at K))) | ((with_reducible refine at_alloc rfl ?_); go_loud (refine wpList_does rfl (kd_alloc K _ rfl rfl) ?_; clear K; rintro _ w1 ⟨g, rfl, K⟩; (try dsimp only [Value.cells] at K))) | ((with_reducible refine at_buildSlice rfl ?_); go_loud (refine wpList_does rfl (kd_lits (cs := _) K _ _ _ rfl (by first | rfl | (go_simp; done) | (go_simp; rfl)) (by first | rfl | (go_simp; done) | (go_simp; rfl))) ?_; clear K; rintro _ w1 ⟨g, rfl, K⟩)) | ((with_reducible refine at_load rfl ?_); go_loud (first | (refine wpList_reads rfl (kr_load_cell K _ _ rfl rfl (by repeat (first | with_reducible exact Has.hd _ _ | with_reducible refine Has.tl _ ?_ | with_reducible refine Has.ap _ ?_)) (by kernel_rfl) (by (try simp only [List.getElem?_toArray, List.getElem?_cons_succ, List.getElem?_cons_zero]); exact rfl)) ?_) | (refine wpList_reads rfl (kr_load_row K _ _ rfl rfl (by repeat (first | with_reducible exact Has.hd _ _ | with_reducible refine Has.tl _ ?_ | with_reducible refine Has.ap _ ?_)) (by kernel_rfl) (by kernel_rfl)) ?_) | (refine wpList_reads rfl (kr_load_mid K _ _ rfl rfl (by repeat (first | with_reducible exact Has.hd _ _ | with_reducible refine Has.tl _ ?_ | with_reducible refine Has.ap _ ?_)) (by kernel_rfl) (by kernel_rfl) (by rfl) (by kernel_rfl)) ?_))) | ((with_reducible refine at_store rfl ?_); go_loud ((first | (refine wpList_does rfl (kd_store_cell K _ _ _ rfl rfl (by conv => lhs; whnf) (by repeat (first | with_reducible exact Repl.hd _ _ _ | with_reducible apply Repl.tl | with_reducible apply Repl.ap)) rfl rfl (by kernel_rfl) (by kernel_rfl) (by first | (simp only [List.setIfInBounds_toArray, List.set_cons_succ, List.set_cons_zero]; rfl) | rfl)) ?_) | (refine wpList_does rfl (kd_store_row K _ _ _ rfl rfl rfl (by repeat (first | with_reducible exact Repl.hd _ _ _ | with_reducible apply Repl.tl | with_reducible apply Repl.ap)) (by kernel_rfl) (by kernel_rfl) (by kernel_rfl)) ?_)); clear K; intro _ w1 K; (try simp only [Act.put]))))
  go_ret
  exact ⟨_, rfl, K⟩
set_option maxHeartbeats 4000000 in
set_option maxRecDepth 100000 in
theorem dists_any (K : Known w0 w L) : Calls Try.prog 52 #[] w fun e w' => ∃ g, e = .returned (.slice (some ⟨g, 0, none⟩) 30 30) ∧ Known w0 w' (row g ((List.range 30).flatMap fun j => encP (ent tblD j)).toArray 98 :: L) := by
  go_enter Try.func52, Try.ntmps52
  go_wp2_with (first | ((with_reducible refine at_buildSlice rfl ?_); go_loud (refine wpList_does rfl (kd_lits (cs := _) K _ _ _ rfl (by kernel_rfl) (lits_dists _)) ?_; clear K; rintro _ w1 ⟨g, rfl, K⟩)) | ((with_reducible refine at_eqnil rfl ?_); go_loud (refine wpList_reads rfl (kr_eqnil rfl rfl (by kernel_rfl)) ?_)) | ((with_reducible refine at_box rfl ?_); go_loud (refine wpList_does rfl (kd_box K _ _ rfl (by conv => lhs; whnf)) ?_; clear K; rintro _ w1 ⟨g, rfl, K⟩; (try dsimp only [Value.cells] at K))) | ((with_reducible refine at_alloc rfl ?_); go_loud (refine wpList_does rfl (kd_alloc K _ rfl rfl) ?_; clear K; rintro _ w1 ⟨g, rfl, K⟩; (try dsimp only [Value.cells] at K))) | ((with_reducible refine at_buildSlice rfl ?_); go_loud (refine wpList_does rfl (kd_lits (cs := _) K _ _ _ rfl (by first | rfl | (go_simp; done) | (go_simp; rfl)) (by first | rfl | (go_simp; done) | (go_simp; rfl))) ?_; clear K; rintro _ w1 ⟨g, rfl, K⟩)) | ((with_reducible refine at_load rfl ?_); go_loud (first | (refine wpList_reads rfl (kr_load_cell K _ _ rfl rfl (by repeat (first | with_reducible exact Has.hd _ _ | with_reducible refine Has.tl _ ?_ | with_reducible refine Has.ap _ ?_)) (by kernel_rfl) (by (try simp only [List.getElem?_toArray, List.getElem?_cons_succ, List.getElem?_cons_zero]); exact rfl)) ?_) | (refine wpList_reads rfl (kr_load_row K _ _ rfl rfl (by repeat (first | with_reducible exact Has.hd _ _ | with_reducible refine Has.tl _ ?_ | with_reducible refine Has.ap _ ?_)) (by kernel_rfl) (by kernel_rfl)) ?_) | (refine wpList_reads rfl (kr_load_mid K _ _ rfl rfl (by repeat (first | with_reducible exact Has.hd _ _ | with_reducible refine Has.tl _ ?_ | with_reducible refine Has.ap _ ?_)) (by kernel_rfl) (by kernel_rfl) (by rfl) (by kernel_rfl)) ?_))) | ((with_reducible refine at_store rfl ?_); go_loud ((first | (refine wpList_does rfl (kd_store_cell K _ _ _ rfl rfl (by conv => lhs; whnf) (by repeat (first | with_reducible exact Repl.hd _ _ _ | with_reducible apply Repl.tl | with_reducible apply Repl.ap)) rfl rfl (by kernel_rfl) (by kernel_rfl) (by first | (simp only [List.setIfInBounds_toArray, List.set_cons_succ, List.set_cons_zero]; rfl) | rfl)) ?_) | (refine wpList_does rfl (kd_store_row K _ _ _ rfl rfl rfl (by repeat (first | with_reducible exact Repl.hd _ _ _ | with_reducible apply Repl.tl | with_reducible apply Repl.ap)) (by kernel_rfl) (by kernel_rfl) (by kernel_rfl)) ?_)); clear K; intro _ w1 K; (try simp only [Act.put]))))
  go_ret
  exact ⟨_, rfl, K⟩
set_option maxRecDepth 100000 in
theorem of_any {A : Option Addr} {m c : Nat} {p : Nat → Int × Int} (n i more x : Int) (K : Known w0 w L) (R : RdE w0 L 2 A m (fun j => encP (p j))) (hm : 0 < m) (hm2 : m ≤ 1000) (h0 : (p 0).1 ≤ n) (hb : ∀ j, 0 ≤ (p j).1) (hn : n ≤ 100000)
    (hi : (lastK (fun j => (p j).1) n m : Int) = i) (hmo : (p (lastK (fun j => (p j).1) n m)).2 = more) (hx : n - (p (lastK (fun j => (p j).1) n m)).1 = x) :
    Calls Try.prog 48 #[.slice A m c, .int .i64 n] w fun e w' => e = .returned (.tuple #[.int .i64 i, .int .i64 more, .int .u32 x]) ∧ Known w0 w' L := by
  have hll := lastK_le (fun j => (p j).1) n h0 m hm
  obtain ⟨q, hq⟩ : ∃ q, lastK (fun j => (p j).1) n m = q := ⟨_, rfl⟩
  rw [hq] at hi hmo hx hll
  obtain ⟨b, off, rfl⟩ := R.form K hm
  have HQ := Lib.hid hq
  have HI := Lib.hid hi; have HM := Lib.hid hmo; have HX := Lib.hid hx
  have HB := Lib.hid hb
  have H0 := Lib.hid h0
  clear hq hi hmo hx hb h0 hll
  go_enter Try.func48, Try.ntmps48
  go_wp2
  go_loopg [7] m (fun d s wr => ∃ k : Nat, s = .int .i64 k ∧ k < m ∧ Hid (lastK (fun j => (p j).1) n (k + 1) = q) ∧ Known w0 wr L ∧ k < d)
  case atStart => exact ⟨m - 1, by rw [show ((m - 1 : Nat) : Int) = (m : Int) - 1 by omega], by omega, Lib.hid (by rw [show m - 1 + 1 = m by omega]; exact HQ.out), K, by omega⟩
  case round =>
    clear K
    obtain ⟨k, rfl, hk, HL, K, hd⟩ := hrel
    obtain ⟨l, hl⟩ : ∃ l, (p k).1 = l := ⟨_, rfl⟩
    obtain ⟨r, hr⟩ : ∃ r, (p k).2 = r := ⟨_, rfl⟩
    have hl0 := HB.out k
    rw [hl] at hl0
    have hf : (fun j => encP (p j)) k = [.int .i64 l, .int .i64 r] := by simp [encP, hl, hr]
    have HLL := Lib.hid hl
    have HF := Lib.hid hf
    have HR := Lib.hid hr
    clear hl hf hr
    by_cases hle : l ≤ n
    · go_wp2_with (first | ((with_reducible refine at_load rfl ?_); go_loud (refine wpList_reads (by rfl) (kr_load_elem K _ _ (by rfl) (k) (by rfl) R (by omega) (by omega) (by kernel_rfl) (by kernel_rfl) (by rfl)) ?_; simp only [HF.out])) | ((with_reducible refine at_eqnil rfl ?_); go_loud (refine wpList_reads rfl (kr_eqnil rfl rfl (by kernel_rfl)) ?_)) | ((with_reducible refine at_box rfl ?_); go_loud (refine wpList_does rfl (kd_box K _ _ rfl (by conv => lhs; whnf)) ?_; clear K; rintro _ w1 ⟨g, rfl, K⟩; (try dsimp only [Value.cells] at K))) | ((with_reducible refine at_alloc rfl ?_); go_loud (refine wpList_does rfl (kd_alloc K _ rfl rfl) ?_; clear K; rintro _ w1 ⟨g, rfl, K⟩; (try dsimp only [Value.cells] at K))) | ((with_reducible refine at_buildSlice rfl ?_); go_loud (refine wpList_does rfl (kd_lits (cs := _) K _ _ _ rfl (by first | rfl | (go_simp; done) | (go_simp; rfl)) (by first | rfl | (go_simp; done) | (go_simp; rfl))) ?_; clear K; rintro _ w1 ⟨g, rfl, K⟩)) | ((with_reducible refine at_load rfl ?_); go_loud (first | (refine wpList_reads rfl (kr_load_cell K _ _ rfl rfl (by repeat (first | with_reducible exact Has.hd _ _ | with_reducible refine Has.tl _ ?_ | with_reducible refine Has.ap _ ?_)) (by kernel_rfl) (by (try simp only [List.getElem?_toArray, List.getElem?_cons_succ, List.getElem?_cons_zero]); exact rfl)) ?_) | (refine wpList_reads rfl (kr_load_row K _ _ rfl rfl (by repeat (first | with_reducible exact Has.hd _ _ | with_reducible refine Has.tl _ ?_ | with_reducible refine Has.ap _ ?_)) (by kernel_rfl) (by kernel_rfl)) ?_) | (refine wpList_reads rfl (kr_load_mid K _ _ rfl rfl (by repeat (first | with_reducible exact Has.hd _ _ | with_reducible refine Has.tl _ ?_ | with_reducible refine Has.ap _ ?_)) (by kernel_rfl) (by kernel_rfl) (by rfl) (by kernel_rfl)) ?_))) | ((with_reducible refine at_store rfl ?_); go_loud ((first | (refine wpList_does rfl (kd_store_cell K _ _ _ rfl rfl (by conv => lhs; whnf) (by repeat (first | with_reducible exact Repl.hd _ _ _ | with_reducible apply Repl.tl | with_reducible apply Repl.ap)) rfl rfl (by kernel_rfl) (by kernel_rfl) (by first | (simp only [List.setIfInBounds_toArray, List.set_cons_succ, List.set_cons_zero]; rfl) | rfl)) ?_) | (refine wpList_does rfl (kd_store_row K _ _ _ rfl rfl rfl (by repeat (first | with_reducible exact Repl.hd _ _ _ | with_reducible apply Repl.tl | with_reducible apply Repl.ap)) (by kernel_rfl) (by kernel_rfl) (by kernel_rfl)) ?_)); clear K; intro _ w1 K; (try simp only [Act.put]))))
      have HQ2 := Lib.hid (show k = q by have h := HL.out; rw [lastK, if_pos (by rw [HLL.out]; exact hle)] at h; exact h)
      have kw := IntWalk.i64_in (n - l) (by omega)
      have ku : IntKind.u32.wrap (n - l) = n - l := by obtain ⟨d, hd⟩ := Int.eq_ofNat_of_zero_le (show 0 ≤ n - l by omega); rw [hd]; exact u32_nat (by omega)
      refine wp_region_GK K (Cov.all _) (by kernel_rfl) (by kernel_rfl) (by kernel_rfl) (fun K hHeld => ?_)
      refine wpG_take (i := 0) (x := { dst := some 24, op := Op.move (Operand.tmp 7), type := 3, pos := "tables.go:29", after := #[], guard := none }) (v := ?_) rfl (by kernel_rfl) (fun _ _ _ h => h) (Or.inl ⟨by rfl, ?_⟩) hHeld ?_
      rotate_left
      · (intro w hS; (clear hS; go_simp); try with_reducible rfl)
      try simp only [Act.put, List.setIfInBounds_toArray, List.set_cons_zero, List.set_cons_succ]
      refine wpG_take (i := 1) (x := { dst := some 25, op := Op.fieldAddr 98 (Operand.tmp 8) 1, type := 0, pos := "tables.go:29", after := #[{ on := 8, ground := Ground.gcOnly Departure.lateStores }], guard := none }) (v := ?_) rfl (by kernel_rfl) (fun _ _ _ h => h) (Or.inl ⟨by rfl, ?_⟩) hHeld ?_
      rotate_left
      · (intro w hS; (clear hS; go_simp); try with_reducible rfl)
      try simp only [Act.put, List.setIfInBounds_toArray, List.set_cons_zero, List.set_cons_succ]
      refine wpG_take (i := 2) (x := { dst := some 26, op := Op.load 3 (Operand.tmp 25), type := 3, pos := "tables.go:29", after := #[{ on := 1, ground := Ground.data }, { on := 8, ground := Ground.gcOnly Departure.lateStores }], guard := none }) (v := ?_) rfl (by kernel_rfl) (fun _ _ _ h => h) (Or.inl ⟨by rfl, ?_⟩) hHeld ?_
      rotate_left
      · (intro w hS; first | exact kr_load_cell hS _ _ (by rfl) (by rfl) (by repeat (first | with_reducible exact Has.hd _ _ | with_reducible refine Has.tl _ ?_ | with_reducible refine Has.ap _ ?_)) (by kernel_rfl) (by (try simp only [List.getElem?_toArray, List.getElem?_cons_succ, List.getElem?_cons_zero]); exact rfl) | exact kr_load_row hS _ _ (by rfl) (by rfl) (by repeat (first | with_reducible exact Has.hd _ _ | with_reducible refine Has.tl _ ?_ | with_reducible refine Has.ap _ ?_)) (by kernel_rfl) (by kernel_rfl) | exact kr_load_mid hS _ _ (by rfl) (by rfl) (by repeat (first | with_reducible exact Has.hd _ _ | with_reducible refine Has.tl _ ?_ | with_reducible refine Has.ap _ ?_)) (by kernel_rfl) (by kernel_rfl) (by rfl) (by kernel_rfl))
      try simp only [Act.put, List.setIfInBounds_toArray, List.set_cons_zero, List.set_cons_succ]
      refine wpG_take (i := 3) (x := { dst := some 27, op := Op.move (Operand.tmp 1), type := 3, pos := "tables.go:29", after := #[{ on := 9, ground := Ground.gcOnly Departure.lateStores }], guard := none }) (v := ?_) rfl (by kernel_rfl) (fun _ _ _ h => h) (Or.inl ⟨by rfl, ?_⟩) hHeld ?_
      rotate_left
      · (intro w hS; (clear hS; go_simp); try with_reducible rfl)
      try simp only [Act.put, List.setIfInBounds_toArray, List.set_cons_zero, List.set_cons_succ]
      refine wpG_take (i := 4) (x := { dst := some 28, op := Op.fieldAddr 98 (Operand.tmp 8) 0, type := 0, pos := "tables.go:29", after := #[{ on := 9, ground := Ground.gcOnly Departure.lateStores }], guard := none }) (v := ?_) rfl (by kernel_rfl) (fun _ _ _ h => h) (Or.inl ⟨by rfl, ?_⟩) hHeld ?_
      rotate_left
      · (intro w hS; (clear hS; go_simp); try with_reducible rfl)
      try simp only [Act.put, List.setIfInBounds_toArray, List.set_cons_zero, List.set_cons_succ]
      refine wpG_take (i := 5) (x := { dst := some 29, op := Op.load 3 (Operand.tmp 28), type := 3, pos := "tables.go:29", after := #[{ on := 4, ground := Ground.data }, { on := 9, ground := Ground.gcOnly Departure.lateStores }], guard := none }) (v := ?_) rfl (by kernel_rfl) (fun _ _ _ h => h) (Or.inl ⟨by rfl, ?_⟩) hHeld ?_
      rotate_left
      · (intro w hS; first | exact kr_load_cell hS _ _ (by rfl) (by rfl) (by repeat (first | with_reducible exact Has.hd _ _ | with_reducible refine Has.tl _ ?_ | with_reducible refine Has.ap _ ?_)) (by kernel_rfl) (by (try simp only [List.getElem?_toArray, List.getElem?_cons_succ, List.getElem?_cons_zero]); exact rfl) | exact kr_load_row hS _ _ (by rfl) (by rfl) (by repeat (first | with_reducible exact Has.hd _ _ | with_reducible refine Has.tl _ ?_ | with_reducible refine Has.ap _ ?_)) (by kernel_rfl) (by kernel_rfl) | exact kr_load_mid hS _ _ (by rfl) (by rfl) (by repeat (first | with_reducible exact Has.hd _ _ | with_reducible refine Has.tl _ ?_ | with_reducible refine Has.ap _ ?_)) (by kernel_rfl) (by kernel_rfl) (by rfl) (by kernel_rfl))
      try simp only [Act.put, List.setIfInBounds_toArray, List.set_cons_zero, List.set_cons_succ]
      refine wpG_take (i := 6) (x := { dst := some 30, op := Op.binOp BinOp.sub 3 (Operand.tmp 27) (Operand.tmp 29) 3, type := 3, pos := "tables.go:29", after := #[{ on := 3, ground := Ground.data }, { on := 5, ground := Ground.data }, { on := 9, ground := Ground.gcOnly Departure.lateStores }], guard := none }) (v := ?_) rfl (by kernel_rfl) (fun _ _ _ h => h) (Or.inl ⟨by rfl, ?_⟩) hHeld ?_
      rotate_left
      · (intro w hS; (clear hS; go_simp); try with_reducible rfl)
      try simp only [Act.put, List.setIfInBounds_toArray, List.set_cons_zero, List.set_cons_succ]
      refine wpG_take (i := 7) (x := { dst := some 31, op := Op.convert 3 47 (Operand.tmp 30), type := 47, pos := "tables.go:29", after := #[{ on := 6, ground := Ground.data }, { on := 9, ground := Ground.gcOnly Departure.lateStores }], guard := none }) (v := ?_) rfl (by kernel_rfl) (fun _ _ _ h => h) (Or.inl ⟨by rfl, ?_⟩) hHeld ?_
      rotate_left
      · (intro w hS; (clear hS; go_simp); try with_reducible rfl)
      try simp only [Act.put, List.setIfInBounds_toArray, List.set_cons_zero, List.set_cons_succ]
      refine wpG_take (i := 8) (x := { dst := some 4, op := Op.assign (Operand.tmp 24), type := 3, pos := "tables.go:29", after := #[{ on := 0, ground := Ground.data }, { on := 0, ground := Ground.phase }, { on := 1, ground := Ground.textOnly Departure.lateStores }, { on := 2, ground := Ground.textOnly Departure.lateStores }, { on := 3, ground := Ground.textOnly Departure.lateStores }, { on := 4, ground := Ground.textOnly Departure.lateStores }, { on := 5, ground := Ground.textOnly Departure.lateStores }, { on := 6, ground := Ground.textOnly Departure.lateStores }, { on := 7, ground := Ground.textOnly Departure.lateStores }], guard := none }) (v := ?_) rfl (by kernel_rfl) (fun _ _ _ h => h) (Or.inl ⟨by rfl, ?_⟩) hHeld ?_
      rotate_left
      · (intro w hS; (clear hS; go_simp); try with_reducible rfl)
      try simp only [Act.put, List.setIfInBounds_toArray, List.set_cons_zero, List.set_cons_succ]
      refine wpG_take (i := 9) (x := { dst := some 5, op := Op.assign (Operand.tmp 26), type := 3, pos := "tables.go:29", after := #[{ on := 2, ground := Ground.data }, { on := 8, ground := Ground.chain }, { on := 0, ground := Ground.phase }, { on := 1, ground := Ground.phase }, { on := 2, ground := Ground.phase }, { on := 3, ground := Ground.textOnly Departure.lateStores }, { on := 4, ground := Ground.textOnly Departure.lateStores }, { on := 5, ground := Ground.textOnly Departure.lateStores }, { on := 6, ground := Ground.textOnly Departure.lateStores }, { on := 7, ground := Ground.textOnly Departure.lateStores }, { on := 8, ground := Ground.phase }], guard := none }) (v := ?_) rfl (by kernel_rfl) (fun _ _ _ h => h) (Or.inl ⟨by rfl, ?_⟩) hHeld ?_
      rotate_left
      · (intro w hS; (clear hS; go_simp); try with_reducible rfl)
      try simp only [Act.put, List.setIfInBounds_toArray, List.set_cons_zero, List.set_cons_succ]
      refine wpG_take (i := 10) (x := { dst := some 6, op := Op.assign (Operand.tmp 31), type := 47, pos := "tables.go:29", after := #[{ on := 7, ground := Ground.data }, { on := 9, ground := Ground.chain }, { on := 0, ground := Ground.phase }, { on := 1, ground := Ground.phase }, { on := 2, ground := Ground.phase }, { on := 3, ground := Ground.phase }, { on := 4, ground := Ground.phase }, { on := 5, ground := Ground.phase }, { on := 6, ground := Ground.phase }, { on := 7, ground := Ground.phase }, { on := 8, ground := Ground.phase }, { on := 9, ground := Ground.phase }], guard := none }) (v := ?_) rfl (by kernel_rfl) (fun _ _ _ h => h) (Or.inl ⟨by rfl, ?_⟩) hHeld ?_
      rotate_left
      · (intro w hS; (clear hS; go_simp); try with_reducible rfl)
      try simp only [Act.put, List.setIfInBounds_toArray, List.set_cons_zero, List.set_cons_succ]
      refine wpG_done (by kernel_rfl) ?_
      skip
      go_wp2
      go_ret3
      have e := HQ2.out
      subst e
      refine ⟨?_, K.cov (by repeat (first | with_reducible exact Cov.all _ | with_reducible exact Cov.left _ _ | with_reducible exact Cov.nil _ | with_reducible refine Cov.app (by repeat (first | with_reducible exact Sel.ap _ _ | with_reducible exact Sel.hd _ _ | with_reducible exact Sel.all _ | with_reducible apply Sel.tl | with_reducible apply Sel.sk)) ?_ | with_reducible refine Cov.cons (by repeat (first | with_reducible exact Sel.ap _ _ | with_reducible exact Sel.hd _ _ | with_reducible exact Sel.all _ | with_reducible apply Sel.tl | with_reducible apply Sel.sk)) ?_ | with_reducible refine Cov.drop _ ?_ | with_reducible refine Cov.skip _ ?_))⟩
      rw [← HI.out, ← HM.out, ← HX.out, HLL.out, HR.out]
      rfl
    · have HN := Lib.hid (show lastK (fun j => (p j).1) n k = q by have h := HL.out; rw [lastK, if_neg (by rw [HLL.out]; exact hle)] at h; exact h)
      have hk1 : 0 < k := by
        rcases Nat.eq_zero_or_pos k with h | h
        · subst h; have := H0.out; rw [HLL.out] at this; exact absurd this hle
        · exact h
      go_wp2_with (first | ((with_reducible refine at_load rfl ?_); go_loud (refine wpList_reads (by rfl) (kr_load_elem K _ _ (by rfl) (k) (by rfl) R (by omega) (by omega) (by kernel_rfl) (by kernel_rfl) (by rfl)) ?_; simp only [HF.out])) | ((with_reducible refine at_eqnil rfl ?_); go_loud (refine wpList_reads rfl (kr_eqnil rfl rfl (by kernel_rfl)) ?_)) | ((with_reducible refine at_box rfl ?_); go_loud (refine wpList_does rfl (kd_box K _ _ rfl (by conv => lhs; whnf)) ?_; clear K; rintro _ w1 ⟨g, rfl, K⟩; (try dsimp only [Value.cells] at K))) | ((with_reducible refine at_alloc rfl ?_); go_loud (refine wpList_does rfl (kd_alloc K _ rfl rfl) ?_; clear K; rintro _ w1 ⟨g, rfl, K⟩; (try dsimp only [Value.cells] at K))) | ((with_reducible refine at_buildSlice rfl ?_); go_loud (refine wpList_does rfl (kd_lits (cs := _) K _ _ _ rfl (by first | rfl | (go_simp; done) | (go_simp; rfl)) (by first | rfl | (go_simp; done) | (go_simp; rfl))) ?_; clear K; rintro _ w1 ⟨g, rfl, K⟩)) | ((with_reducible refine at_load rfl ?_); go_loud (first | (refine wpList_reads rfl (kr_load_cell K _ _ rfl rfl (by repeat (first | with_reducible exact Has.hd _ _ | with_reducible refine Has.tl _ ?_ | with_reducible refine Has.ap _ ?_)) (by kernel_rfl) (by (try simp only [List.getElem?_toArray, List.getElem?_cons_succ, List.getElem?_cons_zero]); exact rfl)) ?_) | (refine wpList_reads rfl (kr_load_row K _ _ rfl rfl (by repeat (first | with_reducible exact Has.hd _ _ | with_reducible refine Has.tl _ ?_ | with_reducible refine Has.ap _ ?_)) (by kernel_rfl) (by kernel_rfl)) ?_) | (refine wpList_reads rfl (kr_load_mid K _ _ rfl rfl (by repeat (first | with_reducible exact Has.hd _ _ | with_reducible refine Has.tl _ ?_ | with_reducible refine Has.ap _ ?_)) (by kernel_rfl) (by kernel_rfl) (by rfl) (by kernel_rfl)) ?_))) | ((with_reducible refine at_store rfl ?_); go_loud ((first | (refine wpList_does rfl (kd_store_cell K _ _ _ rfl rfl (by conv => lhs; whnf) (by repeat (first | with_reducible exact Repl.hd _ _ _ | with_reducible apply Repl.tl | with_reducible apply Repl.ap)) rfl rfl (by kernel_rfl) (by kernel_rfl) (by first | (simp only [List.setIfInBounds_toArray, List.set_cons_succ, List.set_cons_zero]; rfl) | rfl)) ?_) | (refine wpList_does rfl (kd_store_row K _ _ _ rfl rfl rfl (by repeat (first | with_reducible exact Repl.hd _ _ _ | with_reducible apply Repl.tl | with_reducible apply Repl.ap)) (by kernel_rfl) (by kernel_rfl) (by kernel_rfl)) ?_)); clear K; intro _ w1 K; (try simp only [Act.put]))))
      go_roundg (gk - 1)
      case measure => omega
      case rel => exact ⟨k - 1, by rw [show ((k - 1 : Nat) : Int) = (k : Int) - 1 by omega], by omega, Lib.hid (by rw [show k - 1 + 1 = k by omega]; exact HN.out), K.cov (by repeat (first | with_reducible exact Cov.all _ | with_reducible exact Cov.left _ _ | with_reducible exact Cov.nil _ | with_reducible refine Cov.app (by repeat (first | with_reducible exact Sel.ap _ _ | with_reducible exact Sel.hd _ _ | with_reducible exact Sel.all _ | with_reducible apply Sel.tl | with_reducible apply Sel.sk)) ?_ | with_reducible refine Cov.cons (by repeat (first | with_reducible exact Sel.ap _ _ | with_reducible exact Sel.hd _ _ | with_reducible exact Sel.all _ | with_reducible apply Sel.tl | with_reducible apply Sel.sk)) ?_ | with_reducible refine Cov.drop _ ?_ | with_reducible refine Cov.skip _ ?_)), by omega⟩
end
/-- the symbol of a length (or -1), bits more, their number -/
def symOf (t : List (Int × Int)) (n : Int) : Int × Int × Int :=
  let i := lastK (fun j => (ent t j).1) n t.length
  (i, (ent t i).2, n - (ent t i).1)
def lenSym (n : Int) : Int × Int × Int := if n < 3 ∨ 258 < n then (-1, 0, 0) else (257 + (symOf tblL n).1, (symOf tblL n).2.1, (symOf tblL n).2.2)
def distSym (n : Int) : Int × Int × Int := if n < 1 ∨ 32768 < n then (-1, 0, 0) else symOf tblD n
theorem tblL_pos : ∀ j, 0 ≤ (ent tblL j).1 := by
  intro j
  by_cases h : j < 29
  · have : ∀ j : Fin 29, 0 ≤ (ent tblL j).1 := by decide
    exact this ⟨j, h⟩
  · simp [ent, List.getD, List.getElem?_eq_none (show tblL.length ≤ j by simp [tblL]; omega)]
theorem tblD_pos : ∀ j, 0 ≤ (ent tblD j).1 := by
  intro j
  by_cases h : j < 30
  · have : ∀ j : Fin 30, 0 ≤ (ent tblD j).1 := by decide
    exact this ⟨j, h⟩
  · simp [ent, List.getD, List.getElem?_eq_none (show tblD.length ≤ j by simp [tblD]; omega)]
section
variable {w0 w : World} {L : List Ent}
theorem rdE_tbl {g m : Nat} {t : List (Int × Int)} {T : TypeId} (h : Has (row g ((List.range m).flatMap fun j => encP (ent t j)).toArray T) L) : RdE w0 L 2 (some ⟨g, 0, none⟩) m (fun j => encP (ent t j)) :=
  RdE.ofRow h fun j hj i v hv => by
    have := flat_get (f := fun j => encP (ent t j)) (s := 2) m (fun j _ => rfl) j hj i v hv
    simpa using this
set_option maxRecDepth 100000 in
theorem dlen_any (n a b c : Int) (K : Known w0 w L) (h : lenSym n = (a, b, c)) : Calls Try.prog 22 #[.int .i64 n] w fun e w' => e = .returned (.tuple #[.int .i64 a, .int .i64 b, .int .u32 c]) ∧ Known w0 w' L := by
  by_cases hn : n < 3 ∨ 258 < n
  · rw [lenSym, if_pos hn] at h
    cases h
    by_cases h1 : n < 3
    · have d1 : decide (n < 3) = true := decide_eq_true h1
      go_enter Try.func22, Try.ntmps22
      go_wp2
      go_ret3
      exact ⟨rfl, K⟩
    · have d1 : decide (n < 3) = false := decide_eq_false h1
      have d2 : decide (258 < n) = true := decide_eq_true (by omega)
      go_enter Try.func22, Try.ntmps22
      go_wp2
      go_ret3
      exact ⟨rfl, K⟩
  · rw [lenSym, if_neg hn] at h
    have d1 : decide (n < 3) = false := decide_eq_false (by omega)
    have d2 : decide (258 < n) = false := decide_eq_false (by omega)
    obtain ⟨i, hi⟩ : ∃ i, (symOf tblL n).1 = i := ⟨_, rfl⟩
    rw [hi] at h
    injection h with e1 h
    injection h with e2 e3
    have hi1 : 0 ≤ i ∧ i < 29 := by
      have := lastK_le (fun j => (ent tblL j).1) n (by show (3 : Int) ≤ n; omega) 29 (by omega)
      rw [← hi]
      exact ⟨by simp [symOf], by simp only [symOf]; have : tblL.length = 29 := rfl; rw [this]; omega⟩
    have H1 := Lib.hid hi; have H2 := Lib.hid e2; have H3 := Lib.hid e3
    subst e1
    clear hi e2 e3
    have hn1 : n ≤ 100000 := by omega
    have hn3 : (3 : Int) ≤ n := by omega
    clear hn
    go_enter Try.func22, Try.ntmps22
    go_wp2_with (first | (go_at_call 49; go_loud ((with_reducible refine (lengths_any K).mono ?_); clear K; rintro e w1 ⟨g, rfl, K⟩)) | (go_at_call 48; go_loud ((refine (of_any (p := fun j => ent tblL j) n i b c K (rdE_tbl (t := tblL) (m := 29) (by repeat (first | with_reducible exact Has.hd _ _ | with_reducible refine Has.tl _ ?_ | with_reducible refine Has.ap _ ?_))) (by omega) (by omega) hn3 tblL_pos hn1 H1.out H2.out H3.out).mono ?_); clear K; rintro e w1 ⟨rfl, K⟩)))
    go_ret3
    exact ⟨rfl, K.cov (by repeat (first | with_reducible exact Cov.all _ | with_reducible exact Cov.left _ _ | with_reducible exact Cov.nil _ | with_reducible refine Cov.app (by repeat (first | with_reducible exact Sel.ap _ _ | with_reducible exact Sel.hd _ _ | with_reducible exact Sel.all _ | with_reducible apply Sel.tl | with_reducible apply Sel.sk)) ?_ | with_reducible refine Cov.cons (by repeat (first | with_reducible exact Sel.ap _ _ | with_reducible exact Sel.hd _ _ | with_reducible exact Sel.all _ | with_reducible apply Sel.tl | with_reducible apply Sel.sk)) ?_ | with_reducible refine Cov.drop _ ?_ | with_reducible refine Cov.skip _ ?_))⟩
set_option maxRecDepth 100000 in
theorem ddist_any (n a b c : Int) (K : Known w0 w L) (h : distSym n = (a, b, c)) : Calls Try.prog 24 #[.int .i64 n] w fun e w' => e = .returned (.tuple #[.int .i64 a, .int .i64 b, .int .u32 c]) ∧ Known w0 w' L := by
  by_cases hn : n < 1 ∨ 32768 < n
  · rw [distSym, if_pos hn] at h
    cases h
    by_cases h1 : n < 1
    · have d1 : decide (n < 1) = true := decide_eq_true h1
      go_enter Try.func24, Try.ntmps24
      go_wp2
      go_ret3
      exact ⟨rfl, K⟩
    · have d1 : decide (n < 1) = false := decide_eq_false h1
      have d2 : decide (32768 < n) = true := decide_eq_true (by omega)
      go_enter Try.func24, Try.ntmps24
      go_wp2
      go_ret3
      exact ⟨rfl, K⟩
  · rw [distSym, if_neg hn] at h
    have d1 : decide (n < 1) = false := decide_eq_false (by omega)
    have d2 : decide (32768 < n) = false := decide_eq_false (by omega)
    injection h with e1 h
    injection h with e2 e3
    have H1 := Lib.hid e1; have H2 := Lib.hid e2; have H3 := Lib.hid e3
    clear e1 e2 e3
    have hn1 : n ≤ 100000 := by omega
    have hn3 : (1 : Int) ≤ n := by omega
    clear hn
    go_enter Try.func24, Try.ntmps24
    go_wp2_with (first | (go_at_call 52; go_loud ((with_reducible refine (dists_any K).mono ?_); clear K; rintro e w1 ⟨g, rfl, K⟩)) | (go_at_call 48; go_loud ((refine (of_any (p := fun j => ent tblD j) n a b c K (rdE_tbl (t := tblD) (m := 30) (by repeat (first | with_reducible exact Has.hd _ _ | with_reducible refine Has.tl _ ?_ | with_reducible refine Has.ap _ ?_))) (by omega) (by omega) hn3 tblD_pos hn1 H1.out H2.out H3.out).mono ?_); clear K; rintro e w1 ⟨rfl, K⟩)))
    go_ret3
    exact ⟨rfl, K.cov (by repeat (first | with_reducible exact Cov.all _ | with_reducible exact Cov.left _ _ | with_reducible exact Cov.nil _ | with_reducible refine Cov.app (by repeat (first | with_reducible exact Sel.ap _ _ | with_reducible exact Sel.hd _ _ | with_reducible exact Sel.all _ | with_reducible apply Sel.tl | with_reducible apply Sel.sk)) ?_ | with_reducible refine Cov.cons (by repeat (first | with_reducible exact Sel.ap _ _ | with_reducible exact Sel.hd _ _ | with_reducible exact Sel.all _ | with_reducible apply Sel.tl | with_reducible apply Sel.sk)) ?_ | with_reducible refine Cov.drop _ ?_ | with_reducible refine Cov.skip _ ?_))⟩
end
end Go.Proofs.Ytgloienpmikcfaa
