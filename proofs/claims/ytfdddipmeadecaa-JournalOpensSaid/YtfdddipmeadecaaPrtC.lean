/-
  part: Open, Size, fits on a device (contracts).
-/
import Derived.Test.YtfdddipmeadecaaSecB
set_option linter.unusedVariables false
set_option linter.unusedSimpArgs false
namespace Go.Proofs.Ytfdddipmeadecaa
open Go.RowKit
/-- a part in memory -/
abbrev prow (gp g : Nat) (first count : Int) : Ent := row gp #[.pointer (some ⟨g, 0, none⟩), .int .i64 first, .int .i64 count] 95
def onR (n : Nat) (first count : Int) : Bool := decide (0 ≤ first) && (decide (1 ≤ count) && (decide (first ≤ n) && decide (count ≤ n - first)))
def fitsB (S at_ n : Int) : Bool := decide (0 ≤ at_) && (decide (0 ≤ n) && (decide (at_ ≤ S) && decide (n ≤ S - at_)))
theorem ret_boolP {a b : Bool} (h : a = b) : Ending.returned (.bool a) = Ending.returned (.bool b) := by rw [h]


section
variable {w0 w : World} {L X : List Ent} {g gp : Nat} {D : Dev} {first count : Int}
theorem ssizeK (K : Known w0 w (X ++ L)) (hD : DevIs w0 g D X) : Calls Try.prog 41 #[.pointer (some ⟨g, 0, none⟩)] w fun e w' => e = .returned (.int .i64 (D.size : Nat)) ∧ Known w0 w' (X ++ L) :=
  (ssize_any K hD).mono (by rintro e w' ⟨h, rfl⟩; exact ⟨h, K⟩)
theorem scountK (K : Known w0 w (X ++ L)) (hD : DevIs w0 g D X) : Calls Try.prog 39 #[.pointer (some ⟨g, 0, none⟩)] w fun e w' => e = .returned (.int .i64 (D.count : Nat)) ∧ Known w0 w' (X ++ L) :=
  (scount_any K hD).mono (by rintro e w' ⟨h, rfl⟩; exact ⟨h, K⟩)
set_option maxRecDepth 100000 in
theorem popen_yes (K : Known w0 w (X ++ L)) (hD : DevIs w0 g D X) (h : onR D.count first count = true) : Calls Try.prog 21 #[.pointer (some ⟨g, 0, none⟩), .agg #[.int .i64 first, .int .i64 count]] w fun e w' => ∃ gp, e = .returned (.tuple #[.pointer (some ⟨gp, 0, none⟩), .int .i64 0]) ∧ Known w0 w' (X ++ (prow gp g first count :: L)) := by
  simp only [onR, Bool.and_eq_true, decide_eq_true_eq] at h
  obtain ⟨h1, h2, h3, h4⟩ := h
  have hc := hD.ok.count
  have d1 : decide (first < 0) = false := decide_eq_false (by omega)
  have d2 : decide (count < 1) = false := decide_eq_false (by omega)
  have d3 : decide ((D.count : Int) < first) = false := decide_eq_false (by omega)
  have d4 : decide ((D.count : Int) - first < count) = false := decide_eq_false (by omega)
  have i1 := IntWalk.i64_in ((D.count : Int) - first) (by omega)
  go_enter Try.func21, Try.ntmps21
  go_upto_region 1 with ((first | ((with_reducible refine at_box rfl ?_); refine wpList_does rfl (kd_box K _ _ rfl (by conv => lhs; whnf)) ?_; clear K; rintro _ w1 ⟨gr, rfl, K⟩; (try dsimp only [Value.cells] at K)) | ((with_reducible refine at_eqnil rfl ?_); refine wpList_reads rfl (kr_eqnil rfl rfl (by kernel_rfl)) ?_) | ((with_reducible refine at_box rfl ?_); refine wpList_does rfl (kd_box K _ _ rfl (by conv => lhs; whnf)) ?_; clear K; rintro _ w1 ⟨g, rfl, K⟩; (try dsimp only [Value.cells] at K)) | ((with_reducible refine at_alloc rfl ?_); refine wpList_does rfl (kd_alloc K _ rfl rfl) ?_; clear K; rintro _ w1 ⟨g, rfl, K⟩; (try dsimp only [Value.cells] at K)) | ((with_reducible refine at_buildSlice rfl ?_); refine wpList_does rfl (kd_lits (cs := _) K _ _ _ rfl (by first | rfl | (go_simp; done) | (go_simp; rfl)) (by first | rfl | (go_simp; done) | (go_simp; rfl))) ?_; clear K; rintro _ w1 ⟨g, rfl, K⟩) | ((with_reducible refine at_load rfl ?_); first | (refine wpList_reads (by rfl) (kr_load_cell K _ _ (by rfl) (by rfl) Has.auto (by decide +kernel) (by (try simp only [List.getElem?_toArray, List.getElem?_cons_succ, List.getElem?_cons_zero]); exact rfl)) ?_) | (refine wpList_reads (by rfl) (kr_load_row K _ _ (by rfl) (by rfl) Has.auto (by decide +kernel) (by kernel_rfl)) ?_)) | ((with_reducible refine at_store rfl ?_); (first | (refine wpList_does rfl (kd_store_cell K _ _ _ rfl rfl (by conv => lhs; whnf) Repl.auto rfl rfl (by kernel_rfl) (by kernel_rfl) (by first | (simp only [List.setIfInBounds_toArray, List.set_cons_succ, List.set_cons_zero]; rfl) | rfl)) ?_) | (refine wpList_does rfl (kd_store_row K _ _ _ rfl rfl rfl Repl.auto (by kernel_rfl) (by kernel_rfl) (by kernel_rfl)) ?_)); clear K; intro _ w1 K; (try simp only [Act.put]))))
  replace K : Known w0 w1 (X ++ (row gr #[.int .i64 first, .int .i64 count] 31 :: L)) := K.cov Cov.auto
  refine wp_region_QLK K (by kernel_rfl) (by kernel_rfl) ?_
  clear K
  refine wpQL_A (k := 0) (v := ?_) ?_ ?_
  rotate_left
  · (intro w hS; (clear hS; go_simp); try with_reducible rfl)
  try simp only [Act.put, List.setIfInBounds_toArray, List.set_cons_zero, List.set_cons_succ]
  refine wpQL_A (k := 1) (v := .int .i64 first) ?_ ?_
  · (intro w hS; exact kr_load_cell hS _ _ (by rfl) (by rfl) Has.auto (by kernel_rfl) (by rfl))
  try simp only [Act.put, List.setIfInBounds_toArray, List.set_cons_zero, List.set_cons_succ]
  refine wpQL_A (k := 2) (v := ?_) ?_ ?_
  rotate_left
  · (intro w hS; (clear hS; go_simp); try with_reducible rfl)
  try simp only [Act.put, List.setIfInBounds_toArray, List.set_cons_zero, List.set_cons_succ]
  refine wpQL_A (k := 3) (v := ?_) ?_ ?_
  rotate_left
  · (intro w hS; (clear hS; go_simp); try with_reducible rfl)
  try simp only [Act.put, List.setIfInBounds_toArray, List.set_cons_zero, List.set_cons_succ]
  refine wpQL_A (k := 4) (v := ?_) ?_ ?_
  rotate_left
  · (intro w hS; (clear hS; go_simp); try with_reducible rfl)
  try simp only [Act.put, List.setIfInBounds_toArray, List.set_cons_zero, List.set_cons_succ]
  refine wpQL_A (k := 5) (v := .int .i64 count) ?_ ?_
  · (intro w hS; exact kr_load_cell hS _ _ (by rfl) (by rfl) Has.auto (by kernel_rfl) (by rfl))
  try simp only [Act.put, List.setIfInBounds_toArray, List.set_cons_zero, List.set_cons_succ]
  refine wpQL_A (k := 6) (v := ?_) ?_ ?_
  rotate_left
  · (intro w hS; (clear hS; go_simp); try with_reducible rfl)
  try simp only [Act.put, List.setIfInBounds_toArray, List.set_cons_zero, List.set_cons_succ]
  refine wpQL_A (k := 7) (v := ?_) ?_ ?_
  rotate_left
  · (intro w hS; (clear hS; go_simp); try with_reducible rfl)
  try simp only [Act.put, List.setIfInBounds_toArray, List.set_cons_zero, List.set_cons_succ]
  refine wpQL_A (k := 8) (v := ?_) ?_ ?_
  rotate_left
  · (intro w hS; (clear hS; go_simp); try with_reducible rfl)
  try simp only [Act.put, List.setIfInBounds_toArray, List.set_cons_zero, List.set_cons_succ]
  refine wpQL_A (k := 9) (v := ?_) ?_ ?_
  rotate_left
  · (intro w hS; (clear hS; go_simp); try with_reducible rfl)
  try simp only [Act.put, List.setIfInBounds_toArray, List.set_cons_zero, List.set_cons_succ]
  refine wpQL_A (k := 10) (v := .int .i64 first) ?_ ?_
  · (intro w hS; exact kr_load_cell hS _ _ (by rfl) (by rfl) Has.auto (by kernel_rfl) (by rfl))
  try simp only [Act.put, List.setIfInBounds_toArray, List.set_cons_zero, List.set_cons_succ]
  refine wpQL_A (k := 11) (v := ?_) ?_ ?_
  rotate_left
  · (intro w hS; (clear hS; go_simp); try with_reducible rfl)
  try simp only [Act.put, List.setIfInBounds_toArray, List.set_cons_zero, List.set_cons_succ]
  refine wpQL_step (k := 12) (x := { dst := some 18, op := Op.call { callee := Callee.value (Operand.func 39), args := #[Operand.tmp 17], argTypes := #[23] }, type := 3, pos := "part.go:51", after := #[{ on := 11, ground := Ground.data }, { on := 8, ground := Ground.chain }, { on := 8, ground := Ground.guard }], guard := some (8, false) }) (v := .int .i64 (D.count : Nat)) rfl (by kernel_rfl) (by rfl) ?_ ?_
  · intro w hS
    refine quiet_call (f := 39) (args := ?_) ?_ ?_
    rotate_left
    · (go_simp; try with_reducible rfl)
    · exact (scountK hS hD)
  try simp only [Act.put, List.setIfInBounds_toArray, List.set_cons_zero, List.set_cons_succ]
  refine wpQL_A (k := 13) (v := ?_) ?_ ?_
  rotate_left
  · (intro w hS; (clear hS; go_simp); try with_reducible rfl)
  try simp only [Act.put, List.setIfInBounds_toArray, List.set_cons_zero, List.set_cons_succ]
  refine wpQL_A (k := 14) (v := ?_) ?_ ?_
  rotate_left
  · (intro w hS; (clear hS; go_simp); try with_reducible rfl)
  try simp only [Act.put, List.setIfInBounds_toArray, List.set_cons_zero, List.set_cons_succ]
  refine wpQL_A (k := 15) (v := ?_) ?_ ?_
  rotate_left
  · (intro w hS; (clear hS; go_simp); try with_reducible rfl)
  try simp only [Act.put, List.setIfInBounds_toArray, List.set_cons_zero, List.set_cons_succ]
  refine wpQL_A (k := 16) (v := ?_) ?_ ?_
  rotate_left
  · (intro w hS; (clear hS; go_simp); try with_reducible rfl)
  try simp only [Act.put, List.setIfInBounds_toArray, List.set_cons_zero, List.set_cons_succ]
  refine wpQL_A (k := 17) (v := .int .i64 count) ?_ ?_
  · (intro w hS; exact kr_load_cell hS _ _ (by rfl) (by rfl) Has.auto (by kernel_rfl) (by rfl))
  try simp only [Act.put, List.setIfInBounds_toArray, List.set_cons_zero, List.set_cons_succ]
  refine wpQL_A (k := 18) (v := ?_) ?_ ?_
  rotate_left
  · (intro w hS; (clear hS; go_simp); try with_reducible rfl)
  try simp only [Act.put, List.setIfInBounds_toArray, List.set_cons_zero, List.set_cons_succ]
  refine wpQL_step (k := 19) (x := { dst := some 25, op := Op.call { callee := Callee.value (Operand.func 39), args := #[Operand.tmp 24], argTypes := #[23] }, type := 3, pos := "part.go:51", after := #[{ on := 18, ground := Ground.data }, { on := 15, ground := Ground.chain }, { on := 15, ground := Ground.guard }], guard := some (15, false) }) (v := .int .i64 (D.count : Nat)) rfl (by kernel_rfl) (by rfl) ?_ ?_
  · intro w hS
    refine quiet_call (f := 39) (args := ?_) ?_ ?_
    rotate_left
    · (go_simp; try with_reducible rfl)
    · exact (scountK hS hD)
  try simp only [Act.put, List.setIfInBounds_toArray, List.set_cons_zero, List.set_cons_succ]
  refine wpQL_A (k := 20) (v := ?_) ?_ ?_
  rotate_left
  · (intro w hS; (clear hS; go_simp); try with_reducible rfl)
  try simp only [Act.put, List.setIfInBounds_toArray, List.set_cons_zero, List.set_cons_succ]
  refine wpQL_A (k := 21) (v := .int .i64 first) ?_ ?_
  · (intro w hS; exact kr_load_cell hS _ _ (by rfl) (by rfl) Has.auto (by kernel_rfl) (by rfl))
  try simp only [Act.put, List.setIfInBounds_toArray, List.set_cons_zero, List.set_cons_succ]
  refine wpQL_A (k := 22) (v := ?_) ?_ ?_
  rotate_left
  · (intro w hS; (clear hS; go_simp); try with_reducible rfl)
  try simp only [Act.put, List.setIfInBounds_toArray, List.set_cons_zero, List.set_cons_succ]
  refine wpQL_A (k := 23) (v := ?_) ?_ ?_
  rotate_left
  · (intro w hS; (clear hS; go_simp); try with_reducible rfl)
  try simp only [Act.put, List.setIfInBounds_toArray, List.set_cons_zero, List.set_cons_succ]
  refine wpQL_endA (k := 24) (fun w1 K K9 hK => ?_)
  refine st_reads (v := ?_) (by rfl) ?_ ?_
  rotate_left
  · (go_simp; try with_reducible rfl)
  refine hK.out _ _ ?_
  clear hK K9
  try simp only [Act.put, List.setIfInBounds_toArray, List.set_cons_zero, List.set_cons_succ]
  skip
  go_wp2_with (first | ((with_reducible refine at_box rfl ?_); refine wpList_does rfl (kd_box K _ _ rfl (by conv => lhs; whnf)) ?_; clear K; rintro _ w1 ⟨gp, rfl, K⟩; (try dsimp only [Value.cells] at K)) | ((with_reducible refine at_eqnil rfl ?_); refine wpList_reads rfl (kr_eqnil rfl rfl (by kernel_rfl)) ?_) | ((with_reducible refine at_box rfl ?_); refine wpList_does rfl (kd_box K _ _ rfl (by conv => lhs; whnf)) ?_; clear K; rintro _ w1 ⟨g, rfl, K⟩; (try dsimp only [Value.cells] at K)) | ((with_reducible refine at_alloc rfl ?_); refine wpList_does rfl (kd_alloc K _ rfl rfl) ?_; clear K; rintro _ w1 ⟨g, rfl, K⟩; (try dsimp only [Value.cells] at K)) | ((with_reducible refine at_buildSlice rfl ?_); refine wpList_does rfl (kd_lits (cs := _) K _ _ _ rfl (by first | rfl | (go_simp; done) | (go_simp; rfl)) (by first | rfl | (go_simp; done) | (go_simp; rfl))) ?_; clear K; rintro _ w1 ⟨g, rfl, K⟩) | ((with_reducible refine at_load rfl ?_); first | (refine wpList_reads (by rfl) (kr_load_cell K _ _ (by rfl) (by rfl) Has.auto (by decide +kernel) (by (try simp only [List.getElem?_toArray, List.getElem?_cons_succ, List.getElem?_cons_zero]); exact rfl)) ?_) | (refine wpList_reads (by rfl) (kr_load_row K _ _ (by rfl) (by rfl) Has.auto (by decide +kernel) (by kernel_rfl)) ?_)) | ((with_reducible refine at_store rfl ?_); (first | (refine wpList_does rfl (kd_store_cell K _ _ _ rfl rfl (by conv => lhs; whnf) Repl.auto rfl rfl (by kernel_rfl) (by kernel_rfl) (by first | (simp only [List.setIfInBounds_toArray, List.set_cons_succ, List.set_cons_zero]; rfl) | rfl)) ?_) | (refine wpList_does rfl (kd_store_row K _ _ _ rfl rfl rfl Repl.auto (by kernel_rfl) (by kernel_rfl) (by kernel_rfl)) ?_)); clear K; intro _ w1 K; (try simp only [Act.put])))
  go_ret2
  exact ⟨gp, rfl, K.cov Cov.auto⟩
variable {n : Nat}
set_option maxRecDepth 100000 in
theorem psize_any (K : Known w0 w (X ++ L)) (hD : DevIs w0 g D X) (hp : Has (prow gp g first count) L) (hb : 0 ≤ count ∧ count ≤ 1048576) : Calls Try.prog 24 #[.pointer (some ⟨gp, 0, none⟩)] w fun e w' => e = .returned (.int .i64 (count * (D.size : Nat))) ∧ Known w0 w' (X ++ L) := by
  have hs := hD.ok.size
  have hp2 := Has.ap X hp
  have i1 := IntWalk.i64_in (count * (D.size : Int)) (by
    have h1 : 0 ≤ count * (D.size : Int) := Int.mul_nonneg hb.1 (by omega)
    have h2 : count * (D.size : Int) ≤ 1048576 * 4096 := Int.mul_le_mul hb.2 (by omega) (by omega) (by omega)
    omega)
  go_enter Try.func24, Try.ntmps24
  go_upto_region 3 with (fail)
  refine wp_region_QLK K (by kernel_rfl) (by kernel_rfl) ?_
  clear K
  refine wpQL_A (k := 0) (v := ?_) ?_ ?_
  rotate_left
  · (intro w hS; (clear hS; go_simp); try with_reducible rfl)
  try simp only [Act.put, List.setIfInBounds_toArray, List.set_cons_zero, List.set_cons_succ]
  refine wpQL_A (k := 1) (v := ?_) ?_ ?_
  rotate_left
  · (intro w hS; (clear hS; go_simp); try with_reducible rfl)
  try simp only [Act.put, List.setIfInBounds_toArray, List.set_cons_zero, List.set_cons_succ]
  refine wpQL_A (k := 2) (v := ?_) ?_ ?_
  rotate_left
  · (intro w hS; (clear hS; go_simp); try with_reducible rfl)
  try simp only [Act.put, List.setIfInBounds_toArray, List.set_cons_zero, List.set_cons_succ]
  refine wpQL_A (k := 3) (v := ?_) ?_ ?_
  rotate_left
  · (intro w hS; (clear hS; go_simp); try with_reducible rfl)
  try simp only [Act.put, List.setIfInBounds_toArray, List.set_cons_zero, List.set_cons_succ]
  refine wpQL_A (k := 4) (v := .int .i64 count) ?_ ?_
  · (intro w hS; exact kr_load_cell hS _ _ (by rfl) (by rfl) hp2 (by kernel_rfl) (by rfl))
  try simp only [Act.put, List.setIfInBounds_toArray, List.set_cons_zero, List.set_cons_succ]
  refine wpQL_A (k := 5) (v := ?_) ?_ ?_
  rotate_left
  · (intro w hS; (clear hS; go_simp); try with_reducible rfl)
  try simp only [Act.put, List.setIfInBounds_toArray, List.set_cons_zero, List.set_cons_succ]
  refine wpQL_A (k := 6) (v := ?_) ?_ ?_
  rotate_left
  · (intro w hS; (clear hS; go_simp); try with_reducible rfl)
  try simp only [Act.put, List.setIfInBounds_toArray, List.set_cons_zero, List.set_cons_succ]
  refine wpQL_A (k := 7) (v := ?_) ?_ ?_
  rotate_left
  · (intro w hS; (clear hS; go_simp); try with_reducible rfl)
  try simp only [Act.put, List.setIfInBounds_toArray, List.set_cons_zero, List.set_cons_succ]
  refine wpQL_A (k := 8) (v := .pointer (some ⟨g, 0, none⟩)) ?_ ?_
  · (intro w hS; exact kr_load_cell hS _ _ (by rfl) (by rfl) hp2 (by kernel_rfl) (by rfl))
  try simp only [Act.put, List.setIfInBounds_toArray, List.set_cons_zero, List.set_cons_succ]
  refine wpQL_step (k := 9) (x := { dst := some 14, op := Op.call { callee := Callee.value (Operand.func 41), args := #[Operand.tmp 13], argTypes := #[23] }, type := 3, pos := "part.go:62", after := #[{ on := 8, ground := Ground.data }], guard := none }) (v := .int .i64 (D.size : Nat)) rfl (by kernel_rfl) (by rfl) ?_ ?_
  · intro w hS
    refine quiet_call (f := 41) (args := ?_) ?_ ?_
    rotate_left
    · (go_simp; try with_reducible rfl)
    · exact (ssizeK hS hD)
  try simp only [Act.put, List.setIfInBounds_toArray, List.set_cons_zero, List.set_cons_succ]
  refine wpQL_A (k := 10) (v := ?_) ?_ ?_
  rotate_left
  · (intro w hS; (clear hS; go_simp); try with_reducible rfl)
  try simp only [Act.put, List.setIfInBounds_toArray, List.set_cons_zero, List.set_cons_succ]
  refine wpQL_endA (k := 11) (fun w1 K K9 hK => ?_)
  refine st_reads (v := ?_) (by rfl) ?_ ?_
  rotate_left
  · (go_simp; try with_reducible rfl)
  refine hK.out _ _ ?_
  clear hK K9
  try simp only [Act.put, List.setIfInBounds_toArray, List.set_cons_zero, List.set_cons_succ]
  skip
  go_wp2
  go_ret
  exact ⟨rfl, K⟩
set_option maxHeartbeats 800000 in
set_option maxRecDepth 100000 in
theorem pfits_any (K : Known w0 w (X ++ L)) (hD : DevIs w0 g D X) (hp : Has (prow gp g first count) L) (hb : 0 ≤ count ∧ count ≤ 1048576) (S at_ m : Int) (hS : count * (D.size : Nat) = S) (ha : -9223372036854775808 ≤ at_ ∧ at_ ≤ 9223372036854775807) :
    Calls Try.prog 40 #[.pointer (some ⟨gp, 0, none⟩), .int .i64 at_, .int .i64 m] w fun e w' => e = .returned (.bool (fitsB S at_ m)) ∧ Known w0 w' (X ++ L) := by
  have hs := hD.ok.size
  have hS0 : 0 ≤ S ∧ S ≤ 4294967296 := by
    have h1 : 0 ≤ count * (D.size : Int) := Int.mul_nonneg hb.1 (by omega)
    have h2 : count * (D.size : Int) ≤ 1048576 * 4096 := Int.mul_le_mul hb.2 (by omega) (by omega) (by omega)
    omega
  have HS := Lib.hid hS
  clear hs hS
  by_cases h0 : 0 ≤ at_
  rotate_left
  · skip
    have d0 : decide (0 ≤ at_) = false := decide_eq_false h0
    have HR := Lib.hid (show fitsB S at_ m = false by simp [fitsB, h0])
    clear h0
    go_enter Try.func40, Try.ntmps40
    go_wp2_with (first | (go_at_call 24; (with_reducible refine (psize_any K hD hp hb).mono ?_); clear K; rintro e w1 ⟨rfl, K⟩; rw [HS.out]))
    go_ret
    exact ⟨by rw [HR.out]; rfl, K⟩
  by_cases h1 : 0 ≤ m
  rotate_left
  · skip
    have d0 : decide (0 ≤ at_) = true := decide_eq_true h0
    have d1 : decide (0 ≤ m) = false := decide_eq_false h1
    have HR := Lib.hid (show fitsB S at_ m = false by simp [fitsB, h0, h1])
    clear h0 h1
    go_enter Try.func40, Try.ntmps40
    go_wp2_with (first | (go_at_call 24; (with_reducible refine (psize_any K hD hp hb).mono ?_); clear K; rintro e w1 ⟨rfl, K⟩; rw [HS.out]))
    go_ret
    exact ⟨by rw [HR.out]; rfl, K⟩
  by_cases h2 : at_ ≤ S
  rotate_left
  · skip
    have d0 : decide (0 ≤ at_) = true := decide_eq_true h0
    have d1 : decide (0 ≤ m) = true := decide_eq_true h1
    have d2 : decide (at_ ≤ S) = false := decide_eq_false h2
    have HR := Lib.hid (show fitsB S at_ m = false by simp [fitsB, h0, h1, h2])
    clear h0 h1 h2
    go_enter Try.func40, Try.ntmps40
    go_wp2_with (first | (go_at_call 24; (with_reducible refine (psize_any K hD hp hb).mono ?_); clear K; rintro e w1 ⟨rfl, K⟩; rw [HS.out]))
    go_ret
    exact ⟨by rw [HR.out]; rfl, K⟩
  by_cases h3 : m ≤ S - at_
  rotate_left
  · skip
    have i1 := IntWalk.i64_in (S - at_) (by omega)
    have d0 : decide (0 ≤ at_) = true := decide_eq_true h0
    have d1 : decide (0 ≤ m) = true := decide_eq_true h1
    have d2 : decide (at_ ≤ S) = true := decide_eq_true h2
    have d3 : decide (m ≤ S - at_) = false := decide_eq_false h3
    have HR := Lib.hid (show fitsB S at_ m = false by simp [fitsB, h0, h1, h2, h3])
    clear h0 h1 h2 h3
    go_enter Try.func40, Try.ntmps40
    go_wp2_with (first | (go_at_call 24; (with_reducible refine (psize_any K hD hp hb).mono ?_); clear K; rintro e w1 ⟨rfl, K⟩; rw [HS.out]))
    go_ret
    exact ⟨by rw [HR.out]; rfl, K⟩
  have i1 := IntWalk.i64_in (S - at_) (by omega)
  have d0 : decide (0 ≤ at_) = true := decide_eq_true h0
  have d1 : decide (0 ≤ m) = true := decide_eq_true h1
  have d2 : decide (at_ ≤ S) = true := decide_eq_true h2
  have d3 : decide (m ≤ S - at_) = true := decide_eq_true h3
  have HR := Lib.hid (show fitsB S at_ m = true by simp [fitsB, h0, h1, h2, h3])
  clear h0 h1 h2 h3
  go_enter Try.func40, Try.ntmps40
  go_wp2_with (first | (go_at_call 24; (with_reducible refine (psize_any K hD hp hb).mono ?_); clear K; rintro e w1 ⟨rfl, K⟩; rw [HS.out]))
  go_ret
  exact ⟨by rw [HR.out]; rfl, K⟩
end
end Go.Proofs.Ytfdddipmeadecaa

/-
  part: Write on a device (contract).
-/
set_option linter.unusedVariables false
set_option linter.unusedSimpArgs false
namespace Go.Proofs.Ytfdddipmeadecaa
open Go.RowKit
/-- a sector's bytes: zeros behind -/
def zpad (n : Nat) (bs : List Int) : List Int := bs.take n ++ List.replicate (n - bs.length) 0
theorem zpad_len (n : Nat) (bs : List Int) : (zpad n bs).length = n := by
  unfold zpad
  rw [List.length_append, List.length_take, List.length_replicate]
  omega
theorem zpad_byte {n : Nat} {bs : List Int} (h : ∀ v ∈ bs, 0 ≤ v ∧ v ≤ 255) : ∀ v ∈ zpad n bs, 0 ≤ v ∧ v ≤ 255 := by
  intro v hv
  rcases List.mem_append.1 hv with hv | hv
  · exact h v (List.mem_of_mem_take hv)
  · rw [(List.mem_replicate.1 hv).2]; decide
theorem zpad_copy (size : Nat) (bs : List Int) : splice (fcells size (fun _ => Value.int .u8 0)) 0 ((bs.take size).map (Value.int .u8)) = u8s (zpad size bs) := by
  rw [← fcells_repl]
  unfold splice u8s zpad
  congr 1
  simp only [List.take_zero, List.nil_append, List.map_append, List.map_replicate, Array.toList_replicate, List.drop_replicate, List.length_map, List.length_take]
  congr 2
  omega
theorem RdS.ofU8s {w0 : World} {L : List Ent} {g n : Nat} {xs : List Int} {t : TypeId} (h : Has (row g (u8s xs) t) L) (hl : xs.length = n) : RdS w0 L .u8 (some ⟨g, 0, none⟩) n xs :=
  RdS.ofRow h hl (by rw [List.drop_zero, List.take_of_length_le (by simp [u8s, hl])]; simp [u8s])
def pwl : Nat → Dev → Int → List Int → Int × Dev
  | 0, D, _, _ => (0, D)
  | k + 1, D, i, bs => if bs = [] then (0, D) else if (dwrite D i (zpad D.size bs)).1 ≠ 0 then dwrite D i (zpad D.size bs) else pwl k (dwrite D i (zpad D.size bs)).2 (i + 1) (bs.drop D.size)
theorem pwl_nil (k : Nat) (D : Dev) (i : Int) : pwl k D i [] = (0, D) := by cases k <;> simp [pwl]
def pwrite (D : Dev) (first count at_ : Int) (bs : List Int) : Int × Dev :=
  if Int.tmod at_ D.size ≠ 0 then (1, D) else if fitsB (count * D.size) at_ bs.length = false then (5, D) else pwl bs.length D (first + at_ / D.size) bs
theorem dwrite_same (D : Dev) (i : Int) (b : List Int) : (dwrite D i b).2.size = D.size ∧ (dwrite D i b).2.count = D.count := by
  unfold dwrite dfall dput
  repeat' split
  all_goals exact ⟨rfl, rfl⟩
theorem dwrite_zero {D : Dev} {i : Int} {b : List Int} (h : (dwrite D i b).1 = 0) : (dwrite D i b).2.offs = D.offs ∧ (dwrite D i b).2.writes = D.writes + 1 := by
  unfold dwrite at h ⊢
  split at h
  · next hc => exact absurd h hc
  · next hc =>
    rw [if_neg hc]
    split at h
    · cases h
    · next hd =>
      rw [if_neg hd]
      split at h
      · cases h
      · next he => rw [if_neg he]; exact ⟨rfl, rfl⟩


section
variable {w0 w : World} {L X : List Ent} {g gp : Nat} {D : Dev} {first count : Int} {A : Option Addr} {n c : Nat} {bs : List Int}
set_option maxHeartbeats 1600000 in
set_option maxRecDepth 100000 in
theorem pwrite_any (K : Known w0 w (X ++ L)) (hD : DevIs w0 g D X) (hp : Has (prow gp g first count) L) (hcb : 0 ≤ count ∧ count ≤ 1048576) (hfb : 0 ≤ first ∧ first ≤ 1048576) (at_ : Int) (hat : -9223372036854775808 ≤ at_ ∧ at_ ≤ 9223372036854775807) (R : RdS w0 L .u8 A n bs) (hc : n ≤ c) (hb : ∀ v ∈ bs, 0 ≤ v ∧ v ≤ 255) (hn9 : n ≤ 1000000000) (ho : D.offs < 1000000000000) (hw : D.writes + n < 1000000000000) :
    Calls Try.prog 28 #[.pointer (some ⟨gp, 0, none⟩), .int .i64 at_, .slice A n c] w fun e w' => e = .returned (.int .i64 (pwrite D first count at_ bs).1) ∧ ∃ X', DevIs w0 g (pwrite D first count at_ bs).2 X' ∧ Known w0 w' (X' ++ L) := by
  have hs := hD.ok.size
  have hxl := R.len
  have hne : ((D.size : Int)) ≠ 0 := by omega
  have hnn : D.size ≠ 0 := by omega
  by_cases h1 : Int.tmod at_ D.size = 0
  · by_cases h2 : fitsB (count * D.size) at_ n = true
    · have hm : (Int.tmod at_ D.size != 0) = false := by simp [h1]
      have h3 := h2
      simp only [fitsB, Bool.and_eq_true, decide_eq_true_eq] at h3
      obtain ⟨f1, f2, f3, f4⟩ := h3
      have hq : 0 ≤ at_ / (D.size : Int) ∧ at_ / (D.size : Int) ≤ 4294967296 := by
        have g1 : count * (D.size : Int) ≤ 1048576 * 4096 := Int.mul_le_mul hcb.2 (by omega) (by omega) (by omega)
        exact ⟨Int.ediv_nonneg f1 (by omega), Int.le_trans (Int.ediv_le_self _ f1) (by omega)⟩
      obtain ⟨q, hqe⟩ : ∃ q, at_ / (D.size : Int) = q := ⟨_, rfl⟩
      rw [hqe] at hq
      have htd : Int.tdiv at_ (D.size : Int) = q := by rw [Int.tdiv_eq_ediv_of_nonneg f1, hqe]
      have HR := Lib.hid (show pwrite D first count at_ bs = pwl n D (first + q) bs by rw [pwrite, if_neg (by simp [h1]), hxl, h2, hqe]; rfl)
      have i1 := IntWalk.i64_in q (by omega)
      have i2 := IntWalk.i64_in (first + q) (by omega)
      have hi0 : 0 ≤ first + q ∧ first + q ≤ 5000000000 := by omega
      have HB := Lib.hid hb
      clear h1 hqe f1 f2 f3 f4 hxl hb hq
      go_enter Try.func28, Try.ntmps28
      go_upto_region 6 with ((first | ((with_reducible refine at_load rfl ?_); refine wpList_reads (by rfl) (kr_load_cell K _ _ (by rfl) (by rfl) (by repeat (first | with_reducible assumption | with_reducible exact Has.hd _ _ | with_reducible refine Has.tl _ ?_ | with_reducible refine Has.ap _ ?_)) (by kernel_rfl) (by rfl)) ?_) | (go_at_call 41; (with_reducible refine (ssizeK K hD).mono ?_); clear K; rintro e w1 ⟨rfl, K⟩) | (go_at_call 40; (with_reducible refine (pfits_any K hD hp hcb _ _ _ rfl hat).mono ?_); clear K; rintro e w1 ⟨rfl, K⟩)))
      have hp2 := Has.ap X hp
      refine wp_region_QLK K (by kernel_rfl) (by kernel_rfl) ?_
      clear K
      refine wpQL_A (k := 0) (v := ?_) ?_ ?_
      rotate_left
      · (intro w hS; (clear hS; go_simp); try with_reducible rfl)
      try simp only [Act.put, List.setIfInBounds_toArray, List.set_cons_zero, List.set_cons_succ]
      refine wpQL_A (k := 1) (v := ?_) ?_ ?_
      rotate_left
      · (intro w hS; (clear hS; go_simp); try with_reducible rfl)
      try simp only [Act.put, List.setIfInBounds_toArray, List.set_cons_zero, List.set_cons_succ]
      refine wpQL_A (k := 2) (v := ?_) ?_ ?_
      rotate_left
      · (intro w hS; (clear hS; go_simp); try with_reducible rfl)
      try simp only [Act.put, List.setIfInBounds_toArray, List.set_cons_zero, List.set_cons_succ]
      refine wpQL_A (k := 3) (v := ?_) ?_ ?_
      rotate_left
      · (intro w hS; (clear hS; go_simp); try with_reducible rfl)
      try simp only [Act.put, List.setIfInBounds_toArray, List.set_cons_zero, List.set_cons_succ]
      refine wpQL_A (k := 4) (v := .int .i64 first) ?_ ?_
      · (intro w hS; exact kr_load_cell hS _ _ (by rfl) (by rfl) hp2 (by kernel_rfl) (by rfl))
      try simp only [Act.put, List.setIfInBounds_toArray, List.set_cons_zero, List.set_cons_succ]
      refine wpQL_A (k := 5) (v := ?_) ?_ ?_
      rotate_left
      · (intro w hS; (clear hS; go_simp); try with_reducible rfl)
      try simp only [Act.put, List.setIfInBounds_toArray, List.set_cons_zero, List.set_cons_succ]
      refine wpQL_A (k := 6) (v := ?_) ?_ ?_
      rotate_left
      · (intro w hS; (clear hS; go_simp); try with_reducible rfl)
      try simp only [Act.put, List.setIfInBounds_toArray, List.set_cons_zero, List.set_cons_succ]
      refine wpQL_A (k := 7) (v := ?_) ?_ ?_
      rotate_left
      · (intro w hS; (clear hS; go_simp); try with_reducible rfl)
      try simp only [Act.put, List.setIfInBounds_toArray, List.set_cons_zero, List.set_cons_succ]
      refine wpQL_A (k := 8) (v := ?_) ?_ ?_
      rotate_left
      · (intro w hS; (clear hS; go_simp); try with_reducible rfl)
      try simp only [Act.put, List.setIfInBounds_toArray, List.set_cons_zero, List.set_cons_succ]
      refine wpQL_endA (k := 9) (fun w1 K K9 hK => ?_)
      refine st_reads (v := ?_) (by rfl) ?_ ?_
      rotate_left
      · (go_simp; try with_reducible rfl)
      refine hK.out _ _ ?_
      clear hK K9
      try simp only [Act.put, List.setIfInBounds_toArray, List.set_cons_zero, List.set_cons_succ]
      skip
      go_upto_region 7 with fail
      go_loopg [2, 8] n (fun d v iv wr => ∃ (D1 : Dev) (X1 : List Ent) (b1 : List Int) (A1 : Option Addr) (n1 c1 : Nat) (i : Int), v = .slice A1 n1 c1 ∧ iv = .int .i64 i ∧ RdS w0 L .u8 A1 n1 b1 ∧ n1 ≤ c1 ∧ Hid (∀ v ∈ b1, 0 ≤ v ∧ v ≤ 255) ∧ n1 ≤ d ∧ (0 ≤ i ∧ i + n1 ≤ 6000000000) ∧ DevIs w0 g D1 X1 ∧ D1.size = D.size ∧ D1.offs < 1000000000000 ∧ D1.writes + n1 < 1000000000000 ∧ Hid (pwl n D (first + q) bs = pwl d D1 i b1) ∧ Known w0 wr (X1 ++ L))
      case atStart => exact ⟨D, X, bs, A, n, c, first + q, rfl, by go_num, R, hc, HB, by omega, by omega, hD, rfl, ho, hw, Lib.hid rfl, K⟩
      case round =>
        clear K R hc hD ho hw hp2 HB
        obtain ⟨D1, X1, b1, A1, n1, c1, i, rfl, rfl, R, hc, HB, hd, hi, hD, hsz, ho, hw, HP, K⟩ := hrel
        have hxl := R.len
        by_cases h0 : n1 = 0
        · subst h0
          have hb1 : b1 = [] := List.eq_nil_of_length_eq_zero hxl
          have HR2 := Lib.hid (show pwrite D first count at_ bs = (0, D1) by rw [HR.out, HP.out, hb1, pwl_nil])
          clear hb1 hxl
          go_wp2
          go_ret
          exact ⟨by rw [HR2.out]; rfl, X1, by rw [HR2.out]; exact hD, K⟩
        · obtain ⟨d, rfl⟩ : ∃ d, gk = d + 1 := ⟨gk - 1, by omega⟩
          have hn0 : (0 : Int) < (n1 : Int) := by omega
          have hb1 : b1 ≠ [] := by intro e; rw [e] at hxl; simp at hxl; omega
          have i3 := IntWalk.i64_in (i + 1) (by omega)
          obtain ⟨m, hm1⟩ : ∃ m, m = min D.size n1 := ⟨_, rfl⟩
          have hmin : ((min D.size n1 : Nat) : Int) = (m : Int) := by rw [hm1]
          have RC := R.cutE m (n1 - m) (by omega) hc
          have hdr : b1.drop m = b1.drop D.size := by
            rw [hm1]
            rcases Nat.le_total D.size n1 with h | h
            · rw [Nat.min_eq_left h]
            · rw [Nat.min_eq_right h, List.drop_eq_nil_of_le (by omega), List.drop_eq_nil_of_le (by omega)]
          rw [hdr] at RC
          have hm2 : m ≤ n1 ∧ 1 ≤ m ∧ m ≤ D.size := by omega
          clear hm1
          have HB2 := Lib.hid (show ∀ v ∈ zpad D.size b1, 0 ≤ v ∧ v ≤ 255 from zpad_byte HB.out)
          have HB3 := Lib.hid (show ∀ v ∈ b1.drop D.size, 0 ≤ v ∧ v ≤ 255 from fun v h => HB.out v (List.mem_of_mem_drop h))
          have hds := hs
          have hsame := Lib.hid (dwrite_same D1 i (zpad D.size b1))
          obtain ⟨res, hres⟩ : ∃ res, res = dwrite D1 i (zpad D.size b1) := ⟨_, rfl⟩
          have HRES := Lib.hid hres
          by_cases he : res.1 = 0
          · have HP2 := Lib.hid (show pwl n D (first + q) bs = pwl d res.2 (i + 1) (b1.drop D.size) by rw [HP.out, pwl, hsz, if_neg hb1, if_neg (by rw [← hres, he]; simp), ← hres])
            have hz := dwrite_zero (D := D1) (i := i) (b := zpad D.size b1) (by rw [← hres]; exact he)
            rw [← hres] at hz
            rw [← hres] at hsame
            have he2 : (res.1 != 0) = false := by simp [he]
            clear hres hb1 hxl hdr h0
            go_wp2_with (first | ((with_reducible refine at_load rfl ?_); refine wpList_reads (by rfl) (kr_load_cell K _ _ (by rfl) (by rfl) (by repeat (first | with_reducible assumption | with_reducible exact Has.hd _ _ | with_reducible refine Has.tl _ ?_ | with_reducible refine Has.ap _ ?_)) (by kernel_rfl) (by rfl)) ?_) | ((with_reducible refine at_makeSlice rfl ?_); refine wpList_does rfl (kd_make (z := .int .u8 0) (bytes := 1) K 46 5 rfl Try.underlying46 (by kernel_rfl) rfl (D.size) (D.size) rfl rfl (by omega) (by omega) (by omega)) ?_; clear K; rintro _ w1 ⟨gb, rfl, K⟩; rw [fcells_repl] at K) | (go_at_call 14; (with_reducible refine (swrite_any K hD i (RdS.ofU8s (Has.hd _ _) (zpad_len _ _)) HB2.out (by omega) ho (by omega)).mono ?_); clear K; rintro e w1 ⟨rfl, X2, hD2, K⟩; rw [← HRES.out]; rw [← HRES.out] at hD2) | ((with_reducible refine at_slice (l := some _) (h := none) rfl ?_); refine wpList_reads rfl (kr_cut rfl rfl (m) (n1 - m) (.inr ⟨_, _, by rfl, by rfl, by omega⟩) (.inl ⟨by rfl, by omega⟩) (by omega) (by omega) Try.underlying46 (by kernel_rfl)) ?_) | ((with_reducible refine at_copy rfl ?_); refine wpList_does rfl (kd_copy K rfl rfl rfl (R.at_ _ (K.cov Cov.auto)) Try.underlying46 (by kernel_rfl) Repl.auto (by simp only [fcells_size]; omega)) ?_; clear K; rintro _ w1 ⟨rfl, K⟩; rw [zpad_copy] at K; rw [hmin]; replace K : Known w0 _ (X1 ++ (row gb (u8s (zpad D.size b1)) 5 :: L)) := K.cov Cov.auto))
            go_roundg d
            case measure => omega
            case rel => exact ⟨res.2, X2, b1.drop D.size, _, _, _, _, rfl, by go_num, RC, by omega, HB3, by omega, by omega, hD2, by rw [hsame.out.1, hsz], by rw [hz.1]; exact ho, by rw [hz.2]; omega, HP2, K.cov Cov.auto⟩
          · have HP2 := Lib.hid (show pwrite D first count at_ bs = res by rw [HR.out, HP.out, pwl, hsz, if_neg hb1, if_pos (by rw [← hres]; exact he), ← hres])
            have he2 : (res.1 != 0) = true := by simpa using he
            clear hres hb1 hxl hdr h0 he
            go_wp2_with (first | ((with_reducible refine at_load rfl ?_); refine wpList_reads (by rfl) (kr_load_cell K _ _ (by rfl) (by rfl) (by repeat (first | with_reducible assumption | with_reducible exact Has.hd _ _ | with_reducible refine Has.tl _ ?_ | with_reducible refine Has.ap _ ?_)) (by kernel_rfl) (by rfl)) ?_) | ((with_reducible refine at_makeSlice rfl ?_); refine wpList_does rfl (kd_make (z := .int .u8 0) (bytes := 1) K 46 5 rfl Try.underlying46 (by kernel_rfl) rfl (D.size) (D.size) rfl rfl (by omega) (by omega) (by omega)) ?_; clear K; rintro _ w1 ⟨gb, rfl, K⟩; rw [fcells_repl] at K) | (go_at_call 14; (with_reducible refine (swrite_any K hD i (RdS.ofU8s (Has.hd _ _) (zpad_len _ _)) HB2.out (by omega) ho (by omega)).mono ?_); clear K; rintro e w1 ⟨rfl, X2, hD2, K⟩; rw [← HRES.out]; rw [← HRES.out] at hD2) | ((with_reducible refine at_slice (l := some _) (h := none) rfl ?_); refine wpList_reads rfl (kr_cut rfl rfl (m) (n1 - m) (.inr ⟨_, _, by rfl, by rfl, by omega⟩) (.inl ⟨by rfl, by omega⟩) (by omega) (by omega) Try.underlying46 (by kernel_rfl)) ?_) | ((with_reducible refine at_copy rfl ?_); refine wpList_does rfl (kd_copy K rfl rfl rfl (R.at_ _ (K.cov Cov.auto)) Try.underlying46 (by kernel_rfl) Repl.auto (by simp only [fcells_size]; omega)) ?_; clear K; rintro _ w1 ⟨rfl, K⟩; rw [zpad_copy] at K; rw [hmin]; replace K : Known w0 _ (X1 ++ (row gb (u8s (zpad D.size b1)) 5 :: L)) := K.cov Cov.auto))
            go_ret
            exact ⟨by rw [HP2.out]; rfl, X2, by rw [HP2.out]; exact hD2, K.cov Cov.auto⟩
    · have h2' : fitsB (count * D.size) at_ n = false := by simpa using h2
      have hm : (Int.tmod at_ D.size != 0) = false := by simp [h1]
      have HR := Lib.hid (show pwrite D first count at_ bs = (5, D) by rw [pwrite, if_neg (by simp [h1]), hxl, if_pos h2'])
      clear h1 h2
      go_enter Try.func28, Try.ntmps28
      go_wp2_with (first | ((with_reducible refine at_load rfl ?_); refine wpList_reads (by rfl) (kr_load_cell K _ _ (by rfl) (by rfl) (by repeat (first | with_reducible assumption | with_reducible exact Has.hd _ _ | with_reducible refine Has.tl _ ?_ | with_reducible refine Has.ap _ ?_)) (by kernel_rfl) (by rfl)) ?_) | (go_at_call 41; (with_reducible refine (ssizeK K hD).mono ?_); clear K; rintro e w1 ⟨rfl, K⟩) | (go_at_call 40; (with_reducible refine (pfits_any K hD hp hcb _ _ _ rfl hat).mono ?_); clear K; rintro e w1 ⟨rfl, K⟩))
      go_ret
      exact ⟨by rw [HR.out]; rfl, X, by rw [HR.out]; exact hD, K⟩
  · have HR := Lib.hid (show pwrite D first count at_ bs = (1, D) by rw [pwrite, if_pos h1])
    have hm : (Int.tmod at_ D.size != 0) = true := by simpa using h1
    clear h1
    go_enter Try.func28, Try.ntmps28
    go_wp2_with (first | ((with_reducible refine at_load rfl ?_); refine wpList_reads (by rfl) (kr_load_cell K _ _ (by rfl) (by rfl) (by repeat (first | with_reducible assumption | with_reducible exact Has.hd _ _ | with_reducible refine Has.tl _ ?_ | with_reducible refine Has.ap _ ?_)) (by kernel_rfl) (by rfl)) ?_) | (go_at_call 41; (with_reducible refine (ssizeK K hD).mono ?_); clear K; rintro e w1 ⟨rfl, K⟩))
    go_ret
    exact ⟨by rw [HR.out]; rfl, X, by rw [HR.out]; exact hD, K⟩
end
end Go.Proofs.Ytfdddipmeadecaa

/-
  part: Read on a device (contract).
-/
set_option linter.unusedVariables false
set_option linter.unusedSimpArgs false
namespace Go.Proofs.Ytfdddipmeadecaa
open Go.RowKit
def prl : Nat → Dev → Int → Int → Nat → List Int → List Int × Int
  | 0, _, _, _, _, acc => (acc, 0)
  | k + 1, D, f, a, need, acc => if need = 0 then (acc, 0) else if (dread D (f + a / D.size)).2 ≠ 0 then ([], (dread D (f + a / D.size)).2) else
      prl k D f (a + (((dread D (f + a / D.size)).1.drop (a % D.size).toNat).take need).length) (need - (((dread D (f + a / D.size)).1.drop (a % D.size).toNat).take need).length) (acc ++ ((dread D (f + a / D.size)).1.drop (a % D.size).toNat).take need)
def pread (D : Dev) (first count at_ : Int) (n : Int) : List Int × Int :=
  if fitsB (count * D.size) at_ n = false then ([], 5) else prl n.toNat D first at_ n.toNat []
theorem dread_full {D : Dev} (h : DevOk D) {i : Int} (h0 : (dread D i).2 = 0) : (dread D i).1.length = D.size := by
  unfold dread at h0 ⊢
  split at h0
  · next hc => exact absurd h0 hc
  · next hc =>
    rw [if_neg hc]
    unfold dface at h0 ⊢
    cases hw : afind D.waits i with
    | some f =>
      simp only [hw] at h0 ⊢
      have := (h.fw _ (afind_mem hw)).1
      cases ht : f.torn
      · simp [this.1 ht]
      · simp [ht] at h0
    | none =>
      simp only [hw] at h0 ⊢
      cases hk : afind D.kept i with
      | none => simp
      | some f =>
        simp only [hk] at h0 ⊢
        have := (h.fk _ (afind_mem hk)).1
        cases ht : f.torn
        · simp [this.1 ht]
        · simp [ht] at h0


section
variable {w0 w : World} {L X : List Ent} {g gp : Nat} {D : Dev} {first count : Int} {n : Nat}
set_option maxHeartbeats 1600000 in
set_option maxRecDepth 100000 in
theorem pread_any (K : Known w0 w (X ++ L)) (hD : DevIs w0 g D X) (hp : Has (prow gp g first count) L) (hcb : 0 ≤ count ∧ count ≤ 1048576) (hfb : 0 ≤ first ∧ first ≤ 1048576) (at_ : Int) (hat : -9223372036854775808 ≤ at_ ∧ at_ ≤ 9223372036854775807) (m : Int) :
    Calls Try.prog 23 #[.pointer (some ⟨gp, 0, none⟩), .int .i64 at_, .int .i64 m] w fun e w' => ∃ A n c, e = .returned (.tuple #[.slice A n c, .int .i64 (pread D first count at_ m).2]) ∧ ∃ Z, OwnL 5 1 A n c ((pread D first count at_ m).1.map (Value.int .u8)) Z ∧ n = (pread D first count at_ m).1.length ∧ Known w0 w' (X ++ (Z ++ L)) := by
  have hs := hD.ok.size
  have hok := hD.ok
  have hnn : D.size ≠ 0 := by omega
  by_cases h2 : fitsB (count * D.size) at_ m = true
  · have h3 := h2
    simp only [fitsB, Bool.and_eq_true, decide_eq_true_eq] at h3
    obtain ⟨f1, f2, f3, f4⟩ := h3
    have g1 : count * (D.size : Int) ≤ 1048576 * 4096 := Int.mul_le_mul hcb.2 (by omega) (by omega) (by omega)
    obtain ⟨n, rfl⟩ := Int.eq_ofNat_of_zero_le f2
    have HR := Lib.hid (show pread D first count at_ n = prl n D first at_ n [] by rw [pread, h2]; rfl)
    have hn9 : at_ + n ≤ 4294967296 := by omega
    have hnb : n ≤ 4294967296 := by omega
    clear f2 f3 f4 g1
    go_enter Try.func23, Try.ntmps23
    go_upto_region 7 with ((first | ((with_reducible refine at_load rfl ?_); refine wpList_reads (by rfl) (kr_load_cell K _ _ (by rfl) (by rfl) (by repeat (first | with_reducible assumption | with_reducible exact Has.hd _ _ | with_reducible refine Has.tl _ ?_ | with_reducible refine Has.ap _ ?_)) (by kernel_rfl) (by rfl)) ?_) | (go_at_call 41; (with_reducible refine (ssizeK K hD).mono ?_); clear K; rintro e w1 ⟨rfl, K⟩) | (go_at_call 40; (with_reducible refine (pfits_any K hD hp hcb _ _ _ rfl hat).mono ?_); clear K; rintro e w1 ⟨rfl, K⟩) | ((with_reducible refine at_makeSlice rfl ?_); refine wpList_does rfl (kd_make (z := .int .u8 0) (bytes := 1) K 46 5 rfl Try.underlying46 (by kernel_rfl) rfl 0 n rfl rfl (by omega) (by omega) (by omega)) ?_; clear K; rintro _ w1 ⟨gb, rfl, K⟩)))
    have O0 : OwnL 5 1 (some ⟨gb, 0, none⟩) 0 n (([] : List Int).map (Value.int .u8)) [row gb (Array.replicate n (.int .u8 0)) 5] := OwnL.made (Nat.zero_le _) (by omega)
    go_loopg [1, 9] n (fun d va v wr => ∃ (a : Int) (acc : List Int) (A1 : Option Addr) (l1 c1 need : Nat) (Z : List Ent), va = .int .i64 a ∧ v = .slice A1 l1 c1 ∧ OwnL 5 1 A1 l1 c1 (acc.map (Value.int .u8)) Z ∧ l1 + need = n ∧ need ≤ d ∧ 0 ≤ a ∧ a + need ≤ 4294967296 ∧ Hid (l1 = acc.length) ∧ Hid (prl n D first at_ n [] = prl d D first a need acc) ∧ Known w0 wr (X ++ (Z ++ L)))
    case atStart => exact ⟨at_, [], _, 0, n, n, _, rfl, rfl, O0, by omega, by omega, f1, by omega, Lib.hid rfl, Lib.hid rfl, K.cov Cov.auto⟩
    case round =>
      clear K O0 hn9
      obtain ⟨a, acc, A1, l1, c1, need, Z, rfl, rfl, O, hl, hd, ha, han, HL, HP, K⟩ := hrel
      by_cases h0 : need = 0
      · subst h0
        have e1 : l1 = n := by omega
        have HR2 := Lib.hid (show pread D first count at_ n = (acc, 0) by rw [HR.out, HP.out]; cases gk <;> simp [prl])
        have hlt : ¬ ((l1 : Int) < (n : Int)) := by omega
        clear e1
        go_wp2
        go_ret2
        exact ⟨_, _, _, by rw [HR2.out]; rfl, Z, by rw [HR2.out]; exact O, by rw [HR2.out]; exact HL.out, K⟩
      · obtain ⟨d, rfl⟩ : ∃ d, gk = d + 1 := ⟨gk - 1, by omega⟩
        have hlt : (l1 : Int) < (n : Int) := by omega
        obtain ⟨q, hq⟩ : ∃ q, a / (D.size : Int) = q := ⟨_, rfl⟩
        have hqb : 0 ≤ q ∧ q ≤ 4294967296 := by
          rw [← hq]
          exact ⟨Int.ediv_nonneg ha (by omega), Int.le_trans (Int.ediv_le_self _ ha) (by omega)⟩
        have htd : Int.tdiv a (D.size : Int) = q := by rw [Int.tdiv_eq_ediv_of_nonneg ha, hq]
        obtain ⟨ra, hra⟩ : ∃ ra : Nat, a % (D.size : Int) = ra := ⟨(a % (D.size : Int)).toNat, by have := Int.emod_nonneg a (b := (D.size : Int)) (by omega); omega⟩
        have hrb : ra < D.size := by have := Int.emod_lt_of_pos a (b := (D.size : Int)) (by omega); omega
        have htm : Int.tmod a (D.size : Int) = ra := by rw [Int.tmod_eq_emod_of_nonneg ha, hra]
        have i1 := IntWalk.i64_in q (by omega)
        have i2 := IntWalk.i64_in (first + q) (by omega)
        have i3 := IntWalk.i64_in ((n : Int) - (l1 : Int)) (by omega)
        obtain ⟨res, hres⟩ : ∃ res, res = dread D (first + q) := ⟨_, rfl⟩
        have HRES := Lib.hid hres
        have HP1 := Lib.hid (show prl n D first at_ n [] = if res.2 ≠ 0 then ([], res.2) else prl d D first (a + ((res.1.drop ra).take need).length) (need - ((res.1.drop ra).take need).length) (acc ++ (res.1.drop ra).take need) by
          rw [HP.out, prl, if_neg h0, hq, ← hres, hra]; rfl)
        have hp2 := Has.ap X (Has.ap Z hp)
        by_cases he : res.2 = 0
        · have he2 : (res.2 != 0) = false := by simp [he]
          have hfull : res.1.length = D.size := by rw [hres]; exact dread_full hok (by rw [← hres]; exact he)
          obtain ⟨mm, hmm⟩ : ∃ mm, mm = min (D.size - ra) need := ⟨_, rfl⟩
          have hml : ((res.1.drop ra).take need).length = mm := by rw [List.length_take, List.length_drop, hfull, hmm, Nat.min_comm]
          have hmin : min (((D.size - ra : Nat) : Int)) ((n : Int) - (l1 : Int)) = (mm : Int) := by omega
          have HP2 := Lib.hid (show prl n D first at_ n [] = prl d D first (a + mm) (need - mm) (acc ++ (res.1.drop ra).take need) by rw [HP1.out, if_neg (by simp [he]), hml])
          have hm2 : mm ≤ need ∧ 1 ≤ mm ∧ mm ≤ D.size - ra := by omega
          have i4 := IntWalk.i64_in (a + (mm : Int)) (by omega)
          have HMT := Lib.hid (show (res.1.drop ra).take mm = (res.1.drop ra).take need by
            rw [hmm, Nat.min_comm]
            rcases Nat.le_total need (D.size - ra) with h | h
            · rw [Nat.min_eq_left h]
            · rw [Nat.min_eq_right h, List.take_of_length_le (by simp; omega), List.take_of_length_le (by simp; omega)])
          have HML := Lib.hid hml
          have HFL := Lib.hid hfull
          clear hq hra hres hmm hml hfull h0
          go_upto_region 8 with (fail)
          refine wp_region_GK (X := (X ++ (Z ++ L))) K Cov.auto (by kernel_rfl) (by kernel_rfl) (by kernel_rfl) (fun K hHeld => ?_)
          refine wpG_takeA 0 (v := ?_) ?_ hHeld ?_
          rotate_left
          · (intro w hS; (clear hS; go_simp); try with_reducible rfl)
          try simp only [Act.put, List.setIfInBounds_toArray, List.set_cons_zero, List.set_cons_succ]
          refine wpG_takeA 1 (v := ?_) ?_ hHeld ?_
          rotate_left
          · (intro w hS; (clear hS; go_simp); try with_reducible rfl)
          try simp only [Act.put, List.setIfInBounds_toArray, List.set_cons_zero, List.set_cons_succ]
          refine wpG_takeA 2 (v := ?_) ?_ hHeld ?_
          rotate_left
          · (intro w hS; (clear hS; go_simp); try with_reducible rfl)
          try simp only [Act.put, List.setIfInBounds_toArray, List.set_cons_zero, List.set_cons_succ]
          refine wpG_takeA 3 (v := .pointer (some ⟨g, 0, none⟩)) ?_ hHeld ?_
          · (intro w hS; first | exact kr_load_cell hS _ _ (by rfl) (by rfl) hp2 (by kernel_rfl) (by rfl))
          try simp only [Act.put, List.setIfInBounds_toArray, List.set_cons_zero, List.set_cons_succ]
          refine wpG_takeA 4 (v := ?_) ?_ hHeld ?_
          rotate_left
          · (intro w hS; (clear hS; go_simp); try with_reducible rfl)
          try simp only [Act.put, List.setIfInBounds_toArray, List.set_cons_zero, List.set_cons_succ]
          refine wpG_takeA 5 (v := ?_) ?_ hHeld ?_
          rotate_left
          · (intro w hS; (clear hS; go_simp); try with_reducible rfl)
          try simp only [Act.put, List.setIfInBounds_toArray, List.set_cons_zero, List.set_cons_succ]
          refine wpG_takeA 6 (v := ?_) ?_ hHeld ?_
          rotate_left
          · (intro w hS; (clear hS; go_simp); try with_reducible rfl)
          try simp only [Act.put, List.setIfInBounds_toArray, List.set_cons_zero, List.set_cons_succ]
          refine wpG_takeA 7 (v := ?_) ?_ hHeld ?_
          rotate_left
          · (intro w hS; (clear hS; go_simp); try with_reducible rfl)
          try simp only [Act.put, List.setIfInBounds_toArray, List.set_cons_zero, List.set_cons_succ]
          refine wpG_takeA 8 (v := .int .i64 first) ?_ hHeld ?_
          · (intro w hS; first | exact kr_load_cell hS _ _ (by rfl) (by rfl) hp2 (by kernel_rfl) (by rfl))
          try simp only [Act.put, List.setIfInBounds_toArray, List.set_cons_zero, List.set_cons_succ]
          refine wpG_takeA 9 (v := ?_) ?_ hHeld ?_
          rotate_left
          · (intro w hS; (clear hS; go_simp); try with_reducible rfl)
          try simp only [Act.put, List.setIfInBounds_toArray, List.set_cons_zero, List.set_cons_succ]
          refine wpG_takeA 10 (v := ?_) ?_ hHeld ?_
          rotate_left
          · (intro w hS; (clear hS; go_simp); try with_reducible rfl)
          try simp only [Act.put, List.setIfInBounds_toArray, List.set_cons_zero, List.set_cons_succ]
          refine wpG_takeA 11 (v := ?_) ?_ hHeld ?_
          rotate_left
          · (intro w hS; (clear hS; go_simp); try with_reducible rfl)
          try simp only [Act.put, List.setIfInBounds_toArray, List.set_cons_zero, List.set_cons_succ]
          refine wpG_takeA 12 (v := ?_) ?_ hHeld ?_
          rotate_left
          · (intro w hS; (clear hS; go_simp); try with_reducible rfl)
          try simp only [Act.put, List.setIfInBounds_toArray, List.set_cons_zero, List.set_cons_succ]
          refine wpG_oneA 13 (fun K9 hK => ?_)
          go_simp
          (go_at_call 42; (with_reducible refine (sread_any K hD (first + q)).mono ?_); clear K; rintro e w1 ⟨A2, n2, c2, rfl, Z2, O2, hn2, K⟩)
          refine hK.out _ _ (K.cov Cov.auto) (fun hHeld => ?_)
          clear hK K9
          try simp only [Act.put, List.setIfInBounds_toArray, List.set_cons_zero, List.set_cons_succ]
          refine wpG_takeA 14 (v := ?_) ?_ hHeld ?_
          rotate_left
          · (intro w hS; (clear hS; go_simp); try with_reducible rfl)
          try simp only [Act.put, List.setIfInBounds_toArray, List.set_cons_zero, List.set_cons_succ]
          refine wpG_takeA 15 (v := ?_) ?_ hHeld ?_
          rotate_left
          · (intro w hS; (clear hS; go_simp); try with_reducible rfl)
          try simp only [Act.put, List.setIfInBounds_toArray, List.set_cons_zero, List.set_cons_succ]
          refine wpG_takeA 16 (v := ?_) ?_ hHeld ?_
          rotate_left
          · (intro w hS; (clear hS; go_simp); try with_reducible rfl)
          try simp only [Act.put, List.setIfInBounds_toArray, List.set_cons_zero, List.set_cons_succ]
          refine wpG_takeA 17 (v := ?_) ?_ hHeld ?_
          rotate_left
          · (intro w hS; (clear hS; go_simp); try with_reducible rfl)
          try simp only [Act.put, List.setIfInBounds_toArray, List.set_cons_zero, List.set_cons_succ]
          refine wpG_takeA 18 (v := ?_) ?_ hHeld ?_
          rotate_left
          · (intro w hS; (clear hS; go_simp); try with_reducible rfl)
          try simp only [Act.put, List.setIfInBounds_toArray, List.set_cons_zero, List.set_cons_succ]
          refine wpG_done (by kernel_rfl) ?_
          skip
          rw [← HRES.out] at O2 hn2 ⊢
          rw [HFL.out] at hn2 ⊢
          subst hn2
          have hc2 := O2.le
          have RC := ((RdS.own (w0 := w0) (L := Z2 ++ (X ++ (Z ++ L))) O2 (Seg.ap Z2 _)).cutE ra (D.size - ra) (by omega) hc2).cut 0 mm (by omega) (c := c2 - ra) (by omega)
          rw [List.drop_zero, HMT.out] at RC
          clear HP1 HP HMT htd i1
          go_wp2_with (first | ((with_reducible refine at_slice (l := some _) (h := none) rfl ?_); refine wpList_reads rfl (kr_cut rfl rfl (ra) (D.size - ra) (.inr ⟨_, _, by rfl, by rfl, by omega⟩) (.inl ⟨by rfl, by omega⟩) (by omega) (by omega) Try.underlying46 (by kernel_rfl)) ?_) | ((with_reducible refine at_slice (l := none) (h := some _) rfl ?_); refine wpList_reads rfl (kr_cut rfl rfl (0) (mm) (.inl ⟨by rfl, by omega⟩) (.inr ⟨_, _, by rfl, by rfl, by omega⟩) (by omega) (by omega) Try.underlying46 (by kernel_rfl)) ?_) | (at_builtin; refine wpList_does rfl (kd_appendN K _ _ rfl rfl rfl (by with_reducible assumption) Seg.auto (RC.at_ _ (K.cov Cov.auto)) (by kernel_rfl) (by kernel_rfl) (by omega)) ?_; clear K; rintro _ w1 ⟨A3, c3, Z3, rfl, O3, K⟩; (try simp only [Nat.zero_add, List.nil_append] at O3)))
          go_roundg d
          case measure => omega
          case rel => exact ⟨a + mm, _, A3, l1 + mm, c3, need - mm, Z3, by go_num, rfl, O3, by omega, by omega, by omega, by omega, Lib.hid (by rw [List.length_append, HML.out, HL.out]), HP2, K.cov Cov.auto⟩
        · have he2 : (res.2 != 0) = true := by simpa using he
          have HR2 := Lib.hid (show pread D first count at_ n = ([], res.2) by rw [HR.out, HP1.out, if_pos he])
          clear hq hra hres h0 HP1 HP he
          go_upto_region 8 with (fail)
          refine wp_region_GK (X := (X ++ (Z ++ L))) K Cov.auto (by kernel_rfl) (by kernel_rfl) (by kernel_rfl) (fun K hHeld => ?_)
          refine wpG_takeA 0 (v := ?_) ?_ hHeld ?_
          rotate_left
          · (intro w hS; (clear hS; go_simp); try with_reducible rfl)
          try simp only [Act.put, List.setIfInBounds_toArray, List.set_cons_zero, List.set_cons_succ]
          refine wpG_takeA 1 (v := ?_) ?_ hHeld ?_
          rotate_left
          · (intro w hS; (clear hS; go_simp); try with_reducible rfl)
          try simp only [Act.put, List.setIfInBounds_toArray, List.set_cons_zero, List.set_cons_succ]
          refine wpG_takeA 2 (v := ?_) ?_ hHeld ?_
          rotate_left
          · (intro w hS; (clear hS; go_simp); try with_reducible rfl)
          try simp only [Act.put, List.setIfInBounds_toArray, List.set_cons_zero, List.set_cons_succ]
          refine wpG_takeA 3 (v := .pointer (some ⟨g, 0, none⟩)) ?_ hHeld ?_
          · (intro w hS; first | exact kr_load_cell hS _ _ (by rfl) (by rfl) hp2 (by kernel_rfl) (by rfl))
          try simp only [Act.put, List.setIfInBounds_toArray, List.set_cons_zero, List.set_cons_succ]
          refine wpG_takeA 4 (v := ?_) ?_ hHeld ?_
          rotate_left
          · (intro w hS; (clear hS; go_simp); try with_reducible rfl)
          try simp only [Act.put, List.setIfInBounds_toArray, List.set_cons_zero, List.set_cons_succ]
          refine wpG_takeA 5 (v := ?_) ?_ hHeld ?_
          rotate_left
          · (intro w hS; (clear hS; go_simp); try with_reducible rfl)
          try simp only [Act.put, List.setIfInBounds_toArray, List.set_cons_zero, List.set_cons_succ]
          refine wpG_takeA 6 (v := ?_) ?_ hHeld ?_
          rotate_left
          · (intro w hS; (clear hS; go_simp); try with_reducible rfl)
          try simp only [Act.put, List.setIfInBounds_toArray, List.set_cons_zero, List.set_cons_succ]
          refine wpG_takeA 7 (v := ?_) ?_ hHeld ?_
          rotate_left
          · (intro w hS; (clear hS; go_simp); try with_reducible rfl)
          try simp only [Act.put, List.setIfInBounds_toArray, List.set_cons_zero, List.set_cons_succ]
          refine wpG_takeA 8 (v := .int .i64 first) ?_ hHeld ?_
          · (intro w hS; first | exact kr_load_cell hS _ _ (by rfl) (by rfl) hp2 (by kernel_rfl) (by rfl))
          try simp only [Act.put, List.setIfInBounds_toArray, List.set_cons_zero, List.set_cons_succ]
          refine wpG_takeA 9 (v := ?_) ?_ hHeld ?_
          rotate_left
          · (intro w hS; (clear hS; go_simp); try with_reducible rfl)
          try simp only [Act.put, List.setIfInBounds_toArray, List.set_cons_zero, List.set_cons_succ]
          refine wpG_takeA 10 (v := ?_) ?_ hHeld ?_
          rotate_left
          · (intro w hS; (clear hS; go_simp); try with_reducible rfl)
          try simp only [Act.put, List.setIfInBounds_toArray, List.set_cons_zero, List.set_cons_succ]
          refine wpG_takeA 11 (v := ?_) ?_ hHeld ?_
          rotate_left
          · (intro w hS; (clear hS; go_simp); try with_reducible rfl)
          try simp only [Act.put, List.setIfInBounds_toArray, List.set_cons_zero, List.set_cons_succ]
          refine wpG_takeA 12 (v := ?_) ?_ hHeld ?_
          rotate_left
          · (intro w hS; (clear hS; go_simp); try with_reducible rfl)
          try simp only [Act.put, List.setIfInBounds_toArray, List.set_cons_zero, List.set_cons_succ]
          refine wpG_oneA 13 (fun K9 hK => ?_)
          go_simp
          (go_at_call 42; (with_reducible refine (sread_any K hD (first + q)).mono ?_); clear K; rintro e w1 ⟨A2, n2, c2, rfl, Z2, O2, hn2, K⟩)
          refine hK.out _ _ (K.cov Cov.auto) (fun hHeld => ?_)
          clear hK K9
          try simp only [Act.put, List.setIfInBounds_toArray, List.set_cons_zero, List.set_cons_succ]
          refine wpG_takeA 14 (v := ?_) ?_ hHeld ?_
          rotate_left
          · (intro w hS; (clear hS; go_simp); try with_reducible rfl)
          try simp only [Act.put, List.setIfInBounds_toArray, List.set_cons_zero, List.set_cons_succ]
          refine wpG_takeA 15 (v := ?_) ?_ hHeld ?_
          rotate_left
          · (intro w hS; (clear hS; go_simp); try with_reducible rfl)
          try simp only [Act.put, List.setIfInBounds_toArray, List.set_cons_zero, List.set_cons_succ]
          refine wpG_takeA 16 (v := ?_) ?_ hHeld ?_
          rotate_left
          · (intro w hS; (clear hS; go_simp); try with_reducible rfl)
          try simp only [Act.put, List.setIfInBounds_toArray, List.set_cons_zero, List.set_cons_succ]
          refine wpG_takeA 17 (v := ?_) ?_ hHeld ?_
          rotate_left
          · (intro w hS; (clear hS; go_simp); try with_reducible rfl)
          try simp only [Act.put, List.setIfInBounds_toArray, List.set_cons_zero, List.set_cons_succ]
          refine wpG_takeA 18 (v := ?_) ?_ hHeld ?_
          rotate_left
          · (intro w hS; (clear hS; go_simp); try with_reducible rfl)
          try simp only [Act.put, List.setIfInBounds_toArray, List.set_cons_zero, List.set_cons_succ]
          refine wpG_done (by kernel_rfl) ?_
          skip
          rw [← HRES.out] at O2 hn2 ⊢
          go_wp2
          go_ret2
          exact ⟨_, _, _, by rw [HR2.out]; rfl, [], by rw [HR2.out]; exact OwnL.nil _ _, by rw [HR2.out]; rfl, K.cov Cov.auto⟩
  · have h2' : fitsB (count * D.size) at_ m = false := by simpa using h2
    have HR := Lib.hid (show pread D first count at_ m = ([], 5) by rw [pread, if_pos h2'])
    clear h2
    go_enter Try.func23, Try.ntmps23
    go_wp2_with (first | ((with_reducible refine at_load rfl ?_); refine wpList_reads (by rfl) (kr_load_cell K _ _ (by rfl) (by rfl) (by repeat (first | with_reducible assumption | with_reducible exact Has.hd _ _ | with_reducible refine Has.tl _ ?_ | with_reducible refine Has.ap _ ?_)) (by kernel_rfl) (by rfl)) ?_) | (go_at_call 41; (with_reducible refine (ssizeK K hD).mono ?_); clear K; rintro e w1 ⟨rfl, K⟩) | (go_at_call 40; (with_reducible refine (pfits_any K hD hp hcb _ _ _ rfl hat).mono ?_); clear K; rintro e w1 ⟨rfl, K⟩))
    go_ret2
    exact ⟨_, _, _, by rw [HR.out]; rfl, [], by rw [HR.out]; exact OwnL.nil _ _, by rw [HR.out]; rfl, K⟩
end
end Go.Proofs.Ytfdddipmeadecaa
