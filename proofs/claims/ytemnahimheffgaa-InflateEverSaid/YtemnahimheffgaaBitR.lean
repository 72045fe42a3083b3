/-
  Package bits: the reader (contracts).
-/
import Derived.Test.YtemnahimheffgaaR
import Derived.Test.YtemnahimheffgaaSlices
import Derived.Test.YtemnahimheffgaaBitM
import Derived.Deep.LoopGhost
import Derived.Deep.Cut
set_option linter.unusedVariables false
set_option linter.unusedSimpArgs false
namespace Go.Proofs.Ytemnahimheffgaa
open Go.RowKit
theorem Known.pickS {w0 w : World} {M X R : List Ent} (K : Known w0 w M) (s : Sel X M R) : Known w0 w (X ++ R) := K.cov ⟨⟨[], by simpa using s.out⟩⟩
/-- the number of m bits at a place -/
def bitsAt (b : List Bool) (p m : Nat) : Nat := num ((b.drop p).take m)
theorem bitsAt_eq (b : List Bool) (p m : Nat) : bitsAt b p m = num b / 2 ^ p % 2 ^ m := by rw [bitsAt, num_take, num_drop]
theorem bitsAt_lt (b : List Bool) (p m : Nat) : bitsAt b p m < 2 ^ m := by rw [bitsAt_eq]; exact Nat.mod_lt _ (Nat.two_pow_pos m)
theorem bitsAt_zero (b : List Bool) (p : Nat) : bitsAt b p 0 = 0 := by rw [bitsAt_eq, Nat.pow_zero, Nat.mod_one]
theorem bitsAt_add (b : List Bool) (p g m : Nat) : bitsAt b p (g + m) = bitsAt b p g + 2 ^ g * bitsAt b (p + g) m := by
  rw [bitsAt_eq, bitsAt_eq, bitsAt_eq, Nat.pow_add, Nat.mod_mul, Nat.div_div_eq_div_mul, ← Nat.pow_add]
theorem ofBytes_num : ∀ (bs : List Int) (q : Nat), num (ofBytes bs) / 2 ^ (8 * q) % 2 ^ 8 = (bs.getD q 0).toNat % 2 ^ 8
  | [], q => by simp [ofBytes, num]
  | c :: bs, 0 => by
    rw [ofBytes, List.flatMap_cons, num_append, bitsN_length, num_bitsN]
    simp only [Nat.mul_zero, Nat.pow_zero, Nat.div_one, List.getD_cons_zero]
    omega
  | c :: bs, q + 1 => by
    rw [ofBytes, List.flatMap_cons, num_append, bitsN_length, num_bitsN, show 8 * (q + 1) = 8 + 8 * q by omega, Nat.pow_add, ← Nat.div_div_eq_div_mul, Nat.add_mul_div_left _ _ (Nat.two_pow_pos 8), Nat.div_eq_of_lt (Nat.mod_lt _ (Nat.two_pow_pos 8)), Nat.zero_add]
    have := ofBytes_num bs q
    rw [ofBytes] at this
    rw [this]
    simp
theorem byteAt (bs : List Int) (hb : ∀ v ∈ bs, 0 ≤ v ∧ v ≤ 255) (q r m : Nat) (h : r + m ≤ 8) : (bs.getD q 0).toNat / 2 ^ r % 2 ^ m = bitsAt (ofBytes bs) (8 * q + r) m := by
  have h0 : (bs.getD q 0).toNat % 2 ^ 8 = (bs.getD q 0).toNat := by
    refine Nat.mod_eq_of_lt ?_
    by_cases hq : q < bs.length
    · have := hb (bs.getD q 0) (by simp [List.getD, List.getElem?_eq_getElem hq])
      omega
    · simp [List.getD, List.getElem?_eq_none (Nat.le_of_not_lt hq)]
  rw [bitsAt_eq, Nat.pow_add, ← Nat.div_div_eq_div_mul, ← h0, ← ofBytes_num]
  obtain ⟨Y, hY⟩ : ∃ Y, num (ofBytes bs) / 2 ^ (8 * q) = Y := ⟨_, rfl⟩
  rw [hY]
  have e1 : Y = 2 ^ 8 * (Y / 2 ^ 8) + Y % 2 ^ 8 := (Nat.div_add_mod Y (2 ^ 8)).symm
  have e2 : (2 : Nat) ^ 8 = 2 ^ r * 2 ^ (8 - r) := by rw [← Nat.pow_add]; congr 1; omega
  have e3 : Y / 2 ^ r = 2 ^ (8 - r) * (Y / 2 ^ 8) + Y % 2 ^ 8 / 2 ^ r := by
    conv => lhs; rw [e1]
    rw [show 2 ^ 8 * (Y / 2 ^ 8) + Y % 2 ^ 8 = Y % 2 ^ 8 + 2 ^ r * (2 ^ (8 - r) * (Y / 2 ^ 8)) by rw [← Nat.mul_assoc, ← e2]; omega]
    rw [Nat.add_mul_div_left _ _ (Nat.two_pow_pos r)]
    omega
  rw [e3, show (2 : Nat) ^ (8 - r) = 2 ^ m * 2 ^ (8 - r - m) by rw [← Nat.pow_add]; congr 1; omega, Nat.mul_assoc, Nat.mul_add_mod]
/-- what Get makes of a byte -/
theorem get_word (r x k m : Nat) (hr : r < 2 ^ m) (hm : m ≤ 31) (hk : k ≤ 8) (hx : x < 256) :
    bits .or .u64 (r : Int) (IntKind.u64.wrap (bits .and .u64 (x : Int) (IntKind.u64.wrap (IntKind.u64.wrap (2 ^ k) - 1)) * 2 ^ m)) = ((r + 2 ^ m * (x % 2 ^ k) : Nat) : Int) := by
  have p1 : 2 ^ k ≤ 2 ^ 8 := Nat.pow_le_pow_right (by omega) hk
  have p2 : 2 ^ m ≤ 2 ^ 31 := Nat.pow_le_pow_right (by omega) (by omega)
  have p3 := Nat.two_pow_pos k
  have p4 := Nat.two_pow_pos m
  have e1 : (IntKind.u64.wrap (2 ^ k)) = ((2 ^ k : Nat) : Int) := by rw [show (2 : Int) ^ k = ((2 ^ k : Nat) : Int) by simp]; exact u64_nat (by omega)
  have e2 : IntKind.u64.wrap (((2 ^ k : Nat) : Int) - 1) = ((2 ^ k - 1 : Nat) : Int) := by rw [show ((2 ^ k : Nat) : Int) - 1 = ((2 ^ k - 1 : Nat) : Int) by omega]; exact u64_nat (by omega)
  rw [e1, e2, u64_and_nat x (2 ^ k - 1) (by omega) (by omega), Nat.and_two_pow_sub_one_eq_mod]
  have hlt : x % 2 ^ k < 2 ^ 8 := Nat.lt_of_lt_of_le (Nat.mod_lt _ p3) p1
  have hmul : x % 2 ^ k * 2 ^ m < 2 ^ 8 * 2 ^ 31 := Nat.lt_of_lt_of_le (Nat.mul_lt_mul_of_pos_right hlt p4) (Nat.mul_le_mul_left _ p2)
  rw [show ((x % 2 ^ k : Nat) : Int) * 2 ^ m = ((x % 2 ^ k * 2 ^ m : Nat) : Int) by simp, u64_nat (by omega), u64_or_nat r _ (by omega) (by omega)]
  congr 1
  rw [Nat.or_comm, Nat.mul_comm (x % 2 ^ k), ← Nat.two_pow_add_eq_or_of_lt hr]
  omega
theorem kr_rem8 {P : Program} {o : Oper} {a : Act} {W : World} {T U : TypeId} {x y : Operand} (ho : o.op = .binOp .rem T x y U) {u v : Nat} (hx : a.eval x = .int .i64 (u : Int)) (hy : a.eval y = .int .i64 8) (hu : u ≤ 9000000000000000000) (hv : u % 8 = v) : (execOp a.eval o).run P W = .ok (.value (.int .i64 (v : Int))) W := by
  have h1 : (u : Int).tmod 8 = (v : Int) := by rw [Int.tmod_eq_emod_of_nonneg (by omega)]; omega
  have h2 := IntWalk.i64_in (v : Int) (by omega)
  unfold execOp
  simp only [ho, hx, hy]
  simp [eqGuard, binOp, go_sem, Sem.run_bind, h1, h2]
theorem kr_quo8 {P : Program} {o : Oper} {a : Act} {W : World} {T U : TypeId} {x y : Operand} (ho : o.op = .binOp .quo T x y U) {u v : Nat} (hx : a.eval x = .int .i64 (u : Int)) (hy : a.eval y = .int .i64 8) (hu : u ≤ 9000000000000000000) (hv : u / 8 = v) : (execOp a.eval o).run P W = .ok (.value (.int .i64 (v : Int))) W := by
  have h1 : (u : Int).tdiv 8 = (v : Int) := by rw [Int.tdiv_eq_ediv_of_nonneg (by omega)]; omega
  have h2 := IntWalk.i64_in (v : Int) (by omega)
  unfold execOp
  simp only [ho, hx, hy]
  simp [eqGuard, binOp, go_sem, Sem.run_bind, h1, h2]
/-- a reader at a bit of bytes -/
structure Rdr (g : Nat) (bs : List Int) (p : Nat) (X : List Ent) : Prop where mk ::
  (out : ∃ A n c Y, X = row g #[.slice A n c, .int .i64 (p : Nat)] 75 :: Y ∧ OwnL 5 1 A n c (bs.map (Value.int .u8)) Y)
  (byte : ∀ v ∈ bs, 0 ≤ v ∧ v ≤ 255) (le : p ≤ 8 * bs.length) (len : bs.length ≤ 1000000000)


section
variable {w0 w : World} {L X : List Ent} {g p : Nat} {bs : List Int}
set_option maxRecDepth 100000 in
theorem rnew_any {B : Option Addr} {m d : Nat} (K : Known w0 w L) (R : RdS w0 L .u8 B m bs) (hb : ∀ v ∈ bs, 0 ≤ v ∧ v ≤ 255) (hm : m ≤ 1000000000) : Calls Try.prog 24 #[.slice B m d] w fun e w' => ∃ g, e = .returned (.pointer (some ⟨g, 0, none⟩)) ∧ ∃ X, Rdr g bs 0 X ∧ Known w0 w' (X ++ L) := by
  have hl := R.len
  go_enter Try.func24, Try.ntmps24
  go_wp2_with (first | (go_at_call 29; (with_reducible refine (clone_any K R (by omega)).mono ?_); clear K; rintro e w1 ⟨A1, c1, X1, rfl, O, K⟩) | ((with_reducible refine at_eqnil rfl ?_); refine wpList_reads rfl (kr_eqnil rfl rfl (by kernel_rfl)) ?_) | ((with_reducible refine at_box rfl ?_); refine wpList_does rfl (kd_box K _ _ rfl (by conv => lhs; whnf)) ?_; clear K; rintro _ w1 ⟨g, rfl, K⟩; (try dsimp only [Value.cells] at K)) | ((with_reducible refine at_alloc rfl ?_); refine wpList_does rfl (kd_alloc K _ rfl rfl) ?_; clear K; rintro _ w1 ⟨g, rfl, K⟩; (try dsimp only [Value.cells] at K)) | ((with_reducible refine at_buildSlice rfl ?_); refine wpList_does rfl (kd_lits (cs := _) K _ _ _ rfl (by first | rfl | (go_simp; done) | (go_simp; rfl)) (by first | rfl | (go_simp; done) | (go_simp; rfl))) ?_; clear K; rintro _ w1 ⟨g, rfl, K⟩) | ((with_reducible refine at_load rfl ?_); first | (refine wpList_reads (by rfl) (kr_load_cell K _ _ (by rfl) (by rfl) Has.auto (by decide +kernel) (by (try simp only [List.getElem?_toArray, List.getElem?_cons_succ, List.getElem?_cons_zero]); exact rfl)) ?_) | (refine wpList_reads (by rfl) (kr_load_row K _ _ (by rfl) (by rfl) Has.auto (by decide +kernel) (by kernel_rfl)) ?_)) | ((with_reducible refine at_store rfl ?_); (first | (refine wpList_does rfl (kd_store_cell K _ _ _ rfl rfl (by conv => lhs; whnf) Repl.auto rfl rfl (by kernel_rfl) (by kernel_rfl) (by first | (simp only [List.setIfInBounds_toArray, List.set_cons_succ, List.set_cons_zero]; rfl) | rfl)) ?_) | (refine wpList_does rfl (kd_store_row K _ _ _ rfl rfl rfl Repl.auto (by kernel_rfl) (by kernel_rfl) (by kernel_rfl)) ?_)); clear K; intro _ w1 K; (try simp only [Act.put])))
  go_ret
  exact ⟨g, rfl, _, ⟨⟨A1, m, c1, X1, rfl, O⟩, hb, by omega, by omega⟩, K⟩


set_option maxRecDepth 100000 in
theorem rleft_any (K : Known w0 w (X ++ L)) (hR : Rdr g bs p X) (v : Int) (hv : 8 * (bs.length : Int) - p = v) : Calls Try.prog 27 #[.pointer (some ⟨g, 0, none⟩)] w fun e w' => e = .returned (.int .i64 v) ∧ Known w0 w' (X ++ L) := by
  subst hv
  obtain ⟨A, n, c, Y, rfl, O⟩ := hR.out
  have hn : bs.length = n := by have := O.len; simpa using this
  have hlen := hR.len
  have hle := hR.le
  have HBY := Lib.hid hR.byte
  subst hn
  rw [List.cons_append] at K
  have i1 := IntWalk.i64_in (8 * (bs.length : Int)) (by omega)
  have i2 := IntWalk.i64_in (8 * (bs.length : Int) - p) (by omega)
  go_enter Try.func27, Try.ntmps27
  go_upto_region 3 with ((first | ((with_reducible refine at_eqnil rfl ?_); refine wpList_reads rfl (kr_eqnil rfl rfl (by kernel_rfl)) ?_) | ((with_reducible refine at_box rfl ?_); refine wpList_does rfl (kd_box K _ _ rfl (by conv => lhs; whnf)) ?_; clear K; rintro _ w1 ⟨g, rfl, K⟩; (try dsimp only [Value.cells] at K)) | ((with_reducible refine at_alloc rfl ?_); refine wpList_does rfl (kd_alloc K _ rfl rfl) ?_; clear K; rintro _ w1 ⟨g, rfl, K⟩; (try dsimp only [Value.cells] at K)) | ((with_reducible refine at_buildSlice rfl ?_); refine wpList_does rfl (kd_lits (cs := _) K _ _ _ rfl (by first | rfl | (go_simp; done) | (go_simp; rfl)) (by first | rfl | (go_simp; done) | (go_simp; rfl))) ?_; clear K; rintro _ w1 ⟨g, rfl, K⟩) | ((with_reducible refine at_load rfl ?_); first | (refine wpList_reads (by rfl) (kr_load_cell K _ _ (by rfl) (by rfl) Has.auto (by decide +kernel) (by (try simp only [List.getElem?_toArray, List.getElem?_cons_succ, List.getElem?_cons_zero]); exact rfl)) ?_) | (refine wpList_reads (by rfl) (kr_load_row K _ _ (by rfl) (by rfl) Has.auto (by decide +kernel) (by kernel_rfl)) ?_)) | ((with_reducible refine at_store rfl ?_); (first | (refine wpList_does rfl (kd_store_cell K _ _ _ rfl rfl (by conv => lhs; whnf) Repl.auto rfl rfl (by kernel_rfl) (by kernel_rfl) (by first | (simp only [List.setIfInBounds_toArray, List.set_cons_succ, List.set_cons_zero]; rfl) | rfl)) ?_) | (refine wpList_does rfl (kd_store_row K _ _ _ rfl rfl rfl Repl.auto (by kernel_rfl) (by kernel_rfl) (by kernel_rfl)) ?_)); clear K; intro _ w1 K; (try simp only [Act.put]))))
  refine wp_region_GK K (Cov.all _) (by kernel_rfl) (by kernel_rfl) (by kernel_rfl) (fun K hHeld => ?_)
  refine wpG_takeA 0 (v := ?_) ?_ hHeld ?_
  rotate_left
  · (intro w hS; (clear hS; go_simp); try with_reducible rfl)
  try simp only [Act.put, List.setIfInBounds_toArray, List.set_cons_zero, List.set_cons_succ]
  refine wpG_takeA 1 (v := ?_) ?_ hHeld ?_
  rotate_left
  · (intro w hS; (clear hS; go_simp); try with_reducible rfl)
  try simp only [Act.put, List.setIfInBounds_toArray, List.set_cons_zero, List.set_cons_succ]
  refine wpG_takeA 2 (v := ?_) ?_ hHeld ?_
  rotate_left
  · (intro w hS; (clear hS; go_simp); try with_reducible rfl)
  try simp only [Act.put, List.setIfInBounds_toArray, List.set_cons_zero, List.set_cons_succ]
  refine wpG_takeA 3 (v := .slice A bs.length c) ?_ hHeld ?_
  · (intro w hS; first | exact kr_load_cell hS _ _ (by rfl) (by rfl) Has.auto (by kernel_rfl) (by rfl))
  try simp only [Act.put, List.setIfInBounds_toArray, List.set_cons_zero, List.set_cons_succ]
  refine wpG_takeA 4 (v := ?_) ?_ hHeld ?_
  rotate_left
  · (intro w hS; (clear hS; go_simp); try with_reducible rfl)
  try simp only [Act.put, List.setIfInBounds_toArray, List.set_cons_zero, List.set_cons_succ]
  refine wpG_takeA 5 (v := ?_) ?_ hHeld ?_
  rotate_left
  · (intro w hS; (clear hS; go_simp); try with_reducible rfl)
  try simp only [Act.put, List.setIfInBounds_toArray, List.set_cons_zero, List.set_cons_succ]
  refine wpG_takeA 6 (v := ?_) ?_ hHeld ?_
  rotate_left
  · (intro w hS; (clear hS; go_simp); try with_reducible rfl)
  try simp only [Act.put, List.setIfInBounds_toArray, List.set_cons_zero, List.set_cons_succ]
  refine wpG_takeA 7 (v := ?_) ?_ hHeld ?_
  rotate_left
  · (intro w hS; (clear hS; go_simp); try with_reducible rfl)
  try simp only [Act.put, List.setIfInBounds_toArray, List.set_cons_zero, List.set_cons_succ]
  refine wpG_takeA 8 (v := ?_) ?_ hHeld ?_
  rotate_left
  · (intro w hS; (clear hS; go_simp); try with_reducible rfl)
  try simp only [Act.put, List.setIfInBounds_toArray, List.set_cons_zero, List.set_cons_succ]
  refine wpG_takeA 9 (v := .int .i64 (p : Nat)) ?_ hHeld ?_
  · (intro w hS; first | exact kr_load_cell hS _ _ (by rfl) (by rfl) Has.auto (by kernel_rfl) (by rfl))
  try simp only [Act.put, List.setIfInBounds_toArray, List.set_cons_zero, List.set_cons_succ]
  refine wpG_takeA 10 (v := ?_) ?_ hHeld ?_
  rotate_left
  · (intro w hS; (clear hS; go_simp); try with_reducible rfl)
  try simp only [Act.put, List.setIfInBounds_toArray, List.set_cons_zero, List.set_cons_succ]
  refine wpG_takeA 11 (v := ?_) ?_ hHeld ?_
  rotate_left
  · (intro w hS; (clear hS; go_simp); try with_reducible rfl)
  try simp only [Act.put, List.setIfInBounds_toArray, List.set_cons_zero, List.set_cons_succ]
  refine wpG_done (by kernel_rfl) ?_
  skip
  go_wp2
  go_ret
  exact ⟨rfl, K.cov Cov.auto⟩
set_option maxRecDepth 100000 in
theorem rat_any (K : Known w0 w (X ++ L)) (hR : Rdr g bs p X) : Calls Try.prog 28 #[.pointer (some ⟨g, 0, none⟩)] w fun e w' => e = .returned (.int .i64 (p : Nat)) ∧ Known w0 w' (X ++ L) := by
  obtain ⟨A, n, c, Y, rfl, O⟩ := hR.out
  have hn : bs.length = n := by have := O.len; simpa using this
  have hlen := hR.len
  have hle := hR.le
  have HBY := Lib.hid hR.byte
  subst hn
  rw [List.cons_append] at K
  go_enter Try.func28, Try.ntmps28
  go_wp2_with (first | ((with_reducible refine at_eqnil rfl ?_); refine wpList_reads rfl (kr_eqnil rfl rfl (by kernel_rfl)) ?_) | ((with_reducible refine at_box rfl ?_); refine wpList_does rfl (kd_box K _ _ rfl (by conv => lhs; whnf)) ?_; clear K; rintro _ w1 ⟨g, rfl, K⟩; (try dsimp only [Value.cells] at K)) | ((with_reducible refine at_alloc rfl ?_); refine wpList_does rfl (kd_alloc K _ rfl rfl) ?_; clear K; rintro _ w1 ⟨g, rfl, K⟩; (try dsimp only [Value.cells] at K)) | ((with_reducible refine at_buildSlice rfl ?_); refine wpList_does rfl (kd_lits (cs := _) K _ _ _ rfl (by first | rfl | (go_simp; done) | (go_simp; rfl)) (by first | rfl | (go_simp; done) | (go_simp; rfl))) ?_; clear K; rintro _ w1 ⟨g, rfl, K⟩) | ((with_reducible refine at_load rfl ?_); first | (refine wpList_reads (by rfl) (kr_load_cell K _ _ (by rfl) (by rfl) Has.auto (by decide +kernel) (by (try simp only [List.getElem?_toArray, List.getElem?_cons_succ, List.getElem?_cons_zero]); exact rfl)) ?_) | (refine wpList_reads (by rfl) (kr_load_row K _ _ (by rfl) (by rfl) Has.auto (by decide +kernel) (by kernel_rfl)) ?_)) | ((with_reducible refine at_store rfl ?_); (first | (refine wpList_does rfl (kd_store_cell K _ _ _ rfl rfl (by conv => lhs; whnf) Repl.auto rfl rfl (by kernel_rfl) (by kernel_rfl) (by first | (simp only [List.setIfInBounds_toArray, List.set_cons_succ, List.set_cons_zero]; rfl) | rfl)) ?_) | (refine wpList_does rfl (kd_store_row K _ _ _ rfl rfl rfl Repl.auto (by kernel_rfl) (by kernel_rfl) (by kernel_rfl)) ?_)); clear K; intro _ w1 K; (try simp only [Act.put])))
  go_ret
  exact ⟨rfl, K.cov Cov.auto⟩
set_option maxRecDepth 100000 in
theorem rseek_any (K : Known w0 w (X ++ L)) (hR : Rdr g bs p X) (q : Nat) (hq : q ≤ 8 * bs.length) : Calls Try.prog 25 #[.pointer (some ⟨g, 0, none⟩), .int .i64 (q : Nat)] w fun e w' => e = .returned (.int .i64 0) ∧ ∃ X', Rdr g bs q X' ∧ Known w0 w' (X' ++ L) := by
  obtain ⟨A, n, c, Y, rfl, O⟩ := hR.out
  have hn : bs.length = n := by have := O.len; simpa using this
  have hlen := hR.len
  have hle := hR.le
  have HBY := Lib.hid hR.byte
  subst hn
  rw [List.cons_append] at K
  have i1 := IntWalk.i64_in (8 * (bs.length : Int)) (by omega)
  have d1 : decide ((q : Int) < 0) = false := decide_eq_false (by omega)
  have d2 : decide (8 * (bs.length : Int) < (q : Int)) = false := decide_eq_false (by omega)
  have d3 : ¬ 8 * (bs.length : Int) < (q : Int) := by omega
  go_enter Try.func25, Try.ntmps25
  go_wp2_with (first | ((with_reducible refine at_eqnil rfl ?_); refine wpList_reads rfl (kr_eqnil rfl rfl (by kernel_rfl)) ?_) | ((with_reducible refine at_box rfl ?_); refine wpList_does rfl (kd_box K _ _ rfl (by conv => lhs; whnf)) ?_; clear K; rintro _ w1 ⟨g, rfl, K⟩; (try dsimp only [Value.cells] at K)) | ((with_reducible refine at_alloc rfl ?_); refine wpList_does rfl (kd_alloc K _ rfl rfl) ?_; clear K; rintro _ w1 ⟨g, rfl, K⟩; (try dsimp only [Value.cells] at K)) | ((with_reducible refine at_buildSlice rfl ?_); refine wpList_does rfl (kd_lits (cs := _) K _ _ _ rfl (by first | rfl | (go_simp; done) | (go_simp; rfl)) (by first | rfl | (go_simp; done) | (go_simp; rfl))) ?_; clear K; rintro _ w1 ⟨g, rfl, K⟩) | ((with_reducible refine at_load rfl ?_); first | (refine wpList_reads (by rfl) (kr_load_cell K _ _ (by rfl) (by rfl) Has.auto (by decide +kernel) (by (try simp only [List.getElem?_toArray, List.getElem?_cons_succ, List.getElem?_cons_zero]); exact rfl)) ?_) | (refine wpList_reads (by rfl) (kr_load_row K _ _ (by rfl) (by rfl) Has.auto (by decide +kernel) (by kernel_rfl)) ?_)) | ((with_reducible refine at_store rfl ?_); (first | (refine wpList_does rfl (kd_store_cell K _ _ _ rfl rfl (by conv => lhs; whnf) Repl.auto rfl rfl (by kernel_rfl) (by kernel_rfl) (by first | (simp only [List.setIfInBounds_toArray, List.set_cons_succ, List.set_cons_zero]; rfl) | rfl)) ?_) | (refine wpList_does rfl (kd_store_row K _ _ _ rfl rfl rfl Repl.auto (by kernel_rfl) (by kernel_rfl) (by kernel_rfl)) ?_)); clear K; intro _ w1 K; (try simp only [Act.put])))
  go_ret
  exact ⟨rfl, _, ⟨⟨A, bs.length, c, Y, rfl, O⟩, HBY.out, by omega, by omega⟩, K⟩
theorem neg_and7' (m : Nat) : bits .and .i64 (-(m : Int)) 7 = (((8 - m % 8) % 8 : Nat) : Int) := by
  show IntKind.i64.wrap (((BitVec.ofInt 64 (-(m : Int)) &&& BitVec.ofInt 64 7).toNat : Nat) : Int) = _
  have h2 : (BitVec.ofInt 64 (7 : Int)).toNat = 2 ^ 3 - 1 := by decide
  have h3 : (BitVec.ofInt 64 (-(m : Int))).toNat % 2 ^ 3 = (8 - m % 8) % 8 := by
    rw [BitVec.toNat_ofInt]
    have h4 : ((2 ^ 64 : Nat) : Int) = 18446744073709551616 := by decide
    rw [h4]
    omega
  rw [BitVec.toNat_and, h2, Nat.and_two_pow_sub_one_eq_mod, h3, IntKind.wrap_i64]
  omega
set_option maxRecDepth 100000 in
theorem ralign_any (K : Known w0 w (X ++ L)) (hR : Rdr g bs p X) : Calls Try.prog 39 #[.pointer (some ⟨g, 0, none⟩)] w fun e w' => e = .returned (.tuple #[]) ∧ ∃ X', Rdr g bs ((p + 7) / 8 * 8) X' ∧ Known w0 w' (X' ++ L) := by
  obtain ⟨A, n, c, Y, rfl, O⟩ := hR.out
  have hn : bs.length = n := by have := O.len; simpa using this
  have hlen := hR.len
  have hle := hR.le
  have HBY := Lib.hid hR.byte
  subst hn
  rw [List.cons_append] at K
  have i1 := IntWalk.i64_in (-(p : Int)) (by omega)
  obtain ⟨q, i2, hq⟩ : ∃ q : Nat, bits .and .i64 (-(p : Int)) 7 = (q : Int) ∧ p + q = (p + 7) / 8 * 8 := ⟨(8 - p % 8) % 8, neg_and7' p, by omega⟩
  have i3 := IntWalk.i64_in ((p : Int) + (q : Int)) (by omega)
  have HQ := Lib.hid hq
  have hq2 : (p + 7) / 8 * 8 ≤ 8 * bs.length := by omega
  clear hq
  go_enter Try.func39, Try.ntmps39
  go_upto_region 1 with ((first | ((with_reducible refine at_eqnil rfl ?_); refine wpList_reads rfl (kr_eqnil rfl rfl (by kernel_rfl)) ?_) | ((with_reducible refine at_box rfl ?_); refine wpList_does rfl (kd_box K _ _ rfl (by conv => lhs; whnf)) ?_; clear K; rintro _ w1 ⟨g, rfl, K⟩; (try dsimp only [Value.cells] at K)) | ((with_reducible refine at_alloc rfl ?_); refine wpList_does rfl (kd_alloc K _ rfl rfl) ?_; clear K; rintro _ w1 ⟨g, rfl, K⟩; (try dsimp only [Value.cells] at K)) | ((with_reducible refine at_buildSlice rfl ?_); refine wpList_does rfl (kd_lits (cs := _) K _ _ _ rfl (by first | rfl | (go_simp; done) | (go_simp; rfl)) (by first | rfl | (go_simp; done) | (go_simp; rfl))) ?_; clear K; rintro _ w1 ⟨g, rfl, K⟩) | ((with_reducible refine at_load rfl ?_); first | (refine wpList_reads (by rfl) (kr_load_cell K _ _ (by rfl) (by rfl) Has.auto (by decide +kernel) (by (try simp only [List.getElem?_toArray, List.getElem?_cons_succ, List.getElem?_cons_zero]); exact rfl)) ?_) | (refine wpList_reads (by rfl) (kr_load_row K _ _ (by rfl) (by rfl) Has.auto (by decide +kernel) (by kernel_rfl)) ?_)) | ((with_reducible refine at_store rfl ?_); (first | (refine wpList_does rfl (kd_store_cell K _ _ _ rfl rfl (by conv => lhs; whnf) Repl.auto rfl rfl (by kernel_rfl) (by kernel_rfl) (by first | (simp only [List.setIfInBounds_toArray, List.set_cons_succ, List.set_cons_zero]; rfl) | rfl)) ?_) | (refine wpList_does rfl (kd_store_row K _ _ _ rfl rfl rfl Repl.auto (by kernel_rfl) (by kernel_rfl) (by kernel_rfl)) ?_)); clear K; intro _ w1 K; (try simp only [Act.put]))))
  refine wp_region_GK (X := [row g #[.slice A bs.length c, .int .i64 (p : Nat)] 75]) K Cov.auto (by kernel_rfl) (by kernel_rfl) (by kernel_rfl) (fun K hHeld => ?_)
  refine wpG_takeA 0 (v := ?_) ?_ hHeld ?_
  rotate_left
  · (intro w hS; (clear hS; go_simp); try with_reducible rfl)
  try simp only [Act.put, List.setIfInBounds_toArray, List.set_cons_zero, List.set_cons_succ]
  refine wpG_takeA 1 (v := ?_) ?_ hHeld ?_
  rotate_left
  · (intro w hS; (clear hS; go_simp); try with_reducible rfl)
  try simp only [Act.put, List.setIfInBounds_toArray, List.set_cons_zero, List.set_cons_succ]
  refine wpG_takeA 2 (v := ?_) ?_ hHeld ?_
  rotate_left
  · (intro w hS; (clear hS; go_simp); try with_reducible rfl)
  try simp only [Act.put, List.setIfInBounds_toArray, List.set_cons_zero, List.set_cons_succ]
  refine wpG_takeA 3 (v := .int .i64 (p : Nat)) ?_ hHeld ?_
  · (intro w hS; first | exact kr_load_cell hS _ _ (by rfl) (by rfl) Has.auto (by kernel_rfl) (by rfl))
  try simp only [Act.put, List.setIfInBounds_toArray, List.set_cons_zero, List.set_cons_succ]
  refine wpG_takeA 4 (v := ?_) ?_ hHeld ?_
  rotate_left
  · (intro w hS; (clear hS; go_simp); try with_reducible rfl)
  try simp only [Act.put, List.setIfInBounds_toArray, List.set_cons_zero, List.set_cons_succ]
  refine wpG_takeA 5 (v := ?_) ?_ hHeld ?_
  rotate_left
  · (intro w hS; (clear hS; go_simp); try with_reducible rfl)
  try simp only [Act.put, List.setIfInBounds_toArray, List.set_cons_zero, List.set_cons_succ]
  refine wpG_takeA 6 (v := ?_) ?_ hHeld ?_
  rotate_left
  · (intro w hS; (clear hS; go_simp); try with_reducible rfl)
  try simp only [Act.put, List.setIfInBounds_toArray, List.set_cons_zero, List.set_cons_succ]
  refine wpG_takeA 7 (v := .int .i64 (p : Nat)) ?_ hHeld ?_
  · (intro w hS; first | exact kr_load_cell hS _ _ (by rfl) (by rfl) Has.auto (by kernel_rfl) (by rfl))
  try simp only [Act.put, List.setIfInBounds_toArray, List.set_cons_zero, List.set_cons_succ]
  refine wpG_takeA 8 (v := ?_) ?_ hHeld ?_
  rotate_left
  · (intro w hS; (clear hS; go_simp); try with_reducible rfl)
  try simp only [Act.put, List.setIfInBounds_toArray, List.set_cons_zero, List.set_cons_succ]
  refine wpG_takeA 9 (v := ?_) ?_ hHeld ?_
  rotate_left
  · (intro w hS; (clear hS; go_simp); try with_reducible rfl)
  try simp only [Act.put, List.setIfInBounds_toArray, List.set_cons_zero, List.set_cons_succ]
  refine wpG_takeA 10 (v := ?_) ?_ hHeld ?_
  rotate_left
  · (intro w hS; (clear hS; go_simp); try with_reducible rfl)
  try simp only [Act.put, List.setIfInBounds_toArray, List.set_cons_zero, List.set_cons_succ]
  refine wpG_takeA 11 (v := ?_) ?_ hHeld ?_
  rotate_left
  · (intro w hS; (clear hS; go_simp); try with_reducible rfl)
  try simp only [Act.put, List.setIfInBounds_toArray, List.set_cons_zero, List.set_cons_succ]
  refine wpG_takeA 12 (v := ?_) ?_ hHeld ?_
  rotate_left
  · (intro w hS; (clear hS; go_simp); try with_reducible rfl)
  try simp only [Act.put, List.setIfInBounds_toArray, List.set_cons_zero, List.set_cons_succ]
  refine wpG_lastA 13 (fun K9 hK => ?_)
  (first | (refine st_does (by rfl) (kd_store_cell K _ _ _ (by rfl) (by rfl) (by conv => lhs; whnf) Repl.auto (by rfl) (by rfl) (by kernel_rfl) (by kernel_rfl) (by first | (simp only [List.setIfInBounds_toArray, List.set_cons_succ, List.set_cons_zero]; rfl) | rfl)) ?_) | (refine st_does (by rfl) (kd_store_row K _ _ _ (by rfl) (by rfl) (by rfl) Repl.auto (by kernel_rfl) (by kernel_rfl) (by kernel_rfl)) ?_))
  clear K; intro _ w1 K
  refine hK.out _ _ ?_
  clear hK K9
  try simp only [Act.put, List.setIfInBounds_toArray, List.set_cons_zero, List.set_cons_succ]
  skip
  go_wp2
  go_end0
  rw [← HQ.out] at hq2 ⊢
  rw [show ((p : Int) + (q : Int)) = ((p + q : Nat) : Int) by omega] at K
  exact ⟨rfl, _, ⟨⟨A, bs.length, c, Y, rfl, O⟩, HBY.out, hq2, by omega⟩, K⟩


set_option maxRecDepth 100000 in
theorem rget_no (K : Known w0 w (X ++ L)) (hR : Rdr g bs p X) (n : Nat) (z : Int) (hz : z = n) (hn32 : n ≤ 32) (h : 8 * bs.length < p + n) : Calls Try.prog 52 #[.pointer (some ⟨g, 0, none⟩), .int .i64 z] w fun e w' => e = .returned (.tuple #[.int .u32 0, .int .i64 2]) ∧ Known w0 w' (X ++ L) := by
  subst hz
  have h' : 8 * (bs.length : Int) - p < n := by omega
  have d1 : decide ((n : Int) < 0) = false := decide_eq_false (by omega)
  have d2 : decide (32 < (n : Int)) = false := decide_eq_false (by omega)
  go_enter Try.func52, Try.ntmps52
  go_wp2_with (first | (go_at_call 27; (with_reducible refine (rleft_any K hR _ rfl).mono ?_); clear K; rintro e w1 ⟨rfl, K⟩))
  go_ret2
  exact ⟨rfl, K⟩
set_option maxHeartbeats 1600000 in
set_option maxRecDepth 100000 in
theorem rget_yes (K : Known w0 w (X ++ L)) (hR : Rdr g bs p X) (n : Nat) (z : Int) (hz : z = n) (hn32 : n ≤ 32) (h : p + n ≤ 8 * bs.length) : Calls Try.prog 52 #[.pointer (some ⟨g, 0, none⟩), .int .i64 z] w fun e w' => e = .returned (.tuple #[.int .u32 (bitsAt (ofBytes bs) p n : Nat), .int .i64 0]) ∧ ∃ X', Rdr g bs (p + n) X' ∧ Known w0 w' (X' ++ L) := by
  subst hz
  have h' : ¬ 8 * (bs.length : Int) - p < n := by omega
  have d1 : decide ((n : Int) < 0) = false := decide_eq_false (by omega)
  have d2 : decide (32 < (n : Int)) = false := decide_eq_false (by omega)
  go_enter Try.func52, Try.ntmps52
  go_upto_region 7 with ((first | (go_at_call 27; (with_reducible refine (rleft_any K hR _ rfl).mono ?_); clear K; rintro e w1 ⟨rfl, K⟩)))
  obtain ⟨A, n, c, Y, rfl, O⟩ := hR.out
  have hn : bs.length = n := by have := O.len; simpa using this
  have hlen := hR.len
  have hle := hR.le
  have HBY := Lib.hid hR.byte
  subst hn
  rw [List.cons_append] at K
  go_loopg [6, 7] n (fun d v6 v7 wr => ∃ got : Nat, v6 = .int .u64 (bitsAt (ofBytes bs) p got : Nat) ∧ v7 = .int .i64 (got : Nat) ∧ got ≤ n ∧ n - got ≤ d ∧ Known w0 wr (row g #[.slice A bs.length c, .int .i64 ((p + got : Nat) : Int)] 75 :: (Y ++ L)))
  case atStart => exact ⟨0, by rw [bitsAt_zero]; rfl, by go_num, by omega, by omega, by simpa using K⟩
  case round =>
    clear K
    obtain ⟨got, rfl, rfl, hg, hd, K⟩ := hrel
    by_cases hgn : got < n
    · have hg2 : (got : Int) < (n : Int) := by omega
      obtain ⟨a, ha⟩ : ∃ a, p + got = a := ⟨_, rfl⟩
      obtain ⟨q, hq⟩ : ∃ q, a / 8 = q := ⟨_, rfl⟩
      obtain ⟨r, hr⟩ : ∃ r, a % 8 = r := ⟨_, rfl⟩
      obtain ⟨m, hm⟩ : ∃ m, min (8 - r) (n - got) = m := ⟨_, rfl⟩
      obtain ⟨b, off, rfl⟩ := (RdS.own (w0 := w0) (k := .u8) (xs := bs) O (Seg.all Y)).form (K.cov Cov.auto) (by omega)
      have RX := RdS.own (w0 := w0) (k := .u8) (xs := bs) O (Seg.all Y)
      obtain ⟨x, hx⟩ : ∃ x : Nat, bs.getD q 0 = (x : Int) := ⟨(bs.getD q 0).toNat, by
        have := HBY.out (bs.getD q 0) (by simp [List.getD, List.getElem?_eq_getElem (show q < bs.length by omega)])
        omega⟩
      have hx255 : x ≤ 255 := by
        have := HBY.out (bs.getD q 0) (by simp [List.getD, List.getElem?_eq_getElem (show q < bs.length by omega)])
        omega
      have hbyte := byteAt bs HBY.out q r m (by omega)
      rw [hx, Int.toNat_natCast, show 8 * q + r = p + got by omega] at hbyte
      have hjoin := bitsAt_add (ofBytes bs) p got m
      rw [← hbyte] at hjoin
      have hlt := bitsAt_lt (ofBytes bs) p got
      obtain ⟨y, hy⟩ : ∃ y, x / 2 ^ r = y := ⟨_, rfl⟩
      have hy2 : ((x : Int) / 2 ^ r) = (y : Int) := by rw [← hy]; simp
      have hy255 : y < 256 := by rw [← hy]; exact Nat.lt_of_le_of_lt (Nat.div_le_self _ _) (by omega)
      rw [hy] at hjoin
      obtain ⟨v, hv⟩ : ∃ v, bitsAt (ofBytes bs) p got = v := ⟨_, rfl⟩
      rw [hv] at hjoin hlt
      rw [hv]
      have HW := Lib.hid (get_word v y m got hlt (by omega) (by omega) hy255)
      have HJ := Lib.hid hjoin
      have HR8 := Lib.hid hr
      have HQ8 := Lib.hid hq
      have HQN := Lib.hid (show q < bs.length by omega)
      have HBV := Lib.hid hx
      have HA := Lib.hid ha
      have HM := Lib.hid (show 1 ≤ m ∧ m ≤ n - got by omega)
      have hqn : (q : Int) < (bs.length : Int) := by omega
      have hr7 : r ≤ 7 := by omega
      have ha9 : a ≤ 8000000000 := by omega
      have j1 := IntWalk.i64_in (8 - (r : Int)) (by omega)
      have j2 := IntWalk.i64_in ((n : Int) - (got : Int)) (by omega)
      have j3 : min (8 - (r : Int)) ((n : Int) - (got : Int)) = (m : Int) := by omega
      have j4 := IntWalk.i64_in ((got : Int) + (m : Int)) (by omega)
      have j5 := IntWalk.i64_in ((a : Int) + (m : Int)) (by omega)
      have j6 := IntWalk.u64_in (y : Int) (by omega)
      rw [ha] at K
      clear hx hbyte hjoin hlt hy hv hm hr hq ha
      go_upto_region 10 with ((first | ((with_reducible refine at_slot (N := 34) rfl ?_); refine wpList_reads rfl (kr_rem8 (v := r) rfl rfl rfl (by omega) HR8.out) ?_) | ((with_reducible refine at_eqnil rfl ?_); refine wpList_reads rfl (kr_eqnil rfl rfl (by kernel_rfl)) ?_) | ((with_reducible refine at_box rfl ?_); refine wpList_does rfl (kd_box K _ _ rfl (by conv => lhs; whnf)) ?_; clear K; rintro _ w1 ⟨g, rfl, K⟩; (try dsimp only [Value.cells] at K)) | ((with_reducible refine at_alloc rfl ?_); refine wpList_does rfl (kd_alloc K _ rfl rfl) ?_; clear K; rintro _ w1 ⟨g, rfl, K⟩; (try dsimp only [Value.cells] at K)) | ((with_reducible refine at_buildSlice rfl ?_); refine wpList_does rfl (kd_lits (cs := _) K _ _ _ rfl (by first | rfl | (go_simp; done) | (go_simp; rfl)) (by first | rfl | (go_simp; done) | (go_simp; rfl))) ?_; clear K; rintro _ w1 ⟨g, rfl, K⟩) | ((with_reducible refine at_load rfl ?_); first | (refine wpList_reads (by rfl) (kr_load_cell K _ _ (by rfl) (by rfl) Has.auto (by decide +kernel) (by (try simp only [List.getElem?_toArray, List.getElem?_cons_succ, List.getElem?_cons_zero]); exact rfl)) ?_) | (refine wpList_reads (by rfl) (kr_load_row K _ _ (by rfl) (by rfl) Has.auto (by decide +kernel) (by kernel_rfl)) ?_)) | ((with_reducible refine at_store rfl ?_); (first | (refine wpList_does rfl (kd_store_cell K _ _ _ rfl rfl (by conv => lhs; whnf) Repl.auto rfl rfl (by kernel_rfl) (by kernel_rfl) (by first | (simp only [List.setIfInBounds_toArray, List.set_cons_succ, List.set_cons_zero]; rfl) | rfl)) ?_) | (refine wpList_does rfl (kd_store_row K _ _ _ rfl rfl rfl Repl.auto (by kernel_rfl) (by kernel_rfl) (by kernel_rfl)) ?_)); clear K; intro _ w1 K; (try simp only [Act.put]))))
      refine wp_region_GK (X := (row g #[.slice (some ⟨b, off, none⟩) bs.length c, .int .i64 (a : Nat)] 75 :: Y)) K Cov.auto (by kernel_rfl) (by kernel_rfl) (by kernel_rfl) (fun K hHeld => ?_)
      refine wpG_takeA 0 (v := ?_) ?_ hHeld ?_
      rotate_left
      · (intro w hS; (clear hS; go_simp); try with_reducible rfl)
      try simp only [Act.put, List.setIfInBounds_toArray, List.set_cons_zero, List.set_cons_succ]
      refine wpG_takeA 1 (v := ?_) ?_ hHeld ?_
      rotate_left
      · (intro w hS; (clear hS; go_simp); try with_reducible rfl)
      try simp only [Act.put, List.setIfInBounds_toArray, List.set_cons_zero, List.set_cons_succ]
      refine wpG_takeA 2 (v := ?_) ?_ hHeld ?_
      rotate_left
      · (intro w hS; (clear hS; go_simp); try with_reducible rfl)
      try simp only [Act.put, List.setIfInBounds_toArray, List.set_cons_zero, List.set_cons_succ]
      refine wpG_takeA 3 (v := .slice (some ⟨b, off, none⟩) bs.length c) ?_ hHeld ?_
      · (intro w hS; first | exact kr_load_cell hS _ _ (by rfl) (by rfl) Has.auto (by kernel_rfl) (by rfl))
      try simp only [Act.put, List.setIfInBounds_toArray, List.set_cons_zero, List.set_cons_succ]
      refine wpG_takeA 4 (v := ?_) ?_ hHeld ?_
      rotate_left
      · (intro w hS; (clear hS; go_simp); try with_reducible rfl)
      try simp only [Act.put, List.setIfInBounds_toArray, List.set_cons_zero, List.set_cons_succ]
      refine wpG_takeA 5 (v := ?_) ?_ hHeld ?_
      rotate_left
      · (intro w hS; (clear hS; go_simp); try with_reducible rfl)
      try simp only [Act.put, List.setIfInBounds_toArray, List.set_cons_zero, List.set_cons_succ]
      refine wpG_takeA 6 (v := ?_) ?_ hHeld ?_
      rotate_left
      · (intro w hS; (clear hS; go_simp); try with_reducible rfl)
      try simp only [Act.put, List.setIfInBounds_toArray, List.set_cons_zero, List.set_cons_succ]
      refine wpG_takeA 7 (v := .int .i64 (a : Nat)) ?_ hHeld ?_
      · (intro w hS; first | exact kr_load_cell hS _ _ (by rfl) (by rfl) Has.auto (by kernel_rfl) (by rfl))
      try simp only [Act.put, List.setIfInBounds_toArray, List.set_cons_zero, List.set_cons_succ]
      refine wpG_takeA 8 (v := .int .i64 (q : Nat)) ?_ hHeld ?_
      · (intro w hS; first | exact kr_quo8 (u := a) (v := q) (by rfl) (by rfl) (by rfl) (by omega) HQ8.out)
      try simp only [Act.put, List.setIfInBounds_toArray, List.set_cons_zero, List.set_cons_succ]
      refine wpG_takeA 9 (v := ?_) ?_ hHeld ?_
      rotate_left
      · (intro w hS; (clear hS; go_simp); try with_reducible rfl)
      try simp only [Act.put, List.setIfInBounds_toArray, List.set_cons_zero, List.set_cons_succ]
      refine wpG_takeA 10 (v := .int .u8 (x : Nat)) ?_ hHeld ?_
      · (intro w hS; first | exact kr_load_fact _ _ (by rfl) (by rfl) (RX.cell (hS.cov Cov.auto) HQN.out HBV.out (by omega)) (by kernel_rfl))
      try simp only [Act.put, List.setIfInBounds_toArray, List.set_cons_zero, List.set_cons_succ]
      refine wpG_takeA 11 (v := ?_) ?_ hHeld ?_
      rotate_left
      · (intro w hS; (clear hS; go_simp); try with_reducible rfl)
      try simp only [Act.put, List.setIfInBounds_toArray, List.set_cons_zero, List.set_cons_succ]
      refine wpG_takeA 12 (v := .int .u8 ((x : Int) / 2 ^ r)) ?_ hHeld ?_
      · (intro w hS; first | exact kr_shrU r (by rfl) (by rfl) (by rfl) (by omega) (by show _ ≤ _; simp [IntKind.bits]; omega))
      try simp only [Act.put, List.setIfInBounds_toArray, List.set_cons_zero, List.set_cons_succ]
      refine wpG_takeA 13 (v := ?_) ?_ hHeld ?_
      rotate_left
      · (intro w hS; (clear hS; go_simp); try with_reducible rfl)
      try simp only [Act.put, List.setIfInBounds_toArray, List.set_cons_zero, List.set_cons_succ]
      refine wpG_takeA 14 (v := ?_) ?_ hHeld ?_
      rotate_left
      · (intro w hS; (clear hS; go_simp); try with_reducible rfl)
      try simp only [Act.put, List.setIfInBounds_toArray, List.set_cons_zero, List.set_cons_succ]
      refine wpG_takeA 15 (v := ?_) ?_ hHeld ?_
      rotate_left
      · (intro w hS; (clear hS; go_simp); try with_reducible rfl)
      try simp only [Act.put, List.setIfInBounds_toArray, List.set_cons_zero, List.set_cons_succ]
      refine wpG_takeA 16 (v := ?_) ?_ hHeld ?_
      rotate_left
      · (intro w hS; (clear hS; go_simp); try with_reducible rfl)
      try simp only [Act.put, List.setIfInBounds_toArray, List.set_cons_zero, List.set_cons_succ]
      refine wpG_takeA 17 (v := ?_) ?_ hHeld ?_
      rotate_left
      · (intro w hS; (clear hS; go_simp); try with_reducible rfl)
      try simp only [Act.put, List.setIfInBounds_toArray, List.set_cons_zero, List.set_cons_succ]
      refine wpG_takeA 18 (v := ?_) ?_ hHeld ?_
      rotate_left
      · (intro w hS; (clear hS; go_simp); try with_reducible rfl)
      try simp only [Act.put, List.setIfInBounds_toArray, List.set_cons_zero, List.set_cons_succ]
      refine wpG_done (by kernel_rfl) ?_
      skip
      go_wp2_with (first | ((with_reducible refine at_eqnil rfl ?_); refine wpList_reads rfl (kr_eqnil rfl rfl (by kernel_rfl)) ?_) | ((with_reducible refine at_box rfl ?_); refine wpList_does rfl (kd_box K _ _ rfl (by conv => lhs; whnf)) ?_; clear K; rintro _ w1 ⟨g, rfl, K⟩; (try dsimp only [Value.cells] at K)) | ((with_reducible refine at_alloc rfl ?_); refine wpList_does rfl (kd_alloc K _ rfl rfl) ?_; clear K; rintro _ w1 ⟨g, rfl, K⟩; (try dsimp only [Value.cells] at K)) | ((with_reducible refine at_buildSlice rfl ?_); refine wpList_does rfl (kd_lits (cs := _) K _ _ _ rfl (by first | rfl | (go_simp; done) | (go_simp; rfl)) (by first | rfl | (go_simp; done) | (go_simp; rfl))) ?_; clear K; rintro _ w1 ⟨g, rfl, K⟩) | ((with_reducible refine at_load rfl ?_); first | (refine wpList_reads (by rfl) (kr_load_cell K _ _ (by rfl) (by rfl) Has.auto (by decide +kernel) (by (try simp only [List.getElem?_toArray, List.getElem?_cons_succ, List.getElem?_cons_zero]); exact rfl)) ?_) | (refine wpList_reads (by rfl) (kr_load_row K _ _ (by rfl) (by rfl) Has.auto (by decide +kernel) (by kernel_rfl)) ?_)) | ((with_reducible refine at_store rfl ?_); (first | (refine wpList_does rfl (kd_store_cell K _ _ _ rfl rfl (by conv => lhs; whnf) Repl.auto rfl rfl (by kernel_rfl) (by kernel_rfl) (by first | (simp only [List.setIfInBounds_toArray, List.set_cons_succ, List.set_cons_zero]; rfl) | rfl)) ?_) | (refine wpList_does rfl (kd_store_row K _ _ _ rfl rfl rfl Repl.auto (by kernel_rfl) (by kernel_rfl) (by kernel_rfl)) ?_)); clear K; intro _ w1 K; (try simp only [Act.put])))
      have hm := HM.out
      have HK2 := Lib.hid (show ((p + (got + m) : Nat) : Int) = (a : Int) + (m : Int) by have := HA.out; omega)
      go_roundg (gk - m)
      case measure => omega
      case rel => exact ⟨got + m, by rw [HJ.out, ← HW.out], by go_num, by omega, by omega, by rw [HK2.out]; exact K⟩
    · have hg2 : ¬ (got : Int) < (n : Int) := by omega
      obtain rfl : got = n := by omega
      have HV := Lib.hid (show IntKind.u32.wrap ((bitsAt (ofBytes bs) p got : Nat) : Int) = ((bitsAt (ofBytes bs) p got : Nat) : Int) by
        have h1 := bitsAt_lt (ofBytes bs) p got
        have h2 : (2 : Nat) ^ got ≤ 2 ^ 32 := Nat.pow_le_pow_right (by omega) hn32
        rw [IntKind.wrap_u32]
        omega)
      go_wp2
      go_ret2
      exact ⟨congrArg (fun v => Ending.returned (.tuple #[.int .u32 v, .int .i64 0])) HV.out, _, ⟨⟨A, bs.length, c, Y, rfl, O⟩, HBY.out, by omega, by omega⟩, K⟩


set_option maxHeartbeats 800000 in
set_option maxRecDepth 100000 in
theorem rraw_any (K : Known w0 w (X ++ L)) (hR : Rdr g bs p X) (n : Nat) (hn : (p + 7) / 8 + n ≤ bs.length) : Calls Try.prog 54 #[.pointer (some ⟨g, 0, none⟩), .int .i64 (n : Nat)] w fun e w' => ∃ A' c', e = .returned (.tuple #[.slice A' n c', .int .i64 0]) ∧ ∃ Z X', OwnL 5 1 A' n c' (((bs.drop ((p + 7) / 8)).take n).map (Value.int .u8)) Z ∧ Rdr g bs (((p + 7) / 8 + n) * 8) X' ∧ Known w0 w' (Z ++ (X' ++ L)) := by
  have hlen := hR.len
  obtain ⟨q, hq⟩ : ∃ q, (p + 7) / 8 = q := ⟨_, rfl⟩
  obtain ⟨P, hP⟩ : ∃ P, (p + 7) / 8 * 8 = P := ⟨_, rfl⟩
  obtain ⟨lq, hlq⟩ : ∃ lq, (8 * bs.length - P) / 8 = lq := ⟨_, rfl⟩
  rw [hq] at hn hP ⊢
  have HQP := Lib.hid (show (p + 7) / 8 * 8 = P by rw [hq]; exact hP)
  have HLV := Lib.hid (show 8 * (bs.length : Int) - P = ((8 * bs.length - P : Nat) : Int) by omega)
  have HLQ := Lib.hid hlq
  have HQ := Lib.hid (show P / 8 = q by omega)
  have hlqn : (n : Int) ≤ (lq : Int) := by omega
  have hlqd : decide ((lq : Int) < (n : Int)) = false := decide_eq_false (by omega)
  have d1 : decide ((n : Int) < 0) = false := decide_eq_false (by omega)
  have j1 := IntWalk.i64_in (8 * (n : Int)) (by omega)
  have j2 := IntWalk.i64_in ((P : Int) + 8 * (n : Int)) (by omega)
  have hqb : q + n ≤ bs.length := hn
  have hP9 : P ≤ 8000000000 := by omega
  have HE := Lib.hid (show ((P : Int) + 8 * (n : Int)) = (((q + n) * 8 : Nat) : Int) by omega)
  have HP := Lib.hid hP
  clear hq hlq hP hn
  go_enter Try.func54, Try.ntmps54
  go_upto_region 6 with ((first | (go_at_call 39; (with_reducible refine (ralign_any K hR).mono ?_); clear K; rintro e w1 ⟨rfl, X1, hR1, K⟩; rw [HQP.out] at hR1) | (go_at_call 27; (with_reducible refine (rleft_any K hR1 _ HLV.out).mono ?_); clear K; rintro e w1 ⟨rfl, K⟩) | ((with_reducible refine at_slot (N := 20) rfl ?_); refine wpList_reads rfl (kr_quo8 (u := 8 * bs.length - P) (v := lq) rfl rfl rfl (by omega) HLQ.out) ?_)))
  obtain ⟨A, n1, c, Y, rfl, O⟩ := hR1.out
  obtain rfl : bs.length = n1 := by have := O.len; simpa using this
  have HBY := Lib.hid hR1.byte
  rw [List.cons_append] at K
  have hle := O.le
  have hcap := O.cap
  have RC : RdS w0 Y .u8 (cutA (cutA A c q) (c - q) 0) n ((bs.drop q).take n) := by
    have R1 := (RdS.own (w0 := w0) (k := .u8) (xs := bs) O (Seg.all Y)).cut q (bs.length - q) (by omega) hle
    have R2 := R1.cut (c := c - q) 0 n (by omega) (by omega)
    rwa [List.drop_zero, List.take_take, show min n (bs.length - q) = n by omega] at R2
  refine wp_region_GK (X := [row g #[.slice A bs.length c, .int .i64 (P : Nat)] 75]) K Cov.auto (by kernel_rfl) (by kernel_rfl) (by kernel_rfl) (fun K hHeld => ?_)
  refine wpG_takeA 0 (v := ?_) ?_ hHeld ?_
  rotate_left
  · (intro w hS; (clear hS; go_simp); try with_reducible rfl)
  try simp only [Act.put, List.setIfInBounds_toArray, List.set_cons_zero, List.set_cons_succ]
  refine wpG_takeA 1 (v := ?_) ?_ hHeld ?_
  rotate_left
  · (intro w hS; (clear hS; go_simp); try with_reducible rfl)
  try simp only [Act.put, List.setIfInBounds_toArray, List.set_cons_zero, List.set_cons_succ]
  refine wpG_takeA 2 (v := ?_) ?_ hHeld ?_
  rotate_left
  · (intro w hS; (clear hS; go_simp); try with_reducible rfl)
  try simp only [Act.put, List.setIfInBounds_toArray, List.set_cons_zero, List.set_cons_succ]
  refine wpG_takeA 3 (v := .slice A bs.length c) ?_ hHeld ?_
  · (intro w hS; first | exact kr_load_cell hS _ _ (by rfl) (by rfl) Has.auto (by kernel_rfl) (by rfl))
  try simp only [Act.put, List.setIfInBounds_toArray, List.set_cons_zero, List.set_cons_succ]
  refine wpG_takeA 4 (v := ?_) ?_ hHeld ?_
  rotate_left
  · (intro w hS; (clear hS; go_simp); try with_reducible rfl)
  try simp only [Act.put, List.setIfInBounds_toArray, List.set_cons_zero, List.set_cons_succ]
  refine wpG_takeA 5 (v := ?_) ?_ hHeld ?_
  rotate_left
  · (intro w hS; (clear hS; go_simp); try with_reducible rfl)
  try simp only [Act.put, List.setIfInBounds_toArray, List.set_cons_zero, List.set_cons_succ]
  refine wpG_takeA 6 (v := ?_) ?_ hHeld ?_
  rotate_left
  · (intro w hS; (clear hS; go_simp); try with_reducible rfl)
  try simp only [Act.put, List.setIfInBounds_toArray, List.set_cons_zero, List.set_cons_succ]
  refine wpG_takeA 7 (v := .int .i64 (P : Nat)) ?_ hHeld ?_
  · (intro w hS; first | exact kr_load_cell hS _ _ (by rfl) (by rfl) Has.auto (by kernel_rfl) (by rfl))
  try simp only [Act.put, List.setIfInBounds_toArray, List.set_cons_zero, List.set_cons_succ]
  refine wpG_takeA 8 (v := .int .i64 (q : Nat)) ?_ hHeld ?_
  · (intro w hS; first | exact kr_quo8 (u := P) (v := q) (by rfl) (by rfl) (by rfl) (by omega) HQ.out)
  try simp only [Act.put, List.setIfInBounds_toArray, List.set_cons_zero, List.set_cons_succ]
  refine wpG_takeA 9 (v := .slice (cutA (A) (c) (q)) (bs.length - q) (c - (q))) ?_ hHeld ?_
  · (intro w hS; first | exact kr_cut (by rfl) (by rfl) (q) (bs.length - q) (.inr ⟨_, _, by rfl, by rfl, by omega⟩) (.inl ⟨by rfl, by omega⟩) (by omega) (by omega) Try.underlying22 (by kernel_rfl))
  try simp only [Act.put, List.setIfInBounds_toArray, List.set_cons_zero, List.set_cons_succ]
  refine wpG_takeA 10 (v := ?_) ?_ hHeld ?_
  rotate_left
  · (intro w hS; (clear hS; go_simp); try with_reducible rfl)
  try simp only [Act.put, List.setIfInBounds_toArray, List.set_cons_zero, List.set_cons_succ]
  refine wpG_takeA 11 (v := .slice (cutA ((cutA A c q)) ((c - q)) (0)) (n) ((c - q) - (0))) ?_ hHeld ?_
  · (intro w hS; first | exact kr_cut (by rfl) (by rfl) (0) (n) (.inl ⟨by rfl, by omega⟩) (.inr ⟨_, _, by rfl, by rfl, by omega⟩) (by omega) (by omega) Try.underlying22 (by kernel_rfl))
  try simp only [Act.put, List.setIfInBounds_toArray, List.set_cons_zero, List.set_cons_succ]
  refine wpG_oneA 12 (fun K9 hK => ?_)
  go_simp
  (go_at_call 29; (with_reducible refine (clone_any K (RC.cov Cov.auto) (by omega)).mono ?_); clear K; rintro e w1 ⟨A1, c1, X1, rfl, O1, K⟩)
  refine hK.out _ _ (K.cov Cov.auto) (fun hHeld => ?_)
  clear hK K9
  try simp only [Act.put, List.setIfInBounds_toArray, List.set_cons_zero, List.set_cons_succ]
  refine wpG_takeA 13 (v := ?_) ?_ hHeld ?_
  rotate_left
  · (intro w hS; (clear hS; go_simp); try with_reducible rfl)
  try simp only [Act.put, List.setIfInBounds_toArray, List.set_cons_zero, List.set_cons_succ]
  refine wpG_done (by kernel_rfl) ?_
  skip
  go_wp2_with (first | ((with_reducible refine at_eqnil rfl ?_); refine wpList_reads rfl (kr_eqnil rfl rfl (by kernel_rfl)) ?_) | ((with_reducible refine at_box rfl ?_); refine wpList_does rfl (kd_box K _ _ rfl (by conv => lhs; whnf)) ?_; clear K; rintro _ w1 ⟨g, rfl, K⟩; (try dsimp only [Value.cells] at K)) | ((with_reducible refine at_alloc rfl ?_); refine wpList_does rfl (kd_alloc K _ rfl rfl) ?_; clear K; rintro _ w1 ⟨g, rfl, K⟩; (try dsimp only [Value.cells] at K)) | ((with_reducible refine at_buildSlice rfl ?_); refine wpList_does rfl (kd_lits (cs := _) K _ _ _ rfl (by first | rfl | (go_simp; done) | (go_simp; rfl)) (by first | rfl | (go_simp; done) | (go_simp; rfl))) ?_; clear K; rintro _ w1 ⟨g, rfl, K⟩) | ((with_reducible refine at_load rfl ?_); first | (refine wpList_reads (by rfl) (kr_load_cell K _ _ (by rfl) (by rfl) Has.auto (by decide +kernel) (by (try simp only [List.getElem?_toArray, List.getElem?_cons_succ, List.getElem?_cons_zero]); exact rfl)) ?_) | (refine wpList_reads (by rfl) (kr_load_row K _ _ (by rfl) (by rfl) Has.auto (by decide +kernel) (by kernel_rfl)) ?_)) | ((with_reducible refine at_store rfl ?_); (first | (refine wpList_does rfl (kd_store_cell K _ _ _ rfl rfl (by conv => lhs; whnf) Repl.auto rfl rfl (by kernel_rfl) (by kernel_rfl) (by first | (simp only [List.setIfInBounds_toArray, List.set_cons_succ, List.set_cons_zero]; rfl) | rfl)) ?_) | (refine wpList_does rfl (kd_store_row K _ _ _ rfl rfl rfl Repl.auto (by kernel_rfl) (by kernel_rfl) (by kernel_rfl)) ?_)); clear K; intro _ w1 K; (try simp only [Act.put])))
  rw [HE.out] at K
  go_ret2
  exact ⟨A1, c1, rfl, X1, _, O1, ⟨⟨A, bs.length, c, Y, rfl, O⟩, HBY.out, by omega, by omega⟩, K⟩
end
end Go.Proofs.Ytemnahimheffgaa
