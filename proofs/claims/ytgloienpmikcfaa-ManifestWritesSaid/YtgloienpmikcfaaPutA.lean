/-
  A manifest's bytes; arrays of digests: literals, elements.
-/
import Derived.Test.YtgloienpmikcfaaROct
import Derived.Test.YtgloienpmikcfaaManE
set_option linter.unusedVariables false
set_option linter.unusedSimpArgs false
namespace Go.Proofs.Ytgloienpmikcfaa
open Go.RowKit

section
variable {P : Program} {ops : Array Oper} {rest : List Oper} {o : Oper} {a : Act} {Q : Exit → Act → World → Prop} {W : World}
theorem at_index {t : TypeId} {x y : Operand} (_h : o.op = .index t x y) (h : wpList P ops Q (o :: rest) a W) : wpList P ops Q (o :: rest) a W := h
/-- An element of an array's value. -/
theorem ev_index (hgd : Region.wanted o (yielded ops a.tmps) = true) (T : TypeId) {x y : Operand} (ho : o.op = .index T x y) {X : Array Value} {i : Int} (hx : a.eval x = .agg X) (hy : a.eval y = .int .i64 i) {v : Value} (hr : (Instr.index T (.agg X) (.int .i64 i)).run P W = .ok v W)
    (h : wpList P ops Q rest (a.put o.dst v) W) : wpList P ops Q (o :: rest) a W :=
  ev_wanted hgd fun K hK => by
    unfold Oper.wp execOp
    simp only [ho, hx, hy, hr, Sem.run_bind, Result.andThen_ok]
    exact hK _ _ h
end

theorem u8s_one (xs : List Int) : (u8s xs).all (·.oneCell') = true := by simp [u8s, Value.oneCell']

theorem set_run : ∀ (l : List Value) (k off : Nat) (cs : Array Value), off + k + l.length ≤ cs.size →
    ((l.zipIdx k).foldl (fun cs (x : Value × Nat) => cs.setIfInBounds (off + x.2) x.1) cs).toList = cs.toList.take (off + k) ++ (l ++ cs.toList.drop (off + k + l.length))
  | [], k, off, cs, h => by simp
  | v :: l, k, off, cs, h => by
    rw [List.zipIdx_cons, List.foldl_cons, set_run l (k + 1) off _ (by simp at h ⊢; omega)]
    simp only [List.length_cons] at h ⊢
    have hlt : off + k < cs.toList.length := by simp; omega
    simp only [Array.toList_setIfInBounds]
    rw [show off + (k + 1) = off + k + 1 by omega, List.take_succ_eq_append_getElem (by simpa using hlt), List.take_set_of_le (Nat.le_refl _), List.getElem_set_self, List.drop_set_of_lt (by omega)]
    simp [Nat.add_assoc, Nat.add_comm 1]

theorem fill_one (place : Nat → Option (Nat × Nat)) {cells cells' : Array Value} {i : Nat} {v : Value} {rest : List (Nat × Value)} {off size : Nat} (hp : place i = some (off, size)) (hs : v.cells.size = size) (hle : off + size ≤ cells.size)
    (hf : v.cells.zipIdx.foldl (fun cs (x : Value × Nat) => cs.setIfInBounds (off + x.2) x.1) cells = cells') : Instr.fill place cells ((i, v) :: rest) = Instr.fill place cells' rest := by
  rw [Instr.fill, hp]
  simp only [hs]
  rw [if_neg (by simp; omega)]
  exact congrArg (fun x => Instr.fill place x rest) hf

theorem fill_digs (a b c : List Int) (ha : a.length = 32) (hb : b.length = 32) (hc : c.length = 32) :
    Instr.fill (fun i => some (i * 32, 32)) (u8s (List.replicate 96 0)) [(0, .agg (u8s a)), (1, .agg (u8s b)), (2, .agg (u8s c))] = some (u8s (a ++ (b ++ c))) := by
  have key : ∀ (off : Nat) (x : List Int) (l : List Int), x.length = 32 → off + 32 ≤ l.length → ((u8s x).zipIdx.foldl (fun cs (y : Value × Nat) => cs.setIfInBounds (off + y.2) y.1) (u8s l)) = u8s (l.take off ++ (x ++ l.drop (off + 32))) := by
    intro off x l hx hl
    apply Array.toList_inj.1
    rw [← Array.foldl_toList]
    have h := set_run (x.map (Value.int .u8)) 0 off (u8s l) (by simp [hx, u8s_size]; omega)
    simp only [Nat.add_zero, List.length_map, hx] at h
    have e : (u8s x).zipIdx.toList = (x.map (Value.int .u8)).zipIdx := by simp [u8s]
    rw [e, h]
    simp [u8s, List.map_take, List.map_drop]
  have k0 := key 0 a (List.replicate 96 0) ha (by simp)
  have k1 := key 32 b (a ++ List.replicate 64 0) hb (by simp [ha])
  have k2 := key 64 c (a ++ (b ++ List.replicate 32 0)) hc (by simp [ha, hb])
  simp only [List.take_zero, List.nil_append, Nat.zero_add] at k0
  have e0 : (List.replicate 96 (0 : Int)).drop 32 = List.replicate 64 0 := by simp
  have e1 : (a ++ List.replicate 64 (0 : Int)).take 32 ++ (b ++ (a ++ List.replicate 64 (0 : Int)).drop (32 + 32)) = a ++ (b ++ List.replicate 32 0) := by
    simp [List.take_append, List.drop_append, ha, List.take_of_length_le, List.drop_eq_nil_of_le]
  have e2 : (a ++ (b ++ List.replicate 32 (0 : Int))).take 64 ++ (c ++ (a ++ (b ++ List.replicate 32 (0 : Int))).drop (64 + 32)) = a ++ (b ++ c) := by
    simp [List.take_append, List.drop_append, ha, hb, List.take_of_length_le, List.drop_eq_nil_of_le]
  rw [e0] at k0
  rw [e1] at k1
  rw [e2] at k2
  have z : (u8s (List.replicate 96 0)).size = 96 := by rw [u8s_size, List.length_replicate]
  have z1 : (u8s (a ++ List.replicate 64 0)).size = 96 := by rw [u8s_size, List.length_append, List.length_replicate, ha]
  have z2 : (u8s (a ++ (b ++ List.replicate 32 0))).size = 96 := by rw [u8s_size, List.length_append, List.length_append, List.length_replicate, ha, hb]
  rw [fill_one _ (off := 0) (size := 32) rfl (by simp only [Value.cells, u8s_size, ha]) (by rw [z]; decide) (by simpa only [Value.cells, Nat.zero_add] using k0)]
  rw [fill_one _ (off := 32) (size := 32) rfl (by simp only [Value.cells, u8s_size, hb]) (by rw [z1]; decide) k1]
  rw [fill_one _ (off := 64) (size := 32) rfl (by simp only [Value.cells, u8s_size, hc]) (by rw [z2]; decide) k2]
  rfl

set_option maxRecDepth 100000 in
theorem build_digs (w : World) (a b c : List Int) (ha : a.length = 32) (hb : b.length = 32) (hc : c.length = 32) :
    (Instr.build 82 #[(0, .agg (u8s a)), (1, .agg (u8s b)), (2, .agg (u8s c))]).run Try.prog w = .ok (.agg (u8s (a ++ (b ++ c)))) w := by
  have hz : (zeroValue 82).run Try.prog w = .ok (.agg (u8s (List.replicate 96 0))) w := by kernel_rfl
  have hs : (sizeOf 38).run Try.prog w = .ok 32 w := by kernel_rfl
  unfold Instr.build
  simp only [Sem.run_bind, hz, Result.andThen_ok, run_underlying Try.underlying82, hs]
  have h := fill_digs a b c ha hb hc
  simp only [Value.cells] at h ⊢
  rw [h]
  simp

set_option maxRecDepth 100000 in
theorem index_digs (w : World) (D : List Int) (hD : D.length = 96) (i : Nat) (hi : i < 3) :
    (Instr.index 82 (.agg (u8s D)) (.int .i64 i)).run Try.prog w = .ok (.agg (u8s ((D.drop (32 * i)).take 32))) w := by
  have hs : (sizeOf 38).run Try.prog w = .ok 32 w := by kernel_rfl
  have hg : (isAgg 38).run Try.prog w = .ok true w := by kernel_rfl
  unfold Instr.index
  simp only [Sem.run_bind, Result.andThen_ok, run_underlying Try.underlying82, hs, asIntOf, Sem.run_pure]
  have h3 : (0 : Int) ≤ i ∧ (i : Int) < (3 : Nat) := by omega
  rw [if_pos h3]
  simp only [part, Sem.run_bind, Result.andThen_ok, hg, if_true, hs, Sem.run_pure, Int.toNat_natCast]
  congr 2
  apply Array.toList_inj.1
  simp [u8s, Array.toList_extract, List.extract, List.map_take, List.map_drop, Nat.mul_comm]
end Go.Proofs.Ytgloienpmikcfaa
