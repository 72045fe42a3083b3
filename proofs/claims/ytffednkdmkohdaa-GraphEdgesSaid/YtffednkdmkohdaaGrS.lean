/-
  slices.DeleteFunc where one number goes: the plain part; parts of an own slice.
-/
import Derived.Test.YtffednkdmkohdaaGrR
set_option linter.unusedVariables false
set_option linter.unusedSimpArgs false
namespace Go.Proofs.Ytffednkdmkohdaa
open Go.RowKit
/-- the numbers while those behind place i0 move up: i of them are in place -/
def shiftL (xs : List Int) (i0 i : Nat) : List Int := (xs.eraseIdx i0).take i ++ xs.drop i
theorem erase_len {xs : List Int} {i0 : Nat} (h : i0 < xs.length) : (xs.eraseIdx i0).length = xs.length - 1 := by
  rw [List.length_eraseIdx, if_pos h]
theorem shift_start {xs : List Int} {i0 : Nat} (h : i0 < xs.length) : shiftL xs i0 i0 = xs := by
  apply List.ext_getElem?
  intro q
  unfold shiftL
  have := erase_len h
  by_cases hq : q < i0
  · rw [List.getElem?_append_left (by rw [List.length_take]; omega), List.getElem?_take, if_pos hq, List.getElem?_eraseIdx, if_pos hq]
  · rw [List.getElem?_append_right (by rw [List.length_take]; omega), List.length_take, List.getElem?_drop]
    congr 1
    omega
theorem shift_get {xs : List Int} {i0 i q : Nat} (h : i0 < xs.length) (hi : i < xs.length) (hq : i ≤ q) : (shiftL xs i0 i)[q]? = xs[q]? := by
  unfold shiftL
  have := erase_len h
  rw [List.getElem?_append_right (by rw [List.length_take]; omega), List.length_take, List.getElem?_drop]
  congr 1
  omega
theorem shift_len {xs : List Int} {i0 i : Nat} (h : i0 < xs.length) (hi : i < xs.length) : (shiftL xs i0 i).length = xs.length := by
  unfold shiftL
  have := erase_len h
  rw [List.length_append, List.length_take, List.length_drop]
  omega
theorem shift_step {xs : List Int} {i0 i : Nat} (h : i0 ≤ i) (hi : i + 1 < xs.length) : (shiftL xs i0 i).set i (xs.getD (i + 1) 0) = shiftL xs i0 (i + 1) := by
  have he := erase_len (xs := xs) (i0 := i0) (by omega)
  apply List.ext_getElem?
  intro q
  rw [List.getElem?_set, shift_len (by omega) (by omega)]
  by_cases hq : i = q
  · subst hq
    rw [if_pos rfl, if_pos (by omega)]
    unfold shiftL
    rw [List.getElem?_append_left (by rw [List.length_take]; omega), List.getElem?_take, if_pos (by omega), List.getElem?_eraseIdx, if_neg (by omega)]
    simp [List.getD, hi]
  · rw [if_neg hq]
    by_cases hl : q < i
    · unfold shiftL
      rw [List.getElem?_append_left (by rw [List.length_take]; omega), List.getElem?_append_left (by rw [List.length_take]; omega), List.getElem?_take, if_pos hl, List.getElem?_take, if_pos (by omega)]
    · rw [shift_get (by omega) (by omega) (by omega), shift_get (by omega) (by omega) (by omega)]
theorem shift_end {xs : List Int} {i0 m : Nat} (h : i0 < xs.length) (hm : m + 1 = xs.length) : (shiftL xs i0 m).take m = xs.eraseIdx i0 := by
  have he := erase_len h
  unfold shiftL
  rw [List.take_append_of_le_length (by rw [List.length_take]; omega), List.take_take, Nat.min_self, List.take_of_length_le (by omega)]
section
variable {P : Program} {w0 W : World} {L : List Ent} {o : Oper} {a : Act}
theorem kr_last {T e : TypeId} {x y : Operand} (ho : o.op = .slice T x (some y) none none) {g n c m : Nat} (hx : a.eval x = .slice (some ⟨g, 0, none⟩) n c) (hy : a.eval y = .int .i64 m) (h : m + 1 = n) (hc : n ≤ c) (hT : P.underlying T = some (.slice e)) (hs : sizeIs P e 1 = true) :
    (execOp a.eval o).run P W = .ok (.value (.slice (some ⟨g, m, none⟩) 1 (c - m))) W := by
  unfold execOp
  have h1 := run_sliceAt (W := W) (A := some ⟨g, 0, none⟩) (n := n) (c := c) (i := m) (j := n) hT hs (some (a.eval y)) none (.inr (by rw [hy])) (.inl ⟨rfl, rfl⟩) (by omega) (by omega) hc
  rw [if_neg (by omega), show n - m = 1 by omega] at h1
  simp only [ho, hx, Option.map_none, Option.map_some, h1, Sem.run_bind, Result.andThen_ok, Sem.run_pure]
  simp [Addr.add]
  try omega
theorem kr_init {T e : TypeId} {x y : Operand} (ho : o.op = .slice T x none (some y) none) {g n c m : Nat} (hx : a.eval x = .slice (some ⟨g, 0, none⟩) n c) (hy : a.eval y = .int .i64 m) (h : m ≤ n) (hc : n ≤ c) (hT : P.underlying T = some (.slice e)) (hs : sizeIs P e 1 = true) :
    (execOp a.eval o).run P W = .ok (.value (.slice (some ⟨g, 0, none⟩) m c)) W := by
  unfold execOp
  have h1 := run_sliceAt (W := W) (A := some ⟨g, 0, none⟩) (n := n) (c := c) (i := 0) (j := m) hT hs none (some (a.eval y)) (.inl ⟨rfl, rfl⟩) (.inr (by rw [hy])) (by omega) (by omega) hc
  simp only [ho, hx, Option.map_none, Option.map_some, h1, Sem.run_bind, Result.andThen_ok, Sem.run_pure]
  split <;> simp [Addr.add]
end
end Go.Proofs.Ytffednkdmkohdaa
