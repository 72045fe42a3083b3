/-
  The bytes of a string, in a new row. Over any program.
-/
import Derived.Test.YtfdddipmeadecaaR
import Derived.Laws.IdiomStrings
set_option linter.unusedVariables false
set_option linter.unusedSimpArgs false
namespace Go.Proofs.Ytfdddipmeadecaa
open Go.RowKit
theorem strCells {xs : List Int} (hb : ∀ v ∈ xs, 0 ≤ v ∧ v ≤ 255) : ((strOfNums xs).data.map (fun b => Value.int .u8 b.toNat)).toList = xs.map (Value.int .u8) := by
  rw [Array.toList_map, strOfNums_data, List.map_map]
  refine List.map_congr_left fun v hv => ?_
  have h := hb v hv
  simp only [Function.comp]
  congr 1
  simp
  omega
theorem bytesRow_take {xs : List Int} (hb : ∀ v ∈ xs, 0 ≤ v ∧ v ≤ 255) (cap : Nat) : (bytesRow (strOfNums xs) cap).toList.take xs.length = xs.map (Value.int .u8) := by
  unfold bytesRow
  rw [Array.toList_append, strCells hb, List.take_append_of_le_length (by simp)]
  rw [List.take_of_length_le (by simp)]
theorem bytesRow_size (xs : List Int) {cap : Nat} (h : xs.length ≤ cap) : (bytesRow (strOfNums xs) cap).size = cap := by
  unfold bytesRow
  rw [Array.size_append, Array.size_map, Array.size_replicate, strOfNums_size]
  show (strOfNums xs).size + _ = _
  rw [strOfNums_size]
  omega
section
variable {P : Program} {o : Oper} {a : Act} {W w0 : World} {L : List Ent}
/-- the row that []byte(s) lays -/
abbrev srow (g : Nat) (cs : Array Value) (t : TypeId) : Ent := (g, .cells cs t (cs.size, cs.size + 1))
theorem kd_ofString (K : Known w0 W L) {T u e : TypeId} {x : Operand} (ho : o.op = .convert T u x) {xs : List Int} (hx : a.eval x = .string (strOfNums xs)) (hb : ∀ v ∈ xs, 0 ≤ v ∧ v ≤ 255) (hs : P.underlying T = some .string) (hd : P.underlying u = some (.slice e)) (he : P.underlying e = some (.int .u8)) (hm : xs.length ≤ maxLen) :
    Does P o a W fun v w1 => ∃ g c cs, v = .slice (some ⟨g, 0, none⟩) xs.length c ∧ xs.length ≤ c ∧ c ≤ maxLen ∧ RdS w0 [srow g cs e] .u8 (some ⟨g, 0, none⟩) xs.length xs ∧ Known w0 w1 (srow g cs e :: L) := by
  have hc := grownCap_ge W (strOfNums xs).size 0 e
  have hc2 := grownCap_le_maxLen W (strOfNums xs).size 0 e (by rw [strOfNums_size]; exact hm)
  have hr := run_bytes_of_string (P := P) W T u e (strOfNums xs) hs hd he
  rw [strOfNums_size] at hc hc2 hr
  refine Does.val (v := .slice (some ⟨W.heap.size, 0, none⟩) xs.length (grownCap W xs.length 0 e)) (w1 := W.drew.alloc (.cells (bytesRow (strOfNums xs) (grownCap W xs.length 0 e)) e ((bytesRow (strOfNums xs) (grownCap W xs.length 0 e)).size, (bytesRow (strOfNums xs) (grownCap W xs.length 0 e)).size + 1))) ?_ ⟨W.heap.size, grownCap W xs.length 0 e, bytesRow (strOfNums xs) (grownCap W xs.length 0 e), rfl, hc, hc2, ?_, K.drew.new _⟩
  · unfold execOp
    simp only [ho, hx, hr, Sem.run_bind, Result.andThen_ok, Sem.run_pure]
  · exact Has.objRd (k := .u8) (Has.hd _ _) rfl (by rw [List.drop_zero]; exact bytesRow_take hb _)
end
end Go.Proofs.Ytfdddipmeadecaa
