/-
  Maps keyed by integers, over what is known: ranged over, cleared. Over any program.
-/
import Derived.Test.YtffednkdmkohdaaMap
import Derived.Maps.RangeRun
set_option linter.unusedVariables false
set_option linter.unusedSimpArgs false
namespace Go.Proofs.Ytffednkdmkohdaa
open Go.RowKit
/-- a range's block -/
abbrev irow (r g since : Nat) (seen : Array Nat) (c : Nat) : Ent := (r, .mapIter (some g) since seen c)
section
variable {P : Program} {w0 W : World} {L L' : List Ent} {o : Oper} {a : Act} {f : ME → List Ent}
theorem kd_range (K : Known w0 W L) {T kt et : TypeId} {m : Operand} (ho : o.op = .range T m) {g c : Nat} {l : List ME} (hm : a.eval m = .map (some g)) (hb : Has (mrow g l c) L) (hT : P.underlying T = some (.map kt et)) :
    Does P o a W fun v w1 => ∃ r, v = .pointer (some ⟨r, 0, none⟩) ∧ Known w0 w1 (irow r g c #[] c :: L) := by
  have h := run_range_map (P := P) W T kt et g (mes l) c hT (K.get hb)
  refine Does.val (v := .pointer (some ⟨W.heap.size, 0, none⟩)) (w1 := W.alloc (.mapIter (some g) c #[] c)) ?_ ⟨W.heap.size, rfl, K.new _⟩
  unfold execOp
  simp only [ho, hm, h, Sem.run_bind, Result.andThen_ok, Sem.run_pure]
theorem kd_clear (K : Known w0 W L) {T kt et : TypeId} {m : Operand} (ho : o.op = .call { callee := .builtin .clear, args := #[m], argTypes := #[T] }) {g c : Nat} {l : List ME} (hm : a.eval m = .map (some g)) (hr : Repl (mrow g l c) (mrow g [] c) L L') (hT : P.underlying T = some (.map kt et)) :
    Does P o a W fun _ w1 => Known w0 w1 L' := by
  have hb := K.get hr.has
  have hlt : g < W.heap.size := (Array.getElem?_eq_some_iff.1 hb).1
  have hp : Put W { W with heap := W.heap.setIfInBounds g (.map #[] c) } g := put_setObj W g _
  have K2 := K.put (o' := .map #[] c) hr hp (by simp [Array.getElem?_setIfInBounds, hlt])
  have hrun : (Builtin.clear_ #[T] o.type #[.map (some g)]).run P W = .ok (.tuple #[]) { W with heap := W.heap.setIfInBounds g (.map #[] c) } := by
    have hset : (setObj g (.map #[] c)).run P W = .ok () { W with heap := W.heap.setIfInBounds g (.map #[] c) } := by simp [setObj, Sem.run, hb]
    simp [Builtin.clear_, run_underlying hT, Sem.run_bind, MapKept.run_getObj_map hb, hset]
  refine Does.val (v := .tuple #[]) (w1 := { W with heap := W.heap.setIfInBounds g (.map #[] c) }) ?_ K2
  simp only [execOp, ho, resolve, invoke, builtin, List.map_toArray, List.map_cons, List.map_nil, hm, hrun, Sem.run_bind, Sem.run_pure, Result.andThen_ok]
theorem kr_entry (K : Known w0 W L) {it : Operand} (ho : o.op = .entry it) {r g c since : Nat} {seen : Array Nat} {l : List ME} {e : ME} (hi : a.eval it = .pointer (some ⟨r, 0, none⟩)) (hr : Has (irow r g since (seen.push e.b) c) L) (hb : Has (mrow g l c) L) (he : e ∈ l) (hn : (l.map ME.b).Nodup) :
    (execOp a.eval o).run P W = .ok (.value (.tuple #[.int .i64 e.k, e.v])) W := by
  have h := run_entry_at (P := P) W r g since seen (mes l) c e.ent (K.get hr) (K.get hb) (by simp only [mes]; exact List.mem_map_of_mem he) (by simp only [mes, List.map_map]; exact hn)
  unfold execOp
  simp only [ho, hi, h, Sem.run_bind, Result.andThen_ok, Sem.run_pure]
  rfl
/-- the next entry: none is left, or one of those left, whichever -/
theorem kd_next (K : Known w0 W L) {it : Operand} (ho : o.op = .next it false) {r g c since c0 : Nat} {seen : Array Nat} {l : List ME} (hi : a.eval it = .pointer (some ⟨r, 0, none⟩)) (hb : Has (mrow g l c) L) (hr : Has (irow r g since seen c0) L) (hold : ∀ e ∈ l, e.b < since) (hsc : since ≤ c0)
    (hrep : ∀ e : ME, Repl (irow r g since seen c0) (irow r g since (seen.push e.b) c) L (f e)) :
    Does P o a W fun v w1 => ((∀ e ∈ l, e.b ∈ seen) ∧ v = .tuple #[.bool false] ∧ Known w0 w1 L) ∨ (∃ e ∈ l, e.b ∉ seen ∧ v = .tuple #[.bool true, .int .i64 e.k, e.v] ∧ Known w0 w1 (f e)) := by
  have h := run_next_at (P := P) W o.type r g since c0 seen (mes l) c (K.get hr) (K.get hb) (fun x hx => by
    simp only [mes] at hx
    obtain ⟨e, he, rfl⟩ := List.mem_map.1 hx
    exact hold e he) hsc
  have hx : ∀ e : ME, e.ent ∈ (leftOf (mes l) seen).toList ↔ (e.ent ∈ l.map ME.ent ∧ e.b ∉ seen) := fun e => by
    simp [leftOf, mes, ME.ent]
  rcases h with ⟨h0, hrun⟩ | ⟨e', he', w1, hw, hrun⟩
  · refine Does.val (v := .tuple #[.bool false]) (w1 := W) ?_ (.inl ⟨fun e he => ?_, rfl, K⟩)
    · unfold execOp
      simp only [ho, hi, hrun, Sem.run_bind, Result.andThen_ok, Sem.run_pure]
    · by_cases hs : e.b ∈ seen
      · exact hs
      · have := (hx e).2 ⟨List.mem_map_of_mem he, hs⟩
        rw [Array.eq_empty_of_size_eq_zero h0] at this
        simp at this
  · have hm : e' ∈ l.map ME.ent := by
      have : e' ∈ (mes l).toList := by
        unfold leftOf at he'
        simp at he'
        simpa using he'.1
      simpa only [mes] using this
    obtain ⟨e, he, rfl⟩ := List.mem_map.1 hm
    have hns := ((hx e).1 he').2
    have K1 : Known w0 w1 L := by rcases hw with rfl | rfl; exact K; exact K.drew
    have hlt : r < w1.heap.size := (Array.getElem?_eq_some_iff.1 (K1.get hr)).1
    have hp : Put w1 (ChangeMaps.setBlock w1 r (.mapIter (some g) since (seen.push e.b) c)) r := put_setObj w1 r _
    have K2 := K1.put (o' := .mapIter (some g) since (seen.push e.b) c) (hrep e) hp (by simp [ChangeMaps.setBlock, Array.getElem?_setIfInBounds, hlt])
    refine Does.val (v := .tuple #[.bool true, .int .i64 e.k, e.v]) (w1 := ChangeMaps.setBlock w1 r (.mapIter (some g) since (seen.push e.b) c)) ?_ (.inr ⟨e, he, hns, rfl, K2⟩)
    unfold execOp
    simp only [ho, hi, hrun, Sem.run_bind, Result.andThen_ok, Sem.run_pure]
    rfl
end
end Go.Proofs.Ytffednkdmkohdaa
