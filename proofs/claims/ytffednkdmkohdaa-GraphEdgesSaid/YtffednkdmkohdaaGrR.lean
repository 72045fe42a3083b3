/-
  clear, over one number of a block. Over any program.
-/
import Derived.Test.YtffednkdmkohdaaGrQ
set_option linter.unusedVariables false
set_option linter.unusedSimpArgs false
namespace Go.Proofs.Ytffednkdmkohdaa
open Go.RowKit
section
variable {P : Program} {w0 W : World} {L L' : List Ent} {o : Oper} {a : Act}
theorem kd_clear1 (K : Known w0 W L) {T e : TypeId} {m : Operand} (ho : o.op = .call { callee := .builtin .clear, args := #[m], argTypes := #[T] }) {g i c : Nat} {t : TypeId} {old : Array Value} {z : Value} (hm : a.eval m = .slice (some ⟨g, i, none⟩) 1 c) (hu : P.underlying T = some (.slice e)) (hz : ∀ w, (zeroValue e).run P w = .ok z w) (h1 : z.oneCell' = true) (hc : z.cells = #[z]) (hr : Repl (row g old t) (row g (old.setIfInBounds i z) t) L L') (hin : i < old.size) :
    Does P o a W fun _ w1 => Known w0 w1 L' := by
  have hb := K.blk hr.has
  have hcell : W.cell? ⟨g, i, none⟩ = some old[i] := (hb.cell i).trans (by simp [hin])
  have hst : (store ⟨g, i, none⟩ z).run P W = .ok () (W.setCell ⟨g, i, none⟩ z) := by
    rw [run_store P W _ z _ h1, hcell]
    simp [hb.frozen i]
  have hzc : (Builtin.zeroCells z.cells 1).toList = [z] := by
    rw [hc]
    apply List.ext_getElem
    · simp [Builtin.zeroCells]
    · intro q h1 h2
      have hq : q = 0 := by simp at h2; omega
      subst hq
      simp [Builtin.zeroCells]
  have hrun : (Builtin.clear_ #[T] o.type #[.slice (some ⟨g, i, none⟩) 1 c]).run P W = .ok (.tuple #[]) (W.setCell ⟨g, i, none⟩ z) := by
    simp [Builtin.clear_, run_underlying hu, Sem.run_bind, hz, hzc, storeCells, Addr.add, hst]
  refine Does.val (v := .tuple #[]) (w1 := W.setCell ⟨g, i, none⟩ z) ?_ (K.put hr (put_cell W g i z) (heap_setCell_same W g i old t z hb.out))
  simp only [execOp, ho, resolve, invoke, builtin, List.map_toArray, List.map_cons, List.map_nil, hm, hrun, Sem.run_bind, Sem.run_pure, Result.andThen_ok]
end
end Go.Proofs.Ytffednkdmkohdaa
