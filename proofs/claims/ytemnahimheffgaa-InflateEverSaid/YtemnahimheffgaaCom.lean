/-
  Words of this seat's proofs: blocks that are known whole, the frame of a call, events of a walk (a new block, a row read or written). Over any program.
-/
import Derived.Test.YtemnahimheffgaaProg
import Derived.WalkKit
import Derived.WalkSpells
import Derived.WalkLawsBesides
import Derived.Deep.RegionWith
import Derived.Deep.QuietTactic
import Derived.BigQuiet
import Derived.Deep.RegionHeld3
import Derived.Lib.Hide
import Derived.WalkSmall
namespace Go.Proofs.Ytemnahimheffgaa
open Go.RowKit

/-- Block g is known whole. -/
structure Blk (w : World) (g : Nat) (cs : Array Value) (t : TypeId) : Prop where mk :: (out : w.heap[g]? = some (.cells cs t (0, 0)))
/-- Of what was there at w0 nothing has turned. -/
structure Fr (w0 w : World) : Prop where mk :: (out : Below w0.heap.size w0 w)
/-- Block g alone was written. -/
structure Put (w w1 : World) (g : Nat) : Prop where mk :: (os : w1.os = w.os) (tape : w1.tape = w.tape) (output : w1.output = w.output) (size : w1.heap.size = w.heap.size) (block : ∀ k, k ≠ g → w1.heap[k]? = w.heap[k]?)

namespace Blk
variable {w w1 : World} {g g' : Nat} {cs cs' : Array Value} {t t' : TypeId}
theorem lt (h : Blk w g cs t) : g < w.heap.size := (Array.getElem?_eq_some_iff.1 h.out).1
theorem cell (h : Blk w g cs t) (i : Nat) : w.cell? ⟨g, i, none⟩ = cs[i]? := cell_of_row w g i cs t (0, 0) h.out
theorem frozen (h : Blk w g cs t) (i : Nat) : w.frozen? ⟨g, i, none⟩ = false := frozen_of_row w g i cs t h.out
theorem below (h : Blk w g cs t) (hb : Below w.heap.size w w1) : Blk w1 g cs t := ⟨(hb.block g h.lt).trans h.out⟩
theorem drew (h : Blk w g cs t) : Blk w.drew g cs t := ⟨h.out⟩
theorem drewN (h : Blk w g cs t) (n : Nat) : Blk (w.drewN n) g cs t := ⟨h.out⟩
theorem alloc (h : Blk w g cs t) (o : Obj) : Blk (w.alloc o) g cs t := ⟨(Below.heap_alloc w o g h.lt).trans h.out⟩
theorem put (h : Blk w g cs t) (hp : Put w w1 g') (hne : g ≠ g') : Blk w1 g cs t := ⟨(hp.block g hne).trans h.out⟩
theorem ne_type (h : Blk w g cs t) (h' : Blk w g' cs' t') (hne : t ≠ t') : g ≠ g' := by
  rintro rfl
  have e := h.out.symm.trans h'.out
  injection e with e
  injection e with _ e2
  exact hne e2
theorem new (w : World) (cs : Array Value) (t : TypeId) : Blk (w.alloc (.cells cs t)) w.heap.size cs t := ⟨heap_alloc_new w _⟩
end Blk
namespace Fr
variable {w0 w w1 : World} {g : Nat}
theorem refl (w : World) : Fr w w := ⟨Below.refl _ _⟩
theorem step (h : Fr w0 w) (hb : Below w.heap.size w w1) : Fr w0 w1 := ⟨h.out.trans (hb.mono h.out.size)⟩
theorem put (h : Fr w0 w) (hp : Put w w1 g) (hg : w0.heap.size ≤ g) : Fr w0 w1 :=
  ⟨h.out.trans ⟨hp.os, hp.tape, hp.output, by rw [hp.size]; exact Nat.le_refl _, fun k hk => hp.block k (by omega)⟩⟩
theorem drew (h : Fr w0 w) : Fr w0 w.drew := ⟨h.out.drew⟩
theorem drewN (h : Fr w0 w) (n : Nat) : Fr w0 (w.drewN n) := ⟨⟨h.out.os, h.out.tape, h.out.output, h.out.size, h.out.block⟩⟩
theorem alloc (h : Fr w0 w) (o : Obj) : Fr w0 (w.alloc o) := ⟨h.out.alloc h.out.size o⟩
theorem size (h : Fr w0 w) : w0.heap.size ≤ w.heap.size := h.out.size
end Fr
theorem below_new (w : World) (o : Obj) : Below w.heap.size w (w.alloc o) := (Below.refl _ _).alloc (Nat.le_refl _) o
theorem put_row (w : World) (g : Nat) (cs : Array Value) : Put w (w.setRow g cs) g := ⟨rfl, rfl, rfl, by simp, fun k hk => setRow_other w g k cs hk⟩
theorem put_cell (w : World) (g i : Nat) (v : Value) : Put w (w.setCell ⟨g, i, none⟩ v) g := ⟨rfl, rfl, rfl, by simp [World.setCell], fun k hk => Below.heap_setCell _ _ _ _ hk⟩

section
variable {P : Program} {ops : Array Oper} {rest : List Oper} {o : Oper} {a : Act} {Q : Exit → Act → World → Prop} {W : World}
theorem at_slot {N : Tmp} (_h : o.dst = some N) (h : wpList P ops Q (o :: rest) a W) : wpList P ops Q (o :: rest) a W := h
theorem at_store {t : TypeId} {p v : Operand} (_h : o.op = .store t p v) (h : wpList P ops Q (o :: rest) a W) : wpList P ops Q (o :: rest) a W := h
theorem at_load {t : TypeId} {p : Operand} (_h : o.op = .load t p) (h : wpList P ops Q (o :: rest) a W) : wpList P ops Q (o :: rest) a W := h
theorem ev_wanted (hgd : Region.wanted o (yielded ops a.tmps) = true)
    (h : ∀ K : Act → World → Prop, (∀ a w, wpList P ops Q rest a w → K a w) → o.wp P a W K Q) : wpList P ops Q (o :: rest) a W :=
  wpList_step fun K hK => by rw [if_pos hgd]; exact h K hK
/-- A new block (box, alloc). -/
theorem ev_new (hgd : Region.wanted o (yielded ops a.tmps) = true) {cs : Array Value} {t : TypeId}
    (hrun : (execOp a.eval o).run P W = .ok (.value (.pointer (some ⟨W.heap.size, 0, none⟩))) (W.alloc (.cells cs t (0, 0))))
    (h : ∀ g, g = W.heap.size → ∀ w1, Blk w1 g cs t → Below W.heap.size W w1 → wpList P ops Q rest (a.put o.dst (.pointer (some ⟨g, 0, none⟩))) w1) : wpList P ops Q (o :: rest) a W :=
  ev_wanted hgd fun K hK => by
    unfold Oper.wp
    rw [hrun]
    exact hK _ _ (h _ rfl _ (Blk.new W cs t) (below_new W _))
/-- A new block behind a slice (a literal, make). -/
theorem ev_new_slice (hgd : Region.wanted o (yielded ops a.tmps) = true) {cs : Array Value} {t : TypeId} {n c : Nat}
    (hrun : (execOp a.eval o).run P W = .ok (.value (.slice (some ⟨W.heap.size, 0, none⟩) n c)) (W.alloc (.cells cs t (0, 0))))
    (h : ∀ g, g = W.heap.size → ∀ w1, Blk w1 g cs t → Below W.heap.size W w1 → wpList P ops Q rest (a.put o.dst (.slice (some ⟨g, 0, none⟩) n c)) w1) : wpList P ops Q (o :: rest) a W :=
  ev_wanted hgd fun K hK => by
    unfold Oper.wp
    rw [hrun]
    exact hK _ _ (h _ rfl _ (Blk.new W cs t) (below_new W _))
/-- A row read whole. -/
theorem ev_load_row (hgd : Region.wanted o (yielded ops a.tmps) = true) (ty : TypeId) (x : Operand) (ho : o.op = .load ty x) {g : Nat} {t : TypeId} {cs : Array Value} (hb : Blk W g cs t)
    (hx : a.eval x = .pointer (some ⟨g, 0, none⟩)) {d : TypeDesc}
    (hu : P.underlying ty = some d) (hd : (match d with | .struct _ | .array _ _ => true | _ => false) = true) (hi : (P.info? ty).map (·.size) = some cs.size)
    (h : wpList P ops Q rest (a.put o.dst (.agg cs)) W) : wpList P ops Q (o :: rest) a W :=
  ev_wanted hgd fun _ hK => wp_load_row ty x ho g hx t cs (0, 0) d hb.out hu hd hi (hK _ _ h)
/-- Part of a row read. -/
theorem ev_load_mid (hgd : Region.wanted o (yielded ops a.tmps) = true) (ty : TypeId) (x : Operand) (ho : o.op = .load ty x) {g i n : Nat} {t : TypeId} {cs : Array Value} (hb : Blk W g cs t)
    (hx : a.eval x = .pointer (some ⟨g, i, none⟩)) {d : TypeDesc}
    (hu : P.underlying ty = some d) (hd : (match d with | .struct _ | .array _ _ => true | _ => false) = true) (hi : (P.info? ty).map (·.size) = some n) (hn : i + n ≤ cs.size) (X : Array Value) (hX : cs.extract i (i + n) = X)
    (h : wpList P ops Q rest (a.put o.dst (.agg X)) W) : wpList P ops Q (o :: rest) a W :=
  ev_wanted hgd fun K hK => by
    have hl : (loadCells ⟨g, i, none⟩ X.toList.length).run P W = .ok X.toList.toArray W :=
      run_loadCells_list (P := P) W ⟨g, i, none⟩ X.toList (fun j v hv => by
        have hadd : (⟨g, i, none⟩ : Addr).add j = ⟨g, i + j, none⟩ := by unfold Addr.add; split <;> simp_all
        rw [hadd, hb.cell (i + j)]
        subst hX
        have hv2 : (cs.extract i (i + n))[j]? = some v := by rw [← Array.getElem?_toList]; exact hv
        rw [Array.getElem?_extract] at hv2
        split at hv2
        · simpa using hv2
        · cases hv2)
    have hXs : X.size = n := by subst hX; simp; omega
    cases hq : P.info? ty with
    | none => simp [hq] at hi
    | some inf =>
      have hs : inf.size = n := by simpa [hq] using hi
      have hagg : (isAgg ty).run P W = .ok true W := by
        unfold isAgg
        rw [Sem.run_bind, run_underlying hu W]
        cases d <;> simp_all
      have hv : (loadVar ty ⟨g, i, none⟩).run P W = .ok (.agg X) W := by
        simp only [Array.length_toList, Array.toArray_toList, hXs] at hl
        simp [loadVar, Sem.run_bind, hagg, sizeOf, typeInfo, hq, hs, hl]
      unfold Oper.wp execOp
      simp only [ho, hx, Instr.loadAt, Instr.sureAddr, Sem.run_bind, Sem.run_pure, Result.andThen_ok, hv]
      exact hK _ _ h
/-- A row written whole. -/
theorem ev_store_row (hgd : Region.wanted o (yielded ops a.tmps) = true) (ty : TypeId) (x y : Operand) (ho : o.op = .store ty x y) {g : Nat} {t : TypeId} {old : Array Value} (hb : Blk W g old t)
    (hx : a.eval x = .pointer (some ⟨g, 0, none⟩)) {cells : Array Value} (hy : a.eval y = .agg cells)
    (hi : (P.info? ty).map (·.size) = some cells.size) (hold : old.size = cells.size) (h1 : cells.all (·.oneCell') = true)
    (h : ∀ w1, Blk w1 g cells t → Put W w1 g → wpList P ops Q rest (a.put o.dst undef) w1) : wpList P ops Q (o :: rest) a W :=
  ev_wanted hgd fun _ hK => wp_store_row ty x y ho g cells hx hy t old hb.out hi hold h1 (hK _ _ (h _ ⟨setRow_heap W g old cells t (0, 0) hb.out⟩ (put_row W g cells)))
/-- One cell read. -/
theorem ev_load_cell (hgd : Region.wanted o (yielded ops a.tmps) = true) (ty : TypeId) (x : Operand) (ho : o.op = .load ty x) {g i : Nat} {t : TypeId} {cs : Array Value} (hb : Blk W g cs t)
    (hx : a.eval x = .pointer (some ⟨g, i, none⟩)) (hu : (P.underlying ty).all (fun d => match d with | .struct _ | .array _ _ => false | _ => true) = true) (hs : (P.underlying ty).isSome = true) {v : Value} (hv : cs[i]? = some v)
    (h : wpList P ops Q rest (a.put o.dst v) W) : wpList P ops Q (o :: rest) a W :=
  ev_wanted hgd fun K hK => by
    obtain ⟨d, hd⟩ := Option.isSome_iff_exists.1 hs
    have hagg : (isAgg ty).run P W = .ok false W := by
      unfold isAgg
      rw [Sem.run_bind, run_underlying hd W]
      rw [hd] at hu
      cases d <;> simp_all
    have hc : W.cell? ⟨g, i, none⟩ = some v := (hb.cell i).trans hv
    unfold Oper.wp execOp
    simp only [ho, hx, Instr.loadAt, Instr.sureAddr, Sem.run_bind, Sem.run_pure, Result.andThen_ok, loadVar, hagg, Bool.false_eq_true, if_false, run_load, hc]
    exact hK _ _ h
/-- One cell written. -/
theorem ev_store_cell (hgd : Region.wanted o (yielded ops a.tmps) = true) (ty : TypeId) (x y : Operand) (ho : o.op = .store ty x y) {g i : Nat} {t : TypeId} {old : Array Value} (hb : Blk W g old t)
    (hx : a.eval x = .pointer (some ⟨g, i, none⟩)) (v : Value) (hy : a.eval y = v) (h1 : v.oneCell' = true) (hc : v.cells = #[v]) (hi : (P.info? ty).map (·.size) = some 1) (hin : i < old.size)
    (h : ∀ w1, Blk w1 g (old.setIfInBounds i v) t → Put W w1 g → wpList P ops Q rest (a.put o.dst undef) w1) : wpList P ops Q (o :: rest) a W :=
  ev_wanted hgd fun K hK => by
    have hcell : W.cell? ⟨g, i, none⟩ = some old[i] := (hb.cell i).trans (by simp [hin])
    have hf := hb.frozen i
    have hst : (store ⟨g, i, none⟩ v).run P W = .ok () (W.setCell ⟨g, i, none⟩ v) := by
      rw [run_store P W _ v _ h1, hcell]
      simp [hf]
    have hb1 : Blk (W.setCell ⟨g, i, none⟩ v) g (old.setIfInBounds i v) t := ⟨heap_setCell_same W g i old t v hb.out⟩
    cases hq : P.info? ty with
    | none => simp [hq] at hi
    | some inf =>
      have hs : inf.size = 1 := by simpa [hq] using hi
      unfold Oper.wp execOp
      simp only [ho, hx, hy, Instr.storeAt, Instr.sureAddr, Sem.run_bind, Sem.run_pure, Result.andThen_ok]
      simp [storeVar, sizeOf, typeInfo, hq, hc, hs, storeCells, Addr.add, hst, Oper.upon]
      exact hK _ _ (h _ hb1 (put_cell W g i v))
end
section
variable {P : Program} {o : Oper} {a : Act} {w : World}
/-- A row read whole, as one operation's run. -/
theorem run_op_load_row (ty : TypeId) (x : Operand) (ho : o.op = .load ty x) {g : Nat} {t : TypeId} {cs : Array Value} (hb : Blk w g cs t)
    (hx : a.eval x = .pointer (some ⟨g, 0, none⟩)) {d : TypeDesc}
    (hu : P.underlying ty = some d) (hd : (match d with | .struct _ | .array _ _ => true | _ => false) = true) (hi : (P.info? ty).map (·.size) = some cs.size) :
    (execOp a.eval o).run P w = .ok (.value (.agg cs)) w := by
  unfold execOp
  simp only [ho, hx, Instr.loadAt, Instr.sureAddr, Sem.run_bind, Sem.run_pure, Result.andThen_ok, run_loadVar_row w g t ty cs (0, 0) d hb.out hu hd hi]
theorem run_op_load_cell (ty : TypeId) (x : Operand) (ho : o.op = .load ty x) {g i : Nat} {t : TypeId} {cs : Array Value} (hb : Blk w g cs t)
    (hx : a.eval x = .pointer (some ⟨g, i, none⟩)) (hu : (P.underlying ty).all (fun d => match d with | .struct _ | .array _ _ => false | _ => true) = true) (hs : (P.underlying ty).isSome = true) {v : Value} (hv : cs[i]? = some v) :
    (execOp a.eval o).run P w = .ok (.value v) w := by
  obtain ⟨d, hd⟩ := Option.isSome_iff_exists.1 hs
  have hagg : (isAgg ty).run P w = .ok false w := by
    unfold isAgg
    rw [Sem.run_bind, run_underlying hd w]
    rw [hd] at hu
    cases d <;> simp_all
  have hc : w.cell? ⟨g, i, none⟩ = some v := (hb.cell i).trans hv
  unfold execOp
  simp only [ho, hx, Instr.loadAt, Instr.sureAddr, Sem.run_bind, Sem.run_pure, Result.andThen_ok, loadVar, hagg, Bool.false_eq_true, if_false, run_load, hc]
end
section
variable {P : Program} {fn : Func} {p q : Tmp} {ty : TypeId}
theorem res_cell (h : fn.results = #[.cell p ty]) (tmps : Array Value) {w : World} {g : Nat} {t : TypeId} {cs : Array Value} (hb : Blk w g cs t) (hp : tmps.getD p undef = .pointer (some ⟨g, 0, none⟩)) {d : TypeDesc}
    (hu : P.underlying ty = some d) (hd : (match d with | .struct _ | .array _ _ => true | _ => false) = true) (hi : (P.info? ty).map (·.size) = some cs.size) :
    (results fn tmps).run P w = .ok (.agg cs) w := results_cell_row h tmps w g t cs (0, 0) d hp hb.out hu hd hi
theorem res_cell_tmp (h : fn.results = #[.cell p ty, .tmp q]) (tmps : Array Value) {w : World} {g : Nat} {t : TypeId} {cs : Array Value} (hb : Blk w g cs t) (hp : tmps.getD p undef = .pointer (some ⟨g, 0, none⟩)) {d : TypeDesc}
    (hu : P.underlying ty = some d) (hd : (match d with | .struct _ | .array _ _ => true | _ => false) = true) (hi : (P.info? ty).map (·.size) = some cs.size) :
    (results fn tmps).run P w = .ok (.tuple #[.agg cs, tmps.getD q undef]) w := by
  have hp' : tmps[p]?.getD undef = .pointer (some ⟨g, 0, none⟩) := by simpa using hp
  simp [results, h, hp', asAddr, run_loadVar_row w g t ty cs (0, 0) d hb.out hu hd hi]
end
theorem bcell {W w1 : World} (hb : Below W.heap.size W w1) : (∀ b o, b < W.heap.size → w1.cell? ⟨b, o, none⟩ = W.cell? ⟨b, o, none⟩) ∧ (∀ b o, b < W.heap.size → w1.frozen? ⟨b, o, none⟩ = W.frozen? ⟨b, o, none⟩) :=
  ⟨fun b o h => hb.cell (p := ⟨b, o, none⟩) h, fun b o h => hb.frozen (p := ⟨b, o, none⟩) h⟩
end Go.Proofs.Ytemnahimheffgaa
