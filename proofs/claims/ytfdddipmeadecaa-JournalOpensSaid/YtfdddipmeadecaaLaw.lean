/-
  Words of this seat's proofs: blocks that are known whole, the frame of a call, events of a walk (a new block, a row read or written). Over any program.
-/
import Derived.Test.YtfdddipmeadecaaProg
import Derived.WalkKit
import Derived.WalkSpells
import Derived.WalkLawsBesides
import Derived.Deep.RegionWith
import Derived.Deep.QuietTactic
import Derived.BigQuiet
import Derived.Deep.RegionHeld3
import Derived.Lib.Hide
import Derived.WalkSmall
import Derived.Laws.MakeOwn
import Derived.Deep.AppendLies
import Derived.Lib.AppendZerosOnto
import Derived.Laws.BytesArg
import Derived.ProofKit
import Derived.OpenShut
import Derived.Lib.SmallJoins
namespace Go.Proofs.Ytfdddipmeadecaa
open Go.RowKit

/-- Block g is known whole. -/
structure Blk (w : World) (g : Nat) (cs : Array Value) (t : TypeId) : Prop where mk :: (out : w.heap[g]? = some (.cells cs t (0, 0)))
/-- Of what was there at w0 nothing has turned. -/
structure Fr (w0 w : World) : Prop where mk :: (out : Below w0.heap.size w0 w)
/-- Block g alone was written. -/
structure Put (w w1 : World) (g : Nat) : Prop where mk :: (os : w1.os = w.os) (tape : w1.tape = w.tape) (output : w1.output = w.output) (size : w1.heap.size = w.heap.size) (block : ∀ k, k ≠ g → w1.heap[k]? = w.heap[k]?)

namespace Blk
variable {w w1 : World} {g g' : Nat} {cs cs' : Array Value} {t t' : TypeId}
theorem lt (h : Blk w g cs t) : g < w.heap.size := (Array.getElem?_eq_some_iff.1 h.out).1
theorem cell (h : Blk w g cs t) (i : Nat) : w.cell? ⟨g, i, none⟩ = cs[i]? := cell_of_row w g i cs t (0, 0) h.out
theorem frozen (h : Blk w g cs t) (i : Nat) : w.frozen? ⟨g, i, none⟩ = false := frozen_of_row w g i cs t h.out
theorem below (h : Blk w g cs t) (hb : Below w.heap.size w w1) : Blk w1 g cs t := ⟨(hb.block g h.lt).trans h.out⟩
theorem drew (h : Blk w g cs t) : Blk w.drew g cs t := ⟨h.out⟩
theorem drewN (h : Blk w g cs t) (n : Nat) : Blk (w.drewN n) g cs t := ⟨h.out⟩
theorem alloc (h : Blk w g cs t) (o : Obj) : Blk (w.alloc o) g cs t := ⟨(Below.heap_alloc w o g h.lt).trans h.out⟩
theorem put (h : Blk w g cs t) (hp : Put w w1 g') (hne : g ≠ g') : Blk w1 g cs t := ⟨(hp.block g hne).trans h.out⟩
theorem ne_type (h : Blk w g cs t) (h' : Blk w g' cs' t') (hne : t ≠ t') : g ≠ g' := by
  rintro rfl
  have e := h.out.symm.trans h'.out
  injection e with e
  injection e with _ e2
  exact hne e2
theorem new (w : World) (cs : Array Value) (t : TypeId) : Blk (w.alloc (.cells cs t)) w.heap.size cs t := ⟨heap_alloc_new w _⟩
end Blk
namespace Fr
variable {w0 w w1 : World} {g : Nat}
theorem refl (w : World) : Fr w w := ⟨Below.refl _ _⟩
theorem step (h : Fr w0 w) (hb : Below w.heap.size w w1) : Fr w0 w1 := ⟨h.out.trans (hb.mono h.out.size)⟩
theorem put (h : Fr w0 w) (hp : Put w w1 g) (hg : w0.heap.size ≤ g) : Fr w0 w1 :=
  ⟨h.out.trans ⟨hp.os, hp.tape, hp.output, by rw [hp.size]; exact Nat.le_refl _, fun k hk => hp.block k (by omega)⟩⟩
theorem drew (h : Fr w0 w) : Fr w0 w.drew := ⟨h.out.drew⟩
theorem drewN (h : Fr w0 w) (n : Nat) : Fr w0 (w.drewN n) := ⟨⟨h.out.os, h.out.tape, h.out.output, h.out.size, h.out.block⟩⟩
theorem alloc (h : Fr w0 w) (o : Obj) : Fr w0 (w.alloc o) := ⟨h.out.alloc h.out.size o⟩
theorem size (h : Fr w0 w) : w0.heap.size ≤ w.heap.size := h.out.size
end Fr
theorem below_new (w : World) (o : Obj) : Below w.heap.size w (w.alloc o) := (Below.refl _ _).alloc (Nat.le_refl _) o
theorem put_row (w : World) (g : Nat) (cs : Array Value) : Put w (w.setRow g cs) g := ⟨rfl, rfl, rfl, by simp, fun k hk => setRow_other w g k cs hk⟩
theorem put_cell (w : World) (g i : Nat) (v : Value) : Put w (w.setCell ⟨g, i, none⟩ v) g := ⟨rfl, rfl, rfl, by simp [World.setCell], fun k hk => Below.heap_setCell _ _ _ _ hk⟩

section
variable {P : Program} {ops : Array Oper} {rest : List Oper} {o : Oper} {a : Act} {Q : Exit → Act → World → Prop} {W : World}
theorem at_slot {N : Tmp} (_h : o.dst = some N) (h : wpList P ops Q (o :: rest) a W) : wpList P ops Q (o :: rest) a W := h
theorem at_store {t : TypeId} {p v : Operand} (_h : o.op = .store t p v) (h : wpList P ops Q (o :: rest) a W) : wpList P ops Q (o :: rest) a W := h
theorem at_load {t : TypeId} {p : Operand} (_h : o.op = .load t p) (h : wpList P ops Q (o :: rest) a W) : wpList P ops Q (o :: rest) a W := h
theorem ev_wanted (hgd : Region.wanted o (yielded ops a.tmps) = true)
    (h : ∀ K : Act → World → Prop, (∀ a w, wpList P ops Q rest a w → K a w) → o.wp P a W K Q) : wpList P ops Q (o :: rest) a W :=
  wpList_step fun K hK => by rw [if_pos hgd]; exact h K hK
/-- A new block (box, alloc). -/
theorem ev_new (hgd : Region.wanted o (yielded ops a.tmps) = true) {cs : Array Value} {t : TypeId}
    (hrun : (execOp a.eval o).run P W = .ok (.value (.pointer (some ⟨W.heap.size, 0, none⟩))) (W.alloc (.cells cs t (0, 0))))
    (h : ∀ g, g = W.heap.size → ∀ w1, Blk w1 g cs t → Below W.heap.size W w1 → wpList P ops Q rest (a.put o.dst (.pointer (some ⟨g, 0, none⟩))) w1) : wpList P ops Q (o :: rest) a W :=
  ev_wanted hgd fun K hK => by
    unfold Oper.wp
    rw [hrun]
    exact hK _ _ (h _ rfl _ (Blk.new W cs t) (below_new W _))
/-- A new block behind a slice (a literal, make). -/
theorem ev_new_slice (hgd : Region.wanted o (yielded ops a.tmps) = true) {cs : Array Value} {t : TypeId} {n c : Nat}
    (hrun : (execOp a.eval o).run P W = .ok (.value (.slice (some ⟨W.heap.size, 0, none⟩) n c)) (W.alloc (.cells cs t (0, 0))))
    (h : ∀ g, g = W.heap.size → ∀ w1, Blk w1 g cs t → Below W.heap.size W w1 → wpList P ops Q rest (a.put o.dst (.slice (some ⟨g, 0, none⟩) n c)) w1) : wpList P ops Q (o :: rest) a W :=
  ev_wanted hgd fun K hK => by
    unfold Oper.wp
    rw [hrun]
    exact hK _ _ (h _ rfl _ (Blk.new W cs t) (below_new W _))
/-- A row read whole. -/
theorem ev_load_row (hgd : Region.wanted o (yielded ops a.tmps) = true) (ty : TypeId) (x : Operand) (ho : o.op = .load ty x) {g : Nat} {t : TypeId} {cs : Array Value} (hb : Blk W g cs t)
    (hx : a.eval x = .pointer (some ⟨g, 0, none⟩)) {d : TypeDesc}
    (hu : P.underlying ty = some d) (hd : (match d with | .struct _ | .array _ _ => true | _ => false) = true) (hi : (P.info? ty).map (·.size) = some cs.size)
    (h : wpList P ops Q rest (a.put o.dst (.agg cs)) W) : wpList P ops Q (o :: rest) a W :=
  ev_wanted hgd fun _ hK => wp_load_row ty x ho g hx t cs (0, 0) d hb.out hu hd hi (hK _ _ h)
/-- Part of a row read. -/
theorem ev_load_mid (hgd : Region.wanted o (yielded ops a.tmps) = true) (ty : TypeId) (x : Operand) (ho : o.op = .load ty x) {g i n : Nat} {t : TypeId} {cs : Array Value} (hb : Blk W g cs t)
    (hx : a.eval x = .pointer (some ⟨g, i, none⟩)) {d : TypeDesc}
    (hu : P.underlying ty = some d) (hd : (match d with | .struct _ | .array _ _ => true | _ => false) = true) (hi : (P.info? ty).map (·.size) = some n) (hn : i + n ≤ cs.size) (X : Array Value) (hX : cs.extract i (i + n) = X)
    (h : wpList P ops Q rest (a.put o.dst (.agg X)) W) : wpList P ops Q (o :: rest) a W :=
  ev_wanted hgd fun K hK => by
    have hl : (loadCells ⟨g, i, none⟩ X.toList.length).run P W = .ok X.toList.toArray W :=
      run_loadCells_list (P := P) W ⟨g, i, none⟩ X.toList (fun j v hv => by
        have hadd : (⟨g, i, none⟩ : Addr).add j = ⟨g, i + j, none⟩ := by unfold Addr.add; split <;> simp_all
        rw [hadd, hb.cell (i + j)]
        subst hX
        have hv2 : (cs.extract i (i + n))[j]? = some v := by rw [← Array.getElem?_toList]; exact hv
        rw [Array.getElem?_extract] at hv2
        split at hv2
        · simpa using hv2
        · cases hv2)
    have hXs : X.size = n := by subst hX; simp; omega
    cases hq : P.info? ty with
    | none => simp [hq] at hi
    | some inf =>
      have hs : inf.size = n := by simpa [hq] using hi
      have hagg : (isAgg ty).run P W = .ok true W := by
        unfold isAgg
        rw [Sem.run_bind, run_underlying hu W]
        cases d <;> simp_all
      have hv : (loadVar ty ⟨g, i, none⟩).run P W = .ok (.agg X) W := by
        simp only [Array.length_toList, Array.toArray_toList, hXs] at hl
        simp [loadVar, Sem.run_bind, hagg, sizeOf, typeInfo, hq, hs, hl]
      unfold Oper.wp execOp
      simp only [ho, hx, Instr.loadAt, Instr.sureAddr, Sem.run_bind, Sem.run_pure, Result.andThen_ok, hv]
      exact hK _ _ h
/-- A row written whole. -/
theorem ev_store_row (hgd : Region.wanted o (yielded ops a.tmps) = true) (ty : TypeId) (x y : Operand) (ho : o.op = .store ty x y) {g : Nat} {t : TypeId} {old : Array Value} (hb : Blk W g old t)
    (hx : a.eval x = .pointer (some ⟨g, 0, none⟩)) {cells : Array Value} (hy : a.eval y = .agg cells)
    (hi : (P.info? ty).map (·.size) = some cells.size) (hold : old.size = cells.size) (h1 : cells.all (·.oneCell') = true)
    (h : ∀ w1, Blk w1 g cells t → Put W w1 g → wpList P ops Q rest (a.put o.dst undef) w1) : wpList P ops Q (o :: rest) a W :=
  ev_wanted hgd fun _ hK => wp_store_row ty x y ho g cells hx hy t old hb.out hi hold h1 (hK _ _ (h _ ⟨setRow_heap W g old cells t (0, 0) hb.out⟩ (put_row W g cells)))
/-- One cell read. -/
theorem ev_load_cell (hgd : Region.wanted o (yielded ops a.tmps) = true) (ty : TypeId) (x : Operand) (ho : o.op = .load ty x) {g i : Nat} {t : TypeId} {cs : Array Value} (hb : Blk W g cs t)
    (hx : a.eval x = .pointer (some ⟨g, i, none⟩)) (hu : (P.underlying ty).all (fun d => match d with | .struct _ | .array _ _ => false | _ => true) = true) (hs : (P.underlying ty).isSome = true) {v : Value} (hv : cs[i]? = some v)
    (h : wpList P ops Q rest (a.put o.dst v) W) : wpList P ops Q (o :: rest) a W :=
  ev_wanted hgd fun K hK => by
    obtain ⟨d, hd⟩ := Option.isSome_iff_exists.1 hs
    have hagg : (isAgg ty).run P W = .ok false W := by
      unfold isAgg
      rw [Sem.run_bind, run_underlying hd W]
      rw [hd] at hu
      cases d <;> simp_all
    have hc : W.cell? ⟨g, i, none⟩ = some v := (hb.cell i).trans hv
    unfold Oper.wp execOp
    simp only [ho, hx, Instr.loadAt, Instr.sureAddr, Sem.run_bind, Sem.run_pure, Result.andThen_ok, loadVar, hagg, Bool.false_eq_true, if_false, run_load, hc]
    exact hK _ _ h
/-- One cell written. -/
theorem ev_store_cell (hgd : Region.wanted o (yielded ops a.tmps) = true) (ty : TypeId) (x y : Operand) (ho : o.op = .store ty x y) {g i : Nat} {t : TypeId} {old : Array Value} (hb : Blk W g old t)
    (hx : a.eval x = .pointer (some ⟨g, i, none⟩)) (v : Value) (hy : a.eval y = v) (h1 : v.oneCell' = true) (hc : v.cells = #[v]) (hi : (P.info? ty).map (·.size) = some 1) (hin : i < old.size)
    (h : ∀ w1, Blk w1 g (old.setIfInBounds i v) t → Put W w1 g → wpList P ops Q rest (a.put o.dst undef) w1) : wpList P ops Q (o :: rest) a W :=
  ev_wanted hgd fun K hK => by
    have hcell : W.cell? ⟨g, i, none⟩ = some old[i] := (hb.cell i).trans (by simp [hin])
    have hf := hb.frozen i
    have hst : (store ⟨g, i, none⟩ v).run P W = .ok () (W.setCell ⟨g, i, none⟩ v) := by
      rw [run_store P W _ v _ h1, hcell]
      simp [hf]
    have hb1 : Blk (W.setCell ⟨g, i, none⟩ v) g (old.setIfInBounds i v) t := ⟨heap_setCell_same W g i old t v hb.out⟩
    cases hq : P.info? ty with
    | none => simp [hq] at hi
    | some inf =>
      have hs : inf.size = 1 := by simpa [hq] using hi
      unfold Oper.wp execOp
      simp only [ho, hx, hy, Instr.storeAt, Instr.sureAddr, Sem.run_bind, Sem.run_pure, Result.andThen_ok]
      simp [storeVar, sizeOf, typeInfo, hq, hc, hs, storeCells, Addr.add, hst, Oper.upon]
      exact hK _ _ (h _ hb1 (put_cell W g i v))
end
section
variable {P : Program} {o : Oper} {a : Act} {w : World}
/-- A row read whole, as one operation's run. -/
theorem run_op_load_row (ty : TypeId) (x : Operand) (ho : o.op = .load ty x) {g : Nat} {t : TypeId} {cs : Array Value} (hb : Blk w g cs t)
    (hx : a.eval x = .pointer (some ⟨g, 0, none⟩)) {d : TypeDesc}
    (hu : P.underlying ty = some d) (hd : (match d with | .struct _ | .array _ _ => true | _ => false) = true) (hi : (P.info? ty).map (·.size) = some cs.size) :
    (execOp a.eval o).run P w = .ok (.value (.agg cs)) w := by
  unfold execOp
  simp only [ho, hx, Instr.loadAt, Instr.sureAddr, Sem.run_bind, Sem.run_pure, Result.andThen_ok, run_loadVar_row w g t ty cs (0, 0) d hb.out hu hd hi]
theorem run_op_load_cell (ty : TypeId) (x : Operand) (ho : o.op = .load ty x) {g i : Nat} {t : TypeId} {cs : Array Value} (hb : Blk w g cs t)
    (hx : a.eval x = .pointer (some ⟨g, i, none⟩)) (hu : (P.underlying ty).all (fun d => match d with | .struct _ | .array _ _ => false | _ => true) = true) (hs : (P.underlying ty).isSome = true) {v : Value} (hv : cs[i]? = some v) :
    (execOp a.eval o).run P w = .ok (.value v) w := by
  obtain ⟨d, hd⟩ := Option.isSome_iff_exists.1 hs
  have hagg : (isAgg ty).run P w = .ok false w := by
    unfold isAgg
    rw [Sem.run_bind, run_underlying hd w]
    rw [hd] at hu
    cases d <;> simp_all
  have hc : w.cell? ⟨g, i, none⟩ = some v := (hb.cell i).trans hv
  unfold execOp
  simp only [ho, hx, Instr.loadAt, Instr.sureAddr, Sem.run_bind, Sem.run_pure, Result.andThen_ok, loadVar, hagg, Bool.false_eq_true, if_false, run_load, hc]
end
section
variable {P : Program} {fn : Func} {p q : Tmp} {ty : TypeId}
theorem res_cell (h : fn.results = #[.cell p ty]) (tmps : Array Value) {w : World} {g : Nat} {t : TypeId} {cs : Array Value} (hb : Blk w g cs t) (hp : tmps.getD p undef = .pointer (some ⟨g, 0, none⟩)) {d : TypeDesc}
    (hu : P.underlying ty = some d) (hd : (match d with | .struct _ | .array _ _ => true | _ => false) = true) (hi : (P.info? ty).map (·.size) = some cs.size) :
    (results fn tmps).run P w = .ok (.agg cs) w := results_cell_row h tmps w g t cs (0, 0) d hp hb.out hu hd hi
theorem res_cell_tmp (h : fn.results = #[.cell p ty, .tmp q]) (tmps : Array Value) {w : World} {g : Nat} {t : TypeId} {cs : Array Value} (hb : Blk w g cs t) (hp : tmps.getD p undef = .pointer (some ⟨g, 0, none⟩)) {d : TypeDesc}
    (hu : P.underlying ty = some d) (hd : (match d with | .struct _ | .array _ _ => true | _ => false) = true) (hi : (P.info? ty).map (·.size) = some cs.size) :
    (results fn tmps).run P w = .ok (.tuple #[.agg cs, tmps.getD q undef]) w := by
  have hp' : tmps[p]?.getD undef = .pointer (some ⟨g, 0, none⟩) := by simpa using hp
  simp [results, h, hp', asAddr, run_loadVar_row w g t ty cs (0, 0) d hb.out hu hd hi]
end
theorem bcell {W w1 : World} (hb : Below W.heap.size W w1) : (∀ b o, b < W.heap.size → w1.cell? ⟨b, o, none⟩ = W.cell? ⟨b, o, none⟩) ∧ (∀ b o, b < W.heap.size → w1.frozen? ⟨b, o, none⟩ = W.frozen? ⟨b, o, none⟩) :=
  ⟨fun b o h => hb.cell (p := ⟨b, o, none⟩) h, fun b o h => hb.frozen (p := ⟨b, o, none⟩) h⟩
end Go.Proofs.Ytfdddipmeadecaa

/-
  Words: slices of numbers that are read; make; cells at an index. Over any program.
-/
set_option linter.unusedVariables false
set_option linter.unusedSimpArgs false
namespace Go.Proofs.Ytfdddipmeadecaa
open Go.RowKit

/-- A slice of numbers reads as xs. -/
structure Rd (w : World) (k : IntKind) (A : Option Addr) (n : Nat) (xs : List Int) : Prop where mk ::
  (len : xs.length = n)
  (at_ : ∀ j, j < n → ∃ b off, A = some ⟨b, off, none⟩ ∧ w.cell? ⟨b, off + j, none⟩ = some (.int k (xs.getD j 0)))
namespace Rd
variable {w w1 : World} {k : IntKind} {A : Option Addr} {n : Nat} {xs : List Int}
theorem nil (w : World) (k : IntKind) (A : Option Addr) : Rd w k A 0 [] := ⟨rfl, fun j h => absurd h (Nat.not_lt_zero j)⟩
theorem below (h : Rd w k A n xs) (hb : Below w.heap.size w w1) : Rd w1 k A n xs :=
  ⟨h.len, fun j hj => by
    obtain ⟨b, off, e, hc⟩ := h.at_ j hj
    exact ⟨b, off, e, (hb.cell (p := ⟨b, off + j, none⟩) (World.block_lt_of_cell? w _ hc)).trans hc⟩⟩
theorem drew (h : Rd w k A n xs) : Rd w.drew k A n xs := ⟨h.len, h.at_⟩
theorem put {g : Nat} (h : Rd w k A n xs) (hp : Put w w1 g) (hne : ∀ b off, A = some ⟨b, off, none⟩ → b ≠ g) : Rd w1 k A n xs :=
  ⟨h.len, fun j hj => by
    obtain ⟨b, off, e, hc⟩ := h.at_ j hj
    exact ⟨b, off, e, (World.cell?_of_block (hp.block b (hne b off e))).trans hc⟩⟩
/-- not empty: where it lies -/
theorem form (h : Rd w k A n xs) (hn : 0 < n) : ∃ b off, A = some ⟨b, off, none⟩ ∧ b < w.heap.size ∧ ∀ j, j < n → w.cell? ⟨b, off + j, none⟩ = some (.int k (xs.getD j 0)) := by
  obtain ⟨b, off, e, hc⟩ := h.at_ 0 hn
  refine ⟨b, off, e, World.block_lt_of_cell? w _ hc, fun j hj => ?_⟩
  obtain ⟨b', off', e', hc'⟩ := h.at_ j hj
  rw [e] at e'
  injection e' with e'
  injection e' with e1 e2
  subst e1 e2
  exact hc'
end Rd

theorem madeCells_one (z : Value) (n : Nat) : madeCells #[z] n = Array.replicate n z := by
  apply Array.ext
  · simp [madeCells]
  · intro i h1 h2
    simp [madeCells, Nat.mod_one]

section
variable {P : Program} {ops : Array Oper} {rest : List Oper} {o : Oper} {a : Act} {Q : Exit → Act → World → Prop} {W : World}
/-- make([]T, n), elements of one cell. -/
theorem ev_make (hgd : Region.wanted o (yielded ops a.tmps) = true) (t e : TypeId) {x y : Operand} (ho : o.op = .makeSlice t x y) {z : Value} {bytes : Nat}
    (ht : P.underlying t = some (.slice e)) (hinfo : (P.info? e).map (fun i => (i.zero, i.size, i.bytes)) = some (some z, 1, bytes)) (hz : z.cells = #[z]) (n : Nat)
    (hx : a.eval x = .int .i64 (n : Int)) (hy : a.eval y = .int .i64 (n : Int)) (hb : (bytes : Int) * (n : Int) ≤ 281474976710656) (h63 : (n : Int) ≤ 9223372036854775807)
    (h : ∀ g, g = W.heap.size → ∀ w1, Blk w1 g (Array.replicate n z) e → Below W.heap.size W w1 → wpList P ops Q rest (a.put o.dst (.slice (some ⟨g, 0, none⟩) n n)) w1) : wpList P ops Q (o :: rest) a W :=
  ev_wanted hgd fun K hK => by
    cases hq : P.info? e with
    | none => simp [hq] at hinfo
    | some i =>
      simp only [hq, Option.map_some, Option.some.injEq, Prod.mk.injEq] at hinfo
      obtain ⟨h1, h2, h3⟩ := hinfo
      have hr := run_make (P := P) W t e i z ht hq h1 .i64 .i64 (n : Int) (n : Int) (by omega) (Int.le_refl _) (by rw [h3]; exact hb) h63
      simp only [Int.toNat_natCast, h2, Nat.mul_one, hz, madeCells_one] at hr
      unfold Oper.wp execOp
      simp only [ho, hx, hy, hr, Sem.run_bind, Result.andThen_ok]
      exact hK _ _ (h _ rfl _ (Blk.new W _ e) (below_new W _))
end
end Go.Proofs.Ytfdddipmeadecaa

/-
  Words: slices of numbers that the call owns and appends to; bytes to a string. Over any program.
-/
set_option linter.unusedVariables false
set_option linter.unusedSimpArgs false
namespace Go.Proofs.Ytfdddipmeadecaa
open Go.RowKit

/-- A slice of numbers that is the call's own (since block 'base'). -/
structure Own (w : World) (base : Nat) (e : TypeId) (k : IntKind) (A : Option Addr) (n c : Nat) (xs : List Int) : Prop where mk ::
  (out : w.ownsRow base e 1 (.slice A n c) n (xs.map (Value.int k)))
/-- Of what was there nothing turned but the row itself. -/
structure Grew (w w1 : World) (A : Option Addr) : Prop where mk ::
  (os : w1.os = w.os) (tape : w1.tape = w.tape) (output : w1.output = w.output) (size : w.heap.size ≤ w1.heap.size)
  (block : ∀ k, k < w.heap.size → (∀ a, A = some a → a.block ≠ k) → w1.heap[k]? = w.heap[k]?)
namespace Grew
variable {w w1 w2 : World} {A : Option Addr}
theorem below {B : Nat} (h : Grew w w1 A) (hA : ∀ a, A = some a → B ≤ a.block) (hB : B ≤ w.heap.size) : Below B w w1 :=
  ⟨h.os, h.tape, h.output, h.size, fun k hk => h.block k (by omega) (fun a ha e => by have := hA a ha; omega)⟩
theorem ofBelow (h : Below w.heap.size w w1) : Grew w w1 A := ⟨h.os, h.tape, h.output, h.size, fun k hk _ => h.block k hk⟩
end Grew
namespace Own
variable {w w1 : World} {base : Nat} {e : TypeId} {k : IntKind} {A : Option Addr} {n c : Nat} {xs : List Int}
theorem len (h : Own w base e k A n c xs) : xs.length = n := by have := h.out.1; simpa using this
theorem nil (w : World) (base : Nat) (e : TypeId) (k : IntKind) : Own w base e k none 0 0 [] := ⟨World.ownsRow_nil w base e 1⟩
theorem lt (h : Own w base e k A n c xs) : ∀ a, A = some a → base ≤ a.block ∧ a.block < w.heap.size := fun a ha =>
  h.out.lt a.block (by subst ha; rfl)
theorem nz (h : Own w base e k A n c xs) : n ≤ c := by
  rcases h.out.2 with ⟨hv, h0⟩ | ⟨g, cap, cur, hv, _, _, hc, _⟩
  · omega
  · injection hv with _ _ e3
    omega
theorem mono {base' : Nat} (h : Own w base e k A n c xs) (hb : base' ≤ base) : Own w base' e k A n c xs :=
  ⟨h.out.1, h.out.2.elim Or.inl (fun ⟨g, cap, cur, hv, hg, r⟩ => Or.inr ⟨g, cap, cur, hv, Nat.le_trans hb hg, r⟩)⟩
theorem form (h : Own w base e k A n c xs) : (A = none ∧ n = 0 ∧ c = 0) ∨ ∃ g, A = some ⟨g, 0, none⟩ ∧ base ≤ g ∧ g < w.heap.size := by
  rcases h.out.2 with ⟨hv, h0⟩ | ⟨g, cap, cur, hv, hb, hg, _⟩
  · injection hv with e1 _ e3
    exact .inl ⟨e1, h0, e3⟩
  · injection hv with e1 _ _
    exact .inr ⟨g, e1, hb, (Array.getElem?_eq_some_iff.1 hg).1⟩
theorem rd (h : Own w base e k A n c xs) : Rd w k A n xs := ⟨h.len, fun j hj => by
  rcases h.form with ⟨rfl, rfl, _⟩ | ⟨g, rfl, hb, hg⟩
  · omega
  · refine ⟨g, 0, rfl, ?_⟩
    have := h.out.cells (g := g) rfl j (.int k (xs.getD j 0)) (by
      have : j < xs.length := by rw [h.len]; exact hj
      simp [this, List.getD])
    have hadd : (⟨g, 0, none⟩ : Addr).add j = ⟨g, 0 + j, none⟩ := by unfold Addr.add; split <;> simp_all
    rwa [hadd] at this⟩
theorem fresh (h : Own w base e k A n c xs) {g : Nat} (hg : g = w.heap.size) : ∀ a, A = some a → a.block ≠ g := fun a ha => by have := (h.lt a ha).2; omega
theorem block (h : Own w base e k A n c xs) (hb : ∀ a, A = some a → w1.heap[a.block]? = w.heap[a.block]?) : Own w1 base e k A n c xs := by
  refine ⟨h.out.1, ?_⟩
  rcases h.out.2 with hn | ⟨g, cap, cur, hv, hbg, hg, rest⟩
  · exact .inl hn
  · have hv' := hv
    injection hv with e1 _ _
    refine .inr ⟨g, cap, cur, hv', hbg, (hb _ e1).trans hg, rest⟩
theorem below (h : Own w base e k A n c xs) (hb : Below w.heap.size w w1) : Own w1 base e k A n c xs :=
  h.block fun a ha => hb.block _ (h.lt a ha).2
theorem drew (h : Own w base e k A n c xs) : Own w.drew base e k A n c xs := ⟨h.out⟩
theorem put {g : Nat} (h : Own w base e k A n c xs) (hp : Put w w1 g) (hne : ∀ a, A = some a → a.block ≠ g) : Own w1 base e k A n c xs :=
  h.block fun a ha => hp.block _ (hne a ha)
theorem grew {B : Option Addr} (h : Own w base e k A n c xs) (hg : Grew w w1 B) (hne : ∀ a b, A = some a → B = some b → b.block ≠ a.block) : Own w1 base e k A n c xs :=
  h.block fun a ha => hg.block _ (h.lt a ha).2 (fun b hb => hne a b ha hb)
/-- a block of another type is another block -/
theorem ne (h : Own w base e k A n c xs) {g : Nat} {cs : Array Value} {t : TypeId} (hB : Blk w g cs t) (ht : t ≠ e) : ∀ a, A = some a → a.block ≠ g := by
  intro a ha hg
  rcases h.out.2 with ⟨hv, h0⟩ | ⟨g', cap, cur, hv, hb, hg', _⟩
  · injection hv with e1
    rw [ha] at e1
    cases e1
  · injection hv with e1 _ _
    rw [ha] at e1
    injection e1 with e1
    subst e1
    simp only at hg
    subst hg
    have := hB.out.symm.trans hg'
    injection this with this
    injection this with _ h2
    exact ht h2
/-- a row of one's own, out of a block known whole -/
theorem ofBlk {g : Nat} {cs : Array Value} (h : Blk w g cs e) (hb : base ≤ g) (hc : cs.size = c) (hcm : c ≤ maxLen) (hn : n ≤ c) (hx : xs.length = n) (hxs : cs.toList.take n = xs.map (Value.int k)) :
    Own w base e k (some ⟨g, 0, none⟩) n c xs :=
  ⟨⟨by simp [hx], .inr ⟨g, c, cs, rfl, hb, h.out, hn, hcm, by omega, by simpa using hxs⟩⟩⟩
end Own
theorem Blk.grew {w w1 : World} {g : Nat} {cs : Array Value} {t : TypeId} {A : Option Addr} (h : Blk w g cs t) (hg : Grew w w1 A) (hne : ∀ a, A = some a → a.block ≠ g) : Blk w1 g cs t :=
  ⟨(hg.block g h.lt hne).trans h.out⟩
theorem Fr.grew {w0 w w1 : World} {A : Option Addr} (h : Fr w0 w) (hg : Grew w w1 A) (hA : ∀ a, A = some a → w0.heap.size ≤ a.block) : Fr w0 w1 :=
  ⟨h.out.trans (hg.below hA h.size)⟩
theorem Rd.grew {w w1 : World} {k : IntKind} {A B : Option Addr} {n : Nat} {xs : List Int} (h : Rd w k A n xs) (hg : Grew w w1 B) (hne : ∀ a b, A = some a → B = some b → b.block ≠ a.block) : Rd w1 k A n xs :=
  ⟨h.len, fun j hj => by
    obtain ⟨b, off, e, hc⟩ := h.at_ j hj
    exact ⟨b, off, e, (World.cell?_of_block (hg.block b (World.block_lt_of_cell? w _ hc) (fun b' hb' => hne _ b' e hb'))).trans hc⟩⟩
theorem Rd.ofBlk {w : World} {k : IntKind} {g off n : Nat} {cs : Array Value} {t : TypeId} {xs : List Int} (h : Blk w g cs t) (hx : xs.length = n) (hxs : (cs.toList.drop off).take n = xs.map (Value.int k)) : Rd w k (some ⟨g, off, none⟩) n xs :=
  ⟨hx, fun j hj => ⟨g, off, rfl, by
    rw [h.cell]
    have e : ((cs.toList.drop off).take n)[j]? = (xs.map (Value.int k))[j]? := by rw [hxs]
    rw [List.getElem?_take_of_lt hj, List.getElem?_drop, Array.getElem?_toList] at e
    rw [e]
    have : j < xs.length := by omega
    simp [this, List.getD]⟩⟩

section
variable {P : Program}
/-- What is appended is empty. -/
theorem run_append_none (w : World) (t ty e : TypeId) (i : TypeInfo) (ht : P.underlying t = some (.slice e)) (hi : P.info? e = some i) (A B : Option Addr) (n c c2 : Nat) (hn : n ≤ c) (hA : A = none → n = 0) (hAs : ∀ a, A = some a → a.spot = none) :
    (Builtin.append_ #[t, t] ty #[.slice A n c, .slice B 0 c2]).run P w = .ok (.slice A n c) w := by
  cases A <;> cases B <;> simp [Builtin.append_, run_underlying ht, sizeOf, typeInfo, hi, Builtin.lenOf, Builtin.firstCells, loadCells, loadCellsFrom, hn, storeCells]

theorem run_append_own2 (w : World) {base : Nat} {t ty e : TypeId} {k : IntKind} {A B : Option Addr} {n c m c2 bytes : Nat} {xs ys : List Int} {z : Value} (ht : P.underlying t = some (.slice e)) (hinfo : (P.info? e).map (fun i => (i.zero, i.size, i.bytes)) = some (some z, 1, bytes)) (hzs : z.cells.size = 1)
    (hown : Own w base e k A n c xs) (hr : Rd w k B m ys) (h63 : n + m ≤ maxLen) (hbytes : (n + m) * bytes ≤ 140737488355328) (hbase : base ≤ w.heap.size) :
    ∃ A' c' w1, (Builtin.append_ #[t, t] ty #[.slice A n c, .slice B m c2]).run P w = .ok (.slice A' (n + m) c') w1 ∧ Own w1 base e k A' (n + m) c' (xs ++ ys) ∧ Grew w w1 A := by
  cases hq : P.info? e with
  | none => simp [hq] at hinfo
  | some i =>
    simp only [hq, Option.map_some, Option.some.injEq, Prod.mk.injEq] at hinfo
    obtain ⟨h1, h2, h3⟩ := hinfo
    by_cases hm : m = 0
    · subst hm
      have hy : ys = [] := List.eq_nil_of_length_eq_zero hr.len
      subst hy
      refine ⟨A, c, w, ?_, by simpa using hown, ⟨rfl, rfl, rfl, Nat.le_refl _, fun _ _ _ => rfl⟩⟩
      rw [run_append_none w t ty e i ht hq A B n c c2 hown.nz]
      · simp
      · intro hA
        rcases hown.form with ⟨_, h0, _⟩ | ⟨g, hg, _⟩
        · exact h0
        · rw [hA] at hg; cases hg
      · intro a ha
        rcases hown.form with ⟨h0, _⟩ | ⟨g, hg, _⟩
        · rw [h0] at ha; cases ha
        · rw [hg] at ha; injection ha with ha; subst ha; rfl
    · obtain ⟨b, off, rfl, hlt, hc⟩ := hr.form (by omega)
      obtain ⟨v', w', hrun, hown', hgr, hnil, _⟩ := run_append_own_at (P := P) w base t ty e i z 1 bytes ht hq h1 h2 h3 hzs (by omega) (.slice A n c) n (xs.map (Value.int k)) hown.out ⟨b, off, none⟩ m c2 (ys.map (Value.int k))
        (by simp [hr.len]) (fun j u hj => by
          have hjm : j < ys.length := by
            rcases Nat.lt_or_ge j ys.length with h | h
            · exact h
            · simp [h] at hj
          have hadd : (⟨b, off, none⟩ : Addr).add j = ⟨b, off + j, none⟩ := by unfold Addr.add; split <;> simp_all
          rw [hadd, hc j (by have := hr.len; omega)]
          simp [hjm] at hj
          simp [hjm, List.getD, hj])
        (fun u hu => by
          rw [List.mem_map] at hu
          obtain ⟨x, _, rfl⟩ := hu
          rfl) h63 hbytes hbase
      have hform : ∃ A' c', v' = .slice A' (n + m) c' := by
        rcases hown'.2 with ⟨rfl, h0⟩ | ⟨g, cap, _, hv, _⟩
        · exact ⟨none, 0, by rw [h0]⟩
        · exact ⟨_, _, hv⟩
      obtain ⟨A', c', rfl⟩ := hform
      refine ⟨A', c', w', hrun, ⟨by simpa using hown'⟩, ⟨hgr.os, hgr.tape, hgr.output, hgr.size, fun j hj hne => hgr.block j hj (fun e => ?_)⟩⟩
      cases A with
      | none => cases e
      | some a => simp [Value.ownBlock] at e; exact hne a rfl e.symm

/-- The bytes of a slice, as a string. -/
theorem run_string (w : World) {src dst e : TypeId} {A : Option Addr} {n c : Nat} {xs : List Int} (hs : P.underlying src = some (.slice e)) (he : P.underlying e = some (.int .u8)) (hd : P.underlying dst = some .string) (hr : Rd w .u8 A n xs) :
    (convert src dst (.slice A n c)).run P w = .ok (.string (strOfNums xs)) w := by
  by_cases hn : n = 0
  · subst hn
    have hx : xs = [] := List.eq_nil_of_length_eq_zero hr.len
    subst hx
    rw [run_convert_bytes_string w src dst e _ 0 c hs he hd]
    cases A <;> simp [Conv.bytesToString, loadCells]
    all_goals rfl
  · obtain ⟨b, off, rfl, hlt, hc⟩ := hr.form (by omega)
    exact run_convert_bytes_arg w src e hs he b off n c xs hr.len hc dst hd
end
section
variable {P : Program} {ops : Array Oper} {rest : List Oper} {o : Oper} {a : Act} {Q : Exit → Act → World → Prop} {W : World}
theorem at_append {t : TypeId} {s x : Operand} (_h : o.op = .call { callee := .builtin .append, args := #[s, x], argTypes := #[t, t] }) (h : wpList P ops Q (o :: rest) a W) : wpList P ops Q (o :: rest) a W := h
theorem at_convert {t u : TypeId} {x : Operand} (_h : o.op = .convert t u x) (h : wpList P ops Q (o :: rest) a W) : wpList P ops Q (o :: rest) a W := h
/-- append(s, x...), s the call's own. -/
theorem ev_append (hgd : Region.wanted o (yielded ops a.tmps) = true) (t e : TypeId) {s x : Operand} (ho : o.op = .call { callee := .builtin .append, args := #[s, x], argTypes := #[t, t] }) {base : Nat} {k : IntKind} {A B : Option Addr} {n c m c2 bytes : Nat} {xs ys : List Int} {z : Value}
    (ht : P.underlying t = some (.slice e)) (hinfo : (P.info? e).map (fun i => (i.zero, i.size, i.bytes)) = some (some z, 1, bytes)) (hzs : z.cells.size = 1)
    (hown : Own W base e k A n c xs) (hr : Rd W k B m ys) (hs : a.eval s = .slice A n c) (hx : a.eval x = .slice B m c2) (hbytes : n + m ≤ maxLen ∧ (n + m) * bytes ≤ 140737488355328) (hbase : base ≤ W.heap.size)
    (h : ∀ A' c' w1, Own w1 base e k A' (n + m) c' (xs ++ ys) → Grew W w1 A → wpList P ops Q rest (a.put o.dst (.slice A' (n + m) c')) w1) : wpList P ops Q (o :: rest) a W :=
  ev_wanted hgd fun K hK => by
    obtain ⟨A', c', w1, hrun, h1, h2⟩ := run_append_own2 (P := P) W (ty := o.type) ht hinfo hzs hown hr hbytes.1 hbytes.2 hbase (c2 := c2)
    refine Lib.wp_append_run W s x t t ho _ _ hs hx _ _ hrun (hK _ _ (h A' c' w1 h1 h2))
/-- string(b) -/
theorem ev_string (hgd : Region.wanted o (yielded ops a.tmps) = true) (t u e : TypeId) {x : Operand} (ho : o.op = .convert t u x) {A : Option Addr} {n c : Nat} {xs : List Int}
    (hs : P.underlying t = some (.slice e)) (he : P.underlying e = some (.int .u8)) (hd : P.underlying u = some .string) (hr : Rd W .u8 A n xs) (hx : a.eval x = .slice A n c)
    (h : wpList P ops Q rest (a.put o.dst (.string (strOfNums xs))) W) : wpList P ops Q (o :: rest) a W :=
  ev_wanted hgd fun K hK => by
    unfold Oper.wp execOp
    simp only [ho, hx, run_string W hs he hd hr, Sem.run_bind, Result.andThen_ok]
    exact hK _ _ h
end
end Go.Proofs.Ytfdddipmeadecaa

/-
  '==' of arrays and structs, element by element. Over any program.
-/
namespace Go.Proofs.Ytfdddipmeadecaa
open Go.RowKit
section
variable {P : Program} (w : World)
theorem eq_array (d : Nat) {t e : TypeId} {n sz : Nat} (ht : P.underlying t = some (.array n e)) (hsz : (sizeOf e).run P w = .ok sz w) (xs ys : Array Value) (r : Nat → Bool)
    (h : ∀ i, i < n → ∃ a b, (part e xs (i * sz)).run P w = .ok a w ∧ (part e ys (i * sz)).run P w = .ok b w ∧ (Op.equalIn d e a b).run P w = .ok (r i) w) :
    (Op.equalIn (d + 1) t (.agg xs) (.agg ys)).run P w = .ok ((List.range n).all r) w := by
  rw [List.range_eq_range', Op.equalIn]
  simp only [Sem.run_bind, run_underlying ht, Result.andThen_ok, hsz, Std.Legacy.Range.forIn_eq_forIn_range', Std.Legacy.Range.size, Nat.sub_zero, Nat.add_sub_cancel, Nat.div_one]
  have hl : ∀ i ∈ List.range' 0 n 1, i < n := fun i hi => by simpa using (List.mem_range'_1.1 hi).2
  generalize List.range' 0 n 1 = l at hl ⊢
  induction l with
  | nil => simp
  | cons i l ih =>
    obtain ⟨a, b, px, py, pe⟩ := h i (hl i (by simp))
    simp only [List.forIn_cons, Sem.run_bind, px, py, pe, Result.andThen_ok, List.all_cons]
    cases hb : r i
    · simp
    · simp only [Bool.not_true, Bool.false_eq_true, if_false, Sem.run_pure, Result.andThen_ok, Bool.true_and]
      exact ih fun j hj => hl j (by simp [hj])

variable {d : Nat} {xs ys : Array Value} {f : Field} {fs : List Field} {a b : Value} {r s : Bool}
theorem eq_fields_nil : (Op.eqFields d xs ys []).run P w = .ok true w := by simp [Op.eqFields]
theorem eq_fields_cons (hn : (f.name == "_") = false) (ha : (part f.type xs f.offset).run P w = .ok a w) (hb : (part f.type ys f.offset).run P w = .ok b w) (he : (Op.equalIn d f.type a b).run P w = .ok r w)
    (hr : (Op.eqFields d xs ys fs).run P w = .ok s w) : (Op.eqFields d xs ys (f :: fs)).run P w = .ok (r && s) w := by
  have hn' : f.name ≠ "_" := by simpa using hn
  rw [Op.eqFields]
  simp only [if_pos hn', Sem.run_bind, ha, hb, he, Result.andThen_ok]
  cases r
  · simp
  · simpa using hr
theorem eq_struct {t : TypeId} {fs : List Field} (hu : P.underlying t = some (.struct fs.toArray)) (hp : P.stoodInHeld t = false) (h : (Op.eqFields d xs ys fs).run P w = .ok r w) : (Op.equalIn (d + 1) t (.agg xs) (.agg ys)).run P w = .ok r w := by
  have hf : P.fieldsOf t = fs.toArray := by simp [Program.fieldsOf, hu]
  rw [run_equalIn_struct (P := P) w d t xs ys (by rw [hf]; exact hu) hp, hf]
  exact h
theorem eq_int {t : TypeId} (k k' : IntKind) (x y : Int) (h : P.underlying t = some (.int k')) : (Op.equalIn (d + 1) t (.int k x) (.int k y)).run P w = .ok (x == y) w := run_equalIn_int w d t k k' x y h
end
section
variable {P : Program} {ops : Array Oper} {rest : List Oper} {o : Oper} {a : Act} {Q : Exit → Act → World → Prop} {W : World}
theorem at_bin {b : BinOp} {t t' : TypeId} {x y : Operand} (_h : o.op = .binOp b t x y t') (h : wpList P ops Q (o :: rest) a W) : wpList P ops Q (o :: rest) a W := h
/-- '==' of two structs or arrays. -/
theorem ev_eql (hgd : Region.wanted o (yielded ops a.tmps) = true) (T : TypeId) {T' : TypeId} (x y : Operand) (ho : o.op = .binOp .eql T x y T') {X Y : Array Value} (hx : a.eval x = .agg X) (hy : a.eval y = .agg Y)
    (hm : P.eqGuardType P.depth T = false) {r : Bool} (hr : (binOp .eql T (.agg X) (.agg Y)).run P W = .ok (.bool r) W) (h : wpList P ops Q rest (a.put o.dst (.bool r)) W) : wpList P ops Q (o :: rest) a W :=
  ev_wanted hgd fun K hK => by
    unfold Oper.wp execOp
    simp only [ho, hx, hy, Sem.run_bind, run_eqGuard_agg W .eql T x y X Y hm, Result.andThen_ok, hr]
    exact hK _ _ h
theorem ev_neq (hgd : Region.wanted o (yielded ops a.tmps) = true) (T : TypeId) {T' : TypeId} (x y : Operand) (ho : o.op = .binOp .neq T x y T') {X Y : Array Value} (hx : a.eval x = .agg X) (hy : a.eval y = .agg Y)
    (hm : P.eqGuardType P.depth T = false) {r : Bool} (hr : (binOp .neq T (.agg X) (.agg Y)).run P W = .ok (.bool r) W) (h : wpList P ops Q rest (a.put o.dst (.bool r)) W) : wpList P ops Q (o :: rest) a W :=
  ev_wanted hgd fun K hK => by
    unfold Oper.wp execOp
    simp only [ho, hx, hy, Sem.run_bind, run_eqGuard_agg W .neq T x y X Y hm, Result.andThen_ok, hr]
    exact hK _ _ h
theorem at_build {t : TypeId} {ps : Array (Nat × Operand)} (_h : o.op = .build t ps) (h : wpList P ops Q (o :: rest) a W) : wpList P ops Q (o :: rest) a W := h
/-- A zero struct or array. -/
theorem ev_build0 (hgd : Region.wanted o (yielded ops a.tmps) = true) (T : TypeId) (ho : o.op = .build T #[]) {v : Value} (hr : (Instr.build T #[]).run P W = .ok v W) (h : wpList P ops Q rest (a.put o.dst v) W) : wpList P ops Q (o :: rest) a W :=
  ev_wanted hgd fun K hK => by
    unfold Oper.wp execOp
    simp only [ho, List.map_toArray, List.map_nil, hr, Sem.run_bind, Result.andThen_ok]
    exact hK _ _ h
/-- A struct or array out of known parts. -/
theorem ev_build (hgd : Region.wanted o (yielded ops a.tmps) = true) (T : TypeId) {ps : Array (Nat × Operand)} (ho : o.op = .build T ps) {vals : Array (Nat × Value)} (hp : (ps.map fun (i, x) => (i, a.eval x)) = vals) {v : Value} (hr : (Instr.build T vals).run P W = .ok v W) (h : wpList P ops Q rest (a.put o.dst v) W) : wpList P ops Q (o :: rest) a W :=
  ev_wanted hgd fun K hK => by
    unfold Oper.wp execOp
    simp only [ho, hp, hr, Sem.run_bind, Result.andThen_ok]
    exact hK _ _ h
theorem at_index {t : TypeId} {x y : Operand} (_h : o.op = .index t x y) (h : wpList P ops Q (o :: rest) a W) : wpList P ops Q (o :: rest) a W := h
/-- An element of an array's value. -/
theorem ev_index (hgd : Region.wanted o (yielded ops a.tmps) = true) (T : TypeId) {x y : Operand} (ho : o.op = .index T x y) {X : Array Value} {i : Int} (hx : a.eval x = .agg X) (hy : a.eval y = .int .i64 i) {v : Value} (hr : (Instr.index T (.agg X) (.int .i64 i)).run P W = .ok v W)
    (h : wpList P ops Q rest (a.put o.dst v) W) : wpList P ops Q (o :: rest) a W :=
  ev_wanted hgd fun K hK => by
    unfold Oper.wp execOp
    simp only [ho, hx, hy, hr, Sem.run_bind, Result.andThen_ok]
    exact hK _ _ h
end
end Go.Proofs.Ytfdddipmeadecaa

/-
  A law's row out of its walk: a law that returns true and turns nothing that was there keeps every argument as it reads. Over any program.
-/
namespace Go.Proofs.Ytfdddipmeadecaa
open Go.ChangeShapes Go.WideShapes Go.ChangeAt Go.RowKit

theorem Try.own : ownKnob Try.prog.godebug = none := by kernel_rfl
theorem Try.laidOut : laidOutB Try.prog = true := by kernel_rfl

theorem trodAll_below {H : Type} {enc : TypeId × Value → H} {P : Program} (hl : laidOutB P = true) {W W' : World} (hb : Below W.heap.size W W') :
    ∀ (ts : List TypeId) (vs : List Value) (ds : List (DataW H)) (ps : List MemPlace), (ts.all fun t => P.readableRec t && decide (t < P.types.size)) = true →
      DataW.TrodAll enc P W 0 (fun _ => true) true ts vs ds ps → (∀ x ∈ ps, x.block < W.heap.size) → DataW.TrodAll enc P W' 0 (fun b => decide (b < W.heap.size)) true ts vs ds ps
  | [], [], [], ps => fun _ h _ => h
  | t :: ts, v :: vs, d :: ds, ps => fun hr h hlt => by
    obtain ⟨p, q, h1, h2, rfl⟩ := h
    simp only [List.all_cons, Bool.and_eq_true, decide_eq_true_eq] at hr
    exact ⟨p, q, Below.trod hl hr.1.1 hr.1.2 h1 hb (fun x hx => hlt x (by simp [hx])), trodAll_below hl hb ts vs ds q (by simpa using hr.2) h2 (fun x hx => hlt x (by simp [hx])), rfl⟩
  | [], [], _ :: _, _ => fun _ h _ => h.elim
  | [], _ :: _, _, _ => fun _ h _ => h.elim
  | _ :: _, [], _, _ => fun _ h _ => h.elim
  | _ :: _, _ :: _, [], _ => fun _ h _ => h.elim

theorem post_law {H : Type} {enc : TypeId × Value → H} {P : Program} {f : Func} {s : ChangeSpec} {apart fresh handsOn : Bool} {W W' : World} {args : Array Value} {ds : List (DataW H)} {before : List MemPlace} {tb : TypeId}
    (hl : laidOutB P = true) (hr : (f.params.toList.all fun t => P.readableRec t && decide (t < P.types.size)) = true) (hv : s.vars = []) (hrt : f.resultTypes = #[tb]) (hbt : P.underlying tb = some .bool)
    (hW : DataW.Whole enc P f.params.toList s.vars apart W args.toList ds [] before)
    (hfn : s.fn H (ds ++ []) = { results := [.lit (.bool true)], args := ds }) (hb : Below W.heap.size W W') :
    s.post enc P f apart fresh handsOn false W args (.bool true) W' := by
  have hlt := hW.lt
  have hW0 := hW
  obtain ⟨p, q, hA, hV, rfl, hz, hn⟩ := hW
  rw [hv] at hV
  obtain ⟨-, rfl⟩ := trodVars_none hV
  refine ⟨ds, [], p ++ [], [], p, [], hW0, ?_, ?_, ?_, hb.frame _, fun h => by cases h⟩
  · rw [hfn, hrt]
    exact trodAll_mk1 (shut_bool hbt true)
  · rw [hfn]
    exact trodAll_below hl hb _ _ _ _ hr hA (fun x hx => hlt x (by simp [hx]))
  · rw [hfn, hv]
    rfl
end Go.Proofs.Ytfdddipmeadecaa
