/-
  Words of this seat's proofs: what is known of a world's blocks, as one list ('Known'); events of a walk over it. Over any program.
-/
import Derived.Test.YtemnahimheffgaaCom
import Derived.Test.YtemnahimheffgaaOwn
import Derived.Laws.CopyRow
import Derived.Lib.MinMax
set_option linter.unusedVariables false
set_option linter.unusedSimpArgs false
namespace Go.Proofs.Ytemnahimheffgaa
open Go.RowKit

abbrev Ent := Nat × Obj
abbrev row (g : Nat) (cs : Array Value) (t : TypeId) : Ent := (g, .cells cs t (0, 0))
/-- Of what was there at w0 nothing has turned; the blocks of L were made since, and are as L says. -/
structure Known (w0 w : World) (L : List Ent) : Prop where mk ::
  (fr : Below w0.heap.size w0 w) (nd : (L.map (·.1)).Nodup) (ge : ∀ e ∈ L, w0.heap.size ≤ e.1) (at_ : ∀ e ∈ L, w.heap[e.1]? = some e.2)
/-- e is among L. -/
structure Has (e : Ent) (L : List Ent) : Prop where mk :: (out : e ∈ L)
theorem Has.hd (e : Ent) (L : List Ent) : Has e (e :: L) := ⟨List.mem_cons_self ..⟩
theorem Has.tl {e : Ent} {L : List Ent} (x : Ent) (h : Has e L) : Has e (x :: L) := ⟨List.mem_cons_of_mem _ h.out⟩
theorem Has.ap {e : Ent} {L : List Ent} (X : List Ent) (h : Has e L) : Has e (X ++ L) := ⟨List.mem_append_right _ h.out⟩
/-- In the place of X stands what f is told. -/
structure Seg (X : List Ent) (f : List Ent → List Ent) (L : List Ent) : Prop where mk :: (out : ∃ A B, (∀ Y, f Y = A ++ Y ++ B) ∧ L = A ++ X ++ B)
namespace Seg
variable {X L : List Ent} {f : List Ent → List Ent}
theorem nil (R : List Ent) : Seg [] (fun Y => Y ++ R) R := ⟨[], R, by simp, by simp⟩
theorem all (X : List Ent) : Seg X (fun Y => Y) X := ⟨[], [], by simp, by simp⟩
theorem ap (X R : List Ent) : Seg X (fun Y => Y ++ R) (X ++ R) := ⟨[], R, by simp, by simp⟩
theorem hd (e : Ent) (R : List Ent) : Seg [e] (fun Y => Y ++ R) (e :: R) := ⟨[], R, by simp, by simp⟩
theorem tl (e : Ent) (h : Seg X f L) : Seg X (fun Y => e :: f Y) (e :: L) := by
  obtain ⟨A, B, h1, rfl⟩ := h.out
  exact ⟨e :: A, B, fun Y => by simp [h1 Y], by simp⟩
theorem sk (Z : List Ent) (h : Seg X f L) : Seg X (fun Y => Z ++ f Y) (Z ++ L) := by
  obtain ⟨A, B, h1, rfl⟩ := h.out
  exact ⟨Z ++ A, B, fun Y => by simp [h1 Y], by simp⟩
end Seg
/-- The entry of e in L is e' in L'. -/
structure Repl (e e' : Ent) (L L' : List Ent) : Prop where mk :: (out : ∃ A B, L = A ++ e :: B ∧ L' = A ++ e' :: B)
namespace Repl
variable {e e' : Ent} {L L' : List Ent}
theorem hd (e e' : Ent) (R : List Ent) : Repl e e' (e :: R) (e' :: R) := ⟨[], R, rfl, rfl⟩
theorem tl (x : Ent) (h : Repl e e' L L') : Repl e e' (x :: L) (x :: L') := by
  obtain ⟨A, B, rfl, rfl⟩ := h.out
  exact ⟨x :: A, B, rfl, rfl⟩
theorem ap (X : List Ent) (h : Repl e e' L L') : Repl e e' (X ++ L) (X ++ L') := by
  obtain ⟨A, B, rfl, rfl⟩ := h.out
  exact ⟨X ++ A, B, by simp, by simp⟩
theorem has (h : Repl e e' L L') : Has e L := by
  obtain ⟨A, B, rfl, rfl⟩ := h.out
  exact ⟨by simp⟩
theorem has' (h : Repl e e' L L') : Has e' L' := by
  obtain ⟨A, B, rfl, rfl⟩ := h.out
  exact ⟨by simp⟩
end Repl
/-- T is part of L. -/
structure Cov (T L : List Ent) : Prop where mk :: (out : ∃ R, (T ++ R).Perm L)
/-- L is X and R. -/
structure Sel (X L R : List Ent) : Prop where mk :: (out : (X ++ R).Perm L)
namespace Sel
variable {X L R : List Ent}
theorem nil (L : List Ent) : Sel [] L L := ⟨List.Perm.refl _⟩
theorem hd (e : Ent) (R : List Ent) : Sel [e] (e :: R) R := ⟨List.Perm.refl _⟩
theorem ap (X R : List Ent) : Sel X (X ++ R) R := ⟨List.Perm.refl _⟩
theorem all (X : List Ent) : Sel X X [] := ⟨by simp⟩
theorem tl (e : Ent) (h : Sel X L R) : Sel X (e :: L) (e :: R) := ⟨(List.perm_middle).trans (h.out.cons e)⟩
theorem sk (Z : List Ent) (h : Sel X L R) : Sel X (Z ++ L) (Z ++ R) := ⟨by
  have : (X ++ (Z ++ R)).Perm (Z ++ (X ++ R)) := by
    rw [← List.append_assoc, ← List.append_assoc]
    exact List.perm_append_comm.append_right R
  exact this.trans (h.out.append_left Z)⟩
end Sel
namespace Cov
variable {T L R : List Ent}
theorem nil (L : List Ent) : Cov [] L := ⟨L, List.Perm.refl _⟩
theorem all (L : List Ent) : Cov L L := ⟨[], by simp⟩
theorem left (X L : List Ent) : Cov X (X ++ L) := ⟨L, List.Perm.refl _⟩
theorem drop (x : Ent) (k : Cov T L) : Cov T (x :: L) := by
  obtain ⟨S, hS⟩ := k.out
  exact ⟨x :: S, List.perm_middle.trans (hS.cons x)⟩
theorem skip (Z : List Ent) (k : Cov T L) : Cov T (Z ++ L) := by
  obtain ⟨S, hS⟩ := k.out
  refine ⟨Z ++ S, List.Perm.trans ?_ (hS.append_left Z)⟩
  rw [← List.append_assoc, ← List.append_assoc]
  exact List.perm_append_comm.append_right S
theorem cons {e : Ent} (h : Sel [e] L R) (k : Cov T R) : Cov (e :: T) L := by
  obtain ⟨S, hS⟩ := k.out
  exact ⟨S, (by simpa using (hS.append_left [e]).trans h.out)⟩
theorem app {X : List Ent} (h : Sel X L R) (k : Cov T R) : Cov (X ++ T) L := by
  obtain ⟨S, hS⟩ := k.out
  exact ⟨S, (by simpa [List.append_assoc] using (hS.append_left X).trans h.out)⟩
end Cov
/-- what is found by itself -/
theorem Has.auto {e : Ent} {L : List Ent} (h : Has e L := by repeat (first | with_reducible exact Has.hd _ _ | with_reducible refine Has.tl _ ?_ | with_reducible refine Has.ap _ ?_)) : Has e L := h
theorem Repl.auto {e e' : Ent} {L L' : List Ent} (h : Repl e e' L L' := by repeat (first | with_reducible exact Repl.hd _ _ _ | with_reducible apply Repl.tl | with_reducible apply Repl.ap)) : Repl e e' L L' := h
theorem Seg.auto {X L : List Ent} {f : List Ent → List Ent} (h : Seg X f L := by repeat (first | with_reducible exact Seg.nil _ | with_reducible exact Seg.all _ | with_reducible exact Seg.ap _ _ | with_reducible exact Seg.hd _ _ | with_reducible apply Seg.tl | with_reducible apply Seg.sk)) : Seg X f L := h
theorem Cov.auto {T L : List Ent} (h : Cov T L := by repeat (first | with_reducible exact Cov.all _ | with_reducible exact Cov.left _ _ | with_reducible exact Cov.nil _ | (with_reducible apply Cov.app; (· repeat (first | with_reducible exact Sel.nil _ | with_reducible exact Sel.ap _ _ | with_reducible exact Sel.hd _ _ | with_reducible exact Sel.all _ | with_reducible apply Sel.tl | with_reducible apply Sel.sk))) | (with_reducible apply Cov.cons; (· repeat (first | with_reducible exact Sel.nil _ | with_reducible exact Sel.ap _ _ | with_reducible exact Sel.hd _ _ | with_reducible exact Sel.all _ | with_reducible apply Sel.tl | with_reducible apply Sel.sk))) | with_reducible refine Cov.drop _ ?_ | with_reducible refine Cov.skip _ ?_)) : Cov T L := h
namespace Known
variable {w0 w w1 : World} {L L' : List Ent}
theorem start (w : World) : Known w w [] := ⟨Below.refl _ _, by simp, by simp, by simp⟩
theorem size (K : Known w0 w L) : w0.heap.size ≤ w.heap.size := K.fr.size
theorem get {e : Ent} (K : Known w0 w L) (h : Has e L) : w.heap[e.1]? = some e.2 := K.at_ e h.out
theorem blk {g : Nat} {cs : Array Value} {t : TypeId} (K : Known w0 w L) (h : Has (row g cs t) L) : Blk w g cs t := ⟨K.get h⟩
theorem lt {e : Ent} (K : Known w0 w L) (h : e ∈ L) : e.1 < w.heap.size := (Array.getElem?_eq_some_iff.1 (K.at_ e h)).1
theorem below (K : Known w0 w L) (hb : Below w.heap.size w w1) : Known w0 w1 L :=
  ⟨K.fr.trans (hb.mono K.size), K.nd, K.ge, fun e he => (hb.block _ (K.lt he)).trans (K.at_ e he)⟩
theorem drew (K : Known w0 w L) : Known w0 w.drew L := ⟨K.fr.drew, K.nd, K.ge, K.at_⟩
theorem frame (K : Known w0 w L) : Fr w0 w := ⟨K.fr⟩
theorem cov {T : List Ent} (K : Known w0 w L) (h : Cov T L) : Known w0 w T := by
  obtain ⟨R, hp⟩ := h.out
  have hm : ∀ e ∈ T, e ∈ L := fun e he => hp.mem_iff.1 (List.mem_append_left _ he)
  have hn : ((T ++ R).map (·.1)).Nodup := (hp.map (·.1)).nodup_iff.2 K.nd
  rw [List.map_append] at hn
  exact ⟨K.fr, (List.nodup_append.1 hn).1, fun e he => K.ge e (hm e he), fun e he => K.at_ e (hm e he)⟩
/-- a new block -/
theorem new (K : Known w0 w L) (o : Obj) : Known w0 (w.alloc o) ((w.heap.size, o) :: L) :=
  ⟨K.fr.alloc K.size o, by
    rw [List.map_cons, List.nodup_cons]
    refine ⟨fun h => ?_, K.nd⟩
    obtain ⟨e, he, h1⟩ := List.mem_map.1 h
    have := K.lt he
    simp only at h1
    omega, fun e he => by
    rcases List.mem_cons.1 he with rfl | he
    · exact K.size
    · exact K.ge e he, fun e he => by
    rcases List.mem_cons.1 he with rfl | he
    · exact heap_alloc_new w o
    · exact (Below.heap_alloc w o _ (K.lt he)).trans (K.at_ e he)⟩
/-- block g alone was written -/
theorem put {g : Nat} {o o' : Obj} (K : Known w0 w L) (hr : Repl (g, o) (g, o') L L') (hp : Put w w1 g) (ho : w1.heap[g]? = some o') : Known w0 w1 L' := by
  obtain ⟨A, B, rfl, rfl⟩ := hr.out
  have hnd := K.nd
  simp only [List.map_append, List.map_cons] at hnd
  have hne : ∀ e, e ∈ A ∨ e ∈ B → e.1 ≠ g := by
    intro e he h
    rw [List.nodup_append] at hnd
    rcases he with he | he
    · exact hnd.2.2 e.1 (List.mem_map_of_mem he) g (List.mem_cons_self ..) h
    · have := (List.nodup_cons.1 hnd.2.1).1
      exact this (h ▸ List.mem_map_of_mem he)
  have hge : w0.heap.size ≤ g := K.ge (g, o) (by simp)
  refine ⟨(Fr.put ⟨K.fr⟩ hp hge).out, by simpa using hnd, fun e he => ?_, fun e he => ?_⟩
  · simp only [List.mem_append, List.mem_cons] at he
    rcases he with he | rfl | he
    · exact K.ge e (by simp [he])
    · exact hge
    · exact K.ge e (by simp [he])
  · simp only [List.mem_append, List.mem_cons] at he
    rcases he with he | rfl | he
    · exact (hp.block _ (hne e (.inl he))).trans (K.at_ e (by simp [he]))
    · exact ho
    · exact (hp.block _ (hne e (.inr he))).trans (K.at_ e (by simp [he]))
/-- in the place of X stands X', of X's blocks and new ones -/
theorem seg {X X' : List Ent} {f : List Ent → List Ent} (K : Known w0 w L) (hs : Seg X f L) (hb : Below w0.heap.size w0 w1) (hk : ∀ k, k < w.heap.size → (∀ e ∈ X, e.1 ≠ k) → w1.heap[k]? = w.heap[k]?)
    (hn : (X'.map (·.1)).Nodup) (hX : ∀ e ∈ X', w1.heap[e.1]? = some e.2 ∧ w0.heap.size ≤ e.1 ∧ ((∃ x ∈ X, x.1 = e.1) ∨ w.heap.size ≤ e.1)) : Known w0 w1 (f X') := by
  obtain ⟨A, B, h1, rfl⟩ := hs.out
  rw [h1]
  have hnd := K.nd
  simp only [List.map_append, List.nodup_append, List.mem_append] at hnd
  obtain ⟨⟨nA, nX, dAX⟩, nB, dB⟩ := hnd
  have old : ∀ e, e ∈ A ∨ e ∈ B → e ∈ A ++ X ++ B := fun e he => by
    rcases he with he | he <;> simp [he]
  have apart : ∀ e, e ∈ A ∨ e ∈ B → ∀ x ∈ X, x.1 ≠ e.1 := by
    intro e he x hx h
    rcases he with he | he
    · exact dAX e.1 (List.mem_map_of_mem he) x.1 (List.mem_map_of_mem hx) h.symm
    · exact dB x.1 (Or.inr (List.mem_map_of_mem hx)) e.1 (List.mem_map_of_mem he) h
  have newApart : ∀ e, e ∈ A ∨ e ∈ B → ∀ x ∈ X', x.1 ≠ e.1 := by
    intro e he x hx h
    rcases (hX x hx).2.2 with ⟨y, hy, hyx⟩ | hge
    · exact apart e he y hy (hyx.trans h)
    · have := K.lt (old e he)
      omega
  refine ⟨hb, ?_, fun e he => ?_, fun e he => ?_⟩
  · simp only [List.map_append, List.nodup_append, List.mem_append]
    refine ⟨⟨nA, hn, ?_⟩, nB, ?_⟩
    · intro a ha b hbm h
      obtain ⟨e, he, rfl⟩ := List.mem_map.1 ha
      obtain ⟨x, hx, rfl⟩ := List.mem_map.1 hbm
      exact newApart e (.inl he) x hx h.symm
    · intro a ha b hbm h
      obtain ⟨e, he, rfl⟩ := List.mem_map.1 hbm
      rcases ha with ha | ha
      · exact dB a (Or.inl ha) _ (List.mem_map_of_mem he) h
      · obtain ⟨x, hx, rfl⟩ := List.mem_map.1 ha
        exact newApart e (.inr he) x hx h
  · simp only [List.mem_append] at he
    rcases he with (he | he) | he
    · exact K.ge e (by simp [he])
    · exact (hX e he).2.1
    · exact K.ge e (by simp [he])
  · simp only [List.mem_append] at he
    rcases he with (he | he) | he
    · exact (hk _ (K.lt (old e (.inl he))) (fun x hx => apart e (.inl he) x hx)).trans (K.at_ e (by simp [he]))
    · exact (hX e he).1
    · exact (hk _ (K.lt (old e (.inr he))) (fun x hx => apart e (.inr he) x hx)).trans (K.at_ e (by simp [he]))
end Known

section
variable {P : Program} {ops : Array Oper} {rest : List Oper} {o : Oper} {a : Act} {Q : Exit → Act → World → Prop} {K' : Act → World → Prop} {E : Prop} {W w0 : World} {L : List Ent}
/-- What the operation o does: its value and the world behind it are as R says. -/
def Does (P : Program) (o : Oper) (a : Act) (W : World) (R : Value → World → Prop) : Prop :=
  ∃ nx w1, (execOp a.eval o).run P W = .ok nx w1 ∧ ((∃ v, nx = .value v ∧ R v w1) ∨ (nx = .skip ∧ R undef w1))
theorem Does.val {R : Value → World → Prop} {v : Value} {w1 : World} (hr : (execOp a.eval o).run P W = .ok (.value v) w1) (h : R v w1) : Does P o a W R := ⟨_, _, hr, .inl ⟨v, rfl, h⟩⟩
theorem Does.wp {R : Value → World → Prop} (hd : Does P o a W R) (h : ∀ v w1, R v w1 → K' (a.put o.dst v) w1) : o.wp P a W K' Q := by
  obtain ⟨nx, w1, hr, ⟨v, rfl, hv⟩ | ⟨rfl, hv⟩⟩ := hd
  · unfold Oper.wp
    rw [hr]
    exact h v w1 hv
  · unfold Oper.wp
    rw [hr]
    exact h undef w1 hv
/-- in a list of operations -/
theorem wpList_does {R : Value → World → Prop} (hgd : Region.wanted o (yielded ops a.tmps) = true) (hd : Does P o a W R) (h : ∀ v w1, R v w1 → wpList P ops Q rest (a.put o.dst v) w1) : wpList P ops Q (o :: rest) a W :=
  ev_wanted hgd fun K hK => hd.wp fun v w1 hv => hK _ _ (h v w1 hv)
/-- at a step of a region that draws -/
theorem st_does {R : Value → World → Prop} (hgd : Region.wanted o (yielded ops a.tmps) = true) (hd : Does P o a W R) (h : ∀ v w1, R v w1 → K' (a.put o.dst v) w1) : if Region.wanted o (yielded ops a.tmps) = true then Oper.wp P o a W K' Q else E := by
  rw [if_pos hgd]
  exact hd.wp h
/-- a test before an operation: both ways -/
theorem wpList_guard {j : Nat} {pol : Bool} (b : Bool) (hg : o.guard = some (j, pol)) (hy : yielded ops a.tmps j = some b) (h1 : b = true → wpList P ops Q (o :: rest) a W) (h2 : b = false → wpList P ops Q (o :: rest) a W) : wpList P ops Q (o :: rest) a W := by
  cases b
  · exact h2 rfl
  · exact h1 rfl
theorem at_box {t : TypeId} {x : Operand} (_h : o.op = .box t x) (h : wpList P ops Q (o :: rest) a W) : wpList P ops Q (o :: rest) a W := h
theorem at_alloc {t : TypeId} (_h : o.op = .alloc t) (h : wpList P ops Q (o :: rest) a W) : wpList P ops Q (o :: rest) a W := h
theorem at_buildSlice {t : TypeId} {n : Nat} {ps : Array (Nat × Operand)} (_h : o.op = .buildSlice t n ps) (h : wpList P ops Q (o :: rest) a W) : wpList P ops Q (o :: rest) a W := h
theorem at_makeSlice {t : TypeId} {x y : Operand} (_h : o.op = .makeSlice t x y) (h : wpList P ops Q (o :: rest) a W) : wpList P ops Q (o :: rest) a W := h
theorem at_slice {t : TypeId} {x : Operand} {l h m : Option Operand} (_h : o.op = .slice t x l h m) (k : wpList P ops Q (o :: rest) a W) : wpList P ops Q (o :: rest) a W := k
theorem at_copy {t u : TypeId} {x y : Operand} (_h : o.op = .call { callee := .builtin .copy, args := #[x, y], argTypes := #[t, u] }) (k : wpList P ops Q (o :: rest) a W) : wpList P ops Q (o :: rest) a W := k

def aggB (P : Program) (ty : TypeId) : Bool := (P.underlying ty).any (fun d => match d with | .struct _ | .array _ _ => true | _ => false)
def oneB (P : Program) (ty : TypeId) : Bool := (P.underlying ty).any (fun d => match d with | .struct _ | .array _ _ => false | _ => true)
def sizeIs (P : Program) (ty : TypeId) (n : Nat) : Bool := (P.info? ty).any (fun i => i.size == n)
/-- an element's type: its cells, and that a zero has as many; bytes at most 4096 -/
def elemB (P : Program) (e : TypeId) (s : Nat) : Bool := (P.info? e).any (fun i => i.size == s && decide (i.bytes ≤ 4096) && (i.zero.any fun z => z.cells.size == s))
theorem aggB_run {ty : TypeId} (h : aggB P ty = true) (w : World) : (isAgg ty).run P w = .ok true w := by
  unfold aggB at h
  cases hq : P.underlying ty with
  | none => simp [hq] at h
  | some d =>
    rw [hq] at h
    unfold isAgg
    rw [Sem.run_bind, run_underlying hq w]
    cases d <;> simp_all
theorem oneB_run {ty : TypeId} (h : oneB P ty = true) (w : World) : (isAgg ty).run P w = .ok false w := by
  unfold oneB at h
  cases hq : P.underlying ty with
  | none => simp [hq] at h
  | some d =>
    rw [hq] at h
    unfold isAgg
    rw [Sem.run_bind, run_underlying hq w]
    cases d <;> simp_all
theorem sizeIs_run {ty : TypeId} {n : Nat} (h : sizeIs P ty n = true) (w : World) : (sizeOf ty).run P w = .ok n w := by
  unfold sizeIs at h
  cases hq : P.info? ty with
  | none => simp [hq] at h
  | some i =>
    have hs : i.size = n := by simpa [hq] using h
    simp [sizeOf, typeInfo, hq, hs, Sem.run_bind]
theorem sizeIs_info {ty : TypeId} {n : Nat} (h : sizeIs P ty n = true) : (P.info? ty).map (·.size) = some n := by
  unfold sizeIs at h
  cases hq : P.info? ty with
  | none => simp [hq] at h
  | some i => simpa [hq] using h
theorem elemB_info {e : TypeId} {s : Nat} (h : elemB P e s = true) : ∃ z bytes, (P.info? e).map (fun i => (i.zero, i.size, i.bytes)) = some (some z, s, bytes) ∧ z.cells.size = s ∧ bytes ≤ 4096 := by
  unfold elemB at h
  cases hq : P.info? e with
  | none => simp [hq] at h
  | some i =>
    simp only [hq, Option.any_some, Bool.and_eq_true, beq_iff_eq, decide_eq_true_eq] at h
    obtain ⟨⟨h1, h2⟩, h3⟩ := h
    cases hz : i.zero with
    | none => simp [hz] at h3
    | some z => exact ⟨z, i.bytes, by simp [hz, h1], by simpa [hz] using h3, h2⟩

/-- a variable's block, with its value -/
theorem kd_box (K : Known w0 W L) (T : TypeId) (x : Operand) (ho : o.op = .box T x) {v : Value} (hx : a.eval x = v) : Does P o a W fun u w1 => ∃ g, u = .pointer (some ⟨g, 0, none⟩) ∧ Known w0 w1 (row g v.cells T :: L) := by
  refine Does.val (v := .pointer (some ⟨W.heap.size, 0, none⟩)) (w1 := W.alloc (.cells v.cells T)) ?_ ⟨_, rfl, K.new _⟩
  unfold execOp
  simp only [ho, hx, Instr.box, newVar, newRow, Sem.run_bind, run_newObj_alloc, Result.andThen_ok, Sem.run_pure]
/-- a variable's block, of zeros -/
theorem kd_alloc (K : Known w0 W L) (T : TypeId) (ho : o.op = .alloc T) {z : Value} (hz : (P.info? T).bind (·.zero) = some z) : Does P o a W fun u w1 => ∃ g, u = .pointer (some ⟨g, 0, none⟩) ∧ Known w0 w1 (row g z.cells T :: L) := by
  refine Does.val (v := .pointer (some ⟨W.heap.size, 0, none⟩)) (w1 := W.alloc (.cells z.cells T)) ?_ ⟨_, rfl, K.new _⟩
  cases hq : P.info? T with
  | none => simp [hq] at hz
  | some i =>
    have hz' : i.zero = some z := by simpa [hq] using hz
    unfold execOp
    simp [ho, Instr.alloc, zeroValue, typeInfo, hq, hz', newVar, newRow, Sem.run_bind]
/-- a slice's literal -/
theorem kd_lits (K : Known w0 W L) (T : TypeId) (n : Nat) (ps : Array (Nat × Operand)) (ho : o.op = .buildSlice T n ps) {e : TypeId} {cs : Array Value} {vs : Array (Nat × Value)} (hvs : ps.map (fun p => (p.1, a.eval p.2)) = vs)
    (hrun : (Instr.buildSlice T n vs).run P W = .ok (.slice (some ⟨W.heap.size, 0, none⟩) n n) (W.alloc (.cells cs e (0, 0)))) : Does P o a W fun u w1 => ∃ g, u = .slice (some ⟨g, 0, none⟩) n n ∧ Known w0 w1 (row g cs e :: L) := by
  refine Does.val (v := .slice (some ⟨W.heap.size, 0, none⟩) n n) (w1 := W.alloc (.cells cs e (0, 0))) ?_ ⟨_, rfl, K.new _⟩
  subst hvs
  unfold execOp
  have e1 : (ps.map fun (i, x) => (i, a.eval x)) = ps.map (fun p => (p.1, a.eval p.2)) := rfl
  simp only [ho, e1, Sem.run_bind, hrun, Result.andThen_ok, Sem.run_pure]
theorem run_loadMid {ty : TypeId} {g i n : Nat} {t : TypeId} {cs : Array Value} (hb : Blk W g cs t) (hu : aggB P ty = true) (hi : sizeIs P ty n = true) {X : Array Value} (hX : cs.extract i (i + n) = X) (hn : i + n ≤ cs.size) : (loadVar ty ⟨g, i, none⟩).run P W = .ok (.agg X) W := by
  have hl : (loadCells ⟨g, i, none⟩ X.toList.length).run P W = .ok X.toList.toArray W :=
    run_loadCells_list (P := P) W ⟨g, i, none⟩ X.toList (fun j v hv => by
      have hadd : (⟨g, i, none⟩ : Addr).add j = ⟨g, i + j, none⟩ := by unfold Addr.add; split <;> simp_all
      rw [hadd, hb.cell (i + j)]
      subst hX
      have hv2 : (cs.extract i (i + n))[j]? = some v := by rw [← Array.getElem?_toList]; exact hv
      rw [Array.getElem?_extract] at hv2
      split at hv2
      · simpa using hv2
      · cases hv2)
  have hXs : X.size = n := by subst hX; simp; omega
  simp only [Array.length_toList, Array.toArray_toList, hXs] at hl
  simp [loadVar, Sem.run_bind, aggB_run hu, sizeIs_run hi, hl]
theorem kr_load_row (K : Known w0 W L) (ty : TypeId) (x : Operand) (ho : o.op = .load ty x) {g : Nat} {t : TypeId} {cs : Array Value} (hx : a.eval x = .pointer (some ⟨g, 0, none⟩)) (hb : Has (row g cs t) L) (hu : aggB P ty = true) (hi : sizeIs P ty cs.size = true) : (execOp a.eval o).run P W = .ok (.value (.agg cs)) W := by
  have hag := aggB_run hu W
  unfold execOp
  simp only [ho, hx, Instr.loadAt, Instr.sureAddr, Sem.run_bind, Sem.run_pure, Result.andThen_ok]
  have hl := run_loadMid (i := 0) (X := cs) (K.blk hb) hu hi (by simp) (by omega)
  simp only [hl, Result.andThen_ok]
/-- an empty literal -/
theorem kd_lit0 (K : Known w0 W L) (T e : TypeId) (s : Nat) (ho : o.op = .buildSlice T 0 #[]) (ht : P.underlying T = some (.slice e)) (hi : elemB P e s = true) : Does P o a W fun u w1 => ∃ g, u = .slice (some ⟨g, 0, none⟩) 0 0 ∧ Known w0 w1 (row g #[] e :: L) := by
  refine Does.val (v := .slice (some ⟨W.heap.size, 0, none⟩) 0 0) (w1 := W.alloc (.cells #[] e)) ?_ ⟨_, rfl, K.new _⟩
  obtain ⟨z, bytes, hinfo, -, -⟩ := elemB_info hi
  cases hq : P.info? e with
  | none => simp [hq] at hinfo
  | some i =>
    unfold execOp
    simp [ho, Instr.buildSlice, run_underlying ht, sizeOf, typeInfo, hq, newRow, Sem.run_bind, Instr.fill, show Array.range 0 = #[] from rfl]
theorem kr_load_cell (K : Known w0 W L) (ty : TypeId) (x : Operand) (ho : o.op = .load ty x) {g i : Nat} {t : TypeId} {cs : Array Value} (hx : a.eval x = .pointer (some ⟨g, i, none⟩)) (hb : Has (row g cs t) L) (hu : oneB P ty = true) {v : Value} (hv : cs[i]? = some v) : (execOp a.eval o).run P W = .ok (.value v) W := by
  have hc : W.cell? ⟨g, i, none⟩ = some v := ((K.blk hb).cell i).trans hv
  unfold execOp
  simp only [ho, hx, Instr.loadAt, Instr.sureAddr, Sem.run_bind, Sem.run_pure, Result.andThen_ok, loadVar, oneB_run hu, Bool.false_eq_true, if_false, run_load, hc]
theorem kr_load_fact (ty : TypeId) (x : Operand) (ho : o.op = .load ty x) {p : Addr} {v : Value} (hx : a.eval x = .pointer (some p)) (hc : W.cell? p = some v) (hu : oneB P ty = true) : (execOp a.eval o).run P W = .ok (.value v) W := by
  unfold execOp
  simp only [ho, hx, Instr.loadAt, Instr.sureAddr, Sem.run_bind, Sem.run_pure, Result.andThen_ok, loadVar, oneB_run hu, Bool.false_eq_true, if_false, run_load, hc]
theorem kr_load_mid (K : Known w0 W L) (ty : TypeId) (x : Operand) (ho : o.op = .load ty x) {g i n : Nat} {t : TypeId} {cs : Array Value} (hx : a.eval x = .pointer (some ⟨g, i, none⟩)) (hb : Has (row g cs t) L) (hu : aggB P ty = true) (hi : sizeIs P ty n = true) {X : Array Value} (hX : cs.extract i (i + n) = X) (hn : decide (i + n ≤ cs.size) = true) : (execOp a.eval o).run P W = .ok (.value (.agg X)) W := by
  unfold execOp
  simp only [ho, hx, Instr.loadAt, Instr.sureAddr, Sem.run_bind, Sem.run_pure, Result.andThen_ok, run_loadMid (K.blk hb) hu hi hX (of_decide_eq_true hn)]
def sliceB (P : Program) (ty : TypeId) : Bool := (P.underlying ty).any (fun d => match d with | .slice _ => true | _ => false)
theorem sliceB_of {ty : TypeId} (h : sliceB P ty = true) : ∃ e, P.underlying ty = some (.slice e) := by
  unfold sliceB at h
  cases hq : P.underlying ty with
  | none => simp [hq] at h
  | some d =>
    rw [hq] at h
    cases d <;> simp at h
    exact ⟨_, rfl⟩
/-- s == nil -/
theorem kr_eqnil {T U : TypeId} {x : Operand} (ho : o.op = .binOp .eql T x (.const (.slice none 0 0)) U) {A : Option Addr} {n c : Nat} (hx : a.eval x = .slice A n c) (hu : sliceB P T = true) : (execOp a.eval o).run P W = .ok (.value (.bool A.isNone)) W := by
  obtain ⟨e, he⟩ := sliceB_of hu
  have h2 : a.eval (.const (.slice none 0 0)) = .slice none 0 0 := rfl
  unfold execOp
  simp [ho, hx, h2, eqGuard, binOp, Sem.run_bind, run_equal_slice_nil W T e A n c he]
theorem at_eqnil {T U : TypeId} {x : Operand} (_h : o.op = .binOp .eql T x (.const (.slice none 0 0)) U) (k : wpList P ops Q (o :: rest) a W) : wpList P ops Q (o :: rest) a W := k
/-- a load, by what it comes to -/
theorem wpList_reads {v : Value} (hgd : Region.wanted o (yielded ops a.tmps) = true) (hr : (execOp a.eval o).run P W = .ok (.value v) W) (h : wpList P ops Q rest (a.put o.dst v) W) : wpList P ops Q (o :: rest) a W :=
  ev_wanted hgd fun K hK => by
    unfold Oper.wp
    rw [hr]
    exact hK _ _ h
theorem kd_store_row (K : Known w0 W L) (ty : TypeId) (x y : Operand) (ho : o.op = .store ty x y) {g : Nat} {t : TypeId} {old : Array Value} {L' : List Ent}
    (hx : a.eval x = .pointer (some ⟨g, 0, none⟩)) {cells : Array Value} (hy : a.eval y = .agg cells) (hr : Repl (row g old t) (row g cells t) L L')
    (hi : sizeIs P ty cells.size = true) (hold : (old.size == cells.size) = true) (h1 : cells.all (·.oneCell') = true) : Does P o a W fun _ w1 => Known w0 w1 L' := by
  have hb := K.blk hr.has
  refine ⟨.skip, W.setRow g cells, ?_, .inr ⟨rfl, K.put hr (put_row W g cells) (setRow_heap W g old cells t (0, 0) hb.out)⟩⟩
  have hs := run_storeVar_row (P := P) W g t ty old cells hb.out (sizeIs_info hi) (by simpa using hold) h1
  unfold execOp
  simp only [ho, hx, hy, Instr.storeAt, Instr.sureAddr, Sem.run_bind, Sem.run_pure, Result.andThen_ok, hs]
/-- part of a block is written -/
theorem kd_store_mid (K : Known w0 W L) (ty : TypeId) (x y : Operand) (ho : o.op = .store ty x y) {g i : Nat} {t : TypeId} {old new cells : Array Value} {L' : List Ent}
    (hx : a.eval x = .pointer (some ⟨g, i, none⟩)) (hy : a.eval y = .agg cells) (hr : Repl (row g old t) (row g new t) L L') (hi : sizeIs P ty cells.size = true) (hin : i + cells.size ≤ old.size) (h1 : cells.all (·.oneCell') = true)
    (hnew : (old.toList.take i ++ cells.toList ++ old.toList.drop (i + cells.size)).toArray = new) : Does P o a W fun _ w1 => Known w0 w1 L' := by
  have hb := K.blk hr.has
  have hs := run_storeCells_at (P := P) g i t cells.toList 0 old W hb.out (by simpa using hin) (fun v hv => by
    rw [Array.all_eq_true_iff_forall_mem] at h1
    exact h1 v (by simpa using hv))
  rw [Nat.add_zero, Array.length_toList, hnew] at hs
  refine ⟨.skip, W.setRow g new, ?_, .inr ⟨rfl, K.put hr (put_row W g new) (setRow_heap W g old new t (0, 0) hb.out)⟩⟩
  unfold execOp
  simp only [ho, hx, hy, Instr.storeAt, Instr.sureAddr, Sem.run_bind, Sem.run_pure, Result.andThen_ok]
  simp [storeVar, sizeIs_run hi, Value.cells, Sem.run_bind, hs]
theorem kd_store_cell (K : Known w0 W L) (ty : TypeId) (x y : Operand) (ho : o.op = .store ty x y) {g i : Nat} {t : TypeId} {old new : Array Value} {L' : List Ent} {v : Value}
    (hx : a.eval x = .pointer (some ⟨g, i, none⟩)) (hy : a.eval y = v) (hr : Repl (row g old t) (row g new t) L L') (h1 : v.oneCell' = true) (hc : v.cells = #[v]) (hi : sizeIs P ty 1 = true) (hin : decide (i < old.size) = true) (hnew : old.setIfInBounds i v = new) : Does P o a W fun _ w1 => Known w0 w1 L' := by
  have hb := K.blk hr.has
  have hin' := of_decide_eq_true hin
  have hcell : W.cell? ⟨g, i, none⟩ = some old[i] := (hb.cell i).trans (by simp [hin'])
  have hst : (store ⟨g, i, none⟩ v).run P W = .ok () (W.setCell ⟨g, i, none⟩ v) := by
    rw [run_store P W _ v _ h1, hcell]
    simp [hb.frozen i]
  refine ⟨.skip, W.setCell ⟨g, i, none⟩ v, ?_, .inr ⟨rfl, K.put hr (put_cell W g i v) (by subst hnew; exact heap_setCell_same W g i old t v hb.out)⟩⟩
  unfold execOp
  simp only [ho, hx, hy, Instr.storeAt, Instr.sureAddr, Sem.run_bind, Sem.run_pure, Result.andThen_ok]
  simp [storeVar, sizeIs_run hi, hc, storeCells, Addr.add, hst, Sem.run_bind]
end

/-- A slice of the call's own: nil, or at the head of a block of its own; what it has. -/
structure OwnL (e : TypeId) (s : Nat) (A : Option Addr) (n c : Nat) (vs : List Value) (X : List Ent) : Prop where mk ::
  (out : vs.length = n * s ∧ ((A = none ∧ n = 0 ∧ c = 0 ∧ X = []) ∨ ∃ g cur, A = some ⟨g, 0, none⟩ ∧ X = [row g cur e] ∧ n ≤ c ∧ c ≤ maxLen ∧ cur.size = c * s ∧ cur.toList.take (n * s) = vs))
namespace OwnL
variable {e : TypeId} {s : Nat} {A : Option Addr} {n c : Nat} {vs : List Value} {X L : List Ent} {w0 w w1 : World}
theorem nil (e : TypeId) (s : Nat) : OwnL e s none 0 0 [] [] := ⟨by simp, .inl ⟨rfl, rfl, rfl, rfl⟩⟩
theorem len (h : OwnL e s A n c vs X) : vs.length = n * s := h.out.1
theorem le (h : OwnL e s A n c vs X) : n ≤ c := by
  rcases h.out.2 with ⟨_, h1, h2, _⟩ | ⟨_, _, _, _, h1, _⟩ <;> omega
theorem of {g : Nat} {cur : Array Value} (h1 : n ≤ c) (h2 : c ≤ maxLen) (h3 : cur.size = c * s) (h4 : cur.toList.take (n * s) = vs) (h5 : vs.length = n * s) : OwnL e s (some ⟨g, 0, none⟩) n c vs [row g cur e] :=
  ⟨h5, .inr ⟨g, cur, rfl, rfl, h1, h2, h3, h4⟩⟩
theorem lit0 {g : Nat} (e : TypeId) (s : Nat) : OwnL e s (some ⟨g, 0, none⟩) 0 0 [] [row g #[] e] := OwnL.of (Nat.le_refl _) (by unfold maxLen; omega) (by simp) (by simp) (by simp)
theorem owns (h : OwnL e s A n c vs X) (K : Known w0 w L) {f : List Ent → List Ent} (hs : Seg X f L) : w.ownsRow w0.heap.size e s (.slice A n c) n vs := by
  refine ⟨h.out.1, ?_⟩
  rcases h.out.2 with ⟨rfl, rfl, rfl, _⟩ | ⟨g, cur, rfl, rfl, h1, h2, h3, h4⟩
  · exact .inl ⟨rfl, rfl⟩
  · obtain ⟨A, B, _, rfl⟩ := hs.out
    exact .inr ⟨g, c, cur, rfl, K.ge (row g cur e) (by simp), K.at_ (row g cur e) (by simp), h1, h2, h3, h4⟩
theorem rd {k : IntKind} {xs : List Int} (h : OwnL e 1 A n c (xs.map (Value.int k)) X) (K : Known w0 w L) (hs : ∀ x ∈ X, x ∈ L) : Rd w k A n xs := by
  have hl : xs.length = n := by have := h.out.1; simpa using this
  rcases h.out.2 with ⟨rfl, rfl, rfl, rfl⟩ | ⟨g, cur, rfl, rfl, h1, h2, h3, h4⟩
  · have : xs = [] := List.eq_nil_of_length_eq_zero hl
    subst this
    exact Rd.nil _ _ _
  · exact Rd.ofBlk (cs := cur) (t := e) ⟨K.at_ (row g cur e) (hs _ (by simp))⟩ hl (by simpa using h4)
/-- what an append leaves -/
theorem grown {n' : Nat} {v' : Value} {vs' : List Value} {f : List Ent → List Ent} (h : OwnL e s A n c vs X) (K : Known w0 w L) (hs : Seg X f L) (ho : w1.ownsRow w0.heap.size e s v' n' vs') (hg : w.grownBy w1 (Value.slice A n c).ownBlock)
    (hat : v'.ownBlock = (Value.slice A n c).ownBlock ∨ v'.ownBlock = some w.heap.size) :
    ∃ A' c' X', v' = .slice A' n' c' ∧ OwnL e s A' n' c' vs' X' ∧ Known w0 w1 (f X') := by
  have hk : ∀ k, k < w.heap.size → (∀ x ∈ X, x.1 ≠ k) → w1.heap[k]? = w.heap[k]? := fun k hlt hx => hg.block k hlt (by
    rcases h.out.2 with ⟨rfl, _⟩ | ⟨g, cur, rfl, rfl, _⟩
    · simp [Value.ownBlock]
    · have := hx (row g cur e) (by simp)
      intro hc
      simp [Value.ownBlock] at hc
      exact this hc.symm)
  have hb : Below w0.heap.size w0 w1 := K.fr.trans ⟨hg.os, hg.tape, hg.output, hg.size, fun k hlt => hk k (by have := K.size; omega) (fun x hx he => by
    obtain ⟨A', B', _, rfl⟩ := hs.out
    have := K.ge x (by simp [hx])
    omega)⟩
  obtain ⟨hl, hf⟩ := ho
  rcases hf with ⟨rfl, rfl⟩ | ⟨g, cap, cur, rfl, hge, hcur, h1, h2, h3, h4⟩
  · exact ⟨none, 0, [], rfl, ⟨hl, .inl ⟨rfl, rfl, rfl, rfl⟩⟩, K.seg hs hb hk (by simp) (by simp)⟩
  · refine ⟨_, cap, [row g cur e], rfl, ⟨hl, .inr ⟨g, cur, rfl, rfl, h1, h2, h3, h4⟩⟩, K.seg hs hb hk (by simp) ?_⟩
    intro x hx
    simp only [List.mem_singleton] at hx
    subst hx
    refine ⟨hcur, hge, ?_⟩
    rcases hat with hat | hat
    · left
      rcases h.out.2 with ⟨rfl, _⟩ | ⟨g', cur', rfl, rfl, _⟩
      · simp [Value.ownBlock] at hat
      · simp [Value.ownBlock] at hat
        exact ⟨row g' cur' e, by simp, hat.symm⟩
    · right
      simp [Value.ownBlock] at hat
      simp only [row]
      omega
end OwnL

theorem Rd.sub {w : World} {k : IntKind} {b off n : Nat} {xs : List Int} (h : Rd w k (some ⟨b, off, none⟩) n xs) (i m : Nat) (hi : i + m ≤ n) : Rd w k (some ⟨b, off + i, none⟩) m ((xs.drop i).take m) :=
  ⟨by have := h.len; simp; omega, fun j hj => by
    obtain ⟨b', off', e, hc⟩ := h.at_ (i + j) (by omega)
    injection e with e
    injection e with e1 e2
    subst e1 e2
    refine ⟨b, off + i, rfl, ?_⟩
    rw [Nat.add_assoc, hc]
    have : i + j < xs.length := by rw [h.len]; omega
    simp [List.getD, List.getElem?_take, hj]⟩
/-- A slice of numbers that reads as xs, whatever becomes of the world, as long as L is known. -/
structure RdS (w0 : World) (L : List Ent) (k : IntKind) (A : Option Addr) (n : Nat) (xs : List Int) : Prop where mk :: (at_ : ∀ w, Known w0 w L → Rd w k A n xs) (len : xs.length = n)
namespace RdS
variable {w0 w : World} {L T : List Ent} {k : IntKind} {A : Option Addr} {n : Nat} {xs : List Int}
theorem base (h : Rd w0 k A n xs) (L : List Ent) : RdS w0 L k A n xs := ⟨fun w K => h.below K.fr, h.len⟩
theorem nil (w0 : World) (L : List Ent) (k : IntKind) (A : Option Addr) : RdS w0 L k A 0 [] := ⟨fun w K => Rd.nil _ _ _, rfl⟩
theorem cov (h : RdS w0 T k A n xs) (hc : Cov T L) : RdS w0 L k A n xs := ⟨fun w K => h.at_ w (K.cov hc), h.len⟩
theorem own {e : TypeId} {c : Nat} {X : List Ent} {f : List Ent → List Ent} (h : OwnL e 1 A n c (xs.map (Value.int k)) X) (hs : Seg X f L) : RdS w0 L k A n xs :=
  ⟨fun w K => h.rd K (by obtain ⟨A', B', _, rfl⟩ := hs.out; intro x hx; simp [hx]), by have := h.len; simpa using this⟩
theorem ofRow {g off : Nat} {cs : Array Value} {t : TypeId} (h : Has (row g cs t) L) (hx : xs.length = n) (hxs : (cs.toList.drop off).take n = xs.map (Value.int k)) : RdS w0 L k (some ⟨g, off, none⟩) n xs :=
  ⟨fun w K => Rd.ofBlk (K.blk h) hx hxs, hx⟩
/-- out of a world that is known, without what is stable: by the world at hand -/
theorem get (h : RdS w0 T k A n xs) (K : Known w0 w L) (hc : Cov T L) : Rd w k A n xs := h.at_ w (K.cov hc)
theorem cell {b off q j : Nat} {v : Int} (h : RdS w0 L k (some ⟨b, off, none⟩) n xs) (K : Known w0 w L) (hj : j < n) (hv : xs.getD j 0 = v) (hq : q = off + j) : w.cell? ⟨b, q, none⟩ = some (.int k v) := by
  obtain ⟨b', off', e, hc⟩ := (h.at_ w K).at_ j hj
  injection e with e
  injection e with e1 e2
  subst e1 e2 hq
  rw [hc, hv]
theorem form (h : RdS w0 L k A n xs) (K : Known w0 w L) (hn : 0 < n) : ∃ b off, A = some ⟨b, off, none⟩ := by
  obtain ⟨b, off, e, _⟩ := (h.at_ w K).form hn
  exact ⟨b, off, e⟩
theorem sub {b off : Nat} (h : RdS w0 L k (some ⟨b, off, none⟩) n xs) (i m : Nat) (hi : i + m ≤ n) : RdS w0 L k (some ⟨b, off + i, none⟩) m ((xs.drop i).take m) := ⟨fun w K => (h.at_ w K).sub i m hi, by have := h.len; simp; omega⟩
end RdS
section
variable {P : Program}
/-- append, of cells that are known; s: cells of an element -/
theorem run_appendL (w : World) {w0 : World} {L X : List Ent} {f : List Ent → List Ent} {t ty e : TypeId} {s : Nat} {A B : Option Addr} {n c m c2 bytes : Nat} {vs us : List Value} {z : Value} (ht : P.underlying t = some (.slice e)) (hinfo : (P.info? e).map (fun i => (i.zero, i.size, i.bytes)) = some (some z, s, bytes)) (hzs : z.cells.size = s) (hs0 : 0 < s)
    (K : Known w0 w L) (hX : OwnL e s A n c vs X) (hs : Seg X f L) (hul : us.length = m * s) (hu : 0 < m → ∃ b off, B = some ⟨b, off, none⟩ ∧ ∀ j u, us[j]? = some u → w.cell? ⟨b, off + j, none⟩ = some u) (h1 : ∀ u ∈ us, u.oneCell' = true) (h63 : n + m ≤ maxLen) (hbytes : (n + m) * bytes ≤ 140737488355328) :
    ∃ A' c' X' w1, (Builtin.append_ #[t, t] ty #[.slice A n c, .slice B m c2]).run P w = .ok (.slice A' (n + m) c') w1 ∧ OwnL e s A' (n + m) c' (vs ++ us) X' ∧ Known w0 w1 (f X') := by
  cases hq : P.info? e with
  | none => simp [hq] at hinfo
  | some i =>
    simp only [hq, Option.map_some, Option.some.injEq, Prod.mk.injEq] at hinfo
    obtain ⟨g1, g2, g3⟩ := hinfo
    by_cases hm : m = 0
    · subst hm
      have hus : us = [] := List.eq_nil_of_length_eq_zero (by simpa using hul)
      subst hus
      refine ⟨A, c, X, w, ?_, by simpa using hX, ?_⟩
      · rw [run_append_none w t ty e i ht hq A B n c c2 hX.le]
        · simp
        · intro hA
          rcases hX.out.2 with ⟨_, h0, _⟩ | ⟨g, cur, hg, _⟩
          · exact h0
          · rw [hA] at hg; cases hg
        · intro a ha
          rcases hX.out.2 with ⟨h0, _⟩ | ⟨g, cur, hg, _⟩
          · rw [h0] at ha; cases ha
          · rw [hg] at ha; injection ha with ha; subst ha; rfl
      · obtain ⟨A', B', hf, rfl⟩ := hs.out
        rw [hf]
        exact K
    · obtain ⟨b, off, rfl, hc⟩ := hu (by omega)
      obtain ⟨v', w', hrun, hown', hgr, hnil, hat⟩ := run_append_own_at (P := P) w w0.heap.size t ty e i z s bytes ht hq g1 g2 g3 hzs hs0 (.slice A n c) n vs (hX.owns K hs) ⟨b, off, none⟩ m c2 us hul (fun j u hj => by
        have hadd : (⟨b, off, none⟩ : Addr).add j = ⟨b, off + j, none⟩ := by unfold Addr.add; split <;> simp_all
        rw [hadd]; exact hc j u hj) h1 h63 hbytes K.size
      obtain ⟨A', c', X', rfl, hO, hK⟩ := hX.grown K hs hown' hgr hat
      exact ⟨A', c', X', w', hrun, hO, hK⟩
end
section
variable {P : Program} {o : Oper} {a : Act} {W w0 : World} {L : List Ent}
/-- append(s, x...); s the call's own. -/
theorem kd_append (K : Known w0 W L) (t e : TypeId) {s x : Operand} (ho : o.op = .call { callee := .builtin .append, args := #[s, x], argTypes := #[t, t] }) {sz : Nat} {A B : Option Addr} {n c m c2 : Nat} {vs us : List Value} {X : List Ent} {f : List Ent → List Ent}
    (hs : a.eval s = .slice A n c) (hx : a.eval x = .slice B m c2) (hX : OwnL e sz A n c vs X) (hsg : Seg X f L) (ht : P.underlying t = some (.slice e)) (hinfo : elemB P e sz = true) (hs0 : 0 < sz)
    (hul : us.length = m * sz) (hu : 0 < m → ∃ b off, B = some ⟨b, off, none⟩ ∧ ∀ j u, us[j]? = some u → W.cell? ⟨b, off + j, none⟩ = some u) (h1 : ∀ u ∈ us, u.oneCell' = true) (hbytes : n + m ≤ 34000000000) :
    Does P o a W fun u w1 => ∃ A' c' X', u = .slice A' (n + m) c' ∧ OwnL e sz A' (n + m) c' (vs ++ us) X' ∧ Known w0 w1 (f X') := by
  obtain ⟨z, bytes, hi, hz, hb⟩ := elemB_info hinfo
  have hle : (n + m) * bytes ≤ 34000000000 * 4096 := Nat.mul_le_mul hbytes hb
  obtain ⟨A', c', X', w1, hrun, h1, h2⟩ := run_appendL (P := P) W (ty := o.type) ht hi hz hs0 K hX hsg hul hu h1 (by unfold maxLen; omega) (by omega) (c2 := c2)
  refine Does.val (v := .slice A' (n + m) c') (w1 := w1) ?_ ⟨A', c', X', rfl, h1, h2⟩
  unfold execOp
  simp only [ho, resolve, invoke, builtin, Sem.run_bind, Sem.run_pure, Result.andThen_ok, List.map_toArray, List.map_cons, List.map_nil, hs, hx, hrun]
/-- append(s, x...), numbers. -/
theorem kd_appendN (K : Known w0 W L) (t e : TypeId) {s x : Operand} (ho : o.op = .call { callee := .builtin .append, args := #[s, x], argTypes := #[t, t] }) {k : IntKind} {A B : Option Addr} {n c m c2 : Nat} {xs ys : List Int} {X : List Ent} {f : List Ent → List Ent}
    (hs : a.eval s = .slice A n c) (hx : a.eval x = .slice B m c2) (hX : OwnL e 1 A n c (xs.map (Value.int k)) X) (hsg : Seg X f L) (hr : Rd W k B m ys) (ht : P.underlying t = some (.slice e)) (hinfo : elemB P e 1 = true) (hbytes : n + m ≤ 34000000000) :
    Does P o a W fun u w1 => ∃ A' c' X', u = .slice A' (n + m) c' ∧ OwnL e 1 A' (n + m) c' ((xs ++ ys).map (Value.int k)) X' ∧ Known w0 w1 (f X') := by
  have h := kd_append (P := P) K t e ho hs hx hX hsg ht hinfo (by omega) (us := ys.map (Value.int k)) (by simp [hr.len]) (fun hm => by
      obtain ⟨b, off, e1, hlt, hc⟩ := hr.form hm
      refine ⟨b, off, e1, fun j u hj => ?_⟩
      have hjy : j < ys.length := by
        rcases Nat.lt_or_ge j ys.length with h | h
        · exact h
        · rw [List.getElem?_eq_none (by simpa using h)] at hj; cases hj
      rw [hc j (by have := hr.len; omega)]
      simp [hjy] at hj
      simp [hjy, List.getD, hj]) (fun u hu => by
        rw [List.mem_map] at hu
        obtain ⟨y, _, rfl⟩ := hu
        rfl) hbytes
  simpa using h
end
section
variable {P : Program} {o : Oper} {a : Act} {W w0 : World} {L : List Ent}
/-- where a part of a slice lies -/
theorem RdS.part {k : IntKind} {A : Option Addr} {n c i j : Nat} {xs : List Int} (hR : RdS w0 L k A n xs) (h1 : i ≤ j) (h2 : j ≤ n) (hc : n ≤ c) :
    RdS w0 L k (if c = i then A else A.map (·.add (i * 1))) (j - i) ((xs.drop i).take (j - i)) := by
  refine ⟨fun w K => ?_, by have := hR.len; simp; omega⟩
  have hr := hR.at_ w K
  by_cases h0 : j - i = 0
  · rw [h0, List.take_zero]
    exact Rd.nil _ _ _
  · rw [if_neg (by omega)]
    obtain ⟨b, off, rfl, _, _⟩ := hr.form (by omega)
    have e : Option.map (fun x : Addr => x.add (i * 1)) (some ⟨b, off, none⟩) = some ⟨b, off + i, none⟩ := by
      simp [Addr.add]
      try (split <;> simp_all)
    rw [e]
    exact hr.sub i (j - i) (by omega)
theorem run_sliceAt {T e : TypeId} {s : Nat} (hT : P.underlying T = some (.slice e)) (hs : sizeIs P e s = true) {A : Option Addr} {n c i j : Nat} (lo hi : Option Value) (hlo : lo = none ∧ i = 0 ∨ lo = some (.int .i64 i)) (hhi : hi = none ∧ j = n ∨ hi = some (.int .i64 j)) (h1 : i ≤ j) (h2 : j ≤ c) (hc : n ≤ c) :
    (Instr.sliceAt T (.slice A n c) lo hi none).run P W = .ok (.slice (if c = i then A else A.map (·.add (i * s))) (j - i) (c - i)) W := by
  have b1 : (Instr.sliceBound (.int .i64 (i : Int)) j .sliceB).run P W = .ok i W := by
    rw [run_sliceBound W .i64 (i : Int) j .sliceB (by omega) (by omega)]; simp
  have b2 : (Instr.sliceBound (.int .i64 (j : Int)) c .sliceAcap).run P W = .ok j W := by
    rw [run_sliceBound W .i64 (j : Int) c .sliceAcap (by omega) (by omega)]; simp
  have b3 : (Instr.slice T (.slice A n c) lo hi none).run P W = .ok (.slice (if c = i then A else A.map (·.add (i * s))) (j - i) (c - i)) W := by
    unfold Instr.slice
    rcases hlo with ⟨rfl, rfl⟩ | rfl <;> rcases hhi with ⟨rfl, rfl⟩ | rfl <;> simp [run_underlying hT, Instr.sliceBounds, b1, b2, sizeIs_run hs, Sem.run_bind]
  unfold Instr.sliceAt
  simp only [Sem.run_bind, run_underlying hT, Result.andThen_ok, b3]
/-- x[i:j] of numbers -/
theorem kr_slice {T e : TypeId} {k : IntKind} {x : Operand} {lo hi : Option Operand} (ho : o.op = .slice T x lo hi none) {A : Option Addr} {n c : Nat} (hx : a.eval x = .slice A n c) {xs : List Int} (i j : Nat)
    (hlo : lo.map a.eval = none ∧ i = 0 ∨ lo.map a.eval = some (.int .i64 i)) (hhi : hi.map a.eval = none ∧ j = n ∨ hi.map a.eval = some (.int .i64 j)) (hR : RdS w0 L k A n xs) (hc : n ≤ c) (h1 : i ≤ j) (h2 : j ≤ n) (hT : P.underlying T = some (.slice e)) (hs : sizeIs P e 1 = true) :
    ∃ B, (execOp a.eval o).run P W = .ok (.value (.slice B (j - i) (c - i))) W ∧ RdS w0 L k B (j - i) ((xs.drop i).take (j - i)) := by
  refine ⟨_, ?_, hR.part h1 h2 hc⟩
  unfold execOp
  simp only [ho, hx, Option.map_none, run_sliceAt (W := W) hT hs (lo.map a.eval) (hi.map a.eval) hlo hhi h1 (by omega) hc, Sem.run_bind, Result.andThen_ok, Sem.run_pure]
theorem kd_slice {L2 : List Ent} (K : Known w0 W L2) {T e : TypeId} {k : IntKind} {x : Operand} {lo hi : Option Operand} (ho : o.op = .slice T x lo hi none) {A : Option Addr} {n c : Nat} (hx : a.eval x = .slice A n c) {xs : List Int} (i j : Nat)
    (hlo : lo.map a.eval = none ∧ i = 0 ∨ lo.map a.eval = some (.int .i64 i)) (hhi : hi.map a.eval = none ∧ j = n ∨ hi.map a.eval = some (.int .i64 j)) (hR : RdS w0 L k A n xs) (hc : n ≤ c) (h1 : i ≤ j) (h2 : j ≤ n) (hT : P.underlying T = some (.slice e)) (hs : sizeIs P e 1 = true) :
    Does P o a W fun v w1 => w1 = W ∧ ∃ B, v = .slice B (j - i) (c - i) ∧ RdS w0 L k B (j - i) ((xs.drop i).take (j - i)) := by
  obtain ⟨B, hr, hB⟩ := kr_slice (P := P) (o := o) (a := a) (W := W) ho hx i j hlo hhi hR hc h1 h2 hT hs
  exact Does.val hr ⟨rfl, B, rfl, hB⟩
end
theorem OwnL.ofLit {e : TypeId} {k : IntKind} {g n : Nat} {cs : Array Value} {xs : List Int} (h : cs.toList = xs.map (Value.int k)) (hn : xs.length = n) (hm : n ≤ 1000000) : OwnL e 1 (some ⟨g, 0, none⟩) n n (xs.map (Value.int k)) [row g cs e] := by
  have hs : cs.size = n := by rw [← Array.length_toList, h]; simpa using hn
  exact OwnL.of (Nat.le_refl _) (by unfold maxLen; omega) (by omega) (by rw [h, List.take_of_length_le (by simp; omega)]) (by simpa using hn)
section
variable {P : Program} {o : Oper} {a : Act} {W w0 : World} {L : List Ent}
/-- a literal of numbers, as a slice of one's own -/
theorem kd_litsN (K : Known w0 W L) (T : TypeId) (n : Nat) (ps : Array (Nat × Operand)) (ho : o.op = .buildSlice T n ps) {e : TypeId} {cs : Array Value} {vs : Array (Nat × Value)} (hvs : ps.map (fun p => (p.1, a.eval p.2)) = vs)
    (hrun : (Instr.buildSlice T n vs).run P W = .ok (.slice (some ⟨W.heap.size, 0, none⟩) n n) (W.alloc (.cells cs e (0, 0)))) {k : IntKind} {xs : List Int} (h : cs.toList = xs.map (Value.int k)) (hn : xs.length = n) (hm : decide (n ≤ 1000000) = true) :
    Does P o a W fun u w1 => ∃ g, u = .slice (some ⟨g, 0, none⟩) n n ∧ Known w0 w1 (row g cs e :: L) ∧ OwnL e 1 (some ⟨g, 0, none⟩) n n (xs.map (Value.int k)) [row g cs e] := by
  obtain ⟨nx, w1, h1, h2⟩ := kd_lits (P := P) K T n ps ho hvs hrun
  refine ⟨nx, w1, h1, ?_⟩
  rcases h2 with ⟨v, rfl, g, rfl, K2⟩ | ⟨rfl, g, hg, K2⟩
  · exact .inl ⟨_, rfl, g, rfl, K2, OwnL.ofLit h hn (of_decide_eq_true hm)⟩
  · exact .inr ⟨rfl, g, hg, K2, OwnL.ofLit h hn (of_decide_eq_true hm)⟩
/-- string(b) -/
theorem kr_string {w : World} {t u e : TypeId} {x : Operand} (ho : o.op = .convert t u x) {A : Option Addr} {n c : Nat} (hx : a.eval x = .slice A n c) {xs : List Int} (hr : Rd w .u8 A n xs) (hs : P.underlying t = some (.slice e)) (he : P.underlying e = some (.int .u8)) (hd : P.underlying u = some .string) :
    (execOp a.eval o).run P w = .ok (.value (.string (strOfNums xs))) w := by
  unfold execOp
  simp only [ho, hx, run_string w hs he hd hr, Sem.run_bind, Result.andThen_ok, Sem.run_pure]
end
/-- out of the elder word -/
theorem Own.toL {w0 w w1 : World} {L : List Ent} {e : TypeId} {k : IntKind} {A : Option Addr} {n c : Nat} {xs : List Int} (h : Own w1 w.heap.size e k A n c xs) (K : Known w0 w L) (nb : Below w.heap.size w w1) : ∃ X, OwnL e 1 A n c (xs.map (Value.int k)) X ∧ Known w0 w1 (X ++ L) := by
  obtain ⟨hl, hf⟩ := h.out
  rcases hf with ⟨hv, h0⟩ | ⟨g, cap, cur, hv, hge, hcur, h1, h2, h3, h4⟩
  · injection hv with e1 e2 e3
    exact ⟨[], ⟨hl, .inl ⟨e1, h0, e3, rfl⟩⟩, K.below nb⟩
  · injection hv with e1 e2 e3
    subst e1 e3
    refine ⟨[row g cur e], ⟨hl, .inr ⟨g, cur, rfl, rfl, h1, h2, h3, h4⟩⟩, K.seg (X' := [row g cur e]) (Seg.nil L) (K.fr.trans (nb.mono K.size)) (fun k hk _ => nb.block k hk) (by simp) (fun x hx => ?_)⟩
    simp only [List.mem_singleton] at hx
    subst hx
    exact ⟨hcur, Nat.le_trans K.size hge, .inr hge⟩
/-- A slice whose elements have s cells: element j has the cells f j; whatever becomes of the world, as long as L is known. -/
structure RdE (w0 : World) (L : List Ent) (s : Nat) (A : Option Addr) (n : Nat) (f : Nat → List Value) : Prop where mk ::
  (at_ : ∀ w, Known w0 w L → ∀ j, j < n → ∃ b off, A = some ⟨b, off, none⟩ ∧ ∀ i v, (f j)[i]? = some v → w.cell? ⟨b, off + j * s + i, none⟩ = some v)
namespace RdE
variable {w0 w : World} {L T : List Ent} {s : Nat} {A : Option Addr} {n : Nat} {f : Nat → List Value}
theorem nil (w0 : World) (L : List Ent) (s : Nat) (A : Option Addr) (f : Nat → List Value) : RdE w0 L s A 0 f := ⟨fun w K j h => absurd h (Nat.not_lt_zero j)⟩
theorem cov (h : RdE w0 T s A n f) (hc : Cov T L) : RdE w0 L s A n f := ⟨fun w K => h.at_ w (K.cov hc)⟩
theorem ofRow {g off : Nat} {cs : Array Value} {t : TypeId} (h : Has (row g cs t) L) (hf : ∀ j, j < n → ∀ i v, (f j)[i]? = some v → cs[off + j * s + i]? = some v) : RdE w0 L s (some ⟨g, off, none⟩) n f :=
  ⟨fun w K j hj => ⟨g, off, rfl, fun i v hv => ((K.blk h).cell _).trans (hf j hj i v hv)⟩⟩
theorem form (h : RdE w0 L s A n f) (K : Known w0 w L) (hn : 0 < n) : ∃ b off, A = some ⟨b, off, none⟩ := by
  obtain ⟨b, off, e, _⟩ := h.at_ w K 0 hn
  exact ⟨b, off, e⟩
theorem cell {b off : Nat} (h : RdE w0 L s (some ⟨b, off, none⟩) n f) (K : Known w0 w L) {j i q : Nat} {v : Value} (hj : j < n) (hv : (f j)[i]? = some v) (hq : q = off + j * s + i) : w.cell? ⟨b, q, none⟩ = some v := by
  obtain ⟨b', off', e, hc⟩ := h.at_ w K j hj
  injection e with e
  injection e with e1 e2
  subst e1 e2
  rw [hq]
  exact hc i v hv
end RdE
/-- elements of a flat list -/
theorem flat_get {α : Type} {f : Nat → List α} {s : Nat} : ∀ (n : Nat), (∀ j, j < n → (f j).length = s) → ∀ j, j < n → ∀ i v, (f j)[i]? = some v → ((List.range n).flatMap f)[j * s + i]? = some v := by
  intro n
  induction n with
  | zero => intro _ j hj; exact absurd hj (Nat.not_lt_zero _)
  | succ n ih =>
    intro hl j hj i v hv
    have hlen : ((List.range n).flatMap f).length = n * s := by
      have : ∀ m, m ≤ n → ((List.range m).flatMap f).length = m * s := by
        intro m
        induction m with
        | zero => intro _; simp
        | succ m im =>
          intro hm
          rw [List.range_succ, List.flatMap_append, List.length_append, im (by omega), Nat.succ_mul]
          simp [hl m (by omega)]
      exact this n (Nat.le_refl _)
    have hi : i < (f j).length := by
      rcases Nat.lt_or_ge i (f j).length with h | h
      · exact h
      · rw [List.getElem?_eq_none h] at hv; cases hv
    have hjl := hl j hj
    rw [List.range_succ, List.flatMap_append]
    by_cases hjn : j < n
    · have hlt : j * s + i < ((List.range n).flatMap f).length := by
        rw [hlen]
        have : (j + 1) * s ≤ n * s := Nat.mul_le_mul_right s (by omega)
        rw [Nat.succ_mul] at this
        omega
      rw [List.getElem?_append_left hlt]
      exact ih (fun j hj => hl j (by omega)) j hjn i v hv
    · have : j = n := by omega
      subst this
      rw [List.getElem?_append_right (by rw [hlen]; omega), hlen]
      simpa using hv
section
variable {P : Program} {o : Oper} {a : Act} {W w0 : World} {L : List Ent}
/-- a struct among a slice's elements is read -/
theorem kr_load_elem (K : Known w0 W L) (ty : TypeId) (x : Operand) (ho : o.op = .load ty x) {b off q s n : Nat} {f : Nat → List Value} (j : Nat) (hx : a.eval x = .pointer (some ⟨b, q, none⟩)) (hR : RdE w0 L s (some ⟨b, off, none⟩) n f) (hj : j < n) (hq : q = off + j * s) (hu : aggB P ty = true) (hi : sizeIs P ty s = true) (hl : (f j).length = s) :
    (execOp a.eval o).run P W = .ok (.value (.agg (f j).toArray)) W := by
  have hc := run_loadCells_list (P := P) W ⟨b, q, none⟩ (f j) (fun i v hv => by
    have hadd : (⟨b, q, none⟩ : Addr).add i = ⟨b, q + i, none⟩ := by unfold Addr.add; split <;> simp_all
    rw [hadd]
    exact hR.cell K hj hv (by omega))
  rw [hl] at hc
  unfold execOp
  simp [ho, hx, Instr.loadAt, Instr.sureAddr, Sem.run_bind, loadVar, aggB_run hu, sizeIs_run hi, hc]
/-- one cell of a slice's elements is read -/
theorem kr_load_ecell (K : Known w0 W L) (ty : TypeId) (x : Operand) (ho : o.op = .load ty x) {b off q s n : Nat} {f : Nat → List Value} (j i : Nat) {v : Value} (hx : a.eval x = .pointer (some ⟨b, q, none⟩)) (hR : RdE w0 L s (some ⟨b, off, none⟩) n f) (hj : j < n) (hv : (f j)[i]? = some v) (hq : q = off + j * s + i) (hu : oneB P ty = true) :
    (execOp a.eval o).run P W = .ok (.value v) W := kr_load_fact ty x ho hx (hR.cell K hj hv hq) hu
end
end Go.Proofs.Ytemnahimheffgaa
