/-
  More words over what is known. Over any program.
-/
import Derived.Test.YtemnahimheffgaaQ
set_option linter.unusedVariables false
set_option linter.unusedSimpArgs false
namespace Go.Proofs.Ytemnahimheffgaa
open Go.RowKit
theorem OwnL.cap {e : TypeId} {s : Nat} {A : Option Addr} {n c : Nat} {vs : List Value} {X : List Ent} (h : OwnL e s A n c vs X) : c ≤ 9223372036854775807 := by
  rcases h.out.2 with ⟨_, _, h2, _⟩ | ⟨_, _, _, _, _, h2, _⟩
  · omega
  · unfold maxLen at h2; omega
section
variable {P : Program} {o : Oper} {a : Act} {W : World}
/-- x[i:i+m] -/
theorem kr_cut {T e : TypeId} {x : Operand} {lo hi : Option Operand} (ho : o.op = .slice T x lo hi none) {A : Option Addr} {n c : Nat} (hx : a.eval x = .slice A n c) (i m : Nat)
    (hlo : lo = none ∧ i = 0 ∨ ∃ l v, lo = some l ∧ a.eval l = .int .i64 v ∧ v = i) (hhi : hi = none ∧ i + m = n ∨ ∃ l v, hi = some l ∧ a.eval l = .int .i64 v ∧ v = ((i + m : Nat) : Int)) (h : i + m ≤ n) (hc : n ≤ c) (hT : P.underlying T = some (.slice e)) (hs : sizeIs P e 1 = true) :
    (execOp a.eval o).run P W = .ok (.value (.slice (cutA A c i) m (c - i))) W := by
  have hr := run_sliceAt (P := P) (W := W) (A := A) (n := n) (c := c) (i := i) (j := i + m) hT hs (lo.map a.eval) (hi.map a.eval) (by
    rcases hlo with ⟨rfl, h0⟩ | ⟨l, v, rfl, e, rfl⟩
    · exact .inl ⟨rfl, h0⟩
    · exact .inr (congrArg some e)) (by
    rcases hhi with ⟨rfl, h0⟩ | ⟨l, v, rfl, e, rfl⟩
    · exact .inl ⟨rfl, h0⟩
    · exact .inr (congrArg some e)) (by omega) (by omega) hc
  rw [show i + m - i = m by omega] at hr
  unfold execOp
  simp only [ho, hx, Option.map_none, hr, Sem.run_bind, Result.andThen_ok, Sem.run_pure, cutA]
end
section
variable {P : Program} {ops : Array Oper} {Q : Exit → Act → World → Prop} {S : World → Prop} {fuel : Nat} {listed : Array Bool} {a : Act} {w : World}
/-- each of several operations may come up -/
def AllG (P : Program) (ops : Array Oper) (Q : Exit → Act → World → Prop) (S : World → Prop) (fuel : Nat) (listed : Array Bool) (a : Act) (w : World) (l : List Nat) : Prop :=
  ∀ i ∈ l, wpOp P ops Q i (fun a' w' => S w' ∧ wpG P ops Q S fuel (listed.setIfInBounds i true) a' w') a w
theorem AllG.nil : AllG P ops Q S fuel listed a w [] := fun i hi => by cases hi
theorem AllG.cons {i : Nat} {l : List Nat} {o : Oper} (ho : ops[i]? = some o)
    (h : ∀ K' : Act → World → Prop, Shut (∀ a w, S w → (S w → wpG P ops Q S fuel (listed.setIfInBounds i true) a w) → K' a w) → if Region.wanted o (yielded ops a.tmps) = true then Oper.wp P o a w K' Q else K' (a.put o.dst undef) w)
    (hl : AllG P ops Q S fuel listed a w l) : AllG P ops Q S fuel listed a w (i :: l) := fun j hj => by
  rcases List.mem_cons.1 hj with rfl | hj
  · exact wpOp_step ho (fun K' hK => h K' (fun a w hS hW => hK a w ⟨hS, hW hS⟩))
  · exact hl j hj
theorem AllG.consA {i : Nat} {l : List Nat} {o : Oper}
    (h : ∀ K' : Act → World → Prop, Shut (∀ a w, S w → (S w → wpG P ops Q S fuel (listed.setIfInBounds i true) a w) → K' a w) → if Region.wanted o (yielded ops a.tmps) = true then Oper.wp P o a w K' Q else K' (a.put o.dst undef) w)
    (hl : AllG P ops Q S fuel listed a w l) (ho : ops[i]? = some o := by (try simp only [List.getElem?_toArray, List.getElem?_cons_succ, List.getElem?_cons_zero]); exact rfl) : AllG P ops Q S fuel listed a w (i :: l) := AllG.cons ho h hl
theorem wpG_some {i : Nat} {l : List Nat} (hr : (Region.ready .any ops listed == i :: l) = true) (h : AllG P ops Q S fuel listed a w (i :: l)) : wpG P ops Q S (fuel + 1) listed a w := fun ht hs hd => by
  have hr' : Region.ready .any ops listed = i :: l := by simpa using hr
  refine ⟨fun h0 => (by rw [h0] at hr'; cases hr'), fun j hj => ?_⟩
  refine wpOp_mono (fun a' w' h' => .inr ⟨h'.1, h'.2 ht hs (hd.set hj)⟩) (h j ?_)
  rwa [hr'] at hj
end
section
variable {P : Program} {o : Oper} {a : Act} {W w0 : World} {L L' : List Ent}
/-- []byte of a constant: the row gets its mark -/
theorem kd_mark (K : Known w0 W L) {T e t : TypeId} {x : Operand} (ho : o.op = .convert T T x) {g n c : Nat} {cs : Array Value} (hx : a.eval x = .slice (some ⟨g, 0, none⟩) n c) (hr : Repl (row g cs t) (g, .cells cs t (cs.size, cs.size + 1)) L L') (ht : P.underlying T = some (.slice e)) (he : P.underlying e = some (.int .u8)) :
    Does P o a W fun v w1 => v = .slice (some ⟨g, 0, none⟩) n c ∧ Known w0 w1 L' := by
  have hb := (K.blk hr.has).out
  have hlt := (K.blk hr.has).lt
  have hsh : W.shape? g = some (t, cs.size) := by
    unfold World.shape?
    rw [hb]
  have hg : (W.freeze ⟨g, cs.size, none⟩ 1).heap[g]? = some (.cells cs t (cs.size, cs.size + 1)) := by
    unfold World.freeze
    rw [if_neg (by decide)]
    show (W.heap.modify g _)[g]? = _
    rw [Array.getElem?_modify]
    simp [hb]
  have hp : Put W (W.freeze ⟨g, cs.size, none⟩ 1) g := by
    unfold World.freeze
    rw [if_neg (by decide)]
    refine ⟨rfl, rfl, rfl, by simp, fun k hk => ?_⟩
    show (W.heap.modify g _)[k]? = _
    rw [Array.getElem?_modify]
    simp [Ne.symm hk]
  refine Does.val (v := .slice (some ⟨g, 0, none⟩) n c) (w1 := W.freeze ⟨g, cs.size, none⟩ 1) ?_ ⟨rfl, K.put hr hp hg⟩
  unfold execOp
  simp [ho, hx, convert, run_underlying ht, run_underlying he, markStringish, hsh, Sem.run_bind]
end
theorem Has.objRd {w0 : World} {L : List Ent} {k : IntKind} {g off n : Nat} {cs : Array Value} {t : TypeId} {fr : Nat × Nat} {xs : List Int} (h : Has (g, .cells cs t fr) L) (hx : xs.length = n) (hxs : (cs.toList.drop off).take n = xs.map (Value.int k)) : RdS w0 L k (some ⟨g, off, none⟩) n xs :=
  ⟨fun w K => ⟨hx, fun j hj => ⟨g, off, rfl, by
    have e : ((cs.toList.drop off).take n)[j]? = (xs.map (Value.int k))[j]? := by rw [hxs]
    rw [List.getElem?_take_of_lt hj, List.getElem?_drop, Array.getElem?_toList] at e
    unfold World.cell?
    rw [K.get h]
    simp only [Option.isSome_none, Bool.false_eq_true, if_false]
    rw [e]
    have : j < xs.length := by omega
    simp [this, List.getD]⟩⟩, hx⟩
/-- the first of two results stands in a block -/
theorem bodyPost_cell2K {w0 w : World} {L : List Ent} {P : Program} {fn : Func} {R : Ending → World → Prop} {a : Act} {s q g : Nat} {T t : TypeId} {cs : Array Value} {v : Value} (K : Known w0 w L) (hr : fn.results = #[.cell s T, .tmp q]) (ha : a.tmps.getD s undef = .pointer (some ⟨g, 0, none⟩)) (hv : a.tmps.getD q undef = v)
    (hb : Has (row g cs t) L) (hu : aggB P T = true) (hi : sizeIs P T cs.size = true) (hd : a.defers = []) (hR : R (.returned (.tuple #[.agg cs, v])) w) : bodyPost P fn R .ret a w := by
  refine bodyPost_ret ?_ hd hR
  have hl := run_loadMid (P := P) (i := 0) (X := cs) (K.blk hb) hu hi (by simp) (by omega)
  have ha' : a.tmps[s]?.getD undef = .pointer (some ⟨g, 0, none⟩) := by rw [← ha]; simp
  have hv' : a.tmps[q]?.getD undef = v := by rw [← hv]; simp
  simp [results, hr, ha', hv', asAddr, Sem.run_bind, hl]
/-- a struct or array out of known parts -/
theorem kr_build {P : Program} {o : Oper} {a : Act} {w : World} (T : TypeId) {ps : Array (Nat × Operand)} (ho : o.op = .build T ps) {vals : Array (Nat × Value)} (hp : (ps.map fun (i, x) => (i, a.eval x)) = vals) {v : Value} (hr : (Instr.build T vals).run P w = .ok v w) :
    (execOp a.eval o).run P w = .ok (.value v) w := by
  unfold execOp
  simp only [ho, hp, hr, Sem.run_bind, Result.andThen_ok, Sem.run_pure]
theorem part_cell {P : Program} {e : TypeId} {cs : Array Value} {i : Nat} {v : Value} (w : World) (he : oneB P e = true) (h : cs[i]? = some v) : (part e cs i).run P w = .ok v w := by
  simp [part, Sem.run_bind, oneB_run he, h]
theorem part_agg {P : Program} {e : TypeId} {cs X : Array Value} {i n : Nat} (w : World) (he : aggB P e = true) (hs : sizeIs P e n = true) (h : cs.extract i (i + n) = X) : (part e cs i).run P w = .ok (.agg X) w := by
  simp [part, Sem.run_bind, aggB_run he, sizeIs_run hs, h]
end Go.Proofs.Ytemnahimheffgaa
