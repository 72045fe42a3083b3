/-
  '==' of arrays and structs, element by element. Over any program.
-/
import Derived.Test.YtemnahimheffgaaCom
namespace Go.Proofs.Ytemnahimheffgaa
open Go.RowKit
section
variable {P : Program} (w : World)
theorem eq_array (d : Nat) {t e : TypeId} {n sz : Nat} (ht : P.underlying t = some (.array n e)) (hsz : (sizeOf e).run P w = .ok sz w) (xs ys : Array Value) (r : Nat → Bool)
    (h : ∀ i, i < n → ∃ a b, (part e xs (i * sz)).run P w = .ok a w ∧ (part e ys (i * sz)).run P w = .ok b w ∧ (Op.equalIn d e a b).run P w = .ok (r i) w) :
    (Op.equalIn (d + 1) t (.agg xs) (.agg ys)).run P w = .ok ((List.range n).all r) w := by
  rw [List.range_eq_range', Op.equalIn]
  simp only [Sem.run_bind, run_underlying ht, Result.andThen_ok, hsz, Std.Legacy.Range.forIn_eq_forIn_range', Std.Legacy.Range.size, Nat.sub_zero, Nat.add_sub_cancel, Nat.div_one]
  have hl : ∀ i ∈ List.range' 0 n 1, i < n := fun i hi => by simpa using (List.mem_range'_1.1 hi).2
  generalize List.range' 0 n 1 = l at hl ⊢
  induction l with
  | nil => simp
  | cons i l ih =>
    obtain ⟨a, b, px, py, pe⟩ := h i (hl i (by simp))
    simp only [List.forIn_cons, Sem.run_bind, px, py, pe, Result.andThen_ok, List.all_cons]
    cases hb : r i
    · simp
    · simp only [Bool.not_true, Bool.false_eq_true, if_false, Sem.run_pure, Result.andThen_ok, Bool.true_and]
      exact ih fun j hj => hl j (by simp [hj])

variable {d : Nat} {xs ys : Array Value} {f : Field} {fs : List Field} {a b : Value} {r s : Bool}
theorem eq_fields_nil : (Op.eqFields d xs ys []).run P w = .ok true w := by simp [Op.eqFields]
theorem eq_fields_cons (hn : (f.name == "_") = false) (ha : (part f.type xs f.offset).run P w = .ok a w) (hb : (part f.type ys f.offset).run P w = .ok b w) (he : (Op.equalIn d f.type a b).run P w = .ok r w)
    (hr : (Op.eqFields d xs ys fs).run P w = .ok s w) : (Op.eqFields d xs ys (f :: fs)).run P w = .ok (r && s) w := by
  have hn' : f.name ≠ "_" := by simpa using hn
  rw [Op.eqFields]
  simp only [if_pos hn', Sem.run_bind, ha, hb, he, Result.andThen_ok]
  cases r
  · simp
  · simpa using hr
theorem eq_struct {t : TypeId} {fs : List Field} (hu : P.underlying t = some (.struct fs.toArray)) (hp : P.stoodInHeld t = false) (h : (Op.eqFields d xs ys fs).run P w = .ok r w) : (Op.equalIn (d + 1) t (.agg xs) (.agg ys)).run P w = .ok r w := by
  have hf : P.fieldsOf t = fs.toArray := by simp [Program.fieldsOf, hu]
  rw [run_equalIn_struct (P := P) w d t xs ys (by rw [hf]; exact hu) hp, hf]
  exact h
theorem eq_int {t : TypeId} (k k' : IntKind) (x y : Int) (h : P.underlying t = some (.int k')) : (Op.equalIn (d + 1) t (.int k x) (.int k y)).run P w = .ok (x == y) w := run_equalIn_int w d t k k' x y h
end
section
variable {P : Program} {ops : Array Oper} {rest : List Oper} {o : Oper} {a : Act} {Q : Exit → Act → World → Prop} {W : World}
theorem at_bin {b : BinOp} {t t' : TypeId} {x y : Operand} (_h : o.op = .binOp b t x y t') (h : wpList P ops Q (o :: rest) a W) : wpList P ops Q (o :: rest) a W := h
/-- '==' of two structs or arrays. -/
theorem ev_eql (hgd : Region.wanted o (yielded ops a.tmps) = true) (T : TypeId) {T' : TypeId} (x y : Operand) (ho : o.op = .binOp .eql T x y T') {X Y : Array Value} (hx : a.eval x = .agg X) (hy : a.eval y = .agg Y)
    (hm : P.eqGuardType P.depth T = false) {r : Bool} (hr : (binOp .eql T (.agg X) (.agg Y)).run P W = .ok (.bool r) W) (h : wpList P ops Q rest (a.put o.dst (.bool r)) W) : wpList P ops Q (o :: rest) a W :=
  ev_wanted hgd fun K hK => by
    unfold Oper.wp execOp
    simp only [ho, hx, hy, Sem.run_bind, run_eqGuard_agg W .eql T x y X Y hm, Result.andThen_ok, hr]
    exact hK _ _ h
theorem ev_neq (hgd : Region.wanted o (yielded ops a.tmps) = true) (T : TypeId) {T' : TypeId} (x y : Operand) (ho : o.op = .binOp .neq T x y T') {X Y : Array Value} (hx : a.eval x = .agg X) (hy : a.eval y = .agg Y)
    (hm : P.eqGuardType P.depth T = false) {r : Bool} (hr : (binOp .neq T (.agg X) (.agg Y)).run P W = .ok (.bool r) W) (h : wpList P ops Q rest (a.put o.dst (.bool r)) W) : wpList P ops Q (o :: rest) a W :=
  ev_wanted hgd fun K hK => by
    unfold Oper.wp execOp
    simp only [ho, hx, hy, Sem.run_bind, run_eqGuard_agg W .neq T x y X Y hm, Result.andThen_ok, hr]
    exact hK _ _ h
theorem at_build {t : TypeId} {ps : Array (Nat × Operand)} (_h : o.op = .build t ps) (h : wpList P ops Q (o :: rest) a W) : wpList P ops Q (o :: rest) a W := h
/-- A zero struct or array. -/
theorem ev_build0 (hgd : Region.wanted o (yielded ops a.tmps) = true) (T : TypeId) (ho : o.op = .build T #[]) {v : Value} (hr : (Instr.build T #[]).run P W = .ok v W) (h : wpList P ops Q rest (a.put o.dst v) W) : wpList P ops Q (o :: rest) a W :=
  ev_wanted hgd fun K hK => by
    unfold Oper.wp execOp
    simp only [ho, List.map_toArray, List.map_nil, hr, Sem.run_bind, Result.andThen_ok]
    exact hK _ _ h
/-- A struct or array out of known parts. -/
theorem ev_build (hgd : Region.wanted o (yielded ops a.tmps) = true) (T : TypeId) {ps : Array (Nat × Operand)} (ho : o.op = .build T ps) {vals : Array (Nat × Value)} (hp : (ps.map fun (i, x) => (i, a.eval x)) = vals) {v : Value} (hr : (Instr.build T vals).run P W = .ok v W) (h : wpList P ops Q rest (a.put o.dst v) W) : wpList P ops Q (o :: rest) a W :=
  ev_wanted hgd fun K hK => by
    unfold Oper.wp execOp
    simp only [ho, hp, hr, Sem.run_bind, Result.andThen_ok]
    exact hK _ _ h
theorem at_index {t : TypeId} {x y : Operand} (_h : o.op = .index t x y) (h : wpList P ops Q (o :: rest) a W) : wpList P ops Q (o :: rest) a W := h
/-- An element of an array's value. -/
theorem ev_index (hgd : Region.wanted o (yielded ops a.tmps) = true) (T : TypeId) {x y : Operand} (ho : o.op = .index T x y) {X : Array Value} {i : Int} (hx : a.eval x = .agg X) (hy : a.eval y = .int .i64 i) {v : Value} (hr : (Instr.index T (.agg X) (.int .i64 i)).run P W = .ok v W)
    (h : wpList P ops Q rest (a.put o.dst v) W) : wpList P ops Q (o :: rest) a W :=
  ev_wanted hgd fun K hK => by
    unfold Oper.wp execOp
    simp only [ho, hx, hy, hr, Sem.run_bind, Result.andThen_ok]
    exact hK _ _ h
end
end Go.Proofs.Ytemnahimheffgaa
