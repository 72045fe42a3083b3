/-
  A function's value == nil, != nil (inflate's states).
-/
import Derived.Test.YtemnahimheffgaaInfC
set_option linter.unusedVariables false
set_option linter.unusedSimpArgs false
namespace Go.Proofs.Ytemnahimheffgaa
open Go.RowKit
section
variable {w : World} {fn : Fn} {fi ca : Array Value}
theorem st_under : Try.prog.underlying 50 = some (.func #[33] #[50] false) := by first | exact Try.underlying50 | kernel_rfl
theorem eqin_fn {P : Program} (d : Nat) {t : TypeId} {ps rs : Array TypeId} {vd : Bool} (hu : P.underlying t = some (.func ps rs vd)) (x : Value) (b : Bool) (h : (x = .nilFunc ∧ b = true) ∨ (x = .func fn fi ca ∧ b = false)) : (Op.equalIn (d + 1) t x .nilFunc).run P w = .ok b w := by
  rcases h with ⟨rfl, rfl⟩ | ⟨rfl, rfl⟩ <;> simp [Op.equalIn, run_underlying hu]
theorem st_eq (x : Value) (b : Bool) (h : (x = .nilFunc ∧ b = true) ∨ (x = .func fn fi ca ∧ b = false)) : (Op.equal 50 x .nilFunc).run Try.prog w = .ok b w := by
  refine eqin_fn 9999 st_under x b h
@[go_sem] theorem st_neq_fn : (binOp .neq 50 (.func fn fi ca) .nilFunc).run Try.prog w = .ok (.bool true) w := by
  simp only [binOp]
  simp [st_eq (.func fn fi ca) false (.inr ⟨rfl, rfl⟩)]
@[go_sem] theorem st_neq_nil : (binOp .neq 50 .nilFunc .nilFunc).run Try.prog w = .ok (.bool false) w := by
  simp only [binOp]
  simp [st_eq (fn := .func 0) (fi := #[]) (ca := #[]) .nilFunc true (.inl ⟨rfl, rfl⟩)]
@[go_sem] theorem st_eql_fn : (binOp .eql 50 (.func fn fi ca) .nilFunc).run Try.prog w = .ok (.bool false) w := by
  simp only [binOp]
  simp [st_eq (.func fn fi ca) false (.inr ⟨rfl, rfl⟩)]
@[go_sem] theorem st_eql_nil : (binOp .eql 50 .nilFunc .nilFunc).run Try.prog w = .ok (.bool true) w := by
  simp only [binOp]
  simp [st_eq (fn := .func 0) (fi := #[]) (ca := #[]) .nilFunc true (.inl ⟨rfl, rfl⟩)]
section
variable {P : Program} {o : Oper} {a : Act} {W : World} {b : BinOp} {x : Operand} {v r : Value} {U : TypeId}
theorem kr_fn (ho : o.op = .binOp b 50 x (.const .nilFunc) U) (hx : a.eval x = v) (hr : (binOp b 50 v .nilFunc).run Try.prog W = .ok r W) (hg : b = .eql ∨ b = .neq) : (execOp a.eval o).run Try.prog W = .ok (.value r) W := by
  have h2 : a.eval (.const .nilFunc) = .nilFunc := rfl
  unfold execOp
  rcases hg with rfl | rfl <;> simp [ho, hx, h2, eqGuard, Sem.run_bind, hr]
end
end
end Go.Proofs.Ytemnahimheffgaa
