/-
  Regions that draw their order: a call that only reads may be taken first (the kit takes only operations that are no calls).
-/
import Derived.Test.YtgloienpmikcfaaCom
set_option linter.unusedVariables false
set_option linter.unusedSimpArgs false
namespace Go.Proofs.Ytgloienpmikcfaa
open Go.RowKit

section
variable {P : Program} {ops : Array Oper} {Q : Exit → Act → World → Prop} {md : Region.Mode} {S : World → Prop}
/-- In state a the call o gives v in every world that meets S, and leaves that world alone. -/
def YieldsC (P : Program) (ops : Array Oper) (S : World → Prop) (o : Oper) (v : Value) (a : Act) : Prop :=
  Region.wanted o (yielded ops a.tmps) = true ∧ ∃ f args, (∀ w, (execOp a.eval o).run P w = .ok (.enter f args) w) ∧ ∀ w, S w → Calls P f args w fun e w' => e = .returned v ∧ w = w'

theorem YieldsC.wpOp {i : Nat} {o : Oper} {v : Value} {a : Act} (hi : ops[i]? = some o) (hy : YieldsC P ops S o v a) {K : Act → World → Prop} {w : World} (hS : S w) (h : K (a.put o.dst v) w) : wpOp P ops Q i K a w := by
  obtain ⟨hw, f, args, hr, hc⟩ := hy
  unfold Go.wpOp
  simp only [hi, hw, if_true]
  left
  unfold Oper.wp
  rw [hr w, Oper.upon_enter]
  refine (hc w hS).mono ?_
  rintro e w' ⟨rfl, rfl⟩
  exact h

theorem YieldsC.same {o : Oper} {v : Value} {a a' : Act} (hy : YieldsC P ops S o v a) (he : execOp a'.eval o = execOp a.eval o) (hw : Region.wanted o (yielded ops a'.tmps) = Region.wanted o (yielded ops a.tmps)) : YieldsC P ops S o v a' := by
  unfold YieldsC at *
  rw [he, hw]
  exact hy

theorem wpOp_putC {j : Nat} {x y : Oper} {v : Value} (hj : ops[j]? = some y) (hap : x.apart ops y = true) (hsx : ∀ cs b, x.op ≠ .select cs b) (hsy : ∀ cs b, y.op ≠ .select cs b)
    (hQ : ∀ c a w, Q (.panic c) (a.put x.dst v) w → Q (.panic c) a w) {K : Act → World → Prop} {a : Act} {w : World} (hy : YieldsC P ops S x v a) (h : wpOp P ops Q j K (a.put x.dst v) w) :
    wpOp P ops Q j (fun a' w' => YieldsC P ops S x v a' ∧ K (a'.put x.dst v) w') a w := by
  obtain ⟨p1, p2, p3⟩ := Oper.apart_spec hap
  have stay : ∀ b : Act, YieldsC P ops S x v b → ∀ u, YieldsC P ops S x v (b.put y.dst u) := fun b hb u => hb.same (execOp_put x hsx b y.dst u p3) (wanted_put x b y.dst u p3)
  have both : ∀ (b : Act) u w', YieldsC P ops S x v b → K ((b.put x.dst v).put y.dst u) w' → YieldsC P ops S x v (b.put y.dst u) ∧ K ((b.put y.dst u).put x.dst v) w' := fun b u w' hb hk => ⟨stay b hb u, by rw [← Act.put_comm b v u p2]; exact hk⟩
  unfold wpOp at *
  simp only [hj] at *
  rw [wanted_put y a x.dst v p1] at h
  by_cases hw : Region.wanted y (yielded ops a.tmps) = true
  · rw [if_pos hw] at h ⊢
    rcases h with h | ⟨ha, hl⟩
    · left
      unfold Oper.wp at *
      rw [execOp_put y hsy a x.dst v p1] at h
      revert h
      cases hr : (execOp a.eval y).run P w with
      | halt z w' => cases z <;> simp only [Oper.upon] <;> intro h <;> first | exact hQ _ _ _ h | exact h
      | ok z w' =>
        cases z <;> simp only [Oper.upon] <;> intro h
        case value u => exact both a u w' hy h
        case skip => exact both a undef w' hy h
        case defer d => exact both { a with defers := d :: a.defers } undef w' (hy.same rfl rfl) (by rw [← Act.put_defers]; exact h)
        case enter f args =>
          refine Calls.mono h fun e w2 he => ?_
          cases e with
          | returned u => exact both a u w2 hy he
          | panicked c => exact hQ _ _ _ he
          | outgrown => exact he
        case row r args => exact Rows.mono h fun u w2 he => both a u w2 hy he
        all_goals exact h
    · right
      refine ⟨?_, hl⟩
      unfold Oper.asks at *
      rw [execOp_put y hsy a x.dst v p1] at ha
      exact ha
  · rw [if_neg hw] at h ⊢
    exact both a undef w hy h

theorem wpAnyH_firstC {i : Nat} {x : Oper} {v : Value} (hi : ops[i]? = some x) (hsel : ∀ (j : Nat) (o : Oper) cs b, ops[j]? = some o → o.op ≠ .select cs b) (hQ : ∀ c a w, Q (.panic c) (a.put x.dst v) w → Q (.panic c) a w) :
    ∀ (fuel : Nat) (listed : Array Bool) (a : Act) (w : World),
      (∀ j y, ops[j]? = some y → j ≠ i → listed.getD j true = false → (∀ e ∈ y.after, Region.binds md e = true → e.on ≠ i) → x.apart ops y = true) →
      i ∈ Region.ready md ops listed → YieldsC P ops S x v a → S w → wpAnyH P md ops Q S fuel (listed.setIfInBounds i true) (a.put x.dst v) w → wpAnyH P md ops Q S (fuel + 1) listed a w := by
  intro fuel
  induction fuel with
  | zero =>
    intro listed a w _ hr hy hS H
    refine ⟨fun h => absurd hr (by rw [h]; exact List.not_mem_nil), fun j hj => ?_⟩
    rcases Decidable.em (j = i) with rfl | hne
    · exact hy.wpOp hi hS ⟨hS, H⟩
    · have := ready_mono hj hne
      rw [H.1] at this
      cases this
  | succ fuel ih =>
    intro listed a w hfree hr hy hS H
    refine ⟨fun h => absurd hr (by rw [h]; exact List.not_mem_nil), fun j hj => ?_⟩
    rcases Decidable.em (j = i) with rfl | hne
    · exact hy.wpOp hi hS ⟨hS, H⟩
    · obtain ⟨hun, y, hyj, hall⟩ := mem_ready.1 hj
      have hnot : ∀ e ∈ y.after, Region.binds md e = true → e.on ≠ i := by
        intro e he hb heq
        have q1 := hall e he hb
        have q0 := (mem_ready.1 hr).1
        rw [heq] at q1
        by_cases hlt : i < listed.size
        · simp [hlt] at q0 q1
          rw [q0] at q1
          cases q1
        · simp [Array.getElem?_eq_none (Nat.le_of_not_lt hlt)] at q1
      have h2 := wpOp_putC hyj (hfree j y hyj hne hun hnot) (fun cs b => hsel i x cs b hi) (fun cs b => hsel j y cs b hyj) hQ hy (H.2 j (ready_mono hj hne))
      refine wpOp_mono (fun a' w' h3 => ⟨h3.2.1, ih (listed.setIfInBounds j true) a' w' (fun k z hz hk hu hn => ?_) (ready_mono hr (Ne.symm hne)) h3.1 h3.2.1 ?_⟩) h2
      · refine hfree k z hz hk ?_ hn
        by_cases hjk : j = k
        · subst hjk; exact hun
        · rw [getD_set_ne true hjk] at hu; exact hu
      · rw [Array.setIfInBounds_comm _ _ hne]
        exact h3.2.2

/-- Take call number i first: it only reads. -/
theorem wpAnyH_takeC {i : Nat} {x : Oper} {v : Value} {fuel : Nat} {listed : Array Bool} {a : Act} {w : World} (hi : ops[i]? = some x)
    (hs : Region.noSelect ops = true) (hf : Region.free md ops listed i = true) (hr : (Region.ready md ops listed).contains i = true)
    (hQ : ∀ c a w, Q (.panic c) (a.put x.dst v) w → Q (.panic c) a w) (hw : Region.wanted x (yielded ops a.tmps) = true) {f : FuncId} {args : Array Value} (he : ∀ w, (execOp a.eval x).run P w = .ok (.enter f args) w)
    (hc : ∀ w, S w → Calls P f args w fun e w' => e = .returned v ∧ w = w') (hS : S w)
    (h : wpAnyH P md ops Q S fuel (listed.setIfInBounds i true) (a.put x.dst v) w) : wpAnyH P md ops Q S (fuel + 1) listed a w :=
  wpAnyH_firstC hi (Region.noSelect_spec hs) hQ fuel listed a w (Region.free_spec hi hf) (by simpa using hr) ⟨hw, f, args, he, hc⟩ hS h
end
end Go.Proofs.Ytgloienpmikcfaa
