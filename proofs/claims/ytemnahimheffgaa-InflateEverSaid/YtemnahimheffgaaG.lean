/-
  Regions that draw their order: what is read may be taken first, calls that only read too; of the last operation, that waits for all others, nothing is asked. Over any program.
-/
import Derived.Test.YtemnahimheffgaaK
import Derived.Test.YtemnahimheffgaaEqs
set_option linter.unusedVariables false
set_option linter.unusedSimpArgs false
namespace Go.Proofs.Ytemnahimheffgaa
open Go.RowKit

section
variable {P : Program} {ops : Array Oper} {Q : Exit → Act → World → Prop} {md : Region.Mode} {S : World → Prop}
/-- Every operation waits for some ahead of it alone; every one but the last is waited for. -/
def tailB (md : Region.Mode) (ops : Array Oper) : Bool :=
  (List.range ops.size).all fun i => ((ops[i]?).map fun o => o.after.all fun e => !Region.binds md e || decide (e.on < i)).getD false &&
    (i + 1 == ops.size || (List.range ops.size).any fun k => ((ops[k]?).map fun o => o.after.any fun e => Region.binds md e && e.on == i).getD false)
structure Tail (md : Region.Mode) (ops : Array Oper) : Prop where mk ::
  (wf : ∀ (i : Nat) (o : Oper), ops[i]? = some o → ∀ e ∈ o.after, Region.binds md e = true → e.on < i)
  (use : ∀ i, i + 1 < ops.size → ∃ (k : Nat) (o : Oper) (e : Edge), ops[k]? = some o ∧ e ∈ o.after ∧ Region.binds md e = true ∧ e.on = i)
theorem tail_of (h : tailB md ops = true) : Tail md ops := by
  have h' : ∀ i, i < ops.size → _ := fun i hi => List.all_eq_true.1 h i (List.mem_range.2 hi)
  refine ⟨fun i o ho e he hb => ?_, fun i hi => ?_⟩
  · have hi := (Array.getElem?_eq_some_iff.1 ho).1
    have h1 := h' i hi
    simp only [ho, Option.map_some, Option.getD_some, Bool.and_eq_true, Array.all_eq_true_iff_forall_mem, Bool.or_eq_true, Bool.not_eq_true', decide_eq_true_eq] at h1
    rcases h1.1 e he with hx | hx
    · rw [hb] at hx; cases hx
    · exact hx
  · have h1 := h' i (by omega)
    simp only [Bool.and_eq_true, Bool.or_eq_true, beq_iff_eq, List.any_eq_true, List.mem_range] at h1
    rcases h1.2 with hx | ⟨k, hk, hx⟩
    · omega
    · cases hk' : ops[k]? with
      | none => simp [hk'] at hx
      | some o =>
        simp only [hk', Option.map_some, Option.getD_some, Array.any_eq_true', Bool.and_eq_true, beq_iff_eq] at hx
        obtain ⟨e, he, hb, he2⟩ := hx
        exact ⟨k, o, e, hk', he, hb, he2⟩
/-- What is listed waited for what was listed. -/
def Down (md : Region.Mode) (ops : Array Oper) (listed : Array Bool) : Prop :=
  listed.size = ops.size ∧ ∀ (k : Nat) (o : Oper), ops[k]? = some o → listed.getD k false = true → ∀ e ∈ o.after, Region.binds md e = true → listed.getD e.on false = true
theorem getD_tf {listed : Array Bool} {i : Nat} (hi : i < listed.size) : listed.getD i true = listed.getD i false := by simp [hi]
theorem Down.start : Down md ops (Array.replicate ops.size false) := ⟨by simp, fun k o ho hk => by
  have := (Array.getElem?_eq_some_iff.1 ho).1
  simp [this] at hk⟩
theorem Down.set {listed : Array Bool} {i : Nat} (h : Down md ops listed) (hr : i ∈ Region.ready md ops listed) : Down md ops (listed.setIfInBounds i true) := by
  refine ⟨by simpa using h.1, fun k o ho hk e he hb => getD_set_true ?_⟩
  by_cases hki : i = k
  · subst hki
    obtain ⟨_, o', ho', hall⟩ := mem_ready.1 hr
    rw [ho] at ho'
    cases ho'
    exact hall e he hb
  · rw [getD_set_ne false hki] at hk
    exact h.2 k o ho hk e he hb
theorem Tail.open_ {listed : Array Bool} (ht : Tail md ops) (hd : Down md ops listed) {i : Nat} (hi : i < ops.size) (h : listed.getD i true = false) : listed.getD (ops.size - 1) true = false := by
  obtain ⟨d, hdi⟩ : ∃ d, ops.size - 1 - i = d := ⟨_, rfl⟩
  induction d using Nat.strongRecOn generalizing i with
  | ind d ih =>
    by_cases hl : i + 1 < ops.size
    · obtain ⟨k, o, e, hk, he, hb, he2⟩ := ht.use i hl
      have hlt := (Array.getElem?_eq_some_iff.1 hk).1
      have hik := ht.wf k o hk e he hb
      have hs := hd.1
      have hk0 : listed.getD k true = false := by
        cases hx : listed.getD k true
        · rfl
        · rw [getD_tf (by omega)] at hx
          have := hd.2 k o hk hx e he hb
          rw [he2, ← getD_tf (by omega), h] at this
          cases this
      exact ih (ops.size - 1 - k) (by omega) hlt hk0 rfl
    · have : ops.size - 1 = i := by omega
      rw [this]; exact h
theorem exists_ready (ht : Tail md ops) {listed : Array Bool} (hs : listed.size = ops.size) {i : Nat} (hi : i < ops.size) (hu : listed.getD i true = false) : Region.ready md ops listed ≠ [] := by
  induction i using Nat.strongRecOn with
  | ind i ih =>
    intro hn
    have hlt : i < ops.size := hi
    have ho : ops[i]? = some ops[i] := by simp [hlt]
    by_cases hall : ∀ e ∈ ops[i].after, Region.binds md e = true → listed.getD e.on false = true
    · have : i ∈ Region.ready md ops listed := mem_ready.2 ⟨hu, _, ho, hall⟩
      rw [hn] at this
      cases this
    · simp only [Classical.not_forall] at hall
      obtain ⟨e, he, hb, hf⟩ := hall
      have hon := ht.wf i _ ho e he hb
      exact ih e.on hon (by omega) (by rw [getD_tf (by omega)]; simpa using hf) hn

/-- Whatever order is picked from here on; S holds behind every operation but the last. -/
def wpAnyG (P : Program) (md : Region.Mode) (ops : Array Oper) (Q : Exit → Act → World → Prop) (S : World → Prop) : Nat → Array Bool → Act → World → Prop
  | 0, listed, a, w => Region.ready md ops listed = [] ∧ Q .normal a w
  | fuel + 1, listed, a, w =>
    (Region.ready md ops listed = [] → Q .normal a w) ∧
    ∀ i ∈ Region.ready md ops listed, wpOp P ops Q i (fun a' w' => (Region.ready md ops (listed.setIfInBounds i true) = [] ∧ Q .normal a' w') ∨ (S w' ∧ wpAnyG P md ops Q S fuel (listed.setIfInBounds i true) a' w')) a w
theorem wpAny_of_G : ∀ (fuel : Nat) (listed : Array Bool) (a : Act) (w : World), wpAnyG P md ops Q S fuel listed a w → wpAny P md ops Q fuel listed a w
  | 0, _, _, _, h => h
  | fuel + 1, listed, _, _, h => ⟨h.1, fun i hi => wpOp_mono (fun a' w' h' => by
      rcases h' with ⟨h1, h2⟩ | h'
      · exact wpAny_done h1 h2 _
      · exact wpAny_of_G fuel _ a' w' h'.2) (h.2 i hi)⟩

/-- Operation x may be taken first at a state that meets Y: there it leaves v, in every world that meets S. -/
structure Takes (P : Program) (ops : Array Oper) (Q : Exit → Act → World → Prop) (S : World → Prop) (i : Nat) (x : Oper) (v : Value) (Y : Act → Prop) : Prop where mk ::
  (wp : ∀ a, Y a → ∀ (K : Act → World → Prop) w, S w → K (a.put x.dst v) w → wpOp P ops Q i K a w)
  (same : ∀ a a', Y a → execOp a'.eval x = execOp a.eval x → Region.wanted x (yielded ops a'.tmps) = Region.wanted x (yielded ops a.tmps) → Y a')
theorem takes_value {i : Nat} {x : Oper} {v : Value} (hi : ops[i]? = some x) : Takes P ops Q S i x v (fun a => YieldsIf P ops S x v a) :=
  ⟨fun a hy K w hS h => hy.wpOp hi hS h, fun a a' hy he hw => hy.of_same he hw⟩
/-- In state a the call o gives v in every world that meets S, and leaves that world alone. -/
def YieldsG (P : Program) (ops : Array Oper) (S : World → Prop) (o : Oper) (v : Value) (a : Act) : Prop :=
  Region.wanted o (yielded ops a.tmps) = true ∧ ∃ f args, (∀ w, (execOp a.eval o).run P w = .ok (.enter f args) w) ∧ ∀ w, S w → Calls P f args w fun e w' => e = .returned v ∧ w = w'
theorem takes_call {i : Nat} {x : Oper} {v : Value} (hi : ops[i]? = some x) : Takes P ops Q S i x v (fun a => YieldsG P ops S x v a) := by
  refine ⟨fun a hy K w hS h => ?_, fun a a' hy he hw => ?_⟩
  · obtain ⟨hw, f, args, hr, hc⟩ := hy
    unfold Go.wpOp
    simp only [hi, hw, if_true]
    left
    unfold Oper.wp
    rw [hr w, Oper.upon_enter]
    refine (hc w hS).mono ?_
    rintro e w' ⟨rfl, rfl⟩
    exact h
  · unfold YieldsG at *
    rw [he, hw]
    exact hy

theorem wpOp_putG {i j : Nat} {x y : Oper} {v : Value} {Y : Act → Prop} (hT : Takes P ops Q S i x v Y) (hj : ops[j]? = some y) (hap : x.apart ops y = true) (hsx : ∀ cs b, x.op ≠ .select cs b) (hsy : ∀ cs b, y.op ≠ .select cs b)
    (hQ : ∀ c a w, Q (.panic c) (a.put x.dst v) w → Q (.panic c) a w) {K : Act → World → Prop} {a : Act} {w : World} (hy : Y a) (h : wpOp P ops Q j K (a.put x.dst v) w) :
    wpOp P ops Q j (fun a' w' => Y a' ∧ K (a'.put x.dst v) w') a w := by
  obtain ⟨p1, p2, p3⟩ := Oper.apart_spec hap
  have stay : ∀ b : Act, Y b → ∀ u, Y (b.put y.dst u) := fun b hb u => hT.same _ _ hb (execOp_put x hsx b y.dst u p3) (wanted_put x b y.dst u p3)
  have both : ∀ (b : Act) u w', Y b → K ((b.put x.dst v).put y.dst u) w' → Y (b.put y.dst u) ∧ K ((b.put y.dst u).put x.dst v) w' := fun b u w' hb hk => ⟨stay b hb u, by rw [← Act.put_comm b v u p2]; exact hk⟩
  unfold wpOp at *
  simp only [hj] at *
  rw [wanted_put y a x.dst v p1] at h
  by_cases hw : Region.wanted y (yielded ops a.tmps) = true
  · rw [if_pos hw] at h ⊢
    rcases h with h | ⟨ha, hl⟩
    · left
      unfold Oper.wp at *
      rw [execOp_put y hsy a x.dst v p1] at h
      revert h
      cases hr : (execOp a.eval y).run P w with
      | halt z w' => cases z <;> simp only [Oper.upon] <;> intro h <;> first | exact hQ _ _ _ h | exact h
      | ok z w' =>
        cases z <;> simp only [Oper.upon] <;> intro h
        case value u => exact both a u w' hy h
        case skip => exact both a undef w' hy h
        case defer d => exact both { a with defers := d :: a.defers } undef w' (hT.same _ _ hy rfl rfl) (by rw [← Act.put_defers]; exact h)
        case enter f args =>
          refine Calls.mono h fun e w2 he => ?_
          cases e with
          | returned u => exact both a u w2 hy he
          | panicked c => exact hQ _ _ _ he
          | outgrown => exact he
        case row r args => exact Rows.mono h fun u w2 he => both a u w2 hy he
        all_goals exact h
    · right
      refine ⟨?_, hl⟩
      unfold Oper.asks at *
      rw [execOp_put y hsy a x.dst v p1] at ha
      exact ha
  · rw [if_neg hw] at h ⊢
    exact both a undef w hy h

theorem wpAnyG_first {i : Nat} {x : Oper} {v : Value} {Y : Act → Prop} (ht : Tail md ops) (hi : ops[i]? = some x) (hT : Takes P ops Q S i x v Y) (hsel : ∀ (j : Nat) (o : Oper) cs b, ops[j]? = some o → o.op ≠ .select cs b) (hQ : ∀ c a w, Q (.panic c) (a.put x.dst v) w → Q (.panic c) a w) :
    ∀ (fuel : Nat) (listed : Array Bool) (a : Act) (w : World), Down md ops listed →
      (∀ j y, ops[j]? = some y → j ≠ i → listed.getD j true = false → (∀ e ∈ y.after, Region.binds md e = true → e.on ≠ i) → x.apart ops y = true) →
      i ∈ Region.ready md ops listed → Y a → S w → wpAnyG P md ops Q S fuel (listed.setIfInBounds i true) (a.put x.dst v) w → wpAnyG P md ops Q S (fuel + 1) listed a w := by
  intro fuel
  induction fuel with
  | zero =>
    intro listed a w _ _ hr hy hS H
    refine ⟨fun h => absurd hr (by rw [h]; exact List.not_mem_nil), fun j hj => ?_⟩
    rcases Decidable.em (j = i) with rfl | hne
    · exact hT.wp a hy _ w hS (.inl H)
    · have := ready_mono hj hne
      rw [H.1] at this
      cases this
  | succ fuel ih =>
    intro listed a w hd hfree hr hy hS H
    refine ⟨fun h => absurd hr (by rw [h]; exact List.not_mem_nil), fun j hj => ?_⟩
    rcases Decidable.em (j = i) with rfl | hne
    · exact hT.wp a hy _ w hS (.inr ⟨hS, H⟩)
    · obtain ⟨hun, y, hyj, hall⟩ := mem_ready.1 hj
      have hnot : ∀ e ∈ y.after, Region.binds md e = true → e.on ≠ i := by
        intro e he hb heq
        have q1 := hall e he hb
        have q0 := (mem_ready.1 hr).1
        rw [heq] at q1
        by_cases hlt : i < listed.size
        · simp [hlt] at q0 q1
          rw [q0] at q1
          cases q1
        · simp [Array.getElem?_eq_none (Nat.le_of_not_lt hlt)] at q1
      have h2 := wpOp_putG hT hyj (hfree j y hyj hne hun hnot) (fun cs b => hsel i x cs b hi) (fun cs b => hsel j y cs b hyj) hQ hy (H.2 j (ready_mono hj hne))
      refine wpOp_mono (fun a' w' h3 => ?_) h2
      obtain ⟨hY, h3⟩ := h3
      have hrj := ready_mono hr (Ne.symm hne)
      rcases h3 with ⟨hn, _⟩ | ⟨hS', h3⟩
      · exfalso
        have hs := hd.1
        have hilt : i < ops.size := (Array.getElem?_eq_some_iff.1 hi).1
        have hjlt : j < ops.size := (Array.getElem?_eq_some_iff.1 hyj).1
        have hiu := (mem_ready.1 hr).1
        have hlast : ∀ k, k ∈ Region.ready md ops listed → k = ops.size - 1 → ∀ m, m < ops.size → listed.getD m true = false → m = k := by
          intro k hk hkl m hm hmu
          by_cases hmk : m = k
          · exact hmk
          exfalso
          obtain ⟨k2, o2, e2, hk2, he2, hb2, hon2⟩ := ht.use m (by omega)
          have hd2 := hd.set hk
          have hm2 : (listed.setIfInBounds k true).getD m true = false := by rw [getD_set_ne true (Ne.symm hmk)]; exact hmu
          have hx := Tail.open_ ht hd2 hm hm2
          rw [← hkl] at hx
          have hks : k < listed.size := by omega
          simp [hks] at hx
        have hu' : ∃ m, m < ops.size ∧ ((listed.setIfInBounds i true).setIfInBounds j true).getD m true = false := by
          by_cases hil : i = ops.size - 1
          · exact absurd (hlast i hr hil j hjlt hun) hne
          · by_cases hjl : j = ops.size - 1
            · exact absurd (hlast j hj hjl i hilt hiu) (Ne.symm hne)
            · refine ⟨ops.size - 1, by omega, ?_⟩
              rw [getD_set_ne true hjl, getD_set_ne true hil]
              exact Tail.open_ ht hd hilt hiu
        obtain ⟨m, hm, hmu⟩ := hu'
        exact exists_ready ht (by simpa using hs) hm hmu hn
      · right
        refine ⟨hS', ih (listed.setIfInBounds j true) a' w' (hd.set hj) (fun k z hz hk hu hn => ?_) hrj hY hS' ?_⟩
        · refine hfree k z hz hk ?_ hn
          by_cases hjk : j = k
          · subst hjk; exact hun
          · rw [getD_set_ne true hjk] at hu; exact hu
        · rw [Array.setIfInBounds_comm _ _ hne]
          exact h3

/-! The moves. -/
/-- An order that is walked: what was listed, downwards. -/
def wpG (P : Program) (ops : Array Oper) (Q : Exit → Act → World → Prop) (S : World → Prop) (fuel : Nat) (listed : Array Bool) (a : Act) (w : World) : Prop :=
  Tail .any ops → Region.noSelect ops = true → Down .any ops listed → wpAnyG P .any ops Q S fuel listed a w
theorem wp_region_G {id : Nat} {a : Act} {w : World} (hm : P.follows .mixedOrders = true) (ht : tailB .any ops = true) (hs : Region.noSelect ops = true) (hS : S w.drew)
    (h : S w.drew → wpG P ops Q S ops.size (Array.replicate ops.size false) a w.drew) : (Code.region id ops true).wp P Q a w :=
  wp_region_any hm (wpAny_of_G _ _ _ _ (h hS (tail_of ht) hs Down.start))
theorem wp_region_GK {id : Nat} {a : Act} {w w0 : World} {L X : List Ent} (K : Known w0 w L) (hc : Cov X L) (hm : P.follows .mixedOrders = true) (ht : tailB .any ops = true) (hs : Region.noSelect ops = true)
    (h : Known w0 w.drew L → Known w0 w.drew X → wpG P ops Q (fun w' => Known w0 w' X) ops.size (Array.replicate ops.size false) a w.drew) : (Code.region id ops true).wp P Q a w :=
  wp_region_G hm ht hs (K.drew.cov hc) (fun k => h K.drew k)
theorem wpG_take {i : Nat} {x : Oper} {v : Value} {fuel : Nat} {listed : Array Bool} {a : Act} {w : World} (hi : ops[i]? = some x)
    (hf : (Region.free .any ops listed i && (Region.ready .any ops listed).contains i) = true)
    (hQ : ∀ c a w, Q (.panic c) (a.put x.dst v) w → Q (.panic c) a w) (hy : YieldsIf P ops S x v a) (hS : S w)
    (h : wpG P ops Q S fuel (listed.setIfInBounds i true) (a.put x.dst v) w) : wpG P ops Q S (fuel + 1) listed a w := fun ht hs hd => by
  rw [Bool.and_eq_true] at hf
  have hr : i ∈ Region.ready .any ops listed := by simpa using hf.2
  exact wpAnyG_first ht hi (takes_value hi) (Region.noSelect_spec hs) hQ fuel listed a w hd (Region.free_spec hi hf.1) hr hy hS (h ht hs (hd.set hr))
theorem wpG_takeA (i : Nat) {x : Oper} {v : Value} {fuel : Nat} {listed : Array Bool} {a : Act} {w : World} (hr : ∀ w, S w → (execOp a.eval x).run P w = .ok (.value v) w) (hS : S w)
    (h : wpG P ops Q S fuel (listed.setIfInBounds i true) (a.put x.dst v) w) (hi : ops[i]? = some x := by (try simp only [List.getElem?_toArray, List.getElem?_cons_succ, List.getElem?_cons_zero]); exact rfl)
    (hf : (Region.free .any ops listed i && (Region.ready .any ops listed).contains i) = true := by kernel_rfl)
    (hQ : ∀ c a w, Q (.panic c) (a.put x.dst v) w → Q (.panic c) a w := by exact fun _ _ _ h => h) (hw : Region.wanted x (yielded ops a.tmps) = true := by rfl) : wpG P ops Q S (fuel + 1) listed a w :=
  wpG_take hi hf hQ (.inl ⟨hw, hr⟩) hS h
theorem wpG_offA (i : Nat) {x : Oper} {fuel : Nat} {listed : Array Bool} {a : Act} {w : World} (hS : S w)
    (h : wpG P ops Q S fuel (listed.setIfInBounds i true) (a.put x.dst undef) w) (hi : ops[i]? = some x := by (try simp only [List.getElem?_toArray, List.getElem?_cons_succ, List.getElem?_cons_zero]); exact rfl)
    (hf : (Region.free .any ops listed i && (Region.ready .any ops listed).contains i) = true := by kernel_rfl)
    (hQ : ∀ c a w, Q (.panic c) (a.put x.dst undef) w → Q (.panic c) a w := by exact fun _ _ _ h => h) (hw : Region.wanted x (yielded ops a.tmps) = false := by rfl) : wpG P ops Q S (fuel + 1) listed a w :=
  wpG_take hi hf hQ (.inr ⟨hw, rfl⟩) hS h
theorem wpG_takeC {i : Nat} {x : Oper} {v : Value} {fuel : Nat} {listed : Array Bool} {a : Act} {w : World} (hi : ops[i]? = some x)
    (hf : (Region.free .any ops listed i && (Region.ready .any ops listed).contains i) = true)
    (hQ : ∀ c a w, Q (.panic c) (a.put x.dst v) w → Q (.panic c) a w) (hw : Region.wanted x (yielded ops a.tmps) = true) {f : FuncId} {args : Array Value} (he : ∀ w, (execOp a.eval x).run P w = .ok (.enter f args) w)
    (hc : ∀ w, S w → Calls P f args w fun e w' => e = .returned v ∧ w = w') (hS : S w)
    (h : wpG P ops Q S fuel (listed.setIfInBounds i true) (a.put x.dst v) w) : wpG P ops Q S (fuel + 1) listed a w := fun ht hs hd => by
  rw [Bool.and_eq_true] at hf
  have hr : i ∈ Region.ready .any ops listed := by simpa using hf.2
  exact wpAnyG_first ht hi (takes_call hi) (Region.noSelect_spec hs) hQ fuel listed a w hd (Region.free_spec hi hf.1) hr ⟨hw, f, args, he, hc⟩ hS (h ht hs (hd.set hr))
/-- one operation comes up, whatever is picked; there are others behind it -/
theorem wpG_one {i : Nat} {o : Oper} {fuel : Nat} {listed : Array Bool} {a : Act} {w : World} (ho : ops[i]? = some o) (hr : (Region.ready .any ops listed == [i]) = true)
    (h : ∀ K' : Act → World → Prop, Shut (∀ a w, S w → (S w → wpG P ops Q S fuel (listed.setIfInBounds i true) a w) → K' a w) → if Region.wanted o (yielded ops a.tmps) = true then Oper.wp P o a w K' Q else K' (a.put o.dst undef) w) : wpG P ops Q S (fuel + 1) listed a w := fun ht hs hd => by
  have hr' : Region.ready .any ops listed = [i] := by simpa using hr
  have hi : i ∈ Region.ready .any ops listed := by rw [hr']; simp
  refine ⟨fun h0 => (by rw [h0] at hr'; cases hr'), ?_⟩
  rw [hr']
  intro j hj
  simp only [List.mem_singleton] at hj
  subst hj
  exact wpOp_step ho (fun K' hK => h K' (fun a w hS hW => hK a w (.inr ⟨hS, hW hS ht hs (hd.set hi)⟩)))
/-- the last operation -/
theorem wpG_last {i : Nat} {o : Oper} {fuel : Nat} {listed : Array Bool} {a : Act} {w : World} (ho : ops[i]? = some o) (hr : (Region.ready .any ops listed == [i] && (Region.ready .any ops (listed.setIfInBounds i true)).isEmpty) = true)
    (h : ∀ K' : Act → World → Prop, Shut (∀ a w, Q .normal a w → K' a w) → if Region.wanted o (yielded ops a.tmps) = true then Oper.wp P o a w K' Q else K' (a.put o.dst undef) w) : wpG P ops Q S (fuel + 1) listed a w := fun ht hs hd => by
  rw [Bool.and_eq_true] at hr
  have hr' : Region.ready .any ops listed = [i] := by simpa using hr.1
  have he : Region.ready .any ops (listed.setIfInBounds i true) = [] := by simpa using hr.2
  refine ⟨fun h0 => (by rw [h0] at hr'; cases hr'), ?_⟩
  rw [hr']
  intro j hj
  simp only [List.mem_singleton] at hj
  subst hj
  exact wpOp_step ho (fun K' hK => h K' (fun a w hQ' => hK a w (.inl ⟨he, hQ'⟩)))
theorem wpG_oneA (i : Nat) {o : Oper} {fuel : Nat} {listed : Array Bool} {a : Act} {w : World}
    (h : ∀ K' : Act → World → Prop, Shut (∀ a w, S w → (S w → wpG P ops Q S fuel (listed.setIfInBounds i true) a w) → K' a w) → if Region.wanted o (yielded ops a.tmps) = true then Oper.wp P o a w K' Q else K' (a.put o.dst undef) w)
    (ho : ops[i]? = some o := by (try simp only [List.getElem?_toArray, List.getElem?_cons_succ, List.getElem?_cons_zero]); exact rfl) (hr : (Region.ready .any ops listed == [i]) = true := by kernel_rfl) : wpG P ops Q S (fuel + 1) listed a w := wpG_one ho hr h
theorem wpG_lastA (i : Nat) {o : Oper} {fuel : Nat} {listed : Array Bool} {a : Act} {w : World}
    (h : ∀ K' : Act → World → Prop, Shut (∀ a w, Q .normal a w → K' a w) → if Region.wanted o (yielded ops a.tmps) = true then Oper.wp P o a w K' Q else K' (a.put o.dst undef) w)
    (ho : ops[i]? = some o := by (try simp only [List.getElem?_toArray, List.getElem?_cons_succ, List.getElem?_cons_zero]); exact rfl) (hr : (Region.ready .any ops listed == [i] && (Region.ready .any ops (listed.setIfInBounds i true)).isEmpty) = true := by kernel_rfl) : wpG P ops Q S (fuel + 1) listed a w := wpG_last ho hr h
theorem wpG_done {fuel : Nat} {listed : Array Bool} {a : Act} {w : World} (hr : (Region.ready .any ops listed).isEmpty = true) (h : Q .normal a w) : wpG P ops Q S fuel listed a w := fun _ _ _ => by
  have hr' : Region.ready .any ops listed = [] := by simpa using hr
  cases fuel with
  | zero => exact ⟨hr', h⟩
  | succ n => exact ⟨fun _ => h, by rw [hr']; simp⟩
end
section
variable {P : Program} {o : Oper} {a : Act} {W : World}
/-- an element of an array's value -/
theorem kr_index {T e : TypeId} {x y : Operand} (ho : o.op = .index T x y) {X : Array Value} {k n : Nat} (hx : a.eval x = .agg X) (hy : a.eval y = .int .i64 (k : Int)) (hT : P.underlying T = some (.array n e)) (hk : k < n) (he : oneB P e = true) (hs : sizeIs P e 1 = true) {v : Value} (hv : X[k]? = some v) :
    (execOp a.eval o).run P W = .ok (.value v) W := by
  have h : (Instr.index T (.agg X) (.int .i64 (k : Int))).run P W = .ok v W := by
    have h0 : (0 : Int) ≤ (k : Int) ∧ (k : Int) < (n : Int) := by omega
    simp [Instr.index, asIntOf, Sem.run_bind, run_underlying hT, h0, sizeIs_run hs, part, oneB_run he, hv]
    omega
  unfold execOp
  simp only [ho, hx, hy, h, Sem.run_bind, Result.andThen_ok, Sem.run_pure]
end
end Go.Proofs.Ytemnahimheffgaa
