/-
  Regions that draw their order: what is read may be taken first, calls that only read too; of the last operation, that waits for all others, nothing is asked. Over any program.
-/
import Derived.Test.YtfdddipmeadecaaK
import Derived.Test.YtfdddipmeadecaaLaw
import Derived.Deep.Quiet
set_option linter.unusedVariables false
set_option linter.unusedSimpArgs false
namespace Go.Proofs.Ytfdddipmeadecaa
open Go.RowKit

section
variable {P : Program} {ops : Array Oper} {Q : Exit → Act → World → Prop} {md : Region.Mode} {S : World → Prop}
/-- Every operation waits for some ahead of it alone; every one but the last is waited for. -/
def tailB (md : Region.Mode) (ops : Array Oper) : Bool :=
  (List.range ops.size).all fun i => ((ops[i]?).map fun o => o.after.all fun e => !Region.binds md e || decide (e.on < i)).getD false &&
    (i + 1 == ops.size || (List.range ops.size).any fun k => ((ops[k]?).map fun o => o.after.any fun e => Region.binds md e && e.on == i).getD false)
structure Tail (md : Region.Mode) (ops : Array Oper) : Prop where mk ::
  (wf : ∀ (i : Nat) (o : Oper), ops[i]? = some o → ∀ e ∈ o.after, Region.binds md e = true → e.on < i)
  (use : ∀ i, i + 1 < ops.size → ∃ (k : Nat) (o : Oper) (e : Edge), ops[k]? = some o ∧ e ∈ o.after ∧ Region.binds md e = true ∧ e.on = i)
theorem tail_of (h : tailB md ops = true) : Tail md ops := by
  have h' : ∀ i, i < ops.size → _ := fun i hi => List.all_eq_true.1 h i (List.mem_range.2 hi)
  refine ⟨fun i o ho e he hb => ?_, fun i hi => ?_⟩
  · have hi := (Array.getElem?_eq_some_iff.1 ho).1
    have h1 := h' i hi
    simp only [ho, Option.map_some, Option.getD_some, Bool.and_eq_true, Array.all_eq_true_iff_forall_mem, Bool.or_eq_true, Bool.not_eq_true', decide_eq_true_eq] at h1
    rcases h1.1 e he with hx | hx
    · rw [hb] at hx; cases hx
    · exact hx
  · have h1 := h' i (by omega)
    simp only [Bool.and_eq_true, Bool.or_eq_true, beq_iff_eq, List.any_eq_true, List.mem_range] at h1
    rcases h1.2 with hx | ⟨k, hk, hx⟩
    · omega
    · cases hk' : ops[k]? with
      | none => simp [hk'] at hx
      | some o =>
        simp only [hk', Option.map_some, Option.getD_some, Array.any_eq_true', Bool.and_eq_true, beq_iff_eq] at hx
        obtain ⟨e, he, hb, he2⟩ := hx
        exact ⟨k, o, e, hk', he, hb, he2⟩
/-- What is listed waited for what was listed. -/
def Down (md : Region.Mode) (ops : Array Oper) (listed : Array Bool) : Prop :=
  listed.size = ops.size ∧ ∀ (k : Nat) (o : Oper), ops[k]? = some o → listed.getD k false = true → ∀ e ∈ o.after, Region.binds md e = true → listed.getD e.on false = true
theorem getD_tf {listed : Array Bool} {i : Nat} (hi : i < listed.size) : listed.getD i true = listed.getD i false := by simp [hi]
theorem Down.start : Down md ops (Array.replicate ops.size false) := ⟨by simp, fun k o ho hk => by
  have := (Array.getElem?_eq_some_iff.1 ho).1
  simp [this] at hk⟩
theorem Down.set {listed : Array Bool} {i : Nat} (h : Down md ops listed) (hr : i ∈ Region.ready md ops listed) : Down md ops (listed.setIfInBounds i true) := by
  refine ⟨by simpa using h.1, fun k o ho hk e he hb => getD_set_true ?_⟩
  by_cases hki : i = k
  · subst hki
    obtain ⟨_, o', ho', hall⟩ := mem_ready.1 hr
    rw [ho] at ho'
    cases ho'
    exact hall e he hb
  · rw [getD_set_ne false hki] at hk
    exact h.2 k o ho hk e he hb
theorem Tail.open_ {listed : Array Bool} (ht : Tail md ops) (hd : Down md ops listed) {i : Nat} (hi : i < ops.size) (h : listed.getD i true = false) : listed.getD (ops.size - 1) true = false := by
  obtain ⟨d, hdi⟩ : ∃ d, ops.size - 1 - i = d := ⟨_, rfl⟩
  induction d using Nat.strongRecOn generalizing i with
  | ind d ih =>
    by_cases hl : i + 1 < ops.size
    · obtain ⟨k, o, e, hk, he, hb, he2⟩ := ht.use i hl
      have hlt := (Array.getElem?_eq_some_iff.1 hk).1
      have hik := ht.wf k o hk e he hb
      have hs := hd.1
      have hk0 : listed.getD k true = false := by
        cases hx : listed.getD k true
        · rfl
        · rw [getD_tf (by omega)] at hx
          have := hd.2 k o hk hx e he hb
          rw [he2, ← getD_tf (by omega), h] at this
          cases this
      exact ih (ops.size - 1 - k) (by omega) hlt hk0 rfl
    · have : ops.size - 1 = i := by omega
      rw [this]; exact h
theorem exists_ready (ht : Tail md ops) {listed : Array Bool} (hs : listed.size = ops.size) {i : Nat} (hi : i < ops.size) (hu : listed.getD i true = false) : Region.ready md ops listed ≠ [] := by
  induction i using Nat.strongRecOn with
  | ind i ih =>
    intro hn
    have hlt : i < ops.size := hi
    have ho : ops[i]? = some ops[i] := by simp [hlt]
    by_cases hall : ∀ e ∈ ops[i].after, Region.binds md e = true → listed.getD e.on false = true
    · have : i ∈ Region.ready md ops listed := mem_ready.2 ⟨hu, _, ho, hall⟩
      rw [hn] at this
      cases this
    · simp only [Classical.not_forall] at hall
      obtain ⟨e, he, hb, hf⟩ := hall
      have hon := ht.wf i _ ho e he hb
      exact ih e.on hon (by omega) (by rw [getD_tf (by omega)]; simpa using hf) hn

/-- Whatever order is picked from here on; S holds behind every operation but the last. -/
def wpAnyG (P : Program) (md : Region.Mode) (ops : Array Oper) (Q : Exit → Act → World → Prop) (S : World → Prop) : Nat → Array Bool → Act → World → Prop
  | 0, listed, a, w => Region.ready md ops listed = [] ∧ Q .normal a w
  | fuel + 1, listed, a, w =>
    (Region.ready md ops listed = [] → Q .normal a w) ∧
    ∀ i ∈ Region.ready md ops listed, wpOp P ops Q i (fun a' w' => (Region.ready md ops (listed.setIfInBounds i true) = [] ∧ Q .normal a' w') ∨ (S w' ∧ wpAnyG P md ops Q S fuel (listed.setIfInBounds i true) a' w')) a w
theorem wpAny_of_G : ∀ (fuel : Nat) (listed : Array Bool) (a : Act) (w : World), wpAnyG P md ops Q S fuel listed a w → wpAny P md ops Q fuel listed a w
  | 0, _, _, _, h => h
  | fuel + 1, listed, _, _, h => ⟨h.1, fun i hi => wpOp_mono (fun a' w' h' => by
      rcases h' with ⟨h1, h2⟩ | h'
      · exact wpAny_done h1 h2 _
      · exact wpAny_of_G fuel _ a' w' h'.2) (h.2 i hi)⟩

/-- Operation x may be taken first at a state that meets Y: there it leaves v, in every world that meets S. -/
structure Takes (P : Program) (ops : Array Oper) (Q : Exit → Act → World → Prop) (S : World → Prop) (i : Nat) (x : Oper) (v : Value) (Y : Act → Prop) : Prop where mk ::
  (wp : ∀ a, Y a → ∀ (K : Act → World → Prop) w, S w → K (a.put x.dst v) w → wpOp P ops Q i K a w)
  (same : ∀ a a', Y a → execOp a'.eval x = execOp a.eval x → Region.wanted x (yielded ops a'.tmps) = Region.wanted x (yielded ops a.tmps) → Y a')
theorem takes_value {i : Nat} {x : Oper} {v : Value} (hi : ops[i]? = some x) : Takes P ops Q S i x v (fun a => YieldsIf P ops S x v a) :=
  ⟨fun a hy K w hS h => hy.wpOp hi hS h, fun a a' hy he hw => hy.of_same he hw⟩
/-- In state a the call o gives v in every world that meets S, and leaves that world alone. -/
def YieldsG (P : Program) (ops : Array Oper) (S : World → Prop) (o : Oper) (v : Value) (a : Act) : Prop :=
  Region.wanted o (yielded ops a.tmps) = true ∧ ∃ f args, (∀ w, (execOp a.eval o).run P w = .ok (.enter f args) w) ∧ ∀ w, S w → Calls P f args w fun e w' => e = .returned v ∧ w = w'
theorem takes_call {i : Nat} {x : Oper} {v : Value} (hi : ops[i]? = some x) : Takes P ops Q S i x v (fun a => YieldsG P ops S x v a) := by
  refine ⟨fun a hy K w hS h => ?_, fun a a' hy he hw => ?_⟩
  · obtain ⟨hw, f, args, hr, hc⟩ := hy
    unfold Go.wpOp
    simp only [hi, hw, if_true]
    left
    unfold Oper.wp
    rw [hr w, Oper.upon_enter]
    refine (hc w hS).mono ?_
    rintro e w' ⟨rfl, rfl⟩
    exact h
  · unfold YieldsG at *
    rw [he, hw]
    exact hy

theorem wpOp_putG {i j : Nat} {x y : Oper} {v : Value} {Y : Act → Prop} (hT : Takes P ops Q S i x v Y) (hj : ops[j]? = some y) (hap : x.apart ops y = true) (hsx : ∀ cs b, x.op ≠ .select cs b) (hsy : ∀ cs b, y.op ≠ .select cs b)
    (hQ : ∀ c a w, Q (.panic c) (a.put x.dst v) w → Q (.panic c) a w) {K : Act → World → Prop} {a : Act} {w : World} (hy : Y a) (h : wpOp P ops Q j K (a.put x.dst v) w) :
    wpOp P ops Q j (fun a' w' => Y a' ∧ K (a'.put x.dst v) w') a w := by
  obtain ⟨p1, p2, p3⟩ := Oper.apart_spec hap
  have stay : ∀ b : Act, Y b → ∀ u, Y (b.put y.dst u) := fun b hb u => hT.same _ _ hb (execOp_put x hsx b y.dst u p3) (wanted_put x b y.dst u p3)
  have both : ∀ (b : Act) u w', Y b → K ((b.put x.dst v).put y.dst u) w' → Y (b.put y.dst u) ∧ K ((b.put y.dst u).put x.dst v) w' := fun b u w' hb hk => ⟨stay b hb u, by rw [← Act.put_comm b v u p2]; exact hk⟩
  unfold wpOp at *
  simp only [hj] at *
  rw [wanted_put y a x.dst v p1] at h
  by_cases hw : Region.wanted y (yielded ops a.tmps) = true
  · rw [if_pos hw] at h ⊢
    rcases h with h | ⟨ha, hl⟩
    · left
      unfold Oper.wp at *
      rw [execOp_put y hsy a x.dst v p1] at h
      revert h
      cases hr : (execOp a.eval y).run P w with
      | halt z w' => cases z <;> simp only [Oper.upon] <;> intro h <;> first | exact hQ _ _ _ h | exact h
      | ok z w' =>
        cases z <;> simp only [Oper.upon] <;> intro h
        case value u => exact both a u w' hy h
        case skip => exact both a undef w' hy h
        case defer d => exact both { a with defers := d :: a.defers } undef w' (hT.same _ _ hy rfl rfl) (by rw [← Act.put_defers]; exact h)
        case enter f args =>
          refine Calls.mono h fun e w2 he => ?_
          cases e with
          | returned u => exact both a u w2 hy he
          | panicked c => exact hQ _ _ _ he
          | outgrown => exact he
        case row r args => exact Rows.mono h fun u w2 he => both a u w2 hy he
        all_goals exact h
    · right
      refine ⟨?_, hl⟩
      unfold Oper.asks at *
      rw [execOp_put y hsy a x.dst v p1] at ha
      exact ha
  · rw [if_neg hw] at h ⊢
    exact both a undef w hy h

theorem wpAnyG_first {i : Nat} {x : Oper} {v : Value} {Y : Act → Prop} (ht : Tail md ops) (hi : ops[i]? = some x) (hT : Takes P ops Q S i x v Y) (hsel : ∀ (j : Nat) (o : Oper) cs b, ops[j]? = some o → o.op ≠ .select cs b) (hQ : ∀ c a w, Q (.panic c) (a.put x.dst v) w → Q (.panic c) a w) :
    ∀ (fuel : Nat) (listed : Array Bool) (a : Act) (w : World), Down md ops listed →
      (∀ j y, ops[j]? = some y → j ≠ i → listed.getD j true = false → (∀ e ∈ y.after, Region.binds md e = true → e.on ≠ i) → x.apart ops y = true) →
      i ∈ Region.ready md ops listed → Y a → S w → wpAnyG P md ops Q S fuel (listed.setIfInBounds i true) (a.put x.dst v) w → wpAnyG P md ops Q S (fuel + 1) listed a w := by
  intro fuel
  induction fuel with
  | zero =>
    intro listed a w _ _ hr hy hS H
    refine ⟨fun h => absurd hr (by rw [h]; exact List.not_mem_nil), fun j hj => ?_⟩
    rcases Decidable.em (j = i) with rfl | hne
    · exact hT.wp a hy _ w hS (.inl H)
    · have := ready_mono hj hne
      rw [H.1] at this
      cases this
  | succ fuel ih =>
    intro listed a w hd hfree hr hy hS H
    refine ⟨fun h => absurd hr (by rw [h]; exact List.not_mem_nil), fun j hj => ?_⟩
    rcases Decidable.em (j = i) with rfl | hne
    · exact hT.wp a hy _ w hS (.inr ⟨hS, H⟩)
    · obtain ⟨hun, y, hyj, hall⟩ := mem_ready.1 hj
      have hnot : ∀ e ∈ y.after, Region.binds md e = true → e.on ≠ i := by
        intro e he hb heq
        have q1 := hall e he hb
        have q0 := (mem_ready.1 hr).1
        rw [heq] at q1
        by_cases hlt : i < listed.size
        · simp [hlt] at q0 q1
          rw [q0] at q1
          cases q1
        · simp [Array.getElem?_eq_none (Nat.le_of_not_lt hlt)] at q1
      have h2 := wpOp_putG hT hyj (hfree j y hyj hne hun hnot) (fun cs b => hsel i x cs b hi) (fun cs b => hsel j y cs b hyj) hQ hy (H.2 j (ready_mono hj hne))
      refine wpOp_mono (fun a' w' h3 => ?_) h2
      obtain ⟨hY, h3⟩ := h3
      have hrj := ready_mono hr (Ne.symm hne)
      rcases h3 with ⟨hn, _⟩ | ⟨hS', h3⟩
      · exfalso
        have hs := hd.1
        have hilt : i < ops.size := (Array.getElem?_eq_some_iff.1 hi).1
        have hjlt : j < ops.size := (Array.getElem?_eq_some_iff.1 hyj).1
        have hiu := (mem_ready.1 hr).1
        have hlast : ∀ k, k ∈ Region.ready md ops listed → k = ops.size - 1 → ∀ m, m < ops.size → listed.getD m true = false → m = k := by
          intro k hk hkl m hm hmu
          by_cases hmk : m = k
          · exact hmk
          exfalso
          obtain ⟨k2, o2, e2, hk2, he2, hb2, hon2⟩ := ht.use m (by omega)
          have hd2 := hd.set hk
          have hm2 : (listed.setIfInBounds k true).getD m true = false := by rw [getD_set_ne true (Ne.symm hmk)]; exact hmu
          have hx := Tail.open_ ht hd2 hm hm2
          rw [← hkl] at hx
          have hks : k < listed.size := by omega
          simp [hks] at hx
        have hu' : ∃ m, m < ops.size ∧ ((listed.setIfInBounds i true).setIfInBounds j true).getD m true = false := by
          by_cases hil : i = ops.size - 1
          · exact absurd (hlast i hr hil j hjlt hun) hne
          · by_cases hjl : j = ops.size - 1
            · exact absurd (hlast j hj hjl i hilt hiu) (Ne.symm hne)
            · refine ⟨ops.size - 1, by omega, ?_⟩
              rw [getD_set_ne true hjl, getD_set_ne true hil]
              exact Tail.open_ ht hd hilt hiu
        obtain ⟨m, hm, hmu⟩ := hu'
        exact exists_ready ht (by simpa using hs) hm hmu hn
      · right
        refine ⟨hS', ih (listed.setIfInBounds j true) a' w' (hd.set hj) (fun k z hz hk hu hn => ?_) hrj hY hS' ?_⟩
        · refine hfree k z hz hk ?_ hn
          by_cases hjk : j = k
          · subst hjk; exact hun
          · rw [getD_set_ne true hjk] at hu; exact hu
        · rw [Array.setIfInBounds_comm _ _ hne]
          exact h3

/-! The moves. -/
/-- An order that is walked: what was listed, downwards. -/
def wpG (P : Program) (ops : Array Oper) (Q : Exit → Act → World → Prop) (S : World → Prop) (fuel : Nat) (listed : Array Bool) (a : Act) (w : World) : Prop :=
  Tail .any ops → Region.noSelect ops = true → Down .any ops listed → wpAnyG P .any ops Q S fuel listed a w
theorem wp_region_G {id : Nat} {a : Act} {w : World} (hm : P.follows .mixedOrders = true) (ht : tailB .any ops = true) (hs : Region.noSelect ops = true) (hS : S w.drew)
    (h : S w.drew → wpG P ops Q S ops.size (Array.replicate ops.size false) a w.drew) : (Code.region id ops true).wp P Q a w :=
  wp_region_any hm (wpAny_of_G _ _ _ _ (h hS (tail_of ht) hs Down.start))
theorem wp_region_GK {id : Nat} {a : Act} {w w0 : World} {L X : List Ent} (K : Known w0 w L) (hc : Cov X L) (hm : P.follows .mixedOrders = true) (ht : tailB .any ops = true) (hs : Region.noSelect ops = true)
    (h : Known w0 w.drew L → Known w0 w.drew X → wpG P ops Q (fun w' => Known w0 w' X) ops.size (Array.replicate ops.size false) a w.drew) : (Code.region id ops true).wp P Q a w :=
  wp_region_G hm ht hs (K.drew.cov hc) (fun k => h K.drew k)
theorem wpG_take {i : Nat} {x : Oper} {v : Value} {fuel : Nat} {listed : Array Bool} {a : Act} {w : World} (hi : ops[i]? = some x)
    (hf : (Region.free .any ops listed i && (Region.ready .any ops listed).contains i) = true)
    (hQ : ∀ c a w, Q (.panic c) (a.put x.dst v) w → Q (.panic c) a w) (hy : YieldsIf P ops S x v a) (hS : S w)
    (h : wpG P ops Q S fuel (listed.setIfInBounds i true) (a.put x.dst v) w) : wpG P ops Q S (fuel + 1) listed a w := fun ht hs hd => by
  rw [Bool.and_eq_true] at hf
  have hr : i ∈ Region.ready .any ops listed := by simpa using hf.2
  exact wpAnyG_first ht hi (takes_value hi) (Region.noSelect_spec hs) hQ fuel listed a w hd (Region.free_spec hi hf.1) hr hy hS (h ht hs (hd.set hr))
theorem wpG_takeA (i : Nat) {x : Oper} {v : Value} {fuel : Nat} {listed : Array Bool} {a : Act} {w : World} (hr : ∀ w, S w → (execOp a.eval x).run P w = .ok (.value v) w) (hS : S w)
    (h : wpG P ops Q S fuel (listed.setIfInBounds i true) (a.put x.dst v) w) (hi : ops[i]? = some x := by (try simp only [List.getElem?_toArray, List.getElem?_cons_succ, List.getElem?_cons_zero]); exact rfl)
    (hf : (Region.free .any ops listed i && (Region.ready .any ops listed).contains i) = true := by kernel_rfl)
    (hQ : ∀ c a w, Q (.panic c) (a.put x.dst v) w → Q (.panic c) a w := by exact fun _ _ _ h => h) (hw : Region.wanted x (yielded ops a.tmps) = true := by rfl) : wpG P ops Q S (fuel + 1) listed a w :=
  wpG_take hi hf hQ (.inl ⟨hw, hr⟩) hS h
theorem wpG_offA (i : Nat) {x : Oper} {fuel : Nat} {listed : Array Bool} {a : Act} {w : World} (hS : S w)
    (h : wpG P ops Q S fuel (listed.setIfInBounds i true) (a.put x.dst undef) w) (hi : ops[i]? = some x := by (try simp only [List.getElem?_toArray, List.getElem?_cons_succ, List.getElem?_cons_zero]); exact rfl)
    (hf : (Region.free .any ops listed i && (Region.ready .any ops listed).contains i) = true := by kernel_rfl)
    (hQ : ∀ c a w, Q (.panic c) (a.put x.dst undef) w → Q (.panic c) a w := by exact fun _ _ _ h => h) (hw : Region.wanted x (yielded ops a.tmps) = false := by rfl) : wpG P ops Q S (fuel + 1) listed a w :=
  wpG_take hi hf hQ (.inr ⟨hw, rfl⟩) hS h
theorem wpG_takeC {i : Nat} {x : Oper} {v : Value} {fuel : Nat} {listed : Array Bool} {a : Act} {w : World} (hi : ops[i]? = some x)
    (hf : (Region.free .any ops listed i && (Region.ready .any ops listed).contains i) = true)
    (hQ : ∀ c a w, Q (.panic c) (a.put x.dst v) w → Q (.panic c) a w) (hw : Region.wanted x (yielded ops a.tmps) = true) {f : FuncId} {args : Array Value} (he : ∀ w, (execOp a.eval x).run P w = .ok (.enter f args) w)
    (hc : ∀ w, S w → Calls P f args w fun e w' => e = .returned v ∧ w = w') (hS : S w)
    (h : wpG P ops Q S fuel (listed.setIfInBounds i true) (a.put x.dst v) w) : wpG P ops Q S (fuel + 1) listed a w := fun ht hs hd => by
  rw [Bool.and_eq_true] at hf
  have hr : i ∈ Region.ready .any ops listed := by simpa using hf.2
  exact wpAnyG_first ht hi (takes_call hi) (Region.noSelect_spec hs) hQ fuel listed a w hd (Region.free_spec hi hf.1) hr ⟨hw, f, args, he, hc⟩ hS (h ht hs (hd.set hr))
/-- one operation comes up, whatever is picked; there are others behind it -/
theorem wpG_one {i : Nat} {o : Oper} {fuel : Nat} {listed : Array Bool} {a : Act} {w : World} (ho : ops[i]? = some o) (hr : (Region.ready .any ops listed == [i]) = true)
    (h : ∀ K' : Act → World → Prop, Shut (∀ a w, S w → (S w → wpG P ops Q S fuel (listed.setIfInBounds i true) a w) → K' a w) → if Region.wanted o (yielded ops a.tmps) = true then Oper.wp P o a w K' Q else K' (a.put o.dst undef) w) : wpG P ops Q S (fuel + 1) listed a w := fun ht hs hd => by
  have hr' : Region.ready .any ops listed = [i] := by simpa using hr
  have hi : i ∈ Region.ready .any ops listed := by rw [hr']; simp
  refine ⟨fun h0 => (by rw [h0] at hr'; cases hr'), ?_⟩
  rw [hr']
  intro j hj
  simp only [List.mem_singleton] at hj
  subst hj
  exact wpOp_step ho (fun K' hK => h K' (fun a w hS hW => hK a w (.inr ⟨hS, hW hS ht hs (hd.set hi)⟩)))
/-- the last operation -/
theorem wpG_last {i : Nat} {o : Oper} {fuel : Nat} {listed : Array Bool} {a : Act} {w : World} (ho : ops[i]? = some o) (hr : (Region.ready .any ops listed == [i] && (Region.ready .any ops (listed.setIfInBounds i true)).isEmpty) = true)
    (h : ∀ K' : Act → World → Prop, Shut (∀ a w, Q .normal a w → K' a w) → if Region.wanted o (yielded ops a.tmps) = true then Oper.wp P o a w K' Q else K' (a.put o.dst undef) w) : wpG P ops Q S (fuel + 1) listed a w := fun ht hs hd => by
  rw [Bool.and_eq_true] at hr
  have hr' : Region.ready .any ops listed = [i] := by simpa using hr.1
  have he : Region.ready .any ops (listed.setIfInBounds i true) = [] := by simpa using hr.2
  refine ⟨fun h0 => (by rw [h0] at hr'; cases hr'), ?_⟩
  rw [hr']
  intro j hj
  simp only [List.mem_singleton] at hj
  subst hj
  exact wpOp_step ho (fun K' hK => h K' (fun a w hQ' => hK a w (.inl ⟨he, hQ'⟩)))
theorem wpG_oneA (i : Nat) {o : Oper} {fuel : Nat} {listed : Array Bool} {a : Act} {w : World}
    (h : ∀ K' : Act → World → Prop, Shut (∀ a w, S w → (S w → wpG P ops Q S fuel (listed.setIfInBounds i true) a w) → K' a w) → if Region.wanted o (yielded ops a.tmps) = true then Oper.wp P o a w K' Q else K' (a.put o.dst undef) w)
    (ho : ops[i]? = some o := by (try simp only [List.getElem?_toArray, List.getElem?_cons_succ, List.getElem?_cons_zero]); exact rfl) (hr : (Region.ready .any ops listed == [i]) = true := by kernel_rfl) : wpG P ops Q S (fuel + 1) listed a w := wpG_one ho hr h
theorem wpG_lastA (i : Nat) {o : Oper} {fuel : Nat} {listed : Array Bool} {a : Act} {w : World}
    (h : ∀ K' : Act → World → Prop, Shut (∀ a w, Q .normal a w → K' a w) → if Region.wanted o (yielded ops a.tmps) = true then Oper.wp P o a w K' Q else K' (a.put o.dst undef) w)
    (ho : ops[i]? = some o := by (try simp only [List.getElem?_toArray, List.getElem?_cons_succ, List.getElem?_cons_zero]); exact rfl) (hr : (Region.ready .any ops listed == [i] && (Region.ready .any ops (listed.setIfInBounds i true)).isEmpty) = true := by kernel_rfl) : wpG P ops Q S (fuel + 1) listed a w := wpG_last ho hr h
theorem wpG_done {fuel : Nat} {listed : Array Bool} {a : Act} {w : World} (hr : (Region.ready .any ops listed).isEmpty = true) (h : Q .normal a w) : wpG P ops Q S fuel listed a w := fun _ _ _ => by
  have hr' : Region.ready .any ops listed = [] := by simpa using hr
  cases fuel with
  | zero => exact ⟨hr', h⟩
  | succ n => exact ⟨fun _ => h, by rw [hr']; simp⟩
end
section
variable {P : Program} {o : Oper} {a : Act} {W : World}
/-- an element of an array's value -/
theorem kr_index {T e : TypeId} {x y : Operand} (ho : o.op = .index T x y) {X : Array Value} {k n : Nat} (hx : a.eval x = .agg X) (hy : a.eval y = .int .i64 (k : Int)) (hT : P.underlying T = some (.array n e)) (hk : k < n) (he : oneB P e = true) (hs : sizeIs P e 1 = true) {v : Value} (hv : X[k]? = some v) :
    (execOp a.eval o).run P W = .ok (.value v) W := by
  have h : (Instr.index T (.agg X) (.int .i64 (k : Int))).run P W = .ok v W := by
    have h0 : (0 : Int) ≤ (k : Int) ∧ (k : Int) < (n : Int) := by omega
    simp [Instr.index, asIntOf, Sem.run_bind, run_underlying hT, h0, sizeIs_run hs, part, oneB_run he, hv]
    omega
  unfold execOp
  simp only [ho, hx, hy, h, Sem.run_bind, Result.andThen_ok, Sem.run_pure]
end
end Go.Proofs.Ytfdddipmeadecaa

/-
  '==' of arrays of bytes; manifests in memory.
-/
set_option linter.unusedVariables false
set_option linter.unusedSimpArgs false
namespace Go.Proofs.Ytfdddipmeadecaa
open Go.RowKit

def u8s (xs : List Int) : Array Value := (xs.map (Value.int .u8)).toArray
theorem u8s_size (xs : List Int) : (u8s xs).size = xs.length := by simp [u8s]
theorem u8s_at (xs : List Int) (i : Nat) (h : i < xs.length) : (u8s xs)[i]? = some (.int .u8 (xs.getD i 0)) := by
  simp [u8s, List.getD, List.getElem?_eq_getElem h]
theorem all_range_int : ∀ (xs ys : List Int), xs.length = ys.length → ((List.range xs.length).all fun i => xs.getD i 0 == ys.getD i 0) = (xs == ys)
  | [], [], _ => rfl
  | x :: xs, y :: ys, h => by
    have ih := all_range_int xs ys (by simpa using h)
    rw [List.length_cons, List.range_succ_eq_map, List.all_cons, List.all_map]
    simp only [List.getD_cons_zero, Function.comp_def, List.getD_cons_succ, ih]
    simp [List.cons_beq_cons]
  | [], _ :: _, h => by simp at h
  | _ :: _, [], h => by simp at h

section
variable {P : Program} (w : World)
theorem part_u8 {e : TypeId} (he : P.underlying e = some (.int .u8)) (xs : List Int) (i : Nat) (h : i < xs.length) : (part e (u8s xs) (i * 1)).run P w = .ok (.int .u8 (xs.getD i 0)) w := by
  have hx := u8s_at xs i h
  unfold part
  simp only [Sem.run_bind, isAgg, run_underlying he, Result.andThen_ok, Nat.mul_one]
  simp [hx]
theorem eq_u8s (d : Nat) {t e : TypeId} (n : Nat) (ht : P.underlying t = some (.array n e)) (he : P.underlying e = some (.int .u8)) (hsz : (sizeOf e).run P w = .ok 1 w) (xs ys : List Int) (hx : xs.length = n) (hy : ys.length = n) :
    (Op.equalIn (d + 2) t (.agg (u8s xs)) (.agg (u8s ys))).run P w = .ok (xs == ys) w := by
  rw [← all_range_int xs ys (hx.trans hy.symm), hx]
  exact eq_array w (d + 1) ht hsz _ _ _ (fun i hi => ⟨_, _, part_u8 w he xs i (by omega), part_u8 w he ys i (by omega), eq_int w .u8 .u8 _ _ he⟩)
theorem eql_u8s {t e : TypeId} (n : Nat) (ht : P.underlying t = some (.array n e)) (he : P.underlying e = some (.int .u8)) (hsz : (sizeOf e).run P w = .ok 1 w) (xs ys : List Int) (hx : xs.length = n) (hy : ys.length = n) :
    (binOp .eql t (.agg (u8s xs)) (.agg (u8s ys))).run P w = .ok (.bool (xs == ys)) w := by
  rw [run_eql_struct, eq_u8s w 9998 n ht he hsz xs ys hx hy]
  rfl
end

/-- a manifest's cells -/
def mfc (mode ver blk ol nl : Int) (D : List Int) (o : Value) : Array Value := ([Value.int .u8 mode, .int .u64 ver, .int .i64 blk, .int .i64 ol, .int .i64 nl] ++ (D.map (Value.int .u8) ++ [o])).toArray
section
variable (mode ver blk ol nl : Int) (D : List Int) (o : Value)
theorem mfc_size (h : D.length = 96) : (mfc mode ver blk ol nl D o).size = 102 := by simp [mfc, h]
theorem mfc_0 : (mfc mode ver blk ol nl D o)[0]? = some (.int .u8 mode) := by simp [mfc]
theorem mfc_1 : (mfc mode ver blk ol nl D o)[1]? = some (.int .u64 ver) := by simp [mfc]
theorem mfc_2 : (mfc mode ver blk ol nl D o)[2]? = some (.int .i64 blk) := by simp [mfc]
theorem mfc_3 : (mfc mode ver blk ol nl D o)[3]? = some (.int .i64 ol) := by simp [mfc]
theorem mfc_4 : (mfc mode ver blk ol nl D o)[4]? = some (.int .i64 nl) := by simp [mfc]
theorem mfc_D (i : Nat) (h : i < D.length) : (mfc mode ver blk ol nl D o)[5 + i]? = some (.int .u8 (D.getD i 0)) := by
  have e : 5 + i = i + 1 + 1 + 1 + 1 + 1 := by omega
  rw [mfc, List.getElem?_toArray, e]
  simp [List.getElem?_append_left, h, List.getD]
theorem mfc_o (h : D.length = 96) : (mfc mode ver blk ol nl D o)[101]? = some o := by
  rw [mfc, List.getElem?_toArray]
  have e : (101 : Nat) = 96 + 1 + 1 + 1 + 1 + 1 := rfl
  rw [e]
  simp [List.getElem?_append_right, h]
theorem mfc_cut (i n : Nat) (h : i + n ≤ D.length) : (mfc mode ver blk ol nl D o).extract (5 + i) (5 + i + n) = u8s ((D.drop i).take n) := by
  apply Array.ext_getElem?
  intro j
  rw [Array.getElem?_extract]
  have hs : (mfc mode ver blk ol nl D o).size = D.length + 6 := by simp [mfc]
  by_cases hj : j < n
  · rw [if_pos (by omega), show 5 + i + j = 5 + (i + j) by omega, mfc_D _ _ _ _ _ _ _ _ (by omega), u8s_at _ _ (by simp; omega)]
    simp [List.getD, hj]
  · rw [if_neg (by omega)]
    simp [u8s]
    omega
end
end Go.Proofs.Ytfdddipmeadecaa

/-
  More events over what is known: make, copy, an array's slice; rows of numbers. Over any program.
-/
set_option linter.unusedVariables false
set_option linter.unusedSimpArgs false
namespace Go.Proofs.Ytfdddipmeadecaa
open Go.RowKit

/-- vs in the place of the cells from off on -/
def splice (cs : Array Value) (off : Nat) (vs : List Value) : Array Value := (cs.toList.take off ++ vs ++ cs.toList.drop (off + vs.length)).toArray
theorem splice_size {cs : Array Value} {off : Nat} {vs : List Value} (h : off + vs.length ≤ cs.size) : (splice cs off vs).size = cs.size := by
  simp [splice]
  omega
theorem splice_get {cs : Array Value} {off : Nat} {vs : List Value} (h : off + vs.length ≤ cs.size) (i : Nat) : (splice cs off vs)[i]? = if off ≤ i ∧ i < off + vs.length then vs[i - off]? else cs[i]? := by
  simp only [splice, List.getElem?_toArray]
  by_cases h1 : i < off
  · rw [if_neg (by omega), List.append_assoc, List.getElem?_append_left (by simp; omega), List.getElem?_take_of_lt h1, Array.getElem?_toList]
  · by_cases h2 : i < off + vs.length
    · rw [if_pos ⟨by omega, h2⟩, List.append_assoc, List.getElem?_append_right (by simp; omega), List.getElem?_append_left (by simp; omega)]
      congr 1
      simp
      omega
    · rw [if_neg (by omega), List.getElem?_append_right (by simp; omega), List.getElem?_drop, Array.getElem?_toList]
      congr 1
      simp
      omega
theorem splice_nil (cs : Array Value) (off : Nat) : splice cs off [] = cs := by
  simp [splice]
section
variable {P : Program} {o : Oper} {a : Act} {W : World} {T T' : TypeId} {x y : Operand}
/-- v >> s, v no less than 0 -/
theorem kr_shrU {k : IntKind} {v : Int} (s : Nat) (ho : o.op = .binOp .shr T x y T') (hx : a.eval x = .int k v) (hy : a.eval y = .int .i64 (s : Int)) (h0 : 0 ≤ v) (hs : s ≤ k.bits) : (execOp a.eval o).run P W = .ok (.value (.int k (v / 2 ^ s))) W := by
  unfold execOp
  simp only [ho, hx, hy]
  have h1 : ¬ ((s : Int) < 0) := by omega
  have h2 : v.fdiv (2 ^ s) = v / 2 ^ s := Int.fdiv_eq_ediv_of_nonneg _ (Int.pow_nonneg (by omega))
  simp [eqGuard, binOp, Op.shift, Sem.run_bind, h1, Nat.min_eq_left hs, h2]
end
section
variable {P : Program} {o : Oper} {a : Act} {W w0 : World} {L : List Ent}
/-- an element's type of one cell: its zero -/
def zeroIs (P : Program) (e : TypeId) (z : Value) : Prop := ∃ i, P.info? e = some i ∧ i.zero = some z ∧ i.size = 1 ∧ i.bytes ≤ 4096
/-- make([]T, n, c), elements of one cell -/
theorem kd_make (K : Known w0 W L) (T e : TypeId) {x y : Operand} (ho : o.op = .makeSlice T x y) {z : Value} {bytes : Nat}
    (ht : P.underlying T = some (.slice e)) (hinfo : (P.info? e).map (fun i => (i.zero, i.size, i.bytes)) = some (some z, 1, bytes)) (hz : z.cells = #[z]) (n c : Nat)
    (hx : a.eval x = .int .i64 (n : Int)) (hy : a.eval y = .int .i64 (c : Int)) (hnc : n ≤ c) (hb : bytes ≤ 4096) (h63 : c ≤ 34000000000) :
    Does P o a W fun u w1 => ∃ g, u = .slice (some ⟨g, 0, none⟩) n c ∧ Known w0 w1 (row g (Array.replicate c z) e :: L) := by
  cases hq : P.info? e with
  | none => simp [hq] at hinfo
  | some i =>
    simp only [hq, Option.map_some, Option.some.injEq, Prod.mk.injEq] at hinfo
    obtain ⟨h1, h2, h3⟩ := hinfo
    have hbb : (i.bytes : Int) * (c : Int) ≤ 281474976710656 := by
      have : i.bytes * c ≤ 4096 * 34000000000 := Nat.mul_le_mul (by omega) h63
      rw [← Int.natCast_mul]
      omega
    have hr := run_make (P := P) W T e i z ht hq h1 .i64 .i64 (n : Int) (c : Int) (by omega) (by omega) hbb (by omega)
    simp only [Int.toNat_natCast, h2, Nat.mul_one, hz, madeCells_one] at hr
    refine Does.val (v := .slice (some ⟨W.heap.size, 0, none⟩) n c) ?_ ⟨W.heap.size, rfl, K.new (.cells (Array.replicate c z) e (0, 0))⟩
    unfold execOp
    simp only [ho, hx, hy, hr, Sem.run_bind, Result.andThen_ok, Sem.run_pure]
theorem OwnL.made {e : TypeId} {k : IntKind} {g n c : Nat} (h : n ≤ c) (hc : c ≤ 34000000000) : OwnL e 1 (some ⟨g, 0, none⟩) n c ((List.replicate n (0 : Int)).map (Value.int k)) [row g (Array.replicate c (.int k 0)) e] :=
  OwnL.of h (by unfold maxLen; omega) (by simp) (by simp [List.take_replicate]; omega) (by simp)
/-- copy(d, s): numbers, into a row that is known -/
theorem kd_copy (K : Known w0 W L) {T T' e : TypeId} {d s : Operand} (ho : o.op = .call { callee := .builtin .copy, args := #[d, s], argTypes := #[T, T'] }) {g off n dc m c2 : Nat} {t : TypeId} {cur : Array Value} {B : Option Addr} {k : IntKind} {ys : List Int} {L' : List Ent}
    (hd : a.eval d = .slice (some ⟨g, off, none⟩) n dc) (hs : a.eval s = .slice B m c2) (hr : Rd W k B m ys) (hu : P.underlying T = some (.slice e)) (he : sizeIs P e 1 = true) (hrow : Repl (row g cur t) (row g (splice cur off ((ys.take n).map (Value.int k))) t) L L') (hfit : off + n ≤ cur.size) :
    Does P o a W fun v w1 => v = .int .i64 ((min n m : Nat) : Int) ∧ Known w0 w1 L' := by
  have hyl := hr.len
  have hb := K.blk hrow.has
  have hlen : ((ys.take n).map (Value.int k)).length = min n m := by simp [hyl]
  by_cases h0 : m = 0
  · subst h0
    have : ys = [] := List.eq_nil_of_length_eq_zero hyl
    subst this
    simp only [List.take_nil, List.map_nil, splice_nil] at hrow
    have hrun : (Builtin.copy_ #[T, T'] o.type #[.slice (some ⟨g, off, none⟩) n dc, .slice B 0 c2]).run P W = .ok (.int .i64 0) W := by
      cases B <;> simp [Builtin.copy_, run_underlying hu, Builtin.lenOf, Sem.run_bind, sizeIs_run he, Builtin.firstCells, storeCells, goInt, loadCells, loadCellsFrom]
    have hL : L' = L := by
      obtain ⟨A, B, rfl, rfl⟩ := hrow.out
      rfl
    refine Does.val (v := .int .i64 0) (w1 := W) ?_ ⟨by simp, by rw [hL]; exact K⟩
    simp only [execOp, ho, resolve, invoke, builtin, List.map_toArray, List.map_cons, List.map_nil, hd, hs, hrun, Sem.run_bind, Sem.run_pure, Result.andThen_ok]
  · obtain ⟨b, boff, rfl, hlt, hc⟩ := hr.form (by omega)
    have hrun := run_copy_row (P := P) W T T' o.type e g off n dc ⟨b, boff, none⟩ m c2 cur t ((ys.take n).map (Value.int k)) hu (sizeIs_info he) hb.out (by rw [hlen]; exact Nat.min_comm _ _)
      (fun j v hj => by
        have hadd : (⟨b, boff, none⟩ : Addr).add j = ⟨b, boff + j, none⟩ := by unfold Addr.add; split <;> simp_all
        have hjn : j < min n m := by
          rcases Nat.lt_or_ge j (min n m) with h | h
          · exact h
          · rw [List.getElem?_eq_none (by omega)] at hj; cases hj
        have hjy : j < ys.length := by omega
        rw [hadd, hc j (by omega)]
        rw [List.getElem?_map, List.getElem?_take_of_lt (by omega), List.getElem?_eq_getElem hjy] at hj
        simp [List.getD, hjy] at hj ⊢
        exact hj) (by rw [hlen]; omega) (fun v hv => by
        rw [List.mem_map] at hv
        obtain ⟨x, _, rfl⟩ := hv
        rfl)
    rw [hlen] at hrun
    refine Does.val (v := .int .i64 ((min n m : Nat) : Int)) ?_ ⟨rfl, K.put (o' := .cells (splice cur off ((ys.take n).map (Value.int k))) t (0, 0)) hrow (put_row W g (splice cur off ((ys.take n).map (Value.int k)))) (setRow_heap W g cur _ t (0, 0) hb.out)⟩
    simp only [execOp, ho, resolve, invoke, builtin, List.map_toArray, List.map_cons, List.map_nil, hd, hs, hrun, Sem.run_bind, Sem.run_pure, Result.andThen_ok]
    simp only [splice, hlen, goInt]
/-- x[i:j] of an array variable -/
theorem kr_slice_arr {T e : TypeId} {N : Nat} {x : Operand} {lo hi : Option Operand} (ho : o.op = .slice T x lo hi none) {g off : Nat} (hx : a.eval x = .pointer (some ⟨g, off, none⟩)) (i j : Nat)
    (hlo : lo.map a.eval = none ∧ i = 0 ∨ lo.map a.eval = some (.int .i64 i)) (hhi : hi.map a.eval = none ∧ j = N ∨ hi.map a.eval = some (.int .i64 j)) (h1 : i ≤ j) (h2 : j ≤ N) (hT : P.underlying T = some (.array N e)) (hs : sizeIs P e 1 = true) :
    (execOp a.eval o).run P W = .ok (.value (.slice (some ⟨g, if N = i then off else off + i, none⟩) (j - i) (N - i))) W := by
  have hadd : (⟨g, off, none⟩ : Addr).add i = ⟨g, off + i, none⟩ := by unfold Addr.add; split <;> simp_all
  have b1 : (Instr.sliceBound (.int .i64 (i : Int)) j .sliceB).run P W = .ok i W := by
    rw [run_sliceBound W .i64 (i : Int) j .sliceB (by omega) (by omega)]; simp
  have b2 : (Instr.sliceBound (.int .i64 (j : Int)) N .sliceAlen).run P W = .ok j W := by
    rw [run_sliceBound W .i64 (j : Int) N .sliceAlen (by omega) (by omega)]; simp
  have b3 : (Instr.sliceAt T (.pointer (some ⟨g, off, none⟩)) (lo.map a.eval) (hi.map a.eval) none).run P W = .ok (.slice (some ⟨g, if N = i then off else off + i, none⟩) (j - i) (N - i)) W := by
    unfold Instr.sliceAt
    have hif : (if N = i then (⟨g, off, none⟩ : Addr) else ⟨g, off + i, none⟩) = ⟨g, if N = i then off else off + i, none⟩ := by split <;> rfl
    rcases hlo with ⟨hl, rfl⟩ | hl <;> rcases hhi with ⟨hh, rfl⟩ | hh <;> rw [hl, hh] <;> simp [run_underlying hT, Instr.sureAddr, Instr.sliceBounds, b1, b2, sizeIs_run hs, Sem.run_bind, hadd, hif]
  unfold execOp
  simp only [ho, hx, Option.map_none, b3, Sem.run_bind, Result.andThen_ok, Sem.run_pure]
theorem kr_slice_arr_lt {T e : TypeId} {N : Nat} {x : Operand} {lo hi : Option Operand} (ho : o.op = .slice T x lo hi none) {g off : Nat} (hx : a.eval x = .pointer (some ⟨g, off, none⟩)) (i j : Nat)
    (hlo : lo.map a.eval = none ∧ i = 0 ∨ lo.map a.eval = some (.int .i64 i)) (hhi : hi.map a.eval = none ∧ j = N ∨ hi.map a.eval = some (.int .i64 j)) (h1 : i ≤ j) (h2 : j ≤ N) (hlt : i < N) (hT : P.underlying T = some (.array N e)) (hs : sizeIs P e 1 = true) :
    (execOp a.eval o).run P W = .ok (.value (.slice (some ⟨g, off + i, none⟩) (j - i) (N - i))) W := by
  have h := kr_slice_arr (P := P) (o := o) (a := a) (W := W) ho hx i j hlo hhi h1 h2 hT hs
  rwa [if_neg (by omega)] at h
end
def upd {α : Type} (f : Nat → α) (n : Nat) (v : α) : Nat → α := fun i => if i = n then v else f i
/-- cells that a function tells -/
def fcells (n : Nat) (f : Nat → Value) : Array Value := ((List.range n).map f).toArray
theorem fcells_size (n : Nat) (f : Nat → Value) : (fcells n f).size = n := by simp [fcells]
theorem fcells_get {n i : Nat} (f : Nat → Value) (h : i < n) : (fcells n f)[i]? = some (f i) := by simp [fcells, h]
theorem fcells_set {n i : Nat} (f : Nat → Value) (v : Value) (h : i < n) : (fcells n f).set! i v = fcells n (upd f i v) := by
  apply Array.ext
  · simp [fcells]
  · intro j h1 h2
    simp only [fcells, List.size_toArray, List.length_map, List.length_range] at h2
    simp only [fcells, upd, Array.set!_eq_setIfInBounds, Array.getElem_setIfInBounds, List.getElem_toArray, List.getElem_map, List.getElem_range]
    by_cases e : i = j
    · subst e; simp
    · have : ¬ j = i := fun c => e c.symm
      simp [e, this]
theorem fcells_congr {n : Nat} {f g : Nat → Value} (h : ∀ i, i < n → f i = g i) : fcells n f = fcells n g := by
  simp only [fcells]
  congr 1
  exact List.map_congr_left (fun i hi => h i (List.mem_range.1 hi))
theorem splice_fcells {N off : Nat} (f : Nat → Value) (vs : List Value) (h : off + vs.length ≤ N) : splice (fcells N f) off vs = fcells N (fun i => if off ≤ i ∧ i < off + vs.length then vs.getD (i - off) (.bool false) else f i) := by
  have hs : off + vs.length ≤ (fcells N f).size := by rw [fcells_size]; exact h
  apply Array.ext
  · rw [splice_size hs, fcells_size, fcells_size]
  · intro i h1 h2
    have e1 : (splice (fcells N f) off vs)[i]? = some (splice (fcells N f) off vs)[i] := Array.getElem?_eq_getElem h1
    rw [splice_get hs] at e1
    have hi : i < N := by rw [fcells_size] at h2; exact h2
    have e2 := fcells_get (fun i => if off ≤ i ∧ i < off + vs.length then vs.getD (i - off) (.bool false) else f i) hi
    rw [Array.getElem?_eq_getElem h2] at e2
    injection e2 with e2
    rw [e2]
    split
    · next hc =>
      rw [if_pos hc, List.getElem?_eq_getElem (by omega)] at e1
      injection e1 with e1
      rw [← e1]
      simp [List.getD, show i - off < vs.length by omega]
    · next hc =>
      rw [if_neg hc, fcells_get _ hi] at e1
      injection e1 with e1
      exact e1.symm
theorem fcells_repl (N : Nat) (z : Value) : Array.replicate N z = fcells N (fun _ => z) := by
  apply Array.ext
  · simp [fcells]
  · intro i h1 h2
    simp [fcells]
theorem fcells_u8s (n : Nat) (f : Nat → Int) : fcells n (fun i => .int .u8 (f i)) = u8s ((List.range n).map f) := by
  simp [fcells, u8s, Function.comp_def]
theorem fcells_rd {w0 : World} {L : List Ent} {k : IntKind} {g N off n : Nat} {t : TypeId} {f : Nat → Value} {xs : List Int} (h : Has (row g (fcells N f) t) L) (hx : xs.length = n) (hN : off + n ≤ N) (hxs : ∀ j, j < n → f (off + j) = .int k (xs.getD j 0)) : RdS w0 L k (some ⟨g, off, none⟩) n xs :=
  RdS.ofRow h hx (by
    apply List.ext_getElem?
    intro i
    by_cases hi : i < n
    · rw [List.getElem?_take_of_lt hi, List.getElem?_drop, Array.getElem?_toList, fcells_get _ (by omega), hxs i hi]
      simp [List.getD, show i < xs.length by omega]
    · rw [List.getElem?_eq_none (by simp; omega), List.getElem?_eq_none (by simp; omega)])
end Go.Proofs.Ytfdddipmeadecaa

/-
  Regions that draw their order, in the text's order: every operation but the last is quiet (one value in every world of a class; a call may draw). Over any program.
-/
set_option linter.unusedVariables false
set_option linter.unusedSimpArgs false
namespace Go.Proofs.Ytfdddipmeadecaa
open Go.RowKit

section
variable {P : Program} {ops : Array Oper} {Q : Exit → Act → World → Prop} {md : Region.Mode} {C : World → Prop}
theorem Tail.listed {listed : Array Bool} (ht : Tail md ops) (hd : Down md ops listed) (hr : ops.size - 1 ∈ Region.ready md ops listed) : ∀ i, i + 1 < ops.size → listed.getD i false = true := by
  obtain ⟨hlu, ol, hol, hall⟩ := mem_ready.1 hr
  have key : ∀ d i, i + 1 < ops.size → ops.size - 1 - i = d → listed.getD i false = true := by
    intro d
    induction d using Nat.strongRecOn with
    | ind d ih =>
      intro i hi hdi
      obtain ⟨k, o, e, hk, he, hb, he2⟩ := ht.use i hi
      have hlt := (Array.getElem?_eq_some_iff.1 hk).1
      have hik := ht.wf k o hk e he hb
      by_cases hkl : k = ops.size - 1
      · subst hkl
        rw [hol] at hk
        cases hk
        have := hall e he hb
        rwa [he2] at this
      · have := hd.2 k o hk (ih (ops.size - 1 - k) (by omega) k (by omega) rfl) e he hb
        rwa [he2] at this
  exact fun i hi => key _ i hi rfl
theorem Tail.last_done {listed : Array Bool} (ht : Tail md ops) (hd : Down md ops listed) (hr : ops.size - 1 ∈ Region.ready md ops listed) : Region.ready md ops (listed.setIfInBounds (ops.size - 1) true) = [] := by
  rw [List.eq_nil_iff_forall_not_mem]
  intro i hi
  obtain ⟨hu, o, ho, _⟩ := mem_ready.1 hi
  have hlt := (Array.getElem?_eq_some_iff.1 ho).1
  by_cases h : i = ops.size - 1
  · subst h
    have := hd.1
    simp [show ops.size - 1 < listed.size by omega] at hu
  · rw [getD_set_ne true (Ne.symm h)] at hu
    have := ht.listed hd hr i (by omega)
    rw [getD_tf (by have := hd.1; omega), this] at hu
    cases hu
/-- Whatever order is picked; the last operation is met by R. -/
def wpAnyL (P : Program) (md : Region.Mode) (ops : Array Oper) (C : World → Prop) (R : Act → Prop) : Nat → Array Bool → Act → Prop
  | 0, _, _ => False
  | fuel + 1, listed, a => Region.ready md ops listed ≠ [] ∧ ∀ i ∈ Region.ready md ops listed, (i = ops.size - 1 → R a) ∧ (i ≠ ops.size - 1 → qOp P ops C i (wpAnyL P md ops C R fuel (listed.setIfInBounds i true)) a)
theorem wpAny_of_L {R : Act → Prop} (ht : Tail md ops) (hR : ∀ a w, C w → R a → wpOp P ops Q (ops.size - 1) (fun a' w' => Q .normal a' w') a w) : ∀ (fuel : Nat) (listed : Array Bool) (a : Act) (w : World), Down md ops listed → C w →
    wpAnyL P md ops C R fuel listed a → wpAny P md ops Q fuel listed a w
  | 0, _, _, _, _, _, h => h.elim
  | fuel + 1, listed, a, w, hd, hC, h => ⟨fun h0 => absurd h0 h.1, fun i hi => by
      by_cases hl : i = ops.size - 1
      · subst hl
        exact wpOp_mono (fun a' w' h' => wpAny_done (ht.last_done hd hi) h' fuel) (hR a w hC ((h.2 _ hi).1 rfl))
      · exact wpOp_of_qOp hC (fun a' w' hC' h' => wpAny_of_L ht hR fuel _ a' w' (hd.set hi) hC' h') ((h.2 i hi).2 hl)⟩
theorem wpAnyL_first {R : Act → Prop} {i : Nat} {oi : Oper} {v : Value} (ht : Tail md ops) (hi : ops[i]? = some oi) (hil : i ≠ ops.size - 1) (hsel : ∀ (j : Nat) (o : Oper) cs b, ops[j]? = some o → o.op ≠ .select cs b) :
    ∀ (fuel : Nat) (listed : Array Bool) (a : Act), Down md ops listed →
      (∀ j oj, ops[j]? = some oj → j ≠ i → listed.getD j true = false → (∀ e ∈ oj.after, Region.binds md e = true → e.on ≠ i) → oi.apart ops oj = true) →
      i ∈ Region.ready md ops listed → YieldsIn P ops C oi v a →
      wpAnyL P md ops C R fuel (listed.setIfInBounds i true) (a.put oi.dst v) → wpAnyL P md ops C R (fuel + 1) listed a := by
  intro fuel
  induction fuel with
  | zero => intro listed a _ _ _ _ H; exact H.elim
  | succ fuel ih =>
    intro listed a hd hfree hr hy H
    refine ⟨fun h => (by rw [h] at hr; cases hr), fun j hj => ⟨fun hjl => ?_, fun hjl => ?_⟩⟩
    · exfalso
      subst hjl
      have hlt := (Array.getElem?_eq_some_iff.1 hi).1
      have h1 := ht.listed hd hj i (by omega)
      have h0 := (mem_ready.1 hr).1
      rw [getD_tf (by have := hd.1; omega), h1] at h0
      cases h0
    · by_cases hji : j = i
      · subst hji; exact hy.qOp hi H
      · have h1 := (H.2 j (ready_mono hj hji)).2 hjl
        obtain ⟨hjun, oj, hoj, hall⟩ := mem_ready.1 hj
        have hnot : ∀ e ∈ oj.after, Region.binds md e = true → e.on ≠ i := fun e he hb heq => by
          have h1 := hall e he hb
          have h0 := (mem_ready.1 hr).1
          rw [heq] at h1
          rcases Nat.lt_or_ge i listed.size with h' | h'
          · simp [h'] at h0 h1; rw [h0] at h1; cases h1
          · simp [Array.getElem?_eq_none h'] at h1
        have h2 := qOp_put hoj (hfree j oj hoj hji hjun hnot) (fun cs b => hsel i oi cs b hi) (fun cs b => hsel j oj cs b hoj) hy h1
        have hfree' : ∀ k ok, ops[k]? = some ok → k ≠ i → (listed.setIfInBounds j true).getD k true = false →
            (∀ e ∈ ok.after, Region.binds md e = true → e.on ≠ i) → oi.apart ops ok = true := fun k ok hk hki hun hno => by
          refine hfree k ok hk hki ?_ hno
          by_cases hjk : j = k
          · subst hjk; exact hjun
          · rw [getD_set_ne true hjk] at hun; exact hun
        refine qOp_mono (fun a' h3 => ih (listed.setIfInBounds j true) a' (hd.set hj) hfree' (ready_mono hr (Ne.symm hji)) h3.1 ?_) h2
        rw [Array.setIfInBounds_comm _ _ hji]
        exact h3.2
/-- the text's order will do; the last operation comes last -/
def lexFromL (md : Region.Mode) (ops : Array Oper) : Nat → Nat → Array Bool → Bool
  | 0, k, listed => Region.ready md ops listed == [k]
  | fuel + 1, k, listed => (Region.ready md ops listed).contains k && Region.free md ops listed k && lexFromL md ops fuel (k + 1) (listed.setIfInBounds k true)
def lexLB (md : Region.Mode) (ops : Array Oper) : Bool := decide (0 < ops.size) && Region.noSelect ops && tailB md ops && lexFromL md ops (ops.size - 1) 0 (Array.replicate ops.size false)
/-- the walk, from operation k on -/
def wpQL (P : Program) (ops : Array Oper) (C : World → Prop) (R : Act → Prop) (k : Nat) (a : Act) : Prop := wpQuiet P ops C R ((ops.toList.take (ops.size - 1)).drop k) a
theorem wpAnyL_lex {R : Act → Prop} (ht : Tail md ops) (hs : Region.noSelect ops = true) (h0 : 0 < ops.size) : ∀ (n k : Nat) (listed : Array Bool) (a : Act), k + n = ops.size - 1 → Down md ops listed →
    lexFromL md ops n k listed = true → wpQL P ops C R k a → wpAnyL P md ops C R (n + 1) listed a
  | 0, k, listed, a, hk, hd, hB, h => by
    have hr : Region.ready md ops listed = [k] := by simpa [lexFromL] using hB
    refine ⟨by rw [hr]; simp, fun i hi => ?_⟩
    rw [hr, List.mem_singleton] at hi
    subst hi
    refine ⟨fun _ => ?_, fun hne => absurd (by omega) hne⟩
    unfold wpQL at h
    rw [List.drop_eq_nil_of_le (by simp; omega)] at h
    exact h
  | n + 1, k, listed, a, hk, hd, hB, h => by
    simp only [lexFromL, Bool.and_eq_true] at hB
    obtain ⟨⟨hr, hf⟩, hB'⟩ := hB
    have hlt : k < ops.size := by omega
    have hik : ops[k]? = some ops[k] := by simp [hlt]
    have hdrop : (ops.toList.take (ops.size - 1)).drop k = ops[k] :: (ops.toList.take (ops.size - 1)).drop (k + 1) := by
      rw [List.drop_eq_getElem_cons (by simp; omega)]
      simp
    have hst : qOp P ops C k (wpQL P ops C R (k + 1)) a := by
      unfold qOp
      simp only [hik]
      unfold wpQL at h
      rw [hdrop] at h
      exact h
    obtain ⟨v, hy, hK⟩ := yieldsIn_of_qOp hik hst
    have hrk : k ∈ Region.ready md ops listed := by simpa using hr
    exact wpAnyL_first ht hik (by omega) (Region.noSelect_spec hs) (n + 1) listed a hd (Region.free_spec hik hf) hrk hy
      (wpAnyL_lex ht hs h0 n (k + 1) _ _ (by omega) (hd.set hrk) hB' hK)
/-- **A region whose operations are quiet, all but the last.** -/
theorem wp_region_QL {id : Nat} {a : Act} {w : World} (hm : P.follows .mixedOrders = true) (hB : lexLB .any ops = true) (hC : C w.drew)
    (h : wpQL P ops C (fun a' => ∀ w', C w' → wpOp P ops Q (ops.size - 1) (fun a'' w'' => Q .normal a'' w'') a' w') 0 a) : (Code.region id ops true).wp P Q a w := by
  simp only [lexLB, Bool.and_eq_true, decide_eq_true_eq] at hB
  obtain ⟨⟨⟨h0, hs⟩, ht⟩, hl⟩ := hB
  have ht' := tail_of ht
  refine wp_region_any hm ?_
  have hx := wpAnyL_lex (C := C) ht' hs h0 (ops.size - 1) 0 (Array.replicate ops.size false) a (by omega) Down.start hl h
  rw [show ops.size - 1 + 1 = ops.size by omega] at hx
  exact wpAny_of_L ht' (fun a w hC hR => hR w hC) ops.size _ a _ Down.start hC hx
theorem wp_region_QLK {id : Nat} {a : Act} {w w0 : World} {L : List Ent} (K : Known w0 w L) (hm : P.follows .mixedOrders = true) (hB : lexLB .any ops = true)
    (h : wpQL P ops (fun w' => Known w0 w' L) (fun a' => ∀ w', Known w0 w' L → wpOp P ops Q (ops.size - 1) (fun a'' w'' => Q .normal a'' w'') a' w') 0 a) : (Code.region id ops true).wp P Q a w :=
  wp_region_QL hm hB K.drew h
variable {R : Act → Prop} {k : Nat} {x : Oper} {a : Act} {v : Value}
theorem wpQL_step (hi : ops[k]? = some x) (hk : decide (k + 1 < ops.size) = true) (hw : Region.wanted x (yielded ops a.tmps) = true) (hy : ∀ w, C w → x.quietAt P a C w v) (h : wpQL P ops C R (k + 1) (a.put x.dst v)) : wpQL P ops C R k a := by
  have hk := of_decide_eq_true hk
  have hdrop : (ops.toList.take (ops.size - 1)).drop k = x :: (ops.toList.take (ops.size - 1)).drop (k + 1) := by
    obtain ⟨hlt, e⟩ := Array.getElem?_eq_some_iff.1 hi
    rw [List.drop_eq_getElem_cons (by simp; omega)]
    simp [e]
  unfold wpQL
  rw [hdrop]
  unfold wpQuiet
  rw [if_pos hw]
  exact ⟨v, hy, h⟩
theorem wpQL_A (hy : ∀ w, C w → (execOp a.eval x).run P w = .ok (.value v) w) (h : wpQL P ops C R (k + 1) (a.put x.dst v)) (hi : ops[k]? = some x := by (try simp only [List.getElem?_toArray, List.getElem?_cons_succ, List.getElem?_cons_zero]); exact rfl) (hk : decide (k + 1 < ops.size) = true := by kernel_rfl) (hw : Region.wanted x (yielded ops a.tmps) = true := by rfl) : wpQL P ops C R k a :=
  wpQL_step hi hk hw (fun w hC => by unfold Oper.quietAt; rw [hy w hC]; exact ⟨rfl, rfl⟩) h
theorem wpQL_skip (hi : ops[k]? = some x) (hk : decide (k + 1 < ops.size) = true) (hw : Region.wanted x (yielded ops a.tmps) = false) (h : wpQL P ops C R (k + 1) (a.put x.dst undef)) : wpQL P ops C R k a := by
  have hk := of_decide_eq_true hk
  have hdrop : (ops.toList.take (ops.size - 1)).drop k = x :: (ops.toList.take (ops.size - 1)).drop (k + 1) := by
    obtain ⟨hlt, e⟩ := Array.getElem?_eq_some_iff.1 hi
    rw [List.drop_eq_getElem_cons (by simp; omega)]
    simp [e]
  unfold wpQL
  rw [hdrop]
  unfold wpQuiet
  rw [if_neg (by rw [hw]; simp)]
  exact h
theorem wpQL_end {Q' : Exit → Act → World → Prop} (hi : ops[k]? = some x) (hk : decide (k + 1 = ops.size) = true) (h : ∀ w', C w' → ∀ K' : Act → World → Prop, Shut (∀ a w, Q' .normal a w → K' a w) → if Region.wanted x (yielded ops a.tmps) = true then Oper.wp P x a w' K' Q' else K' (a.put x.dst undef) w') :
    wpQL P ops C (fun a' => ∀ w', C w' → wpOp P ops Q' (ops.size - 1) (fun a'' w'' => Q' .normal a'' w'') a' w') k a := by
  have hk := of_decide_eq_true hk
  unfold wpQL
  rw [List.drop_eq_nil_of_le (by simp; omega)]
  intro w' hC
  rw [show ops.size - 1 = k by omega]
  exact wpOp_step hi (fun K' hK => h w' hC K' hK)
theorem wpQL_endA {Q' : Exit → Act → World → Prop} (h : ∀ w', C w' → ∀ K' : Act → World → Prop, Shut (∀ a w, Q' .normal a w → K' a w) → if Region.wanted x (yielded ops a.tmps) = true then Oper.wp P x a w' K' Q' else K' (a.put x.dst undef) w') (hi : ops[k]? = some x := by (try simp only [List.getElem?_toArray, List.getElem?_cons_succ, List.getElem?_cons_zero]); exact rfl) (hk : decide (k + 1 = ops.size) = true := by kernel_rfl) :
    wpQL P ops C (fun a' => ∀ w', C w' → wpOp P ops Q' (ops.size - 1) (fun a'' w'' => Q' .normal a'' w'') a' w') k a := wpQL_end hi hk h
theorem quiet_value {w : World} (h : (execOp a.eval x).run P w = .ok (.value v) w) : x.quietAt P a C w v := by
  unfold Oper.quietAt
  rw [h]
  exact ⟨rfl, rfl⟩
theorem quiet_call {w : World} {f : FuncId} {args : Array Value} (he : (execOp a.eval x).run P w = .ok (.enter f args) w) (hc : Calls P f args w fun e w' => e = .returned v ∧ C w') : x.quietAt P a C w v := by
  unfold Oper.quietAt
  rw [he]
  exact ⟨rfl, hc⟩
theorem st_reads {K' : Act → World → Prop} {E : Prop} {w : World} (hw : Region.wanted x (yielded ops a.tmps) = true) (hr : (execOp a.eval x).run P w = .ok (.value v) w) (h : K' (a.put x.dst v) w) : if Region.wanted x (yielded ops a.tmps) = true then Oper.wp P x a w K' Q else E := by
  rw [if_pos hw]
  unfold Oper.wp
  rw [hr]
  exact h
end
/-- where x[i:] lies -/
def cutA (A : Option Addr) (c i : Nat) : Option Addr := if c = i then A else A.map (·.add (i * 1))
theorem RdS.cut {w0 : World} {L : List Ent} {k : IntKind} {A : Option Addr} {n c : Nat} {xs : List Int} (hR : RdS w0 L k A n xs) (i m : Nat) (h : i + m ≤ n) (hc : n ≤ c) : RdS w0 L k (cutA A c i) m ((xs.drop i).take m) := by
  have := hR.part (i := i) (j := i + m) (c := c) (by omega) h hc
  rwa [show i + m - i = m by omega] at this
theorem RdS.cutE {w0 : World} {L : List Ent} {k : IntKind} {A : Option Addr} {n c : Nat} {xs : List Int} (hR : RdS w0 L k A n xs) (i m : Nat) (h : i + m = n) (hc : n ≤ c) : RdS w0 L k (cutA A c i) m (xs.drop i) := by
  have := hR.cut i m (by omega) hc
  rwa [List.take_of_length_le (by have := hR.len; simp; omega)] at this
end Go.Proofs.Ytfdddipmeadecaa

/-
  More words over what is known. Over any program.
-/
set_option linter.unusedVariables false
set_option linter.unusedSimpArgs false
namespace Go.Proofs.Ytfdddipmeadecaa
open Go.RowKit
theorem OwnL.cap {e : TypeId} {s : Nat} {A : Option Addr} {n c : Nat} {vs : List Value} {X : List Ent} (h : OwnL e s A n c vs X) : c ≤ 9223372036854775807 := by
  rcases h.out.2 with ⟨_, _, h2, _⟩ | ⟨_, _, _, _, _, h2, _⟩
  · omega
  · unfold maxLen at h2; omega
section
variable {P : Program} {o : Oper} {a : Act} {W : World}
/-- x[i:i+m] -/
theorem kr_cut {T e : TypeId} {x : Operand} {lo hi : Option Operand} (ho : o.op = .slice T x lo hi none) {A : Option Addr} {n c : Nat} (hx : a.eval x = .slice A n c) (i m : Nat)
    (hlo : lo = none ∧ i = 0 ∨ ∃ l v, lo = some l ∧ a.eval l = .int .i64 v ∧ v = i) (hhi : hi = none ∧ i + m = n ∨ ∃ l v, hi = some l ∧ a.eval l = .int .i64 v ∧ v = ((i + m : Nat) : Int)) (h : i + m ≤ n) (hc : n ≤ c) (hT : P.underlying T = some (.slice e)) (hs : sizeIs P e 1 = true) :
    (execOp a.eval o).run P W = .ok (.value (.slice (cutA A c i) m (c - i))) W := by
  have hr := run_sliceAt (P := P) (W := W) (A := A) (n := n) (c := c) (i := i) (j := i + m) hT hs (lo.map a.eval) (hi.map a.eval) (by
    rcases hlo with ⟨rfl, h0⟩ | ⟨l, v, rfl, e, rfl⟩
    · exact .inl ⟨rfl, h0⟩
    · exact .inr (congrArg some e)) (by
    rcases hhi with ⟨rfl, h0⟩ | ⟨l, v, rfl, e, rfl⟩
    · exact .inl ⟨rfl, h0⟩
    · exact .inr (congrArg some e)) (by omega) (by omega) hc
  rw [show i + m - i = m by omega] at hr
  unfold execOp
  simp only [ho, hx, Option.map_none, hr, Sem.run_bind, Result.andThen_ok, Sem.run_pure, cutA]
end
section
variable {P : Program} {ops : Array Oper} {Q : Exit → Act → World → Prop} {S : World → Prop} {fuel : Nat} {listed : Array Bool} {a : Act} {w : World}
/-- each of several operations may come up -/
def AllG (P : Program) (ops : Array Oper) (Q : Exit → Act → World → Prop) (S : World → Prop) (fuel : Nat) (listed : Array Bool) (a : Act) (w : World) (l : List Nat) : Prop :=
  ∀ i ∈ l, wpOp P ops Q i (fun a' w' => S w' ∧ wpG P ops Q S fuel (listed.setIfInBounds i true) a' w') a w
theorem AllG.nil : AllG P ops Q S fuel listed a w [] := fun i hi => by cases hi
theorem AllG.cons {i : Nat} {l : List Nat} {o : Oper} (ho : ops[i]? = some o)
    (h : ∀ K' : Act → World → Prop, Shut (∀ a w, S w → (S w → wpG P ops Q S fuel (listed.setIfInBounds i true) a w) → K' a w) → if Region.wanted o (yielded ops a.tmps) = true then Oper.wp P o a w K' Q else K' (a.put o.dst undef) w)
    (hl : AllG P ops Q S fuel listed a w l) : AllG P ops Q S fuel listed a w (i :: l) := fun j hj => by
  rcases List.mem_cons.1 hj with rfl | hj
  · exact wpOp_step ho (fun K' hK => h K' (fun a w hS hW => hK a w ⟨hS, hW hS⟩))
  · exact hl j hj
theorem AllG.consA {i : Nat} {l : List Nat} {o : Oper}
    (h : ∀ K' : Act → World → Prop, Shut (∀ a w, S w → (S w → wpG P ops Q S fuel (listed.setIfInBounds i true) a w) → K' a w) → if Region.wanted o (yielded ops a.tmps) = true then Oper.wp P o a w K' Q else K' (a.put o.dst undef) w)
    (hl : AllG P ops Q S fuel listed a w l) (ho : ops[i]? = some o := by (try simp only [List.getElem?_toArray, List.getElem?_cons_succ, List.getElem?_cons_zero]); exact rfl) : AllG P ops Q S fuel listed a w (i :: l) := AllG.cons ho h hl
theorem wpG_some {i : Nat} {l : List Nat} (hr : (Region.ready .any ops listed == i :: l) = true) (h : AllG P ops Q S fuel listed a w (i :: l)) : wpG P ops Q S (fuel + 1) listed a w := fun ht hs hd => by
  have hr' : Region.ready .any ops listed = i :: l := by simpa using hr
  refine ⟨fun h0 => (by rw [h0] at hr'; cases hr'), fun j hj => ?_⟩
  refine wpOp_mono (fun a' w' h' => .inr ⟨h'.1, h'.2 ht hs (hd.set hj)⟩) (h j ?_)
  rwa [hr'] at hj
end
section
variable {P : Program} {o : Oper} {a : Act} {W w0 : World} {L L' : List Ent}
/-- []byte of a constant: the row gets its mark -/
theorem kd_mark (K : Known w0 W L) {T e t : TypeId} {x : Operand} (ho : o.op = .convert T T x) {g n c : Nat} {cs : Array Value} (hx : a.eval x = .slice (some ⟨g, 0, none⟩) n c) (hr : Repl (row g cs t) (g, .cells cs t (cs.size, cs.size + 1)) L L') (ht : P.underlying T = some (.slice e)) (he : P.underlying e = some (.int .u8)) :
    Does P o a W fun v w1 => v = .slice (some ⟨g, 0, none⟩) n c ∧ Known w0 w1 L' := by
  have hb := (K.blk hr.has).out
  have hlt := (K.blk hr.has).lt
  have hsh : W.shape? g = some (t, cs.size) := by
    unfold World.shape?
    rw [hb]
  have hg : (W.freeze ⟨g, cs.size, none⟩ 1).heap[g]? = some (.cells cs t (cs.size, cs.size + 1)) := by
    unfold World.freeze
    rw [if_neg (by decide)]
    show (W.heap.modify g _)[g]? = _
    rw [Array.getElem?_modify]
    simp [hb]
  have hp : Put W (W.freeze ⟨g, cs.size, none⟩ 1) g := by
    unfold World.freeze
    rw [if_neg (by decide)]
    refine ⟨rfl, rfl, rfl, by simp, fun k hk => ?_⟩
    show (W.heap.modify g _)[k]? = _
    rw [Array.getElem?_modify]
    simp [Ne.symm hk]
  refine Does.val (v := .slice (some ⟨g, 0, none⟩) n c) (w1 := W.freeze ⟨g, cs.size, none⟩ 1) ?_ ⟨rfl, K.put hr hp hg⟩
  unfold execOp
  simp [ho, hx, convert, run_underlying ht, run_underlying he, markStringish, hsh, Sem.run_bind]
end
theorem Has.objRd {w0 : World} {L : List Ent} {k : IntKind} {g off n : Nat} {cs : Array Value} {t : TypeId} {fr : Nat × Nat} {xs : List Int} (h : Has (g, .cells cs t fr) L) (hx : xs.length = n) (hxs : (cs.toList.drop off).take n = xs.map (Value.int k)) : RdS w0 L k (some ⟨g, off, none⟩) n xs :=
  ⟨fun w K => ⟨hx, fun j hj => ⟨g, off, rfl, by
    have e : ((cs.toList.drop off).take n)[j]? = (xs.map (Value.int k))[j]? := by rw [hxs]
    rw [List.getElem?_take_of_lt hj, List.getElem?_drop, Array.getElem?_toList] at e
    unfold World.cell?
    rw [K.get h]
    simp only [Option.isSome_none, Bool.false_eq_true, if_false]
    rw [e]
    have : j < xs.length := by omega
    simp [this, List.getD]⟩⟩, hx⟩
/-- the first of two results stands in a block -/
theorem bodyPost_cell2K {w0 w : World} {L : List Ent} {P : Program} {fn : Func} {R : Ending → World → Prop} {a : Act} {s q g : Nat} {T t : TypeId} {cs : Array Value} {v : Value} (K : Known w0 w L) (hr : fn.results = #[.cell s T, .tmp q]) (ha : a.tmps.getD s undef = .pointer (some ⟨g, 0, none⟩)) (hv : a.tmps.getD q undef = v)
    (hb : Has (row g cs t) L) (hu : aggB P T = true) (hi : sizeIs P T cs.size = true) (hd : a.defers = []) (hR : R (.returned (.tuple #[.agg cs, v])) w) : bodyPost P fn R .ret a w := by
  refine bodyPost_ret ?_ hd hR
  have hl := run_loadMid (P := P) (i := 0) (X := cs) (K.blk hb) hu hi (by simp) (by omega)
  have ha' : a.tmps[s]?.getD undef = .pointer (some ⟨g, 0, none⟩) := by rw [← ha]; simp
  have hv' : a.tmps[q]?.getD undef = v := by rw [← hv]; simp
  simp [results, hr, ha', hv', asAddr, Sem.run_bind, hl]
/-- a struct or array out of known parts -/
theorem kr_build {P : Program} {o : Oper} {a : Act} {w : World} (T : TypeId) {ps : Array (Nat × Operand)} (ho : o.op = .build T ps) {vals : Array (Nat × Value)} (hp : (ps.map fun (i, x) => (i, a.eval x)) = vals) {v : Value} (hr : (Instr.build T vals).run P w = .ok v w) :
    (execOp a.eval o).run P w = .ok (.value v) w := by
  unfold execOp
  simp only [ho, hp, hr, Sem.run_bind, Result.andThen_ok, Sem.run_pure]
theorem part_cell {P : Program} {e : TypeId} {cs : Array Value} {i : Nat} {v : Value} (w : World) (he : oneB P e = true) (h : cs[i]? = some v) : (part e cs i).run P w = .ok v w := by
  simp [part, Sem.run_bind, oneB_run he, h]
theorem part_agg {P : Program} {e : TypeId} {cs X : Array Value} {i n : Nat} (w : World) (he : aggB P e = true) (hs : sizeIs P e n = true) (h : cs.extract i (i + n) = X) : (part e cs i).run P w = .ok (.agg X) w := by
  simp [part, Sem.run_bind, aggB_run he, sizeIs_run hs, h]
end Go.Proofs.Ytfdddipmeadecaa
