/-
  Regions that draw their order, in the text's order: every operation but the last is quiet (one value in every world of a class; a call may draw). Over any program.
-/
import Derived.Test.YtemnahimheffgaaH
import Derived.Deep.Quiet
set_option linter.unusedVariables false
set_option linter.unusedSimpArgs false
namespace Go.Proofs.Ytemnahimheffgaa
open Go.RowKit

section
variable {P : Program} {ops : Array Oper} {Q : Exit → Act → World → Prop} {md : Region.Mode} {C : World → Prop}
theorem Tail.listed {listed : Array Bool} (ht : Tail md ops) (hd : Down md ops listed) (hr : ops.size - 1 ∈ Region.ready md ops listed) : ∀ i, i + 1 < ops.size → listed.getD i false = true := by
  obtain ⟨hlu, ol, hol, hall⟩ := mem_ready.1 hr
  have key : ∀ d i, i + 1 < ops.size → ops.size - 1 - i = d → listed.getD i false = true := by
    intro d
    induction d using Nat.strongRecOn with
    | ind d ih =>
      intro i hi hdi
      obtain ⟨k, o, e, hk, he, hb, he2⟩ := ht.use i hi
      have hlt := (Array.getElem?_eq_some_iff.1 hk).1
      have hik := ht.wf k o hk e he hb
      by_cases hkl : k = ops.size - 1
      · subst hkl
        rw [hol] at hk
        cases hk
        have := hall e he hb
        rwa [he2] at this
      · have := hd.2 k o hk (ih (ops.size - 1 - k) (by omega) k (by omega) rfl) e he hb
        rwa [he2] at this
  exact fun i hi => key _ i hi rfl
theorem Tail.last_done {listed : Array Bool} (ht : Tail md ops) (hd : Down md ops listed) (hr : ops.size - 1 ∈ Region.ready md ops listed) : Region.ready md ops (listed.setIfInBounds (ops.size - 1) true) = [] := by
  rw [List.eq_nil_iff_forall_not_mem]
  intro i hi
  obtain ⟨hu, o, ho, _⟩ := mem_ready.1 hi
  have hlt := (Array.getElem?_eq_some_iff.1 ho).1
  by_cases h : i = ops.size - 1
  · subst h
    have := hd.1
    simp [show ops.size - 1 < listed.size by omega] at hu
  · rw [getD_set_ne true (Ne.symm h)] at hu
    have := ht.listed hd hr i (by omega)
    rw [getD_tf (by have := hd.1; omega), this] at hu
    cases hu
/-- Whatever order is picked; the last operation is met by R. -/
def wpAnyL (P : Program) (md : Region.Mode) (ops : Array Oper) (C : World → Prop) (R : Act → Prop) : Nat → Array Bool → Act → Prop
  | 0, _, _ => False
  | fuel + 1, listed, a => Region.ready md ops listed ≠ [] ∧ ∀ i ∈ Region.ready md ops listed, (i = ops.size - 1 → R a) ∧ (i ≠ ops.size - 1 → qOp P ops C i (wpAnyL P md ops C R fuel (listed.setIfInBounds i true)) a)
theorem wpAny_of_L {R : Act → Prop} (ht : Tail md ops) (hR : ∀ a w, C w → R a → wpOp P ops Q (ops.size - 1) (fun a' w' => Q .normal a' w') a w) : ∀ (fuel : Nat) (listed : Array Bool) (a : Act) (w : World), Down md ops listed → C w →
    wpAnyL P md ops C R fuel listed a → wpAny P md ops Q fuel listed a w
  | 0, _, _, _, _, _, h => h.elim
  | fuel + 1, listed, a, w, hd, hC, h => ⟨fun h0 => absurd h0 h.1, fun i hi => by
      by_cases hl : i = ops.size - 1
      · subst hl
        exact wpOp_mono (fun a' w' h' => wpAny_done (ht.last_done hd hi) h' fuel) (hR a w hC ((h.2 _ hi).1 rfl))
      · exact wpOp_of_qOp hC (fun a' w' hC' h' => wpAny_of_L ht hR fuel _ a' w' (hd.set hi) hC' h') ((h.2 i hi).2 hl)⟩
theorem wpAnyL_first {R : Act → Prop} {i : Nat} {oi : Oper} {v : Value} (ht : Tail md ops) (hi : ops[i]? = some oi) (hil : i ≠ ops.size - 1) (hsel : ∀ (j : Nat) (o : Oper) cs b, ops[j]? = some o → o.op ≠ .select cs b) :
    ∀ (fuel : Nat) (listed : Array Bool) (a : Act), Down md ops listed →
      (∀ j oj, ops[j]? = some oj → j ≠ i → listed.getD j true = false → (∀ e ∈ oj.after, Region.binds md e = true → e.on ≠ i) → oi.apart ops oj = true) →
      i ∈ Region.ready md ops listed → YieldsIn P ops C oi v a →
      wpAnyL P md ops C R fuel (listed.setIfInBounds i true) (a.put oi.dst v) → wpAnyL P md ops C R (fuel + 1) listed a := by
  intro fuel
  induction fuel with
  | zero => intro listed a _ _ _ _ H; exact H.elim
  | succ fuel ih =>
    intro listed a hd hfree hr hy H
    refine ⟨fun h => (by rw [h] at hr; cases hr), fun j hj => ⟨fun hjl => ?_, fun hjl => ?_⟩⟩
    · exfalso
      subst hjl
      have hlt := (Array.getElem?_eq_some_iff.1 hi).1
      have h1 := ht.listed hd hj i (by omega)
      have h0 := (mem_ready.1 hr).1
      rw [getD_tf (by have := hd.1; omega), h1] at h0
      cases h0
    · by_cases hji : j = i
      · subst hji; exact hy.qOp hi H
      · have h1 := (H.2 j (ready_mono hj hji)).2 hjl
        obtain ⟨hjun, oj, hoj, hall⟩ := mem_ready.1 hj
        have hnot : ∀ e ∈ oj.after, Region.binds md e = true → e.on ≠ i := fun e he hb heq => by
          have h1 := hall e he hb
          have h0 := (mem_ready.1 hr).1
          rw [heq] at h1
          rcases Nat.lt_or_ge i listed.size with h' | h'
          · simp [h'] at h0 h1; rw [h0] at h1; cases h1
          · simp [Array.getElem?_eq_none h'] at h1
        have h2 := qOp_put hoj (hfree j oj hoj hji hjun hnot) (fun cs b => hsel i oi cs b hi) (fun cs b => hsel j oj cs b hoj) hy h1
        have hfree' : ∀ k ok, ops[k]? = some ok → k ≠ i → (listed.setIfInBounds j true).getD k true = false →
            (∀ e ∈ ok.after, Region.binds md e = true → e.on ≠ i) → oi.apart ops ok = true := fun k ok hk hki hun hno => by
          refine hfree k ok hk hki ?_ hno
          by_cases hjk : j = k
          · subst hjk; exact hjun
          · rw [getD_set_ne true hjk] at hun; exact hun
        refine qOp_mono (fun a' h3 => ih (listed.setIfInBounds j true) a' (hd.set hj) hfree' (ready_mono hr (Ne.symm hji)) h3.1 ?_) h2
        rw [Array.setIfInBounds_comm _ _ hji]
        exact h3.2
/-- the text's order will do; the last operation comes last -/
def lexFromL (md : Region.Mode) (ops : Array Oper) : Nat → Nat → Array Bool → Bool
  | 0, k, listed => Region.ready md ops listed == [k]
  | fuel + 1, k, listed => (Region.ready md ops listed).contains k && Region.free md ops listed k && lexFromL md ops fuel (k + 1) (listed.setIfInBounds k true)
def lexLB (md : Region.Mode) (ops : Array Oper) : Bool := decide (0 < ops.size) && Region.noSelect ops && tailB md ops && lexFromL md ops (ops.size - 1) 0 (Array.replicate ops.size false)
/-- the walk, from operation k on -/
def wpQL (P : Program) (ops : Array Oper) (C : World → Prop) (R : Act → Prop) (k : Nat) (a : Act) : Prop := wpQuiet P ops C R ((ops.toList.take (ops.size - 1)).drop k) a
theorem wpAnyL_lex {R : Act → Prop} (ht : Tail md ops) (hs : Region.noSelect ops = true) (h0 : 0 < ops.size) : ∀ (n k : Nat) (listed : Array Bool) (a : Act), k + n = ops.size - 1 → Down md ops listed →
    lexFromL md ops n k listed = true → wpQL P ops C R k a → wpAnyL P md ops C R (n + 1) listed a
  | 0, k, listed, a, hk, hd, hB, h => by
    have hr : Region.ready md ops listed = [k] := by simpa [lexFromL] using hB
    refine ⟨by rw [hr]; simp, fun i hi => ?_⟩
    rw [hr, List.mem_singleton] at hi
    subst hi
    refine ⟨fun _ => ?_, fun hne => absurd (by omega) hne⟩
    unfold wpQL at h
    rw [List.drop_eq_nil_of_le (by simp; omega)] at h
    exact h
  | n + 1, k, listed, a, hk, hd, hB, h => by
    simp only [lexFromL, Bool.and_eq_true] at hB
    obtain ⟨⟨hr, hf⟩, hB'⟩ := hB
    have hlt : k < ops.size := by omega
    have hik : ops[k]? = some ops[k] := by simp [hlt]
    have hdrop : (ops.toList.take (ops.size - 1)).drop k = ops[k] :: (ops.toList.take (ops.size - 1)).drop (k + 1) := by
      rw [List.drop_eq_getElem_cons (by simp; omega)]
      simp
    have hst : qOp P ops C k (wpQL P ops C R (k + 1)) a := by
      unfold qOp
      simp only [hik]
      unfold wpQL at h
      rw [hdrop] at h
      exact h
    obtain ⟨v, hy, hK⟩ := yieldsIn_of_qOp hik hst
    have hrk : k ∈ Region.ready md ops listed := by simpa using hr
    exact wpAnyL_first ht hik (by omega) (Region.noSelect_spec hs) (n + 1) listed a hd (Region.free_spec hik hf) hrk hy
      (wpAnyL_lex ht hs h0 n (k + 1) _ _ (by omega) (hd.set hrk) hB' hK)
/-- **A region whose operations are quiet, all but the last.** -/
theorem wp_region_QL {id : Nat} {a : Act} {w : World} (hm : P.follows .mixedOrders = true) (hB : lexLB .any ops = true) (hC : C w.drew)
    (h : wpQL P ops C (fun a' => ∀ w', C w' → wpOp P ops Q (ops.size - 1) (fun a'' w'' => Q .normal a'' w'') a' w') 0 a) : (Code.region id ops true).wp P Q a w := by
  simp only [lexLB, Bool.and_eq_true, decide_eq_true_eq] at hB
  obtain ⟨⟨⟨h0, hs⟩, ht⟩, hl⟩ := hB
  have ht' := tail_of ht
  refine wp_region_any hm ?_
  have hx := wpAnyL_lex (C := C) ht' hs h0 (ops.size - 1) 0 (Array.replicate ops.size false) a (by omega) Down.start hl h
  rw [show ops.size - 1 + 1 = ops.size by omega] at hx
  exact wpAny_of_L ht' (fun a w hC hR => hR w hC) ops.size _ a _ Down.start hC hx
theorem wp_region_QLK {id : Nat} {a : Act} {w w0 : World} {L : List Ent} (K : Known w0 w L) (hm : P.follows .mixedOrders = true) (hB : lexLB .any ops = true)
    (h : wpQL P ops (fun w' => Known w0 w' L) (fun a' => ∀ w', Known w0 w' L → wpOp P ops Q (ops.size - 1) (fun a'' w'' => Q .normal a'' w'') a' w') 0 a) : (Code.region id ops true).wp P Q a w :=
  wp_region_QL hm hB K.drew h
variable {R : Act → Prop} {k : Nat} {x : Oper} {a : Act} {v : Value}
theorem wpQL_step (hi : ops[k]? = some x) (hk : decide (k + 1 < ops.size) = true) (hw : Region.wanted x (yielded ops a.tmps) = true) (hy : ∀ w, C w → x.quietAt P a C w v) (h : wpQL P ops C R (k + 1) (a.put x.dst v)) : wpQL P ops C R k a := by
  have hk := of_decide_eq_true hk
  have hdrop : (ops.toList.take (ops.size - 1)).drop k = x :: (ops.toList.take (ops.size - 1)).drop (k + 1) := by
    obtain ⟨hlt, e⟩ := Array.getElem?_eq_some_iff.1 hi
    rw [List.drop_eq_getElem_cons (by simp; omega)]
    simp [e]
  unfold wpQL
  rw [hdrop]
  unfold wpQuiet
  rw [if_pos hw]
  exact ⟨v, hy, h⟩
theorem wpQL_A (hy : ∀ w, C w → (execOp a.eval x).run P w = .ok (.value v) w) (h : wpQL P ops C R (k + 1) (a.put x.dst v)) (hi : ops[k]? = some x := by (try simp only [List.getElem?_toArray, List.getElem?_cons_succ, List.getElem?_cons_zero]); exact rfl) (hk : decide (k + 1 < ops.size) = true := by kernel_rfl) (hw : Region.wanted x (yielded ops a.tmps) = true := by rfl) : wpQL P ops C R k a :=
  wpQL_step hi hk hw (fun w hC => by unfold Oper.quietAt; rw [hy w hC]; exact ⟨rfl, rfl⟩) h
theorem wpQL_skip (hi : ops[k]? = some x) (hk : decide (k + 1 < ops.size) = true) (hw : Region.wanted x (yielded ops a.tmps) = false) (h : wpQL P ops C R (k + 1) (a.put x.dst undef)) : wpQL P ops C R k a := by
  have hk := of_decide_eq_true hk
  have hdrop : (ops.toList.take (ops.size - 1)).drop k = x :: (ops.toList.take (ops.size - 1)).drop (k + 1) := by
    obtain ⟨hlt, e⟩ := Array.getElem?_eq_some_iff.1 hi
    rw [List.drop_eq_getElem_cons (by simp; omega)]
    simp [e]
  unfold wpQL
  rw [hdrop]
  unfold wpQuiet
  rw [if_neg (by rw [hw]; simp)]
  exact h
theorem wpQL_end {Q' : Exit → Act → World → Prop} (hi : ops[k]? = some x) (hk : decide (k + 1 = ops.size) = true) (h : ∀ w', C w' → ∀ K' : Act → World → Prop, Shut (∀ a w, Q' .normal a w → K' a w) → if Region.wanted x (yielded ops a.tmps) = true then Oper.wp P x a w' K' Q' else K' (a.put x.dst undef) w') :
    wpQL P ops C (fun a' => ∀ w', C w' → wpOp P ops Q' (ops.size - 1) (fun a'' w'' => Q' .normal a'' w'') a' w') k a := by
  have hk := of_decide_eq_true hk
  unfold wpQL
  rw [List.drop_eq_nil_of_le (by simp; omega)]
  intro w' hC
  rw [show ops.size - 1 = k by omega]
  exact wpOp_step hi (fun K' hK => h w' hC K' hK)
theorem wpQL_endA {Q' : Exit → Act → World → Prop} (h : ∀ w', C w' → ∀ K' : Act → World → Prop, Shut (∀ a w, Q' .normal a w → K' a w) → if Region.wanted x (yielded ops a.tmps) = true then Oper.wp P x a w' K' Q' else K' (a.put x.dst undef) w') (hi : ops[k]? = some x := by (try simp only [List.getElem?_toArray, List.getElem?_cons_succ, List.getElem?_cons_zero]); exact rfl) (hk : decide (k + 1 = ops.size) = true := by kernel_rfl) :
    wpQL P ops C (fun a' => ∀ w', C w' → wpOp P ops Q' (ops.size - 1) (fun a'' w'' => Q' .normal a'' w'') a' w') k a := wpQL_end hi hk h
theorem quiet_value {w : World} (h : (execOp a.eval x).run P w = .ok (.value v) w) : x.quietAt P a C w v := by
  unfold Oper.quietAt
  rw [h]
  exact ⟨rfl, rfl⟩
theorem quiet_call {w : World} {f : FuncId} {args : Array Value} (he : (execOp a.eval x).run P w = .ok (.enter f args) w) (hc : Calls P f args w fun e w' => e = .returned v ∧ C w') : x.quietAt P a C w v := by
  unfold Oper.quietAt
  rw [he]
  exact ⟨rfl, hc⟩
theorem st_reads {K' : Act → World → Prop} {E : Prop} {w : World} (hw : Region.wanted x (yielded ops a.tmps) = true) (hr : (execOp a.eval x).run P w = .ok (.value v) w) (h : K' (a.put x.dst v) w) : if Region.wanted x (yielded ops a.tmps) = true then Oper.wp P x a w K' Q else E := by
  rw [if_pos hw]
  unfold Oper.wp
  rw [hr]
  exact h
end
/-- where x[i:] lies -/
def cutA (A : Option Addr) (c i : Nat) : Option Addr := if c = i then A else A.map (·.add (i * 1))
theorem RdS.cut {w0 : World} {L : List Ent} {k : IntKind} {A : Option Addr} {n c : Nat} {xs : List Int} (hR : RdS w0 L k A n xs) (i m : Nat) (h : i + m ≤ n) (hc : n ≤ c) : RdS w0 L k (cutA A c i) m ((xs.drop i).take m) := by
  have := hR.part (i := i) (j := i + m) (c := c) (by omega) h hc
  rwa [show i + m - i = m by omega] at this
theorem RdS.cutE {w0 : World} {L : List Ent} {k : IntKind} {A : Option Addr} {n c : Nat} {xs : List Int} (hR : RdS w0 L k A n xs) (i m : Nat) (h : i + m = n) (hc : n ≤ c) : RdS w0 L k (cutA A c i) m (xs.drop i) := by
  have := hR.cut i m (by omega) hc
  rwa [List.take_of_length_le (by have := hR.len; simp; omega)] at this
end Go.Proofs.Ytemnahimheffgaa
