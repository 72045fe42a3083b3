/-
  Arguments opened: a struct's fields, arrays of bytes, slices of numbers. Only what a walk needs: the datum itself is not looked at.
-/
import Derived.Test.YtemnahimheffgaaLaw
import Derived.Test.YtemnahimheffgaaRd
import Derived.Test.YtemnahimheffgaaEq8
set_option linter.unusedVariables false
set_option linter.unusedSimpArgs false
namespace Go.Proofs.Ytemnahimheffgaa
open Go.ChangeShapes Go.WideShapes Go.ChangeAt Go.RowKit
section
variable {H : Type} {enc : TypeId × Value → H} {P : Program} {w : World} {base : Nat} {spare : Nat → Bool} {held : Bool}

theorem mapM_some_mem {α β : Type} {f : α → Option β} : ∀ {l : List α} {r : List β}, l.mapM f = some r → ∀ a ∈ l, ∃ b, f a = some b
  | [], _, _, a, ha => by cases ha
  | x :: l, r, h, a, ha => by
    rw [List.mapM_cons] at h
    cases hx : f x with
    | none => simp [hx] at h
    | some y =>
      cases hl : l.mapM f with
      | none => simp [hx, hl] at h
      | some ys =>
        rcases List.mem_cons.1 ha with rfl | ha
        · exact ⟨y, hx⟩
        · exact mapM_some_mem hl a ha

/-- each field reads -/
theorem open_fields {fuel : Nat} {t : TypeId} {fs : Array Field} {cs : List Value} {x : DataW H × List MemPlace} (ht : P.underlying t = some (.struct fs)) (h : DataW.trod enc P w base spare held fuel t cs = some x) :
    ∃ m, cs.length = P.cellsOf t ∧ ∀ f ∈ fs.toList, ∃ y, DataW.trod enc P w base spare held m f.type ((cs.drop f.offset).take (P.cellsOf f.type)) = some y := by
  cases fuel with
  | zero => simp [DataW.trod] at h
  | succ m =>
    unfold DataW.trod at h
    rw [ht] at h
    refine ⟨m, ?_⟩
    split at h <;> simp_all
    obtain ⟨hl, xs, hp, hd⟩ := h
    intro f hf
    obtain ⟨y, hy⟩ := mapM_some_mem hp f (by simpa using hf)
    exact ⟨y.1, y.2, hy⟩

theorem open_cell {fuel : Nat} {t : TypeId} {k : IntKind} {cs : List Value} {x : DataW H × List MemPlace} (ht : P.underlying t = some (.int k)) (h : DataW.trod enc P w base spare held fuel t cs = some x) :
    ∃ n, cs = [.int k n] ∧ (Lit.int k n).wf = true := by
  obtain ⟨n, e, _, hw⟩ := DataW.trod_int ht h
  exact ⟨n, e, hw⟩

/-- an array of numbers -/
theorem open_array {fuel : Nat} {t e : TypeId} {k : IntKind} {n : Nat} {cs : List Value} {x : DataW H × List MemPlace} (ht : P.underlying t = some (.array n e)) (he : P.underlying e = some (.int k)) (hc : P.cellsOf e = 1) (hct : P.cellsOf t = n)
    (h : DataW.trod enc P w base spare held fuel t cs = some x) : ∃ bs : List Int, cs = bs.map (Value.int k) ∧ bs.length = n ∧ ∀ b ∈ bs, (Lit.int k b).wf = true := by
  obtain ⟨xs, m, rfl, rfl, hl, hx, hi⟩ := DataW.trod_array ht h
  have each : ∀ i, i < n → ∃ b, cs[i]? = some (.int k b) ∧ (Lit.int k b).wf = true := by
    intro i hin
    have h1 := hi i hin
    rw [hc, Nat.mul_one, List.getElem?_eq_getElem (by omega)] at h1
    obtain ⟨b, hb, hw⟩ := open_cell he h1
    refine ⟨b, ?_, hw⟩
    have h2 : ((cs.drop i).take 1)[0]? = some (.int k b) := by rw [hb]; rfl
    rw [List.getElem?_take, if_pos (by omega), List.getElem?_drop] at h2
    simpa using h2
  rw [hct] at hl
  clear hi hx h
  refine ⟨cs.map (fun v => match v with | .int _ b => b | _ => 0), ?_, by simpa using hl, ?_⟩
  · apply List.ext_getElem?
    intro i
    by_cases hin : i < n
    · obtain ⟨b, hb, _⟩ := each i hin
      simp [hb]
    · rw [List.getElem?_eq_none (by omega), List.getElem?_eq_none (by simp; omega)]
  · intro b hb
    obtain ⟨v, hv, rfl⟩ := List.mem_map.1 hb
    obtain ⟨i, hin, hiv⟩ := List.getElem_of_mem hv
    obtain ⟨b', hb', hw⟩ := each i (by omega)
    rw [List.getElem?_eq_getElem hin, hiv] at hb'
    injection hb' with hb'
    subst hb'
    exact hw

/-- a slice of numbers -/
theorem open_nums {fuel : Nat} {t e : TypeId} {k : IntKind} {cs : List Value} {x : DataW H × List MemPlace} (ht : P.underlying t = some (.slice e)) (he : P.underlying e = some (.int k)) (hc : P.cellsOf e = 1)
    (h : DataW.trod enc P w base (fun _ => true) held fuel t cs = some x) : ∃ (A : Option Addr) (n c : Nat) (xs : List Int), cs = [.slice A n c] ∧ Rd w k A n xs ∧ n ≤ c ∧ c ≤ maxLen ∧ ∀ b ∈ xs, (Lit.int k b).wf = true := by
  rcases open_ints ht he hc h with ⟨rfl, _⟩ | ⟨a, len, cap, zs, rfl, _, hl, hm, hz, _, hcell, hw⟩
  · exact ⟨none, 0, 0, [], rfl, Rd.nil w k none, Nat.le_refl _, by simp [maxLen], by simp⟩
  · simp only [if_true] at hz
    refine ⟨some a, len, cap, zs.take len, rfl, ⟨by simp; omega, fun j hj => ?_⟩, hl, hm, fun b hb => hw b (List.mem_of_mem_take hb)⟩
    have h1 := hcell j (by omega)
    obtain ⟨ab, ao, asp⟩ := a
    have hs : asp = none := by
      cases asp with
      | none => rfl
      | some s =>
        have h0 := hcell 0 (by omega)
        rw [Addr.add_zero'] at h0
        simp only [World.cell?, Option.isSome_some, if_true] at h0
        split at h0 <;> cases h0
    subst hs
    refine ⟨ab, ao, rfl, ?_⟩
    rw [Addr.add_lit] at h1
    rw [h1]
    congr 2
    simp [List.getD, List.getElem?_take, hj]

theorem split_at {cs xs : List Value} {i n : Nat} (h : (cs.drop i).take n = xs) : cs.drop i = xs ++ cs.drop (i + n) := by
  rw [← h, ← List.drop_drop]
  exact (List.take_append_drop n (cs.drop i)).symm
end
set_option maxRecDepth 100000 in
theorem open_bytes {H : Type} {enc : TypeId × Value → H} {W : World} {base b0 : Nat} {v : Value} {d : DataW H} {p : List MemPlace} (hv : Value.okWide Try.prog W .any b0 22 v)
    (h : DataW.Trod enc Try.prog W base (fun _ => true) true 22 v d p) :
    ∃ (A : Option Addr) (n c : Nat) (xs : List Int), v = .slice A n c ∧ Rd W .u8 A n xs ∧ n ≤ c ∧ c ≤ maxLen ∧ ∀ b ∈ xs, 0 ≤ b ∧ b ≤ 255 := by
  obtain ⟨a, l, c, rfl⟩ := okWide_slice Try.underlying22 hv
  obtain ⟨fuel, hf⟩ := h
  have c5 : Try.prog.cellsOf 5 = 1 := by kernel_rfl
  obtain ⟨A, n, c', xs, e, R, hc, hm, hw⟩ := open_nums Try.underlying22 Try.underlying5 c5 hf
  have e' : Value.slice a l c = .slice A n c' := by simpa [Value.cells] using e
  refine ⟨A, n, c', xs, e', R, hc, hm, fun b hb => ?_⟩
  exact bounds_u8 (hw b hb)
end Go.Proofs.Ytemnahimheffgaa
