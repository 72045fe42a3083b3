/-
  Arguments opened: a struct's fields, arrays of bytes, slices of numbers. Only what a walk needs: the datum itself is not looked at.
-/
import Derived.Test.YtfdddipmeadecaaLaw
import Derived.Test.YtfdddipmeadecaaR
import Derived.Test.YtfdddipmeadecaaElm
import Derived.Deep.Slices
set_option linter.unusedVariables false
set_option linter.unusedSimpArgs false
namespace Go.Proofs.Ytfdddipmeadecaa
open Go.ChangeShapes Go.WideShapes Go.ChangeAt Go.RowKit
section
variable {H : Type} {enc : TypeId × Value → H} {P : Program} {w : World} {base : Nat} {spare : Nat → Bool} {held : Bool}

theorem mapM_some_mem {α β : Type} {f : α → Option β} : ∀ {l : List α} {r : List β}, l.mapM f = some r → ∀ a ∈ l, ∃ b, f a = some b
  | [], _, _, a, ha => by cases ha
  | x :: l, r, h, a, ha => by
    rw [List.mapM_cons] at h
    cases hx : f x with
    | none => simp [hx] at h
    | some y =>
      cases hl : l.mapM f with
      | none => simp [hx, hl] at h
      | some ys =>
        rcases List.mem_cons.1 ha with rfl | ha
        · exact ⟨y, hx⟩
        · exact mapM_some_mem hl a ha

/-- each field reads -/
theorem open_fields {fuel : Nat} {t : TypeId} {fs : Array Field} {cs : List Value} {x : DataW H × List MemPlace} (ht : P.underlying t = some (.struct fs)) (h : DataW.trod enc P w base spare held fuel t cs = some x) :
    ∃ m, cs.length = P.cellsOf t ∧ ∀ f ∈ fs.toList, ∃ y, DataW.trod enc P w base spare held m f.type ((cs.drop f.offset).take (P.cellsOf f.type)) = some y := by
  cases fuel with
  | zero => simp [DataW.trod] at h
  | succ m =>
    unfold DataW.trod at h
    rw [ht] at h
    refine ⟨m, ?_⟩
    split at h <;> simp_all
    obtain ⟨hl, xs, hp, hd⟩ := h
    intro f hf
    obtain ⟨y, hy⟩ := mapM_some_mem hp f (by simpa using hf)
    exact ⟨y.1, y.2, hy⟩

theorem open_cell {fuel : Nat} {t : TypeId} {k : IntKind} {cs : List Value} {x : DataW H × List MemPlace} (ht : P.underlying t = some (.int k)) (h : DataW.trod enc P w base spare held fuel t cs = some x) :
    ∃ n, cs = [.int k n] ∧ (Lit.int k n).wf = true := by
  obtain ⟨n, e, _, hw⟩ := DataW.trod_int ht h
  exact ⟨n, e, hw⟩

/-- an array of numbers -/
theorem open_array {fuel : Nat} {t e : TypeId} {k : IntKind} {n : Nat} {cs : List Value} {x : DataW H × List MemPlace} (ht : P.underlying t = some (.array n e)) (he : P.underlying e = some (.int k)) (hc : P.cellsOf e = 1) (hct : P.cellsOf t = n)
    (h : DataW.trod enc P w base spare held fuel t cs = some x) : ∃ bs : List Int, cs = bs.map (Value.int k) ∧ bs.length = n ∧ ∀ b ∈ bs, (Lit.int k b).wf = true := by
  obtain ⟨xs, m, rfl, rfl, hl, hx, hi⟩ := DataW.trod_array ht h
  have each : ∀ i, i < n → ∃ b, cs[i]? = some (.int k b) ∧ (Lit.int k b).wf = true := by
    intro i hin
    have h1 := hi i hin
    rw [hc, Nat.mul_one, List.getElem?_eq_getElem (by omega)] at h1
    obtain ⟨b, hb, hw⟩ := open_cell he h1
    refine ⟨b, ?_, hw⟩
    have h2 : ((cs.drop i).take 1)[0]? = some (.int k b) := by rw [hb]; rfl
    rw [List.getElem?_take, if_pos (by omega), List.getElem?_drop] at h2
    simpa using h2
  rw [hct] at hl
  clear hi hx h
  refine ⟨cs.map (fun v => match v with | .int _ b => b | _ => 0), ?_, by simpa using hl, ?_⟩
  · apply List.ext_getElem?
    intro i
    by_cases hin : i < n
    · obtain ⟨b, hb, _⟩ := each i hin
      simp [hb]
    · rw [List.getElem?_eq_none (by omega), List.getElem?_eq_none (by simp; omega)]
  · intro b hb
    obtain ⟨v, hv, rfl⟩ := List.mem_map.1 hb
    obtain ⟨i, hin, hiv⟩ := List.getElem_of_mem hv
    obtain ⟨b', hb', hw⟩ := each i (by omega)
    rw [List.getElem?_eq_getElem hin, hiv] at hb'
    injection hb' with hb'
    subst hb'
    exact hw

/-- a slice of numbers -/
theorem open_nums {fuel : Nat} {t e : TypeId} {k : IntKind} {cs : List Value} {x : DataW H × List MemPlace} (ht : P.underlying t = some (.slice e)) (he : P.underlying e = some (.int k)) (hc : P.cellsOf e = 1)
    (h : DataW.trod enc P w base (fun _ => true) held fuel t cs = some x) : ∃ (A : Option Addr) (n c : Nat) (xs : List Int), cs = [.slice A n c] ∧ Rd w k A n xs ∧ n ≤ c ∧ c ≤ maxLen ∧ ∀ b ∈ xs, (Lit.int k b).wf = true := by
  rcases open_ints ht he hc h with ⟨rfl, _⟩ | ⟨a, len, cap, zs, rfl, _, hl, hm, hz, _, hcell, hw⟩
  · exact ⟨none, 0, 0, [], rfl, Rd.nil w k none, Nat.le_refl _, by simp [maxLen], by simp⟩
  · simp only [if_true] at hz
    refine ⟨some a, len, cap, zs.take len, rfl, ⟨by simp; omega, fun j hj => ?_⟩, hl, hm, fun b hb => hw b (List.mem_of_mem_take hb)⟩
    have h1 := hcell j (by omega)
    obtain ⟨ab, ao, asp⟩ := a
    have hs : asp = none := by
      cases asp with
      | none => rfl
      | some s =>
        have h0 := hcell 0 (by omega)
        rw [Addr.add_zero'] at h0
        simp only [World.cell?, Option.isSome_some, if_true] at h0
        split at h0 <;> cases h0
    subst hs
    refine ⟨ab, ao, rfl, ?_⟩
    rw [Addr.add_lit] at h1
    rw [h1]
    congr 2
    simp [List.getD, List.getElem?_take, hj]

theorem split_at {cs xs : List Value} {i n : Nat} (h : (cs.drop i).take n = xs) : cs.drop i = xs ++ cs.drop (i + n) := by
  rw [← h, ← List.drop_drop]
  exact (List.take_append_drop n (cs.drop i)).symm
end
set_option maxRecDepth 100000 in
theorem open_bytes {H : Type} {enc : TypeId × Value → H} {W : World} {base b0 : Nat} {v : Value} {d : DataW H} {p : List MemPlace} (hv : Value.okWide Try.prog W .any b0 46 v)
    (h : DataW.Trod enc Try.prog W base (fun _ => true) true 46 v d p) :
    ∃ (A : Option Addr) (n c : Nat) (xs : List Int), v = .slice A n c ∧ Rd W .u8 A n xs ∧ n ≤ c ∧ c ≤ maxLen ∧ ∀ b ∈ xs, 0 ≤ b ∧ b ≤ 255 := by
  obtain ⟨a, l, c, rfl⟩ := okWide_slice Try.underlying46 hv
  obtain ⟨fuel, hf⟩ := h
  have c5 : Try.prog.cellsOf 5 = 1 := by kernel_rfl
  obtain ⟨A, n, c', xs, e, R, hc, hm, hw⟩ := open_nums Try.underlying46 Try.underlying5 c5 hf
  have e' : Value.slice a l c = .slice A n c' := by simpa [Value.cells] using e
  refine ⟨A, n, c', xs, e', R, hc, hm, fun b hb => ?_⟩
  exact bounds_u8 (hw b hb)
end Go.Proofs.Ytfdddipmeadecaa

/-
  Arguments opened: slices of structs, slices of slices, as lists of records. Only what a walk needs. Over any program.
-/
set_option linter.unusedVariables false
set_option linter.unusedSimpArgs false
namespace Go.Proofs.Ytfdddipmeadecaa
open Go.ChangeShapes Go.WideShapes Go.ChangeAt Go.RowKit
section
variable {H : Type} {enc : TypeId × Value → H} {P : Program} {w : World} {base : Nat} {held : Bool}
theorem choose_list {α : Type} {n : Nat} {p : Nat → α → Prop} (h : ∀ i, i < n → ∃ x, p i x) : ∃ m : List α, m.length = n ∧ ∀ (i : Nat) (x : α), m[i]? = some x → p i x := by
  induction n with
  | zero => exact ⟨[], rfl, fun i x hx => by simp at hx⟩
  | succ n ih =>
    obtain ⟨m, hl, hm⟩ := ih fun i hi => h i (by omega)
    obtain ⟨x, hx⟩ := h n (by omega)
    refine ⟨m ++ [x], by simp [hl], fun i y hy => ?_⟩
    rcases Nat.lt_or_ge i m.length with h1 | h1
    · rw [List.getElem?_append_left h1] at hy
      exact hm i y hy
    · rw [List.getElem?_append_right h1] at hy
      rcases Nat.lt_or_ge (i - m.length) 1 with h2 | h2
      · have e : i - m.length = 0 := by omega
        rw [e] at hy
        simp at hy
        subst hy
        have : i = n := by omega
        rw [this]
        exact hx
      · rw [List.getElem?_eq_none (by simpa using h2)] at hy; cases hy
/-- a slice, by its elements -/
theorem open_recs {α : Type} {en : α → List Value} {s : Nat} {t e : TypeId} {fuel : Nat} {cs : List Value} {x : DataW H × List MemPlace} (Pr : α → Prop) (ht : P.underlying t = some (.slice e)) (hc : P.cellsOf e = s) (hs : 0 < s)
    (hel : ∀ n cs' y, DataW.trod enc P w base (fun _ => true) held n e cs' = some y → ∃ a : α, cs' = en a ∧ Pr a) (h : DataW.trod enc P w base (fun _ => true) held fuel t cs = some x) :
    ∃ (A : Option Addr) (n c : Nat) (m : List α), cs = [.slice A n c] ∧ RdM w [] en s A n m ∧ n ≤ c ∧ c ≤ maxLen ∧ ∀ a ∈ m, Pr a := by
  rcases Go.Deep.open_slice ht h with ⟨rfl, _⟩ | ⟨a, len, cap, mm, n, D, Pl, rfl, hb, hl, hm, hmm, _, hx⟩
  · exact ⟨none, 0, 0, [], rfl, RdM.nil _ _ _ _ _, Nat.le_refl _, by simp [maxLen], by simp⟩
  · rw [hc] at hx
    simp only [if_true] at hmm
    obtain ⟨m, hlen, hm2⟩ := choose_list (α := α) (n := len) (p := fun i y => w.cells? base (a.add (i * s)) s = some (en y) ∧ Pr y) (fun i hi => by
      obtain ⟨cs', h1, h2⟩ := hx i (by omega)
      obtain ⟨y, rfl, hy⟩ := hel _ _ _ h2
      exact ⟨y, h1, hy⟩)
    have hcell : ∀ j, j < len → ∀ i v, (encAt en m j)[i]? = some v → w.cell? (a.add (j * s + i)) = some v := by
      intro j hj i v hv
      obtain ⟨h1, -⟩ := hm2 j (m[j]'(by omega)) (by simp)
      rw [encAt_get (by omega)] at hv
      obtain ⟨_, h3, h4⟩ := World.cells?_some h1
      have hi : i < s := by
        rcases Nat.lt_or_ge i (en (m[j]'(by omega))).length with h | h
        · omega
        · rw [List.getElem?_eq_none h] at hv; cases hv
      have h5 := h4 i hi
      rw [Go.Deep.add_add] at h5
      rw [h5, hv]
    refine ⟨some a, len, cap, m, rfl, ⟨?_, hlen⟩, hl, hm, fun y hy => ?_⟩
    · by_cases h0 : len = 0
      · subst h0
        exact RdE.nil _ _ _ _ _
      · obtain ⟨ab, ao, asp⟩ := a
        have hsp : asp = none := by
          cases asp with
          | none => rfl
          | some q =>
            have h1 := hm2 0 (m[0]'(by omega)) (by simp)
            obtain ⟨_, h3, h4⟩ := World.cells?_some h1.1
            have h5 := h4 0 hs
            rw [Go.Deep.add_add, Nat.zero_mul, Nat.zero_add, Addr.add_zero', List.getElem?_eq_getElem (by omega)] at h5
            simp only [World.cell?, Option.isSome_some, if_true] at h5
            split at h5 <;> cases h5
        subst hsp
        refine ⟨fun w1 K j hj => ⟨ab, ao, rfl, fun i v hv => ?_⟩⟩
        have h1 := hcell j hj i v hv
        rw [Addr.add_lit, ← Nat.add_assoc] at h1
        exact (K.fr.cell (p := ⟨ab, ao + j * s + i, none⟩) (World.block_lt_of_cell? w _ h1)).trans h1
    · obtain ⟨i, hi, rfl⟩ := List.getElem_of_mem hy
      exact (hm2 i _ (by simp)).2
theorem open_bool {fuel : Nat} {t : TypeId} {cs : List Value} {x : DataW H × List MemPlace} (ht : P.underlying t = some .bool) (h : DataW.trod enc P w base (fun _ => true) held fuel t cs = some x) : ∃ b, cs = [.bool b] := by
  obtain ⟨b, e, _⟩ := DataW.trod_bool ht h
  exact ⟨b, e⟩
/-- a slice of bytes, as cells -/
theorem open_bytesC {t e : TypeId} {fuel : Nat} {cs : List Value} {x : DataW H × List MemPlace} (ht : P.underlying t = some (.slice e)) (he : P.underlying e = some (.int .u8)) (hc : P.cellsOf e = 1) (h : DataW.trod enc P w base (fun _ => true) held fuel t cs = some x) :
    ∃ (A : Option Addr) (n c : Nat) (xs : List Int), cs = [.slice A n c] ∧ RdS w [] .u8 A n xs ∧ n ≤ c ∧ c ≤ maxLen ∧ ∀ b ∈ xs, 0 ≤ b ∧ b ≤ 255 := by
  obtain ⟨A, n, c, xs, e1, R, h1, h2, h3⟩ := open_nums ht he hc h
  exact ⟨A, n, c, xs, e1, RdS.base R [], h1, h2, fun b hb => bounds_u8 (h3 b hb)⟩
end
/-- a record's cells, of its fields' -/
theorem split_end {cs : List Value} {n : Nat} (h : cs.length = n) : cs.drop n = [] := List.drop_eq_nil_of_le (by omega)
end Go.Proofs.Ytfdddipmeadecaa
