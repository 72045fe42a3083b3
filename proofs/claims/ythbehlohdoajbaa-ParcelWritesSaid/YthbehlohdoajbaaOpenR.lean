/-
  Arguments opened: slices of structs, slices of slices, as lists of records. Only what a walk needs. Over any program.
-/
import Derived.Test.YthbehlohdoajbaaOpenG
import Derived.Test.YthbehlohdoajbaaElm
import Derived.Deep.Slices
set_option linter.unusedVariables false
set_option linter.unusedSimpArgs false
namespace Go.Proofs.Ythbehlohdoajbaa
open Go.ChangeShapes Go.WideShapes Go.ChangeAt Go.RowKit
section
variable {H : Type} {enc : TypeId × Value → H} {P : Program} {w : World} {base : Nat} {held : Bool}
theorem choose_list {α : Type} {n : Nat} {p : Nat → α → Prop} (h : ∀ i, i < n → ∃ x, p i x) : ∃ m : List α, m.length = n ∧ ∀ (i : Nat) (x : α), m[i]? = some x → p i x := by
  induction n with
  | zero => exact ⟨[], rfl, fun i x hx => by simp at hx⟩
  | succ n ih =>
    obtain ⟨m, hl, hm⟩ := ih fun i hi => h i (by omega)
    obtain ⟨x, hx⟩ := h n (by omega)
    refine ⟨m ++ [x], by simp [hl], fun i y hy => ?_⟩
    rcases Nat.lt_or_ge i m.length with h1 | h1
    · rw [List.getElem?_append_left h1] at hy
      exact hm i y hy
    · rw [List.getElem?_append_right h1] at hy
      rcases Nat.lt_or_ge (i - m.length) 1 with h2 | h2
      · have e : i - m.length = 0 := by omega
        rw [e] at hy
        simp at hy
        subst hy
        have : i = n := by omega
        rw [this]
        exact hx
      · rw [List.getElem?_eq_none (by simpa using h2)] at hy; cases hy
/-- a slice, by its elements -/
theorem open_recs {α : Type} {en : α → List Value} {s : Nat} {t e : TypeId} {fuel : Nat} {cs : List Value} {x : DataW H × List MemPlace} (Pr : α → Prop) (ht : P.underlying t = some (.slice e)) (hc : P.cellsOf e = s) (hs : 0 < s)
    (hel : ∀ n cs' y, DataW.trod enc P w base (fun _ => true) held n e cs' = some y → ∃ a : α, cs' = en a ∧ Pr a) (h : DataW.trod enc P w base (fun _ => true) held fuel t cs = some x) :
    ∃ (A : Option Addr) (n c : Nat) (m : List α), cs = [.slice A n c] ∧ RdM w [] en s A n m ∧ n ≤ c ∧ c ≤ maxLen ∧ ∀ a ∈ m, Pr a := by
  rcases Go.Deep.open_slice ht h with ⟨rfl, _⟩ | ⟨a, len, cap, mm, n, D, Pl, rfl, hb, hl, hm, hmm, _, hx⟩
  · exact ⟨none, 0, 0, [], rfl, RdM.nil _ _ _ _ _, Nat.le_refl _, by simp [maxLen], by simp⟩
  · rw [hc] at hx
    simp only [if_true] at hmm
    obtain ⟨m, hlen, hm2⟩ := choose_list (α := α) (n := len) (p := fun i y => w.cells? base (a.add (i * s)) s = some (en y) ∧ Pr y) (fun i hi => by
      obtain ⟨cs', h1, h2⟩ := hx i (by omega)
      obtain ⟨y, rfl, hy⟩ := hel _ _ _ h2
      exact ⟨y, h1, hy⟩)
    have hcell : ∀ j, j < len → ∀ i v, (encAt en m j)[i]? = some v → w.cell? (a.add (j * s + i)) = some v := by
      intro j hj i v hv
      obtain ⟨h1, -⟩ := hm2 j (m[j]'(by omega)) (by simp)
      rw [encAt_get (by omega)] at hv
      obtain ⟨_, h3, h4⟩ := World.cells?_some h1
      have hi : i < s := by
        rcases Nat.lt_or_ge i (en (m[j]'(by omega))).length with h | h
        · omega
        · rw [List.getElem?_eq_none h] at hv; cases hv
      have h5 := h4 i hi
      rw [Go.Deep.add_add] at h5
      rw [h5, hv]
    refine ⟨some a, len, cap, m, rfl, ⟨?_, hlen⟩, hl, hm, fun y hy => ?_⟩
    · by_cases h0 : len = 0
      · subst h0
        exact RdE.nil _ _ _ _ _
      · obtain ⟨ab, ao, asp⟩ := a
        have hsp : asp = none := by
          cases asp with
          | none => rfl
          | some q =>
            have h1 := hm2 0 (m[0]'(by omega)) (by simp)
            obtain ⟨_, h3, h4⟩ := World.cells?_some h1.1
            have h5 := h4 0 hs
            rw [Go.Deep.add_add, Nat.zero_mul, Nat.zero_add, Addr.add_zero', List.getElem?_eq_getElem (by omega)] at h5
            simp only [World.cell?, Option.isSome_some, if_true] at h5
            split at h5 <;> cases h5
        subst hsp
        refine ⟨fun w1 K j hj => ⟨ab, ao, rfl, fun i v hv => ?_⟩⟩
        have h1 := hcell j hj i v hv
        rw [Addr.add_lit, ← Nat.add_assoc] at h1
        exact (K.fr.cell (p := ⟨ab, ao + j * s + i, none⟩) (World.block_lt_of_cell? w _ h1)).trans h1
    · obtain ⟨i, hi, rfl⟩ := List.getElem_of_mem hy
      exact (hm2 i _ (by simp)).2
theorem open_bool {fuel : Nat} {t : TypeId} {cs : List Value} {x : DataW H × List MemPlace} (ht : P.underlying t = some .bool) (h : DataW.trod enc P w base (fun _ => true) held fuel t cs = some x) : ∃ b, cs = [.bool b] := by
  obtain ⟨b, e, _⟩ := DataW.trod_bool ht h
  exact ⟨b, e⟩
/-- a slice of bytes, as cells -/
theorem open_bytesC {t e : TypeId} {fuel : Nat} {cs : List Value} {x : DataW H × List MemPlace} (ht : P.underlying t = some (.slice e)) (he : P.underlying e = some (.int .u8)) (hc : P.cellsOf e = 1) (h : DataW.trod enc P w base (fun _ => true) held fuel t cs = some x) :
    ∃ (A : Option Addr) (n c : Nat) (xs : List Int), cs = [.slice A n c] ∧ RdS w [] .u8 A n xs ∧ n ≤ c ∧ c ≤ maxLen ∧ ∀ b ∈ xs, 0 ≤ b ∧ b ≤ 255 := by
  obtain ⟨A, n, c, xs, e1, R, h1, h2, h3⟩ := open_nums ht he hc h
  exact ⟨A, n, c, xs, e1, RdS.base R [], h1, h2, fun b hb => bounds_u8 (h3 b hb)⟩
end
/-- a record's cells, of its fields' -/
theorem split_end {cs : List Value} {n : Nat} (h : cs.length = n) : cs.drop n = [] := List.drop_eq_nil_of_le (by omega)
end Go.Proofs.Ythbehlohdoajbaa
