/-
  graph: Turned: the plain law.
-/
import Derived.Test.YtffednkdmkohdaaGrK
set_option linter.unusedVariables false
set_option linter.unusedSimpArgs false
namespace Go.Proofs.Ytffednkdmkohdaa
open Go.RowKit
theorem asc_eq {a : List Int} : ∀ {b : List Int}, a.Pairwise (· < ·) → b.Pairwise (· < ·) → (∀ x, x ∈ a ↔ x ∈ b) → a = b := by
  induction a with
  | nil =>
    intro b _ _ h
    cases b with
    | nil => rfl
    | cons y b => exact absurd ((h y).2 (List.mem_cons_self ..)) (by simp)
  | cons x a ih =>
    intro b ha hb h
    cases b with
    | nil => exact absurd ((h x).1 (List.mem_cons_self ..)) (by simp)
    | cons y b =>
      rw [List.pairwise_cons] at ha hb
      have hxy : x = y := by
        rcases List.mem_cons.1 ((h x).1 (List.mem_cons_self ..)) with h1 | h1
        · exact h1
        · rcases List.mem_cons.1 ((h y).2 (List.mem_cons_self ..)) with h2 | h2
          · exact h2.symm
          · have := hb.1 _ h1
            have := ha.1 _ h2
            omega
      subst hxy
      rw [ih ha.2 hb.2 fun z => ?_]
      have hz := h z
      rw [List.mem_cons, List.mem_cons] at hz
      constructor
      · intro h1
        rcases hz.1 (.inr h1) with h2 | h2
        · have := ha.1 _ h1
          omega
        · exact h2
      · intro h1
        rcases hz.2 (.inr h1) with h2 | h2
        · have := hb.1 _ h1
          omega
        · exact h2
theorem okRow_asc {N i : Int} {xs : List Int} (h : okRow N i xs = true) : xs.Pairwise (· < ·) := by
  rw [List.pairwise_iff_getElem]
  intro a b ha hb hab
  have h1 := okRow_lt h a b hab hb
  simpa [List.getD, ha, hb] using h1
theorem okRow_mem {N i : Int} {xs : List Int} (h : okRow N i xs = true) {x : Int} (hx : x ∈ xs) : (0 ≤ x ∧ x < N) ∧ x ≠ i := by
  obtain ⟨a, ha, rfl⟩ := List.getElem_of_mem hx
  have h1 := okAt_yes (okRow_at h ha)
  simp only [List.getD, ha, List.getElem?_eq_getElem, Option.getD_some] at h1
  exact ⟨h1.1, h1.2.1⟩
theorem okRow_of {N i : Int} {xs : List Int} (ha : xs.Pairwise (· < ·)) (hm : ∀ x ∈ xs, (0 ≤ x ∧ x < N) ∧ x ≠ i) : okRow N i xs = true := by
  refine List.all_eq_true.2 fun k hk => ?_
  have hk := List.mem_range.1 hk
  have h1 := hm _ (List.getElem_mem hk)
  rw [List.pairwise_iff_getElem] at ha
  have h2 : 0 < k → xs.getD (k - 1) 0 < xs.getD k 0 := by
    intro h0
    have := ha (k - 1) k (by omega) hk (by omega)
    simpa [List.getD, hk, show k - 1 < xs.length by omega] using this
  have h3 : xs.getD k 0 = xs[k] := by simp [List.getD, hk]
  rw [← h3] at h1
  simp only [okAt, Bool.not_eq_true', Bool.or_eq_false_iff, Bool.and_eq_false_iff, decide_eq_false_iff_not]
  refine ⟨by omega, by omega, h1.2, ?_⟩
  by_cases h0 : 0 < k
  · exact .inr (by have := h2 h0; omega)
  · exact .inl (by omega)
theorem readers_asc (rs : List (List Int)) (k n : Nat) : (readers rs k n).Pairwise (· < ·) := by
  unfold readers
  rw [List.pairwise_map]
  exact (List.pairwise_lt_range.filter _).imp fun h => by omega
theorem readers_mem {rs : List (List Int)} {k n : Nat} {x : Int} : x ∈ readers rs k n ↔ ∃ i : Nat, x = i ∧ i < n ∧ (k : Int) ∈ rs.getD i [] := by
  unfold readers
  rw [List.mem_map]
  constructor
  · rintro ⟨i, hi, rfl⟩
    rw [List.mem_filter, List.mem_range, decide_eq_true_eq] at hi
    exact ⟨i, rfl, hi.1, hi.2⟩
  · rintro ⟨i, rfl, h1, h2⟩
    exact ⟨i, by rw [List.mem_filter, List.mem_range, decide_eq_true_eq]; exact ⟨h1, h2⟩, rfl⟩
theorem turned_len (rs : List (List Int)) : (turned rs).length = rs.length := by simp [turned]
theorem turned_get {rs : List (List Int)} {k : Nat} (h : k < rs.length) : (turned rs).getD k [] = readers rs k rs.length := by
  simp [turned, List.getD, h]
theorem turned_right {rs : List (List Int)} (h : rightG rs = true) : rightG (turned rs) = true := by
  have h0 := h
  unfold rightG at h0 ⊢
  rw [Bool.and_eq_true] at h0 ⊢
  rw [turned_len]
  refine ⟨?_, h0.2⟩
  refine List.all_eq_true.2 fun k hk => ?_
  have hk := List.mem_range.1 hk
  rw [turned_get hk]
  refine okRow_of (readers_asc _ _ _) fun x hx => ?_
  obtain ⟨i, rfl, hi, hm⟩ := readers_mem.1 hx
  have := okRow_mem (rightG_row h hi) hm
  omega
theorem turned_turned {rs : List (List Int)} (h : rightG rs = true) : turned (turned rs) = rs := by
  apply List.ext_getElem
  · rw [turned_len, turned_len]
  · intro j h1 h2
    have e1 : (turned (turned rs))[j] = (turned (turned rs)).getD j [] := by simp [List.getD, h1]
    have e2 : rs[j] = rs.getD j [] := by simp [List.getD, h2]
    rw [e1, e2, turned_get (by rw [turned_len]; exact h2), turned_len]
    refine asc_eq (readers_asc _ _ _) (okRow_asc (rightG_row h h2)) fun x => ?_
    rw [readers_mem]
    constructor
    · rintro ⟨k, rfl, hk, hm⟩
      rw [turned_get hk, readers_mem] at hm
      obtain ⟨i, hi, _, hm⟩ := hm
      obtain rfl : j = i := by omega
      exact hm
    · intro hx
      have hb := okRow_mem (rightG_row h h2) hx
      obtain ⟨k, rfl⟩ : ∃ k : Nat, x = k := ⟨x.toNat, by omega⟩
      refine ⟨k, rfl, by omega, ?_⟩
      rw [turned_get (by omega), readers_mem]
      exact ⟨j, rfl, h2, hx⟩
end Go.Proofs.Ytffednkdmkohdaa
