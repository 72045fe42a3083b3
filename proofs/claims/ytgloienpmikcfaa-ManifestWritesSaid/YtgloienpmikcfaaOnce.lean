/-
  THE PLAIN LAW: a list of so many numbers has each of so many once just if all are in range and none comes twice.
-/
import Derived.Test.YtgloienpmikcfaaManB
set_option linter.unusedVariables false
set_option linter.unusedSimpArgs false
namespace Go.Proofs.Ytgloienpmikcfaa
open Go.RowKit

def onceB (xs : List Int) (m : Int) : Bool := decide ((xs.length : Int) = m ∧ (∀ x ∈ xs, 0 ≤ x ∧ x < m) ∧ xs.Nodup)
def inR (m : Nat) (x : Int) : Bool := decide (0 ≤ x ∧ x < (m : Int))
theorem cnt_count (xs : List Int) (x : Int) : cntL xs x = (xs.count x : Int) := by
  rw [cntL, ← List.countP_eq_length_filter]
  rfl
theorem inR_succ (xs : List Int) (m : Nat) : (xs.filter (inR (m + 1))).length = (xs.filter (inR m)).length + xs.count (m : Int) := by
  induction xs with
  | nil => rfl
  | cons y xs ih =>
    rw [List.filter_cons, List.filter_cons, List.count_cons]
    by_cases h1 : inR m y = true
    · have h2 : inR (m + 1) y = true := by simp only [inR, decide_eq_true_eq] at h1 ⊢; omega
      have h3 : (y == (m : Int)) = false := by simp only [inR, decide_eq_true_eq] at h1; simp; omega
      rw [if_pos h1, if_pos h2, h3, List.length_cons, List.length_cons, ih]
      simp; omega
    · by_cases h3 : y = (m : Int)
      · have h2 : inR (m + 1) y = true := by simp only [inR, decide_eq_true_eq]; omega
        rw [if_neg h1, if_pos h2, List.length_cons, ih, h3]
        simp; omega
      · have h2 : ¬ inR (m + 1) y = true := by simp only [inR, decide_eq_true_eq] at h1 ⊢; omega
        have h4 : (y == (m : Int)) = false := by simpa using h3
        rw [if_neg h1, if_neg h2, ih, h4]
        simp
theorem filter_zero (xs : List Int) : (xs.filter (inR 0)).length = 0 := by
  rw [List.length_eq_zero_iff, List.filter_eq_nil_iff]
  intro a _
  simp only [inR, decide_eq_true_eq]
  omega
theorem filter_ones (xs : List Int) : ∀ m : Nat, (∀ i : Nat, i < m → xs.count (i : Int) = 1) → (xs.filter (inR m)).length = m
  | 0, _ => filter_zero xs
  | m + 1, h => by rw [inR_succ, filter_ones xs m (fun i hi => h i (by omega)), h m (by omega)]
theorem filter_le (xs : List Int) (h1 : ∀ a, xs.count a ≤ 1) : ∀ m : Nat, (xs.filter (inR m)).length ≤ m
  | 0 => by rw [filter_zero]; omega
  | m + 1 => by rw [inR_succ]; have := filter_le xs h1 m; have := h1 (m : Int); omega
theorem filter_lt (xs : List Int) (h1 : ∀ a, xs.count a ≤ 1) (i : Nat) (hi : xs.count (i : Int) = 0) : ∀ m : Nat, i < m → (xs.filter (inR m)).length < m
  | 0, h => by omega
  | m + 1, h => by
    rw [inR_succ]
    by_cases e : i = m
    · subst e
      rw [hi]
      have := filter_le xs h1 i
      omega
    · have := filter_lt xs h1 i hi m (by omega)
      have := h1 (m : Int)
      omega
theorem once_iff (xs : List Int) (m : Nat) (hm : xs.length = m) : onceB xs m = decide (∀ i : Nat, i < m → cntL xs i = 1) := by
  rw [onceB, decide_eq_decide]
  constructor
  · rintro ⟨_, hr, hn⟩ i hi
    have h1 := List.nodup_iff_count.1 hn
    rw [cnt_count]
    by_cases h0 : xs.count (i : Int) = 0
    · have := filter_lt xs h1 i h0 m hi
      have he : (xs.filter (inR m)).length = xs.length := List.length_filter_eq_length_iff.2 (fun a ha => by simp only [inR, decide_eq_true_eq]; exact hr a ha)
      omega
    · have := h1 (i : Int)
      omega
  · intro h
    have h' : ∀ i : Nat, i < m → xs.count (i : Int) = 1 := fun i hi => by have := h i hi; rw [cnt_count] at this; omega
    have hf := filter_ones xs m h'
    have hall := List.length_filter_eq_length_iff.1 (show (xs.filter (inR m)).length = xs.length by omega)
    have hr : ∀ x ∈ xs, 0 ≤ x ∧ x < (m : Int) := fun x hx => by have := hall x hx; simpa only [inR, decide_eq_true_eq] using this
    refine ⟨by omega, hr, List.nodup_iff_count.2 (fun a => ?_)⟩
    by_cases ha : a ∈ xs
    · obtain ⟨a0, a1⟩ := hr a ha
      have := h' a.toNat (by omega)
      rw [Int.toNat_of_nonneg a0] at this
      omega
    · rw [List.count_eq_zero_of_not_mem ha]; omega

/-- what stands in 'had' behind so many -/
def hadA (m : Nat) (ys : List Int) : Array Value := ((List.range m).map (fun (i : Nat) => Value.bool (decide ((i : Int) ∈ ys)))).toArray
theorem hadA_size (m : Nat) (ys : List Int) : (hadA m ys).size = m := by simp [hadA]
theorem hadA_at (m : Nat) (ys : List Int) (x : Int) (h0 : 0 ≤ x) (h1 : x < (m : Int)) : (hadA m ys)[x.toNat]? = some (.bool (decide (x ∈ ys))) := by
  have e : ((x.toNat : Nat) : Int) = x := Int.toNat_of_nonneg h0
  have hx : x.toNat < m := by omega
  unfold hadA
  rw [List.getElem?_toArray, List.getElem?_map, List.getElem?_range hx, Option.map_some, e]
theorem hadA_nil (m : Nat) : Array.replicate m (Value.bool false) = hadA m [] := by
  apply Array.ext
  · simp [hadA]
  · intro i h1 h2
    simp [hadA]
theorem hadA_set (m : Nat) (ys : List Int) (x : Int) (h0 : 0 ≤ x) : (hadA m ys).setIfInBounds x.toNat (.bool true) = hadA m (ys ++ [x]) := by
  apply Array.ext
  · simp [hadA]
  · intro i h1 h2
    rw [Array.getElem_setIfInBounds (by simpa using h1)]
    split
    · rename_i hi
      subst hi
      simp [hadA, Int.toNat_of_nonneg h0]
    · rename_i hi
      have : ¬ (i : Int) = x := by omega
      simp [hadA, this]

/-- all is well behind so many -/
def goodK (xs : List Int) (m : Int) (k : Nat) : Prop := (∀ x ∈ xs.take k, 0 ≤ x ∧ x < m) ∧ (xs.take k).Nodup
theorem goodK_step {xs : List Int} {m : Int} {k : Nat} {x : Int} (h : goodK xs m k) (ht : xs.take (k + 1) = xs.take k ++ [x]) (h0 : 0 ≤ x) (h1 : x < m) (h2 : x ∉ xs.take k) : goodK xs m (k + 1) := by
  unfold goodK
  rw [ht]
  refine ⟨fun y hy => ?_, ?_⟩
  · rcases List.mem_append.1 hy with h' | h'
    · exact h.1 y h'
    · simp at h'; subst h'; exact ⟨h0, h1⟩
  · rw [List.nodup_append]
    refine ⟨h.2, by simp, fun a ha b hb => ?_⟩
    simp at hb
    subst hb
    rintro rfl
    exact h2 ha
theorem bad_mem {xs : List Int} {m : Int} {k : Nat} {x : Int} (hl : (xs.length : Int) = m) (ht : xs.take (k + 1) = xs.take k ++ [x]) (h : ¬ (0 ≤ x ∧ x < m) ∨ x ∈ xs.take k) : onceB xs m = false := by
  rw [onceB, decide_eq_false_iff_not]
  rintro ⟨_, hr, hn⟩
  have hx : x ∈ xs := List.mem_of_mem_take (i := k + 1) (by rw [ht]; simp)
  rcases h with h | h
  · exact h (hr x hx)
  · have hn2 : (xs.take (k + 1)).Nodup := hn.sublist (List.take_sublist _ _)
    rw [ht, List.nodup_append] at hn2
    exact hn2.2.2 x h x (by simp) rfl
theorem good_all {xs : List Int} {m : Int} {k : Nat} (hl : (xs.length : Int) = m) (hk : xs.length ≤ k) (h : goodK xs m k) : onceB xs m = true := by
  unfold goodK at h
  rw [List.take_of_length_le hk] at h
  simp only [onceB, decide_eq_true_eq]
  exact ⟨hl, h.1, h.2⟩
end Go.Proofs.Ytgloienpmikcfaa
