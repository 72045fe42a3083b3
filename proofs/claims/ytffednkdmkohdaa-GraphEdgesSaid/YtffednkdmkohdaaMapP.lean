/-
  Maps keyed by integers: what a write leaves, as plain mathematics; sets of integers.
-/
import Derived.Test.YtffednkdmkohdaaMapR
set_option linter.unusedVariables false
set_option linter.unusedSimpArgs false
namespace Go.Proofs.Ytffednkdmkohdaa
open Go.RowKit
theorem mput_mem {x : Int} {v : Value} {c : Nat} {e : ME} : ∀ {l : List ME}, e ∈ mput l x v c → (e.b = c ∧ mget l x = none) ∨ ∃ e' ∈ l, e'.b = e.b
  | [], h => by
    simp only [mput, List.mem_singleton] at h
    subst h
    exact .inl ⟨rfl, rfl⟩
  | a :: l, h => by
    unfold mput at h
    rw [mget_cons]
    split at h
    · next hx =>
      rcases List.mem_cons.1 h with rfl | h
      · exact .inr ⟨a, List.mem_cons_self .., rfl⟩
      · exact .inr ⟨e, List.mem_cons_of_mem _ h, rfl⟩
    · next hx =>
      rw [if_neg hx]
      rcases List.mem_cons.1 h with rfl | h
      · exact .inr ⟨e, List.mem_cons_self .., rfl⟩
      · rcases mput_mem h with h | ⟨e', h2, h3⟩
        · exact .inl h
        · exact .inr ⟨e', List.mem_cons_of_mem _ h2, h3⟩
theorem mget_mput (x : Int) (v : Value) (c : Nat) (j : Int) : ∀ l : List ME, mget (mput l x v c) j = if j = x then some v else mget l j
  | [] => by
    unfold mput
    rw [mget_cons]
  | a :: l => by
    unfold mput
    by_cases h : x = a.k
    · rw [if_pos h, mget_cons, mget_cons]
      subst h
      by_cases h2 : j = a.k <;> simp [h2]
    · rw [if_neg h, mget_cons, mget_cons, mget_mput x v c j l]
      by_cases h2 : j = a.k
      · rw [if_pos h2, if_pos h2, if_neg (by omega)]
      · rw [if_neg h2, if_neg h2]
theorem mput_len (x : Int) (v : Value) (c : Nat) : ∀ l : List ME, (mput l x v c).length = if (mget l x).isSome then l.length else l.length + 1
  | [] => rfl
  | a :: l => by
    unfold mput
    rw [mget_cons]
    by_cases h : x = a.k
    · simp [h]
    · simp only [h, if_false, List.length_cons, mput_len x v c l]
      split <;> simp
theorem mput_keys (x : Int) (v : Value) (c : Nat) : ∀ l : List ME, (mput l x v c).map ME.k = if (mget l x).isSome then l.map ME.k else l.map ME.k ++ [x]
  | [] => rfl
  | a :: l => by
    unfold mput
    rw [mget_cons]
    by_cases h : x = a.k
    · simp [h]
    · simp only [h, if_false, List.map_cons, mput_keys x v c l]
      split <;> simp
theorem mget_none_keys {x : Int} : ∀ {l : List ME}, mget l x = none → x ∉ l.map ME.k
  | [], _ => by simp
  | a :: l, h => by
    rw [mget_cons] at h
    by_cases hx : x = a.k
    · simp [hx] at h
    · rw [if_neg hx] at h
      simp only [List.map_cons, List.mem_cons, not_or]
      exact ⟨hx, mget_none_keys h⟩
theorem mput_born {x : Int} {v : Value} {c : Nat} : ∀ {l : List ME}, l.Pairwise (fun p q => p.b < q.b) → (∀ e ∈ l, e.b < c) → (mput l x v c).Pairwise (fun p q => p.b < q.b)
  | [], _, _ => by simp [mput]
  | a :: l, h, hl => by
    obtain ⟨h1, h2⟩ := List.pairwise_cons.1 h
    unfold mput
    split
    · exact List.pairwise_cons.2 ⟨h1, h2⟩
    · refine List.pairwise_cons.2 ⟨fun e he => ?_, mput_born h2 (fun e he => hl e (List.mem_cons_of_mem _ he))⟩
      rcases mput_mem he with ⟨h3, _⟩ | ⟨e', h3, h4⟩
      · rw [h3]; exact hl a (List.mem_cons_self ..)
      · rw [← h4]; exact h1 e' h3
theorem mget_keys {x : Int} {v : Value} : ∀ {l : List ME}, mget l x = some v → ∃ e ∈ l, e.k = x
  | [], h => by simp [mget, mfind] at h
  | a :: l, h => by
    rw [mget_cons] at h
    by_cases hx : x = a.k
    · exact ⟨a, List.mem_cons_self .., hx.symm⟩
    · rw [if_neg hx] at h
      obtain ⟨e, he, h2⟩ := mget_keys h
      exact ⟨e, List.mem_cons_of_mem _ he, h2⟩
/-- a set of integers, as a map's entries -/
structure SetIs (l : List ME) (c : Nat) (S : Int → Bool) : Prop where mk :: (has : ∀ i, mhas l i = S i) (nd : (l.map ME.k).Nodup) (born : l.Pairwise (fun p q => p.b < q.b)) (lt : ∀ e ∈ l, e.b < c)
theorem SetIs.nil (c : Nat) : SetIs [] c (fun _ => false) := ⟨fun i => rfl, by simp, by simp, by simp⟩
theorem SetIs.eq {l : List ME} {c : Nat} {S S' : Int → Bool} (h : SetIs l c S) (e : ∀ i, S i = S' i) : SetIs l c S' := ⟨fun i => (h.has i).trans (e i), h.nd, h.born, h.lt⟩
theorem SetIs.put {l : List ME} {c : Nat} {S : Int → Bool} (h : SetIs l c S) (i : Int) (v : Value) : SetIs (mput l i v c) (if mhas l i then c else c + 1) (fun j => S j || decide (j = i)) := by
  refine ⟨fun j => ?_, ?_, mput_born h.born h.lt, fun e he => ?_⟩
  · rw [mhas_get, mget_mput, ← h.has j, mhas_get]
    by_cases hji : j = i
    · rw [if_pos hji]; simp [hji]
    · rw [if_neg hji]; simp [hji]
  · rw [mput_keys]
    split
    · exact h.nd
    · next hn =>
      have : mget l i = none := by cases hq : mget l i with
        | none => rfl
        | some _ => rw [hq] at hn; simp at hn
      rw [List.nodup_append]
      refine ⟨h.nd, by simp, fun a ha b hb => ?_⟩
      simp only [List.mem_singleton] at hb
      subst hb
      intro e
      subst e
      exact mget_none_keys this ha
  · rw [mhas_get]
    have hle : e.b < c ∨ (e.b = c ∧ (mget l i).isSome = false) := by
      rcases mput_mem he with ⟨h3, h4⟩ | ⟨e', h3, h4⟩
      · exact .inr ⟨h3, by rw [h4]; rfl⟩
      · left; rw [← h4]; exact h.lt e' h3
    rcases hle with hl | ⟨hl, hn⟩
    · split <;> omega
    · rw [hn]; simp; omega
theorem mhas_key {l : List ME} {i : Int} : mhas l i = true ↔ i ∈ l.map ME.k := by
  rw [mhas_get]
  constructor
  · intro h
    cases hq : mget l i with
    | none => rw [hq] at h; cases h
    | some v =>
      obtain ⟨e, he, rfl⟩ := mget_keys hq
      exact List.mem_map_of_mem he
  · intro h
    cases hq : mget l i with
    | none => exact absurd h (mget_none_keys hq)
    | some v => rfl
end Go.Proofs.Ytffednkdmkohdaa
