/-
  Package inflate: the model: what a step leaves; its measure.
-/
import Derived.Test.YtemnahimheffgaaInfP
set_option linter.unusedVariables false
set_option linter.unusedSimpArgs false
namespace Go.Proofs.Ytemnahimheffgaa
theorem Rs.bind_ok {α β : Type} {r : Rs α} {f : α → Nat → Rs β} {y : β} {q : Nat} (h : r.andThen f = .ok y q) : ∃ a p, r = .ok a p ∧ f a p = .ok y q := by
  cases r with
  | ok a p => exact ⟨a, p, rfl, h⟩
  | th c => cases h
theorem ofM_le {b : List Bool} : ∀ {o : List Nat} {l : List Int} {p : Nat} {r : List Int} {q : Nat}, ofM b o l p = .ok r q → p ≤ q
  | [], l, p, r, q, h => by
    cases h
    exact Nat.le_refl _
  | s :: o, l, p, r, q, h => by
    obtain ⟨k, p2, h1, h2⟩ := Rs.bind_ok h
    have := ofM_le h2
    have := (numM_ok h1).2.2
    omega
theorem lenE_le {l : List Int} {b : List Bool} {out : List Int} {p : Nat} {r : Nat × Int} {q : Nat} (h : lenE l b out p = .ok r q) : p ≤ q := by
  obtain ⟨s, p2, h1, h2⟩ := Rs.bind_ok h
  have := (symM_ok h1).2.2.1
  split at h2
  · split at h2
    · cases h2
    · obtain ⟨k, p3, h3, h4⟩ := Rs.bind_ok h2
      have := (numM_ok h3).2.2
      cases h4
      omega
  · split at h2
    · obtain ⟨k, p3, h3, h4⟩ := Rs.bind_ok h2
      have := (numM_ok h3).2.2
      cases h4
      omega
    · split at h2
      · obtain ⟨k, p3, h3, h4⟩ := Rs.bind_ok h2
        have := (numM_ok h3).2.2
        cases h4
        omega
      · cases h2
        omega
theorem lensM_le {l : List Int} {b : List Bool} {many : Nat} : ∀ {f : Nat} {out : List Int} {p : Nat} {r : List Int} {q : Nat}, lensM l b many f out p = .ok r q → p ≤ q
  | 0, _, _, _, _, h => by cases h
  | f + 1, out, p, r, q, h => by
    rw [lensM] at h
    split at h
    · cases h
      exact Nat.le_refl _
    · obtain ⟨na, p2, h1, h2⟩ := Rs.bind_ok h
      have := lenE_le h1
      split at h2
      · cases h2
      · have := lensM_le h2
        omega
theorem dynM_le {b : List Bool} {p : Nat} {r : List Int × List Int} {q : Nat} (h : dynM b p = .ok r q) : p ≤ q := by
  obtain ⟨a, p1, h1, h⟩ := Rs.bind_ok h
  obtain ⟨d, p2, h2, h⟩ := Rs.bind_ok h
  obtain ⟨m, p3, h3, h⟩ := Rs.bind_ok h
  rw [dynT] at h
  split at h
  · cases h
  obtain ⟨l0, p4, h4, h⟩ := Rs.bind_ok h
  rw [dynZ] at h
  split at h
  · cases h
  obtain ⟨l, p5, h5, h⟩ := Rs.bind_ok h
  split at h
  · cases h
  split at h
  · cases h
  cases h
  have := (numM_ok h1).2.2
  have := (numM_ok h2).2.2
  have := (numM_ok h3).2.2
  have := ofM_le h4
  have := lensM_le h5
  omega
def mu (len : Nat) (m : Mo) (p : Nat) : Nat := 2 * (8 * len - p) + (if m.next = 2 then 1 else 0)
/-- what a state leaves -/
structure Left (len : Nat) (m : Mo) (p : Nat) (m' : Mo) (q : Nat) : Prop where
  (le3 : m'.next ≤ 3) (dec : m'.next ≠ 0 → q ≤ 8 * len → mu len m' q < mu len m p) (e : m'.e = m.e) (most : m'.most = m.most) (pq : p ≤ q)
theorem mu_lt {len : Nat} {m m' : Mo} {p q : Nat} (h : p < q) (hq : q ≤ 8 * len) : mu len m' q < mu len m p := by
  unfold mu
  split <;> split <;> omega
theorem ends_left {len : Nat} {m m' : Mo} {p p0 q : Nat} (h : endsM m p = .ok m' q) (hp : p0 < p ∨ p0 = p ∧ m.next = 2) : Left len m p0 m' q := by
  unfold endsM at h
  split at h
  · cases h
    refine ⟨by simp, fun h => absurd rfl h, rfl, rfl, by omega⟩
  · cases h
    refine ⟨by simp, fun _ hq => ?_, rfl, rfl, by omega⟩
    rcases hp with hp | ⟨rfl, hp⟩
    · exact mu_lt hp hq
    · unfold mu
      simp [hp]
theorem stateM_ok {bs : List Int} {m m' : Mo} {p q : Nat} (h : stateM bs m p = .ok m' q) (hn : m.next = 1 ∨ m.next = 2 ∨ m.next = 3) : Left bs.length m p m' q := by
  unfold stateM at h
  rcases hn with hn | hn | hn
  · rw [if_pos hn] at h
    obtain ⟨la, p1, h1, h⟩ := Rs.bind_ok h
    obtain ⟨k, p2, h2, h⟩ := Rs.bind_ok h
    have e1 := (numM_ok h1).2.2
    have e2 := (numM_ok h2).2.2
    split at h
    · cases h
    split at h
    · obtain ⟨n, p3, h3, h⟩ := Rs.bind_ok h
      obtain ⟨t, p4, h4, h⟩ := Rs.bind_ok h
      have e3 := (numM_ok h3).2.2
      have e4 := (numM_ok h4).2.2
      split at h
      · cases h
      split at h
      · cases h
      cases h
      exact ⟨by simp, fun _ hq => mu_lt (by omega) hq, rfl, rfl, by omega⟩
    split at h
    · cases h
      exact ⟨by simp, fun _ hq => mu_lt (by omega) hq, rfl, rfl, by omega⟩
    obtain ⟨ld, p3, h3, h⟩ := Rs.bind_ok h
    have e3 := dynM_le h3
    cases h
    exact ⟨by simp, fun _ hq => mu_lt (by omega) hq, rfl, rfl, by omega⟩
  · rw [if_neg (by omega), if_pos hn, rawM] at h
    split at h
    · exact ends_left h (.inr ⟨rfl, hn⟩)
    split at h
    · cases h
    cases h
    exact ⟨by simp, fun _ hq => mu_lt (by omega) hq, rfl, rfl, by omega⟩
  · rw [if_neg (by omega), if_neg (by omega)] at h
    obtain ⟨s, p1, h1, h⟩ := Rs.bind_ok h
    have e1 := (symM_ok h1).2.2.1
    split at h
    · split at h
      · cases h
      cases h
      exact ⟨by simp, fun _ hq => mu_lt (by omega) hq, rfl, rfl, by omega⟩
    split at h
    · exact ends_left h (.inl e1)
    split at h
    · cases h
    obtain ⟨k, p2, h2, h⟩ := Rs.bind_ok h
    obtain ⟨d, p3, h3, h⟩ := Rs.bind_ok h
    have e2 := (numM_ok h2).2.2
    have e3 := (symM_ok h3).2.2.1
    split at h
    · cases h
    obtain ⟨j, p4, h4, h⟩ := Rs.bind_ok h
    have e4 := (numM_ok h4).2.2
    split at h
    · cases h
    split at h
    · cases h
    cases h
    exact ⟨by simp, fun _ hq => mu_lt (by omega) hq, rfl, rfl, by omega⟩
theorem stepM_on {bs : List Int} {m : Mo} {p : Nat} (hn : m.next = 1 ∨ m.next = 2 ∨ m.next = 3) (h : (stepM bs m p).2 = true) : Left bs.length m p (stepM bs m p).1.1 (stepM bs m p).1.2 ∧ (stepM bs m p).1.1.next ≠ 0 := by
  unfold stepM at h ⊢
  cases hs : stateM bs m p with
  | ok m' q =>
    rw [hs] at h
    exact ⟨stateM_ok hs hn, of_decide_eq_true h⟩
  | th c =>
    rw [hs] at h
    cases h
theorem stepM_le3 {bs : List Int} {m : Mo} {p : Nat} (hn : m.next = 1 ∨ m.next = 2 ∨ m.next = 3) : (stepM bs m p).1.1.next ≤ 3 := by
  unfold stepM
  cases hs : stateM bs m p with
  | ok m' q => exact (stateM_ok hs hn).le3
  | th c =>
    show m.next ≤ 3
    omega
/-- all that bytes tell, from a state on -/
def goM (bs : List Int) (m : Mo) (p : Nat) : Mo × Nat := runM bs (mu bs.length m p + 1) m p
/-- a piece: the state behind it, the bytes that were not read to their end, the bits of them that were -/
def wrM (m : Mo) (rs : List Int) (fr : Nat) (ys : List Int) : Mo × List Int × Nat :=
  if m.e ≠ 0 then (m, rs, fr) else ({ (goM (rs ++ ys) m fr).1 with e := endE (rs ++ ys) (goM (rs ++ ys) m fr) }, (rs ++ ys).drop ((goM (rs ++ ys) m fr).2 / 8), (goM (rs ++ ys) m fr).2 % 8)
theorem runM_out {bs : List Int} {f : Nat} {m : Mo} {p : Nat} (h : m.next = 0) : runM bs (f + 1) m p = (m, p) := by rw [runM, if_pos h]
theorem runM_on {bs : List Int} {f : Nat} {m : Mo} {p : Nat} (h : m.next ≠ 0) (hs : (stepM bs m p).2 = true) : runM bs (f + 1) m p = runM bs f (stepM bs m p).1.1 (stepM bs m p).1.2 := by rw [runM, if_neg h, if_pos hs]
theorem runM_off {bs : List Int} {f : Nat} {m : Mo} {p : Nat} (h : m.next ≠ 0) (hs : (stepM bs m p).2 = false) : runM bs (f + 1) m p = (stepM bs m p).1 := by rw [runM, if_neg h, if_neg (by rw [hs]; decide)]
end Go.Proofs.Ytemnahimheffgaa
