/-
  sector: Sync, Fuse, Back as plain mathematics.
-/
import Derived.Test.YtokbloddaoakgaaSecB
set_option linter.unusedVariables false
set_option linter.unusedSimpArgs false
namespace Go.Proofs.Ytokbloddaoakgaa
open Go.RowKit
theorem rising_lt {k : Int} {f : Face} {l : AMap} (h : Rising ((k, f) :: l)) {i : Int} (hi : i ≤ k) : afind l i = none := by
  obtain ⟨h1, _⟩ := List.pairwise_cons.1 h
  cases hq : afind l i with
  | none => rfl
  | some f' =>
    have := h1 _ (afind_mem hq)
    simp only at this
    omega
theorem rising_ext : ∀ {l l' : AMap}, Rising l → Rising l' → (∀ i, afind l i = afind l' i) → l = l'
  | [], [], _, _, _ => rfl
  | [], (k, f) :: l', _, _, h => by
    have := h k
    simp [afind] at this
  | (k, f) :: l, [], _, _, h => by
    have := h k
    simp [afind] at this
  | (k, f) :: l, (k', f') :: l', h1, h2, h => by
    have e : k = k' := by
      rcases Int.lt_trichotomy k k' with hlt | he | hlt
      · have := h k
        rw [afind, if_pos rfl, afind, if_neg (by omega), rising_lt h2 (by omega)] at this
        cases this
      · exact he
      · have := h k'
        rw [afind, if_neg (by omega), afind, if_pos rfl, rising_lt h1 (by omega)] at this
        cases this
    subst e
    have ef : f = f' := by
      have := h k
      rw [afind, if_pos rfl, afind, if_pos rfl] at this
      injection this
    subst ef
    congr 1
    refine rising_ext (List.pairwise_cons.1 h1).2 (List.pairwise_cons.1 h2).2 fun i => ?_
    by_cases hi : i = k
    · rw [hi, rising_lt h1 (Int.le_refl _), rising_lt h2 (Int.le_refl _)]
    · have := h i
      rwa [afind, if_neg hi, afind, if_neg hi] at this
/-- what waits laid onto what is kept -/
def amerge (k : AMap) : AMap → AMap
  | [] => k
  | (i, f) :: l => amerge (aput k i f) l
theorem amerge_rising : ∀ {l k : AMap}, Rising k → Rising (amerge k l)
  | [], _, h => h
  | (i, f) :: l, k, h => amerge_rising (l := l) (rising_put h)
theorem amerge_find : ∀ {l : AMap} (k : AMap) (i : Int), Rising l → afind (amerge k l) i = (afind l i).or (afind k i)
  | [], k, i, _ => rfl
  | (j, f) :: l, k, i, h => by
    rw [amerge, amerge_find (aput k j f) i (List.pairwise_cons.1 h).2, afind_put, afind]
    by_cases hi : i = j
    · rw [if_pos hi, if_pos hi, hi, rising_lt h (Int.le_refl _)]; rfl
    · rw [if_neg hi, if_neg hi]
def dsync (D : Dev) : Int × Dev :=
  if D.off then (8, D) else if D.fuse = 0 then (8, dfall D) else (0, { dburn D with kept := amerge D.kept D.waits, waits := [] })
def dfuse (D : Dev) (n : Int) : Dev := { D with fuse := max n 0 }
/-- what is kept behind a fall, by the picks -/
def bkeep : AMap → List Int → AMap → AMap
  | [], _, m => m
  | (i, f) :: l, ps, m => bkeep l ps.tail (if ps.headD 0 = 1 then aput m i f else if ps.headD 0 = 2 then aput m i ⟨[], true⟩ else m)
def dback (D : Dev) (ps : List Int) : Dev := { dfall D with kept := bkeep D.waits ps D.kept, waits := [], fuse := -1, off := false }
theorem bkeep_rising : ∀ {l : AMap} (ps : List Int) {m : AMap}, Rising m → Rising (bkeep l ps m)
  | [], _, _, h => h
  | (i, f) :: l, ps, m, h => by
    rw [bkeep]
    refine bkeep_rising _ ?_
    split
    · exact rising_put h
    · split
      · exact rising_put h
      · exact h
theorem bkeep_mem : ∀ {l : AMap} (ps : List Int) {m : AMap} {p : Int × Face}, p ∈ bkeep l ps m → p ∈ m ∨ p ∈ l ∨ ∃ q ∈ l, p = (q.1, ⟨[], true⟩)
  | [], _, _, _, h => .inl h
  | (i, f) :: l, ps, m, p, h => by
    rw [bkeep] at h
    rcases bkeep_mem _ h with h | h | ⟨q, hq, e⟩
    · split at h
      · rcases mem_aput h with h | h
        · exact .inr (.inl (by rw [h]; exact List.mem_cons_self ..))
        · exact .inl h
      · split at h
        · rcases mem_aput h with h | h
          · exact .inr (.inr ⟨(i, f), List.mem_cons_self .., h⟩)
          · exact .inl h
        · exact .inl h
    · exact .inr (.inl (List.mem_cons_of_mem _ h))
    · exact .inr (.inr ⟨q, List.mem_cons_of_mem _ hq, e⟩)
theorem amerge_mem : ∀ {l k : AMap} {p : Int × Face}, p ∈ amerge k l → p ∈ k ∨ p ∈ l
  | [], _, _, h => .inl h
  | (i, f) :: l, k, p, h => by
    rcases amerge_mem (l := l) h with h | h
    · rcases mem_aput h with h | h
      · exact .inr (by rw [h]; exact List.mem_cons_self ..)
      · exact .inl h
    · exact .inr (List.mem_cons_of_mem _ h)
end Go.Proofs.Ytokbloddaoakgaa
