/-
  sector: a device as plain mathematics.
-/
import Derived.Test.YtokbloddaoakgaaMap
set_option linter.unusedVariables false
set_option linter.unusedSimpArgs false
namespace Go.Proofs.Ytokbloddaoakgaa
open Go.RowKit

structure Face where
  (b : List Int) (torn : Bool)
abbrev AMap := List (Int × Face)
def afind : AMap → Int → Option Face
  | [], _ => none
  | (k, f) :: l, i => if i = k then some f else afind l i
/-- a sector into a row, in its place -/
def aput : AMap → Int → Face → AMap
  | [], i, f => [(i, f)]
  | (k, g) :: l, i, f => if i < k then (i, f) :: (k, g) :: l else if i = k then (i, f) :: l else (k, g) :: aput l i f
def Rising (l : AMap) : Prop := l.Pairwise (fun p q => p.1 < q.1)
theorem afind_put (i : Int) (f : Face) (j : Int) : ∀ l : AMap, afind (aput l i f) j = if j = i then some f else afind l j
  | [] => rfl
  | (k, g) :: l => by
    unfold aput
    by_cases h1 : i < k
    · rw [if_pos h1]; rfl
    · rw [if_neg h1]
      by_cases h2 : i = k
      · rw [if_pos h2]
        subst h2
        unfold afind
        by_cases h3 : j = i
        · simp [h3]
        · simp [h3]
      · rw [if_neg h2]
        unfold afind
        rw [afind_put i f j l]
        by_cases h3 : j = k
        · rw [if_pos h3, if_pos h3, if_neg (by omega)]
        · rw [if_neg h3, if_neg h3]
theorem mem_aput {i : Int} {f : Face} {p : Int × Face} : ∀ {l : AMap}, p ∈ aput l i f → p = (i, f) ∨ p ∈ l
  | [], h => by simpa [aput] using h
  | (k, g) :: l, h => by
    unfold aput at h
    split at h
    · rcases List.mem_cons.1 h with h | h
      · exact .inl h
      · exact .inr h
    · split at h
      · rcases List.mem_cons.1 h with h | h
        · exact .inl h
        · exact .inr (List.mem_cons_of_mem _ h)
      · rcases List.mem_cons.1 h with h | h
        · exact .inr (by rw [h]; exact List.mem_cons_self ..)
        · rcases mem_aput h with h | h
          · exact .inl h
          · exact .inr (List.mem_cons_of_mem _ h)
theorem rising_put {i : Int} {f : Face} : ∀ {l : AMap}, Rising l → Rising (aput l i f)
  | [], _ => by simp [aput, Rising]
  | (k, g) :: l, h => by
    obtain ⟨h1, h2⟩ := List.pairwise_cons.1 h
    unfold aput
    split
    · next hc =>
      refine List.pairwise_cons.2 ⟨fun q hq => ?_, h⟩
      rcases List.mem_cons.1 hq with rfl | hq
      · exact hc
      · have := h1 q hq
        show i < q.1
        exact Int.lt_trans hc this
    · split
      · next hc => subst hc; exact List.pairwise_cons.2 ⟨h1, h2⟩
      · next hc hd =>
        refine List.pairwise_cons.2 ⟨fun q hq => ?_, rising_put h2⟩
        rcases mem_aput hq with rfl | hq
        · show k < i
          omega
        · exact h1 q hq
theorem afind_mem {i : Int} {f : Face} : ∀ {l : AMap}, afind l i = some f → (i, f) ∈ l
  | [], h => by cases h
  | (k, g) :: l, h => by
    unfold afind at h
    split at h
    · next hc => injection h with h; subst hc; subst h; exact List.mem_cons_self ..
    · exact List.mem_cons_of_mem _ (afind_mem h)
theorem afind_none {i : Int} : ∀ {l : AMap}, afind l i = none → ∀ p ∈ l, p.1 ≠ i
  | [], _, p, hp => by cases hp
  | (k, g) :: l, h, p, hp => by
    unfold afind at h
    split at h
    · cases h
    · next hc =>
      rcases List.mem_cons.1 hp with rfl | hp
      · exact fun e => hc e.symm
      · exact afind_none h p hp
theorem aput_len {i : Int} {f : Face} : ∀ {l : AMap}, Rising l → (aput l i f).length = if (afind l i).isSome then l.length else l.length + 1
  | [], _ => rfl
  | (k, g) :: l, h => by
    obtain ⟨h1, h2⟩ := List.pairwise_cons.1 h
    unfold aput afind
    by_cases hlt : i < k
    · simp only [hlt, if_true, show ¬ i = k by omega, if_false]
      have hn : afind l i = none := by
        cases hq : afind l i with
        | none => rfl
        | some f' =>
          have := h1 _ (afind_mem hq)
          simp only at this
          omega
      simp [hn]
    · simp only [hlt, if_false]
      by_cases he : i = k
      · simp [he]
      · simp only [he, if_false, List.length_cons, aput_len h2]
        split <;> simp

structure Dev where
  (size count : Nat) (kept waits : AMap) (off : Bool) (offs fuse writes : Int)
def FaceOk (size : Nat) (f : Face) : Prop := (f.torn = false → f.b.length = size) ∧ (f.torn = true → f.b = []) ∧ ∀ v ∈ f.b, 0 ≤ v ∧ v ≤ 255
structure DevOk (D : Dev) : Prop where mk ::
  (size : 128 ≤ D.size ∧ D.size ≤ 4096) (count : 1 ≤ D.count ∧ D.count ≤ 1048576) (rk : Rising D.kept) (rw_ : Rising D.waits)
  (fk : ∀ p ∈ D.kept, FaceOk D.size p.2 ∧ 0 ≤ p.1 ∧ p.1 < D.count) (fw : ∀ p ∈ D.waits, FaceOk D.size p.2 ∧ 0 ≤ p.1 ∧ p.1 < D.count)
  (offs : 0 ≤ D.offs ∧ D.offs ≤ 1000000000000) (fuse : -1 ≤ D.fuse ∧ D.fuse ≤ 9223372036854775807) (writes : 0 ≤ D.writes ∧ D.writes ≤ 1000000000000)
def Dev.new (size count : Nat) : Dev := ⟨size, count, [], [], false, 0, -1, 0⟩
def dmay (D : Dev) (i : Int) : Int := if D.off then 8 else if i < 0 ∨ (D.count : Int) ≤ i then 5 else 0
def dface (D : Dev) (i : Int) : Option Face := match afind D.waits i with
  | some f => some f
  | none => afind D.kept i
def dread (D : Dev) (i : Int) : List Int × Int :=
  if dmay D i ≠ 0 then ([], dmay D i) else match dface D i with
    | none => (List.replicate D.size 0, 0)
    | some f => if f.torn then ([], 7) else (f.b, 0)
def dfall (D : Dev) : Dev := if D.off then D else { D with off := true, offs := D.offs + 1 }
def dput (D : Dev) (i : Int) (b : List Int) : Dev := { D with waits := aput D.waits i ⟨b, false⟩ }
def dwrite (D : Dev) (i : Int) (b : List Int) : Int × Dev :=
  if dmay D i ≠ 0 then (dmay D i, D) else if b.length ≠ D.size then (3, D) else if D.fuse = 0 then (8, dfall (dput D i b)) else (0, { dput D i b with fuse := if 0 < D.fuse then D.fuse - 1 else D.fuse, writes := D.writes + 1 })
theorem dput_ok {D : Dev} (h : DevOk D) {i : Int} {b : List Int} (hi : 0 ≤ i ∧ i < D.count) (hl : b.length = D.size) (hb : ∀ v ∈ b, 0 ≤ v ∧ v ≤ 255) : DevOk (dput D i b) :=
  ⟨h.size, h.count, h.rk, rising_put h.rw_, h.fk, fun p hp => by
    rcases mem_aput hp with rfl | hp
    · exact ⟨⟨fun _ => hl, (fun h => absurd h (by simp)), hb⟩, hi⟩
    · exact h.fw p hp, h.offs, h.fuse, h.writes⟩
theorem dmay_zero {D : Dev} {i : Int} (h : dmay D i = 0) : D.off = false ∧ 0 ≤ i ∧ i < D.count := by
  unfold dmay at h
  split at h
  · cases h
  · next h1 =>
    split at h
    · cases h
    · next h2 => exact ⟨by simpa using h1, by omega, by omega⟩
theorem dread_len {D : Dev} (h : DevOk D) (i : Int) : (dread D i).1.length ≤ D.size := by
  unfold dread
  split
  · simp
  · unfold dface
    cases hw : afind D.waits i with
    | some f =>
      simp only
      have := (h.fw _ (afind_mem hw)).1
      cases ht : f.torn
      · simp [this.1 ht]
      · simp
    | none =>
      cases hk : afind D.kept i with
      | none => simp
      | some f =>
        simp only
        have := (h.fk _ (afind_mem hk)).1
        cases ht : f.torn
        · simp [this.1 ht]
        · simp
end Go.Proofs.Ytokbloddaoakgaa
