/-
  Package inflate: what it computes, as plain functions of bits.
-/
import Derived.Test.YtemnahimheffgaaInfB
set_option linter.unusedVariables false
set_option linter.unusedSimpArgs false
namespace Go.Proofs.Ytemnahimheffgaa
inductive Rs (α : Type) where
  | ok (a : α) (p : Nat)
  | th (c : Int)
def Rs.andThen {α β : Type} (r : Rs α) (f : α → Nat → Rs β) : Rs β := match r with | .ok a p => f a p | .th c => .th c
@[simp] theorem Rs.andThen_ok {α β : Type} (a : α) (p : Nat) (f : α → Nat → Rs β) : (Rs.ok a p).andThen f = f a p := rfl
@[simp] theorem Rs.andThen_th {α β : Type} (c : Int) (f : α → Nat → Rs β) : (Rs.th c).andThen f = .th c := rfl
def numM (b : List Bool) (p n : Nat) : Rs Nat := if p + n ≤ b.length then .ok (bitsAt b p n) (p + n) else .th 2
def symM (l : List Int) (b : List Bool) (p : Nat) : Rs Nat := if (nextT l b p).2.2 = 0 then .ok (nextT l b p).1.toNat (nextT l b p).2.1 else if (nextT l b p).2.2 = 2 then .th 2 else .th 11
/-- one entry of the lengths: how many, which -/
def lenE (l : List Int) (b : List Bool) (out : List Int) (p : Nat) : Rs (Nat × Int) :=
  (symM l b p).andThen fun s p =>
    if s = 16 then (if out.length = 0 then .th 11 else (numM b p 2).andThen fun k p => .ok (3 + k, out.getLastD 0) p)
    else if s = 17 then (numM b p 3).andThen fun k p => .ok (3 + k, 0) p
    else if s = 18 then (numM b p 7).andThen fun k p => .ok (11 + k, 0) p
    else .ok (1, (s : Int) % 256) p
def lensM (l : List Int) (b : List Bool) (many : Nat) : Nat → List Int → Nat → Rs (List Int)
  | 0, _, _ => .th 11
  | f + 1, out, p => if many ≤ out.length then .ok out p else
      (lenE l b out p).andThen fun na p => if many < na.1 + out.length then .th 11 else lensM l b many f (out ++ List.replicate na.1 na.2) p
def ordL : List Nat := [16, 17, 18, 0, 8, 7, 9, 6, 10, 5, 11, 4, 12, 3, 13, 2, 14, 1, 15]
def ofM (b : List Bool) : List Nat → List Int → Nat → Rs (List Int)
  | [], l, p => .ok l p
  | s :: r, l, p => (numM b p 3).andThen fun k p => ofM b r (l.set s (k : Int)) p
/-- behind the lengths' codes: two tables -/
def dynZ (b : List Bool) (LT DT : Nat) (l0 : List Int) (p : Nat) : Rs (List Int × List Int) :=
  if mayH l0 = false then .th 11 else
  (lensM l0 b (LT + DT) (LT + DT + 1) [] p).andThen fun l p =>
  if mayH (l.take LT) = false then .th 11 else if mayH (l.drop LT) = false then .th 11 else .ok (l.take LT, l.drop LT) p
def dynT (b : List Bool) (LT DT M p : Nat) : Rs (List Int × List Int) :=
  if 286 < LT ∨ 30 < DT then .th 11 else (ofM b (ordL.take M) (List.replicate 19 0) p).andThen (dynZ b LT DT)
def dynM (b : List Bool) (p : Nat) : Rs (List Int × List Int) :=
  (numM b p 5).andThen fun a p => (numM b p 5).andThen fun d p => (numM b p 4).andThen fun m p => dynT b (257 + a) (1 + d) (4 + m) p
/-- an inflater: next: 0: none, 1: begins, 2: raw, 3: symbols -/
structure Mo where
  (most : Int) (out : List Int) (last : Bool) (left : Nat) (lit dist : List Int) (next : Nat) (e : Int)
def endsM (m : Mo) (p : Nat) : Rs Mo := if m.last = true then .ok { m with next := 0 } ((p + 7) / 8 * 8) else .ok { m with next := 1 } p
def beginsM (b : List Bool) (m : Mo) (p : Nat) : Rs Mo :=
  (numM b p 1).andThen fun la p => (numM b p 2).andThen fun k p =>
    if k = 3 then .th 11
    else if k = 0 then
      (numM b ((p + 7) / 8 * 8) 16).andThen fun n p => (numM b p 16).andThen fun t p =>
        if n + t ≠ 65535 then .th 11 else if m.most - m.out.length < n then .th 12 else .ok { m with last := decide (la = 1), left := n, next := 2 } p
    else if k = 1 then .ok { m with lit := fixL, dist := fixD, last := decide (la = 1), next := 3 } p
    else (dynM b p).andThen fun ld p => .ok { m with lit := ld.1, dist := ld.2, last := decide (la = 1), next := 3 } p
def rawM (bs : List Int) (m : Mo) (p : Nat) : Rs Mo :=
  if m.left = 0 then endsM m p
  else if min m.left ((8 * bs.length - p) / 8) = 0 then .th 2
  else .ok { m with out := m.out ++ (bs.drop ((p + 7) / 8)).take (min m.left ((8 * bs.length - p) / 8)), left := m.left - min m.left ((8 * bs.length - p) / 8), next := 2 } (((p + 7) / 8 + min m.left ((8 * bs.length - p) / 8)) * 8)
def lenM (s : Nat) : Nat × Nat := if s < 265 then (s - 254, 0) else if s = 285 then (258, 0) else (3 + (4 + (s - 261) % 4) * 2 ^ ((s - 261) / 4), (s - 261) / 4)
def disM (s : Nat) : Nat × Nat := if s < 4 then (s + 1, 0) else (1 + (2 + s % 2) * 2 ^ (s / 2 - 1), s / 2 - 1)
def copyM (far : Nat) : Nat → List Int → List Int
  | 0, out => out
  | n + 1, out => copyM far n (out ++ [out.getD (out.length - far) 0])
def symbolsM (b : List Bool) (m : Mo) (p : Nat) : Rs Mo :=
  (symM m.lit b p).andThen fun s p =>
    if s < 256 then (if m.most - m.out.length < 1 then .th 12 else .ok { m with out := m.out ++ [(s : Int)], next := 3 } p)
    else if s = 256 then endsM m p
    else if 285 < s then .th 11
    else (numM b p (lenM s).2).andThen fun k p => (symM m.dist b p).andThen fun d p =>
      if 29 < d then .th 11
      else (numM b p (disM d).2).andThen fun j p =>
        if m.out.length < (disM d).1 + j then .th 11
        else if m.most - m.out.length < ((lenM s).1 + k : Nat) then .th 12
        else .ok { m with out := copyM ((disM d).1 + j) ((lenM s).1 + k) m.out, next := 3 } p
def stateM (bs : List Int) (m : Mo) (p : Nat) : Rs Mo := if m.next = 1 then beginsM (ofBytes bs) m p else if m.next = 2 then rawM bs m p else symbolsM (ofBytes bs) m p
def stepM (bs : List Int) (m : Mo) (p : Nat) : (Mo × Nat) × Bool :=
  match stateM bs m p with
  | .ok m' q => ((m', q), decide (m'.next ≠ 0))
  | .th c => (({ m with e := if c = 2 then m.e else c }, p), false)
def runM (bs : List Int) : Nat → Mo → Nat → Mo × Nat
  | 0, m, p => (m, p)
  | f + 1, m, p => if m.next = 0 then (m, p) else if (stepM bs m p).2 = true then runM bs f (stepM bs m p).1.1 (stepM bs m p).1.2 else (stepM bs m p).1
/-- where there is nothing behind it to be read -/
def endE (bs : List Int) (r : Mo × Nat) : Int := if r.1.next = 0 ∧ r.1.e = 0 ∧ r.2 < 8 * bs.length then 3 else r.1.e
def mo0 (most : Int) : Mo := ⟨max most 0, [], false, 0, [], [], 1, 0⟩
theorem idxT_mem (l : List Int) (k : Nat) : ∀ i, ∀ v ∈ idxT l k i, 0 ≤ v ∧ v < (i : Int)
  | 0, v, h => by simp [idxT] at h
  | i + 1, v, h => by
    have ih := idxT_mem l k i v
    rw [idxT] at h
    split at h
    · rcases List.mem_append.1 h with h | h
      · have := ih h
        omega
      · simp at h
        omega
    · have := ih h
      omega
theorem symT_mem (l : List Int) : ∀ k, ∀ v ∈ symT l k, 0 ≤ v ∧ v < (l.length : Int)
  | 0, v, h => by simp [symT] at h
  | k + 1, v, h => by
    rw [symT] at h
    rcases List.mem_append.1 h with h | h
    · exact symT_mem l k v h
    · exact idxT_mem l _ _ v h
theorem sym_getD (l : List Int) (i : Nat) : 0 ≤ (symT l 15).getD i 0 ∧ (symT l 15).getD i 0 < (max l.length 1 : Nat) := by
  rw [List.getD_eq_getElem?_getD]
  cases hg : (symT l 15)[i]? with
  | none =>
    simp
    omega
  | some v =>
    have := symT_mem l 15 v (List.mem_of_getElem? hg)
    simp
    omega
theorem nxt_some (l : List Int) (b : List Bool) (p : Nat) : ∀ f n code, (nxt l b p f n code).2.2 = 0 → 0 ≤ (nxt l b p f n code).1 ∧ (nxt l b p f n code).1 < (max l.length 1 : Nat) ∧ p < (nxt l b p f n code).2.1 ∧ (nxt l b p f n code).2.1 ≤ b.length
  | 0, n, code, h => by simp [nxt] at h
  | f + 1, n, code, h => by
    have ih := nxt_some l b p f (n + 1)
    rw [nxt] at h ⊢
    split
    · rename_i h1
      rw [if_pos h1] at h
      simp at h
    · rename_i h1
      rw [if_neg h1] at h
      split
      · simp only
        exact ⟨(sym_getD l _).1, (sym_getD l _).2, by omega, by omega⟩
      · rename_i h2
        rw [if_neg h2] at h
        exact ih _ h
theorem nxt_err (l : List Int) (b : List Bool) (p : Nat) : ∀ f n code, (nxt l b p f n code).2.2 = 0 ∨ ((nxt l b p f n code).2.2 = 2 ∨ (nxt l b p f n code).2.2 = 3) ∧ (nxt l b p f n code).2.1 = p
  | 0, n, code => by simp [nxt]
  | f + 1, n, code => by
    rw [nxt]
    split
    · simp
    · split
      · simp
      · exact nxt_err l b p f _ _
theorem symM_ok {l : List Int} {b : List Bool} {p s q : Nat} (h : symM l b p = .ok s q) : nextT l b p = ((s : Int), q, 0) ∧ s < max l.length 1 ∧ p < q ∧ q ≤ b.length := by
  unfold symM at h
  split at h
  · rename_i h0
    have h1 := nxt_some l b p _ _ _ h0
    injection h with h2 h3
    change 0 ≤ (nextT l b p).1 ∧ (nextT l b p).1 < _ ∧ p < (nextT l b p).2.1 ∧ (nextT l b p).2.1 ≤ _ at h1
    refine ⟨?_, by omega, by omega, by omega⟩
    rcases hn : nextT l b p with ⟨x, y, z⟩
    rw [hn] at h0 h1 h2 h3
    simp only at h0 h1 h2 h3
    rw [h0, ← h3, ← h2]
    congr
    omega
  · split at h <;> cases h
theorem symM_th {l : List Int} {b : List Bool} {p : Nat} {c : Int} (h : symM l b p = .th c) : ((nextT l b p).2.2 = 2 ∧ c = 2 ∨ (nextT l b p).2.2 = 3 ∧ c = 11) ∧ (nextT l b p).2.1 = p := by
  have h1 : (nextT l b p).2.2 = 0 ∨ ((nextT l b p).2.2 = 2 ∨ (nextT l b p).2.2 = 3) ∧ (nextT l b p).2.1 = p := nxt_err l b p _ _ _
  unfold symM at h
  split at h
  · cases h
  · rename_i h0
    rcases h1 with h1 | ⟨h1, h2⟩
    · exact absurd h1 h0
    · refine ⟨?_, h2⟩
      split at h <;> cases h
      · exact .inl ⟨by assumption, rfl⟩
      · rcases h1 with h1 | h1
        · contradiction
        · exact .inr ⟨h1, rfl⟩
theorem numM_ok {b : List Bool} {p n v q : Nat} (h : numM b p n = .ok v q) : p + n ≤ b.length ∧ bitsAt b p n = v ∧ q = p + n := by
  unfold numM at h
  split at h <;> cases h
  exact ⟨by assumption, rfl, rfl⟩
theorem numM_th {b : List Bool} {p n : Nat} {c : Int} (h : numM b p n = .th c) : ¬ p + n ≤ b.length ∧ c = 2 := by
  unfold numM at h
  split at h <;> cases h
  exact ⟨by assumption, rfl⟩
end Go.Proofs.Ytemnahimheffgaa
