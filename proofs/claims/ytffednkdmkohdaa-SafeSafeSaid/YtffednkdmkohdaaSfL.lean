/-
  safe: what plans make, of an old image and in place, as plain mathematics.
-/
import Derived.Test.YtffednkdmkohdaaSfH
set_option linter.unusedVariables false
set_option linter.unusedSimpArgs false
namespace Go.Proofs.Ytffednkdmkohdaa
open Go.RowKit
/-- a step's bytes, of an old image -/
def stepB (old : List Int) (s : Ast) : List Int :=
  if s.kind = 1 then s.ds else (List.range s.len.toNat).map fun k => if s.kind = 3 then IntKind.u8.wrap (old.getD (s.from_.toNat + k) 0 + s.ds.getD k 0) else old.getD (s.from_.toNat + k) 0
def makeB (l : List Ast) (old : List Int) : List Int := l.flatMap (stepB old)
def evalE (l : List Ast) (old : List Int) (want : Int) : List Int × Int :=
  if l.all rightB then (if lenSum l = want then (if l.any (overB old.length) then ([], 5) else (makeB l old, 0)) else ([], 13)) else ([], 3)
theorem evalE_cases (l : List Ast) (old : List Int) (want : Int) : ((evalE l old want).2 = 0 ∧ l.all rightB = true ∧ lenSum l = want ∧ l.any (overB old.length) = false ∧ (evalE l old want).1 = makeB l old) ∨ ((evalE l old want).2 ≠ 0 ∧ (evalE l old want).1 = [] ∧ 0 ≤ (evalE l old want).2 ∧ (evalE l old want).2 ≤ 13) := by
  unfold evalE
  split
  · next h1 =>
    split
    · next h2 =>
      split
      · exact .inr ⟨by decide, rfl, by decide, by decide⟩
      · next h3 => exact .inl ⟨rfl, h1, h2, by simpa using h3, rfl⟩
    · exact .inr ⟨by decide, rfl, by decide, by decide⟩
  · exact .inr ⟨by decide, rfl, by decide, by decide⟩
theorem stepB_len {old : List Int} {s : Ast} {w : World} (h : rightB s = true) (hok : AsOk w s) : ((stepB old s).length : Int) = s.len := by
  have hl := hok.R.len
  unfold stepB
  split
  · next hk =>
    simp only [rightB, Bool.and_eq_true, decide_eq_true_eq] at h
    rw [if_pos hk] at h
    simp only [Bool.and_eq_true, decide_eq_true_eq] at h
    omega
  · have := rightB_yes h
    simp
    omega
theorem right_n {s : Ast} (h : rightB s = true) : (s.kind = 1 ∧ (s.n : Int) = s.len) ∨ (s.kind = 2 ∧ s.n = 0) ∨ (s.kind = 3 ∧ (s.n : Int) = s.len) := by
  simp only [rightB, Bool.and_eq_true, decide_eq_true_eq] at h
  obtain ⟨_, _, _, _, h5⟩ := h
  split at h5
  · next hk => simp only [Bool.and_eq_true, decide_eq_true_eq] at h5; exact .inl ⟨hk, h5.2⟩
  · split at h5
    · next hk => exact .inr (.inl ⟨hk, by simpa using h5⟩)
    · split at h5
      · next hk => exact .inr (.inr ⟨hk, by simpa using h5⟩)
      · cases h5
theorem makeB_take {l : List Ast} {j : Nat} (h : j < l.length) (old : List Int) : makeB (l.take (j + 1)) old = makeB (l.take j) old ++ stepB old l[j] := by
  unfold makeB
  rw [List.take_succ_eq_append_getElem h, List.flatMap_append]
  simp
theorem makeB_len {old : List Int} {w : World} : ∀ {l : List Ast}, l.all rightB = true → (∀ s ∈ l, AsOk w s) → ((makeB l old).length : Int) = lenSum l
  | [], _, _ => rfl
  | s :: l, h, hok => by
    rw [List.all_cons, Bool.and_eq_true] at h
    have h1 := stepB_len (old := old) h.1 (hok s (List.mem_cons_self ..))
    have h2 := makeB_len (old := old) h.2 fun s hs => hok s (List.mem_cons_of_mem _ hs)
    unfold makeB lenSum at *
    simp only [List.flatMap_cons, List.length_append, List.map_cons, List.sum_cons]
    omega
/-- bytes into an image at a place -/
def writeAt (img : List Int) (at_ : Nat) (x : List Int) : List Int := img.take at_ ++ x ++ img.drop (at_ + x.length)
theorem writeAt_len {img : List Int} {at_ : Nat} {x : List Int} (h : at_ + x.length ≤ img.length) : (writeAt img at_ x).length = img.length := by
  simp [writeAt]
  omega
theorem writeAt_get {img : List Int} {at_ : Nat} {x : List Int} (h : at_ + x.length ≤ img.length) (p : Nat) : (writeAt img at_ x).getD p 0 = if at_ ≤ p ∧ p < at_ + x.length then x.getD (p - at_) 0 else img.getD p 0 := by
  have h0 : (img.take at_ ++ x).length = at_ + x.length := by simp; omega
  have h1 : (img.take at_).length = at_ := by simp; omega
  unfold writeAt
  simp only [List.getD]
  by_cases hp : p < at_ + x.length
  · rw [List.getElem?_append_left (by omega)]
    by_cases hq : at_ ≤ p
    · rw [if_pos ⟨hq, hp⟩, List.getElem?_append_right (by omega), h1]
    · rw [if_neg (by omega), List.getElem?_append_left (by omega), List.getElem?_take, if_pos (by omega)]
  · rw [if_neg (by omega), List.getElem?_append_right (by omega), h0, List.getElem?_drop]
    congr 2
    omega
/-- zeros up to a length -/
def padTo (m : Nat) (l : List Int) : List Int := l ++ List.replicate (m - l.length) 0
theorem padTo_len {m : Nat} {l : List Int} (h : l.length ≤ m) : (padTo m l).length = m := by simp [padTo]; omega
theorem padTo_ge {m : Nat} {l : List Int} (h : m ≤ l.length) : padTo m l = l := by simp [padTo, show m - l.length = 0 by omega]
theorem padTo_get (m : Nat) (l : List Int) (p : Nat) : (padTo m l).getD p 0 = l.getD p 0 := by
  simp only [padTo, List.getD]
  by_cases h : p < l.length
  · rw [List.getElem?_append_left h]
  · rw [List.getElem?_append_right (by omega), List.getElem?_eq_none (by omega : l.length ≤ p), List.getElem?_replicate]
    split <;> rfl
theorem list_ext_getD {a b : List Int} (hl : a.length = b.length) (h : ∀ p, p < a.length → a.getD p 0 = b.getD p 0) : a = b := by
  apply List.ext_getElem hl
  intro i h1 h2
  have := h i h1
  simpa [List.getD, h1, h2] using this
theorem take_padTo {m k : Nat} {l : List Int} (hk : k ≤ l.length) : (padTo m l).take k = l.take k := by
  unfold padTo
  rw [List.take_append_of_le_length hk]
/-- the document's write -/
def refWrite (img : List Int) (at_ : Nat) (x : List Int) : List Int := writeAt (padTo (at_ + x.length) img) at_ x
theorem refWrite_len (img : List Int) (at_ : Nat) (x : List Int) : (refWrite img at_ x).length = max img.length (at_ + x.length) := by
  have h : (padTo (at_ + x.length) img).length = max img.length (at_ + x.length) := by simp [padTo]; omega
  unfold refWrite
  rw [writeAt_len (by omega), h]
theorem pad_write {M at_ : Nat} {img x : List Int} (h1 : img.length ≤ M) (h2 : at_ + x.length ≤ M) : padTo M (refWrite img at_ x) = writeAt (padTo M img) at_ x := by
  have hp := padTo_len h1
  have hl := refWrite_len img at_ x
  have hq : (padTo (at_ + x.length) img).length = max img.length (at_ + x.length) := by simp [padTo]; omega
  apply list_ext_getD
  · rw [padTo_len (by omega), writeAt_len (by omega), hp]
  · intro p _
    rw [padTo_get, refWrite, writeAt_get (by omega), writeAt_get (by omega), padTo_get, padTo_get]
/-- the image and the error, k plans having been done in place -/
def foldSt (ps : List (List Ast)) (os : List Int) (block new : Int) (no : Nat) (img : List Int) : Nat → List Int × Int
  | 0 => (img, 0)
  | k + 1 =>
    let st := foldSt ps os block new no img k
    if st.2 = 0 then
      let i := os.getD k 0
      let x := evalE (ps.getD i.toNat []) (st.1.take no) (sizeS i block new)
      if x.2 = 0 then (writeAt st.1 (i * block).toNat x.1, 0) else ([], x.2)
    else ([], st.2)
def foldE (b : List Int) (ps : List (List Ast)) (os : List Int) (block new : Int) : List Int × Int :=
  if aheadE ps.length os block b.length new = 0 then
    let st := foldSt ps os block new b.length (padTo (max b.length new.toNat) b) os.length
    if st.2 = 0 then (st.1.take new.toNat, 0) else ([], st.2)
  else ([], aheadE ps.length os block b.length new)
theorem foldSt_stop {ps : List (List Ast)} {os : List Int} {block new : Int} {no : Nat} {img : List Int} {k n : Nat} (h : k ≤ n) (he : (foldSt ps os block new no img k).2 ≠ 0) : (foldSt ps os block new no img n).2 = (foldSt ps os block new no img k).2 := by
  induction n with
  | zero => rw [show k = 0 by omega]
  | succ n ih =>
    by_cases hk : k = n + 1
    · rw [hk]
    · have := ih (by omega)
      rw [foldSt]
      simp only
      rw [if_neg (by rw [this]; exact he)]
      exact this
end Go.Proofs.Ytffednkdmkohdaa
