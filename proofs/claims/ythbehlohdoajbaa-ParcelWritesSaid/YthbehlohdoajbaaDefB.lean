/-
  Package deflate: the symbols of lengths and distances; the reference's (contracts).
-/
import Derived.Test.YthbehlohdoajbaaDefA
set_option linter.unusedVariables false
set_option linter.unusedSimpArgs false
namespace Go.Proofs.Ythbehlohdoajbaa
open Go.RowKit
def lastK (p : Nat → Int) (n : Int) : Nat → Nat
  | 0 => 0
  | k + 1 => if p k ≤ n then k else lastK p n k
theorem lastK_le (p : Nat → Int) (n : Int) (h : p 0 ≤ n) : ∀ k, 0 < k → p (lastK p n k) ≤ n ∧ lastK p n k < k
  | 0, h => absurd h (Nat.lt_irrefl _)
  | k + 1, _ => by
    simp only [lastK]
    split
    · exact ⟨‹_›, by omega⟩
    · by_cases hk : k = 0
      · subst hk; contradiction
      · have := lastK_le p n h k (by omega)
        exact ⟨this.1, by omega⟩
def tblL : List (Int × Int) := [(3, 0), (4, 0), (5, 0), (6, 0), (7, 0), (8, 0), (9, 0), (10, 0), (11, 1), (13, 1), (15, 1), (17, 1), (19, 2), (23, 2), (27, 2), (31, 2), (35, 3), (43, 3), (51, 3), (59, 3), (67, 4), (83, 4), (99, 4), (115, 4), (131, 5), (163, 5), (195, 5), (227, 5), (258, 0)]
def tblD : List (Int × Int) := [(1, 0), (2, 0), (3, 0), (4, 0), (5, 1), (7, 1), (9, 2), (13, 2), (17, 3), (25, 3), (33, 4), (49, 4), (65, 5), (97, 5), (129, 6), (193, 6), (257, 7), (385, 7), (513, 8), (769, 8), (1025, 9), (1537, 9), (2049, 10), (3073, 10), (4097, 11), (6145, 11), (8193, 12), (12289, 12), (16385, 13), (24577, 13)]
def ent (t : List (Int × Int)) (j : Nat) : Int × Int := t.getD j (0, 0)
def encP (p : Int × Int) : List Value := [.int .i64 p.1, .int .i64 p.2]

section
variable {w0 w : World} {L : List Ent}
end
/-- the symbol of a length (or -1), bits more, their number -/
def symOf (t : List (Int × Int)) (n : Int) : Int × Int × Int :=
  let i := lastK (fun j => (ent t j).1) n t.length
  (i, (ent t i).2, n - (ent t i).1)
def lenSym (n : Int) : Int × Int × Int := if n < 3 ∨ 258 < n then (-1, 0, 0) else (257 + (symOf tblL n).1, (symOf tblL n).2.1, (symOf tblL n).2.2)
def distSym (n : Int) : Int × Int × Int := if n < 1 ∨ 32768 < n then (-1, 0, 0) else symOf tblD n
theorem tblL_pos : ∀ j, 0 ≤ (ent tblL j).1 := by
  intro j
  by_cases h : j < 29
  · have : ∀ j : Fin 29, 0 ≤ (ent tblL j).1 := by decide
    exact this ⟨j, h⟩
  · simp [ent, List.getD, List.getElem?_eq_none (show tblL.length ≤ j by simp [tblL]; omega)]
theorem tblD_pos : ∀ j, 0 ≤ (ent tblD j).1 := by
  intro j
  by_cases h : j < 30
  · have : ∀ j : Fin 30, 0 ≤ (ent tblD j).1 := by decide
    exact this ⟨j, h⟩
  · simp [ent, List.getD, List.getElem?_eq_none (show tblD.length ≤ j by simp [tblD]; omega)]
section
variable {w0 w : World} {L : List Ent}
theorem rdE_tbl {g m : Nat} {t : List (Int × Int)} {T : TypeId} (h : Has (row g ((List.range m).flatMap fun j => encP (ent t j)).toArray T) L) : RdE w0 L 2 (some ⟨g, 0, none⟩) m (fun j => encP (ent t j)) :=
  RdE.ofRow h fun j hj i v hv => by
    have := flat_get (f := fun j => encP (ent t j)) (s := 2) m (fun j _ => rfl) j hj i v hv
    simpa using this
end
end Go.Proofs.Ythbehlohdoajbaa
