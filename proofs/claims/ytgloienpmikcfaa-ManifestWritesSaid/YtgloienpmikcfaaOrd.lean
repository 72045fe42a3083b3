/-
  The order that bytes tell (plain); a byte laid behind a byte.
-/
import Derived.Test.YtgloienpmikcfaaGetA
set_option linter.unusedVariables false
set_option linter.unusedSimpArgs false
namespace Go.Proofs.Ytgloienpmikcfaa
open Go.RowKit
/-- the order that bytes tell -/
def ordL : List Int → List Int
  | a :: b :: l => (a * 256 + b) :: ordL l
  | _ => []
theorem ordL_step : ∀ (j : Nat) (l : List Int), 2 * j + 1 < l.length → ordL (l.take (2 * (j + 1))) = ordL (l.take (2 * j)) ++ [l.getD (2 * j) 0 * 256 + l.getD (2 * j + 1) 0]
  | 0, a :: b :: l, _ => rfl
  | 0, [], h => by simp at h
  | 0, [a], h => by simp at h
  | j + 1, a :: b :: l, h => by
    have ih := ordL_step j l (by simp at h; omega)
    rw [show 2 * (j + 1 + 1) = 2 * (j + 1) + 1 + 1 by omega, show 2 * (j + 1) = 2 * j + 1 + 1 by omega]
    rw [show 2 * (j + 1) = 2 * j + 1 + 1 by omega] at ih
    simp only [List.take_succ_cons, ordL, ih, List.getD_cons_succ, List.cons_append]
  | j + 1, [], h => by simp at h
  | j + 1, [a], h => by simp at h
theorem ordL_full : ∀ (j : Nat) (l : List Int), l.length ≤ 2 * j + 1 → ordL (l.take (2 * j)) = ordL l
  | 0, [], _ => rfl
  | 0, [a], _ => rfl
  | 0, a :: b :: l, h => by simp at h
  | j + 1, a :: b :: l, h => by
    have ih := ordL_full j l (by simp at h; omega)
    rw [show 2 * (j + 1) = 2 * j + 1 + 1 by omega]
    simp only [List.take_succ_cons, ordL, ih]
  | j + 1, [], _ => by simp
  | j + 1, [a], _ => by
    rw [show 2 * (j + 1) = 2 * j + 1 + 1 by omega]
    simp [List.take_succ_cons]
theorem or_i64 (u v : Int) (u0 : 0 ≤ u) (u1 : u ≤ 255) (v0 : 0 ≤ v) (v1 : v ≤ 255) : bits .or .i64 (u * 256) v = u * 256 + v := by
  obtain ⟨x, rfl⟩ : ∃ x : Nat, u = x := ⟨u.toNat, by omega⟩
  obtain ⟨y, rfl⟩ : ∃ y : Nat, v = y := ⟨v.toNat, by omega⟩
  show IntKind.i64.wrap ((BitVec.ofInt 64 ((x : Int) * 256) ||| BitVec.ofInt 64 (y : Int)).toNat : Int) = _
  rw [show (x : Int) * 256 = ((x * 256 : Nat) : Int) by omega, BitVec.toNat_or, ofInt_u64 (x * 256) (by omega), ofInt_u64 y (by omega), nat_or256 _ _ (by omega)]
  rw [IntKind.wrap_i64]
  omega
end Go.Proofs.Ytgloienpmikcfaa
