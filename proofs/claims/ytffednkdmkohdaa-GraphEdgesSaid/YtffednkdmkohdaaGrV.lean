/-
  slices.DeleteFunc where one number goes (contract): both ways as one.
-/
import Derived.Test.YtffednkdmkohdaaGrU
set_option linter.unusedVariables false
set_option linter.unusedSimpArgs false
namespace Go.Proofs.Ytffednkdmkohdaa
open Go.RowKit
/-- all but k -/
def but (k : Int) (xs : List Int) : List Int := xs.filter fun x => decide (x ≠ k)
theorem but_no {k : Int} {xs : List Int} (h : k ∉ xs) : but k xs = xs := by
  unfold but
  rw [List.filter_eq_self]
  intro x hx
  exact decide_eq_true fun e => h (e ▸ hx)
theorem but_yes {k : Int} {xs : List Int} : ∀ {i : Nat}, xs.Nodup → i < xs.length → xs.getD i 0 = k → xs.eraseIdx i = but k xs := by
  induction xs with
  | nil => intro i _ h; simp at h
  | cons x xs ih =>
    intro i hd hi hk
    rw [List.nodup_cons] at hd
    cases i with
    | zero =>
      obtain rfl : x = k := by simpa [List.getD] using hk
      rw [List.eraseIdx_cons_zero]
      have := but_no hd.1
      unfold but at this ⊢
      rw [List.filter_cons, if_neg (by simp), this]
    | succ i =>
      have hi' : i < xs.length := by simpa using hi
      have hk' : xs.getD i 0 = k := by simpa [List.getD] using hk
      have hm : k ∈ xs := by rw [← hk']; simp [List.getD, hi']
      have hx : x ≠ k := fun e => hd.1 (e ▸ hm)
      rw [List.eraseIdx_cons_succ, ih hd.2 hi' hk']
      unfold but
      rw [List.filter_cons, if_pos (decide_eq_true hx)]
section
variable {w0 w : World} {L X : List Ent} {A : Option Addr} {n c gp : Nat} {xs : List Int} {k : Int}
theorem delete_any (K : Known w0 w (X ++ L)) (hp : Has (row gp #[.int .i64 k] 3) L) (O : OwnL 3 1 A n c (xs.map (Value.int .i64)) X) (hn : n ≤ 1000000000) (hd : xs.Nodup) : Calls Try.prog 53 #[.slice A n c, .func (.func 54) #[] #[.pointer (some ⟨gp, 0, none⟩)]] w fun e w' => ∃ m : Nat, m ≤ n ∧ e = .returned (.slice A m c) ∧ ∃ X', OwnL 3 1 A m c ((but k xs).map (Value.int .i64)) X' ∧ Known w0 w' (X' ++ L) := by
  by_cases hk : k ∈ xs
  · refine (delete_yes K hp O hn hk hd).mono ?_
    rintro e w' ⟨m, i0, h1, rfl, h2, h3, X', O', K'⟩
    have hl := O.len
    rw [List.length_map, Nat.mul_one] at hl
    exact ⟨m, by omega, rfl, X', by rw [← but_yes hd (by omega) h3]; exact O', K'⟩
  · refine (delete_no K hp O hn hk).mono ?_
    rintro e w' ⟨rfl, K'⟩
    exact ⟨n, Nat.le_refl _, rfl, X, by rw [but_no hk]; exact O, K'⟩
end
end Go.Proofs.Ytffednkdmkohdaa
