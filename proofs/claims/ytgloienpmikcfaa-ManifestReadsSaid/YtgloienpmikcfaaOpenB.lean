/-
  An argument that is a slice of bytes.
-/
import Derived.Test.YtgloienpmikcfaaOpen
set_option linter.unusedVariables false
set_option linter.unusedSimpArgs false
namespace Go.Proofs.Ytgloienpmikcfaa
open Go.RowKit Go.ChangeShapes Go.WideShapes Go.ChangeAt
set_option maxRecDepth 100000 in
theorem open_bytes {H : Type} {enc : TypeId × Value → H} {W : World} {base b0 : Nat} {v : Value} {d : DataW H} {p : List MemPlace} (hv : Value.okWide Try.prog W .any b0 44 v)
    (h : DataW.Trod enc Try.prog W base (fun _ => true) true 44 v d p) :
    ∃ (A : Option Addr) (n c : Nat) (xs : List Int), v = .slice A n c ∧ Rd W .u8 A n xs ∧ n ≤ c ∧ c ≤ maxLen ∧ ∀ b ∈ xs, 0 ≤ b ∧ b ≤ 255 := by
  obtain ⟨a, l, c, rfl⟩ := okWide_slice Try.underlying44 hv
  obtain ⟨fuel, hf⟩ := h
  have c5 : Try.prog.cellsOf 5 = 1 := by kernel_rfl
  obtain ⟨A, n, c', xs, e, R, hc, hm, hw⟩ := open_nums Try.underlying44 Try.underlying5 c5 hf
  have e' : Value.slice a l c = .slice A n c' := by simpa [Value.cells] using e
  refine ⟨A, n, c', xs, e', R, hc, hm, fun b hb => ?_⟩
  exact bounds_u8 (hw b hb)
end Go.Proofs.Ytgloienpmikcfaa
