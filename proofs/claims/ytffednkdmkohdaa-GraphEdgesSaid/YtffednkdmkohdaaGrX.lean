/-
  graph: Edges (contract): all plans right.
-/
import Derived.Test.YtffednkdmkohdaaGrW
set_option linter.unusedVariables false
set_option linter.unusedSimpArgs false
namespace Go.Proofs.Ytffednkdmkohdaa
open Go.RowKit

section
variable {w0 w : World} {L : List Ent} {A : Option Addr} {n c : Nat} {rows : List (Arow Ast)} {block : Int}
set_option maxHeartbeats 1600000 in
set_option maxRecDepth 100000 in
theorem gedges_no (K : Known w0 w L) (G : Plans w0 [] A n rows) (hc : n ≤ c) (hm : gmayB block n = false) : Calls Try.prog 25 #[.slice A n c, .int .i64 block] w fun e w' => e = .returned (.tuple #[.slice none 0 0, .int .i64 1]) ∧ Known w0 w' L := by
  have HM := Lib.hid hm
  clear hm
  go_enter Try.func25, Try.ntmps25
  go_wp2_with (first | (go_at_call 45; (with_reducible refine (gmay_any _ _ _).mono ?_); rintro e w' ⟨rfl, rfl⟩; rw [HM.out]))
  go_ret2
  exact ⟨rfl, K⟩
end
end Go.Proofs.Ytffednkdmkohdaa
