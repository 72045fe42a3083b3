/-
  Package drogherlaw07: the document's example.
-/
import Derived.Test.YtokbloddaoakgaaPartB
import Derived.Test.YtokbloddaoakgaaG
set_option linter.unusedVariables false
set_option linter.unusedSimpArgs false
namespace Go.Proofs.Ytokbloddaoakgaa
open Go.RowKit

set_option maxHeartbeats 400000 in
set_option maxRecDepth 100000 in
theorem awake07_any (w : World) : Calls Try.prog 15 #[] w fun e w' => e = .returned (.bool true) ∧ Below w.heap.size w w' := by
  go_enter Try.func15, Try.ntmps15
  go_wp2_with (go_at_call 57; refine (layout_yes 128 256 3 (by decide) _).mono ?_; rintro e w1 ⟨rfl, hb⟩; simp only [mapCells])
  go_ret
  exact ⟨rfl, hb.alloc hb.size _⟩

theorem awake07K {w0 w : World} {L : List Ent} (K : Known w0 w L) : Calls Try.prog 15 #[] w fun e w' => e = .returned (.bool true) ∧ Known w0 w' L :=
  (awake07_any w).mono fun _ _ ⟨h, b⟩ => ⟨h, K.below b⟩
end Go.Proofs.Ytokbloddaoakgaa
