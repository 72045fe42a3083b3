/-
  Package bits: the writer (contracts).
-/
import Derived.Test.YthbehlohdoajbaaG
import Derived.Test.YthbehlohdoajbaaSlices
import Derived.Test.YthbehlohdoajbaaBitM
import Derived.Deep.LoopGhost
set_option linter.unusedVariables false
set_option linter.unusedSimpArgs false
namespace Go.Proofs.Ythbehlohdoajbaa
open Go.RowKit
theorem u8_of_u64 (x : Nat) : IntKind.u8.wrap (x : Int) = ((x % 256 : Nat) : Int) := by simp [IntKind.wrap, IntKind.bits, IntKind.signed]
section
variable {w0 w : World} {L X : List Ent} {g : Nat} {b : List Bool}
theorem neg_and7 (m : Nat) (h : m < 8) : bits .and .i64 (-(m : Int)) 7 = (((8 - m) % 8 : Nat) : Int) := by
  have : ∀ m : Fin 8, bits .and .i64 (-((m.val : Nat) : Int)) 7 = (((8 - m.val) % 8 : Nat) : Int) := by decide +kernel
  exact this ⟨m, h⟩
end
end Go.Proofs.Ythbehlohdoajbaa
