/-
  Package deflate: stored blocks; the reference's (contracts).
-/
import Derived.Test.YthbehlohdoajbaaBitsW
import Derived.Test.YthbehlohdoajbaaDefM
set_option linter.unusedVariables false
set_option linter.unusedSimpArgs false
namespace Go.Proofs.Ythbehlohdoajbaa
open Go.RowKit
section
variable {w0 w : World} {L : List Ent}
theorem u32_nat {n : Nat} (h : n < 4294967296) : IntKind.u32.wrap (n : Int) = (n : Int) := by simp [IntKind.wrap, IntKind.bits, IntKind.signed] <;> omega
theorem u32_xor16 (n : Nat) (h : n ≤ 65535) : bits .xor .u32 (n : Int) 65535 = ((65535 - n : Nat) : Int) := by
  rw [show (65535 : Int) = ((65535 : Nat) : Int) by rfl, u32_xor_nat n 65535 (by omega) (by omega), xor_low n h]
theorem pack_ofBytes (l : List Int) (h : ∀ v ∈ l, 0 ≤ v ∧ v ≤ 255) {n : Nat} (hn : n = ((ofBytes l).length + 7) / 8) : pack n (ofBytes l) = l := by
  have h1 := pack_bytes 0 [] rfl l h
  have : n = 0 + l.length := by rw [hn, ofBytes_length]; omega
  rw [this]
  simpa [pack] using h1


end
end Go.Proofs.Ythbehlohdoajbaa
