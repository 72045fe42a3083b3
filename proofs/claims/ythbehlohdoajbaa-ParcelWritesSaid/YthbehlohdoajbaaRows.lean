/-
  No cell of these rows narrows 'for every input' (looked for: loops, veiled, ifaces, maps, wideKeys, modest, calm, conditions, laid).
  DERIVED. THE GIVEN ROWS OF THIS SEAT. 3 by the template 'for every input the law returns true; each argument reads behind the call as it read before'; 0 by the template 'total and deterministic' (their statements: YthbehlohdoajbaaTotals.lean).
  GIVEN WITH THE SEED: the statements are not yours to turn. If you find one false, say at which input.
  Laid BY PROGRAM, IN A SANDBOX (cutbox-rows.mjs): the forced cells as the released guide's own fill.sh prints them over the translation 54ac57ad896d3ad6… (all of the seat's roots in one cut). By AI agents, Wed Nov 11 2026. No macro, syntax, notation, axiom, sorry.
-/
import Derived.Test.YthbehlohdoajbaaChecked
import GoSem.Claim
import GoSem.ClaimJoined
import GoSem.ClaimMapViews
import Derived.JoinedTies
import Derived.KernelRfl
namespace Go.Proofs.Ythbehlohdoajbaa
/- THE CELL 'sum', in the pinned program and in every row, IS THE sha256 OF THE DUMP (.gsa) THAT YthbehlohdoajbaaProg.lean LOADS. Nothing in Lean hashes anything: it is a label: what it is worth is what the hold of that sum in a sandbox is worth. -/
noncomputable def Try.pinned : Pinned := { name := "ythbehlohdoajbaa", sum := "54ac57ad896d3ad6fd40e8a6f7289076c571393478f42a8333c985bc9f8120b3", checked := Try.checked }
namespace Rows
def none {H : Type} : Left H := { results := [], args := [] }

/-- 'drogherlaw23.ParcelNil': WHATEVER THE INPUT: true; the input reads as it did. -/
def parcelNilSpec : ChangeSpec := { name := "parcelNil", fn := fun _ => fun
  | [d1, d2] => { results := [.lit (.bool true)], args := [d1, d2] }
  | _ => none }
def parcelNilRow : OpenClaim := { program := "ythbehlohdoajbaa", sum := "54ac57ad896d3ad6fd40e8a6f7289076c571393478f42a8333c985bc9f8120b3", func := "drogher/drogherlaw23.ParcelNil", spec := "parcelNil", unfollowed := true, recurses := true, apart := false }
def ParcelNilSaid : Prop := parcelNilRow.holds Try.pinned (OpenSpec.ofChange parcelNilSpec)

/-- ITS FALSE NEIGHBOUR: 'it returns false'. Refute it at one input. -/
def parcelNilWrong : ChangeSpec := { name := "parcelNil", fn := fun _ => fun
  | [d1, d2] => { results := [.lit (.bool false)], args := [d1, d2] }
  | _ => none }
def ParcelNilWrongFalsely : Prop := parcelNilRow.holds Try.pinned (OpenSpec.ofChange parcelNilWrong)

/-- 'drogherlaw23.ParcelWrites': WHATEVER THE INPUT: true; the input reads as it did. -/
def parcelWritesSpec : ChangeSpec := { name := "parcelWrites", fn := fun _ => fun
  | [d1, d2, d3] => { results := [.lit (.bool true)], args := [d1, d2, d3] }
  | _ => none }
def parcelWritesRow : OpenClaim := { program := "ythbehlohdoajbaa", sum := "54ac57ad896d3ad6fd40e8a6f7289076c571393478f42a8333c985bc9f8120b3", func := "drogher/drogherlaw23.ParcelWrites", spec := "parcelWrites", unfollowed := true, recurses := true, apart := false }
def ParcelWritesSaid : Prop := parcelWritesRow.holds Try.pinned (OpenSpec.ofChange parcelWritesSpec)

/-- ITS FALSE NEIGHBOUR: 'it returns false'. Refute it at one input. -/
def parcelWritesWrong : ChangeSpec := { name := "parcelWrites", fn := fun _ => fun
  | [d1, d2, d3] => { results := [.lit (.bool false)], args := [d1, d2, d3] }
  | _ => none }
def ParcelWritesWrongFalsely : Prop := parcelWritesRow.holds Try.pinned (OpenSpec.ofChange parcelWritesWrong)

/-- 'drogherlaw23.ParcelSkips': WHATEVER THE INPUT: true; the input reads as it did. -/
def parcelSkipsSpec : ChangeSpec := { name := "parcelSkips", fn := fun _ => fun
  | [d1, d2] => { results := [.lit (.bool true)], args := [d1, d2] }
  | _ => none }
def parcelSkipsRow : OpenClaim := { program := "ythbehlohdoajbaa", sum := "54ac57ad896d3ad6fd40e8a6f7289076c571393478f42a8333c985bc9f8120b3", func := "drogher/drogherlaw23.ParcelSkips", spec := "parcelSkips", unfollowed := true, recurses := true, apart := false }
def ParcelSkipsSaid : Prop := parcelSkipsRow.holds Try.pinned (OpenSpec.ofChange parcelSkipsSpec)

/-- ITS FALSE NEIGHBOUR: 'it returns false'. Refute it at one input. -/
def parcelSkipsWrong : ChangeSpec := { name := "parcelSkips", fn := fun _ => fun
  | [d1, d2] => { results := [.lit (.bool false)], args := [d1, d2] }
  | _ => none }
def ParcelSkipsWrongFalsely : Prop := parcelSkipsRow.holds Try.pinned (OpenSpec.ofChange parcelSkipsWrong)

/- THE SECOND FORM. 'bulk': how many values and letters a reading holds, each counted each time it is reached (what is shared counts as often as it is met; a slice's spare places count too). A statement '..UptoSaid' is the law's where the arguments, and the package variables that the reading takes, are together of bulk at most 1048576: NARROWER than '..Said'. Prove '..Said' where nothing that the law and all that it calls make is longer than what came in: it says more and counts as full. Else prove '..UptoSaid'. A law counts once. -/
mutual
def uptoBulk {H : Type} : DataW H → Nat
  | .lit (.string bytes) => bytes.length + 1
  | .lit _ => 1
  | .nil => 1
  | .ptr d => uptoBulk d + 1
  | .slice elems spare => uptoBulkAll elems + uptoBulkAll spare + 1
  | .agg parts => uptoBulkAll parts + 1
  | .iface _ d => uptoBulk d + 1
  | .map entries => uptoBulkEntries entries + 1
  | .held _ => 1
def uptoBulkAll {H : Type} : List (DataW H) → Nat
  | [] => 0
  | d :: r => uptoBulk d + uptoBulkAll r
def uptoBulkEntries {H : Type} : List (Lit × DataW H) → Nat
  | [] => 0
  | x :: r => uptoBulkEntry x + uptoBulkEntries r
def uptoBulkEntry {H : Type} : Lit × DataW H → Nat
  | (.string bytes, d) => bytes.length + uptoBulk d + 1
  | (_, d) => uptoBulk d + 1
 end
def uptoSmall : (H : Type) → List (DataW H) → Bool := fun _ ds => decide (uptoBulkAll ds ≤ 1048576)
def OpenSpec.upto (s : _root_.Go.ChangeSpec) : _root_.Go.OpenSpec := { _root_.Go.OpenSpec.ofChange s with cond := some uptoSmall }

/-- 'drogherlaw23.ParcelNil', WHERE WHAT IT READS IS OF BULK AT MOST 1048576: true; the input reads as it did. -/
def parcelNilUptoRow : OpenClaim := { program := "ythbehlohdoajbaa", sum := "54ac57ad896d3ad6fd40e8a6f7289076c571393478f42a8333c985bc9f8120b3", func := "drogher/drogherlaw23.ParcelNil", spec := "parcelNil", unfollowed := true, recurses := true, apart := false, narrowed := true }
def ParcelNilUptoSaid : Prop := parcelNilUptoRow.holds Try.pinned (OpenSpec.upto parcelNilSpec)

/-- 'drogherlaw23.ParcelWrites', WHERE WHAT IT READS IS OF BULK AT MOST 1048576: true; the input reads as it did. -/
def parcelWritesUptoRow : OpenClaim := { program := "ythbehlohdoajbaa", sum := "54ac57ad896d3ad6fd40e8a6f7289076c571393478f42a8333c985bc9f8120b3", func := "drogher/drogherlaw23.ParcelWrites", spec := "parcelWrites", unfollowed := true, recurses := true, apart := false, narrowed := true }
def ParcelWritesUptoSaid : Prop := parcelWritesUptoRow.holds Try.pinned (OpenSpec.upto parcelWritesSpec)

/-- 'drogherlaw23.ParcelSkips', WHERE WHAT IT READS IS OF BULK AT MOST 1048576: true; the input reads as it did. -/
def parcelSkipsUptoRow : OpenClaim := { program := "ythbehlohdoajbaa", sum := "54ac57ad896d3ad6fd40e8a6f7289076c571393478f42a8333c985bc9f8120b3", func := "drogher/drogherlaw23.ParcelSkips", spec := "parcelSkips", unfollowed := true, recurses := true, apart := false, narrowed := true }
def ParcelSkipsUptoSaid : Prop := parcelSkipsUptoRow.holds Try.pinned (OpenSpec.upto parcelSkipsSpec)

end Rows
end Go.Proofs.Ythbehlohdoajbaa
