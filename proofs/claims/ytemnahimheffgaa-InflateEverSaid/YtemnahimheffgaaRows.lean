/-
  No cell of these rows narrows 'for every input' (looked for: loops, veiled, ifaces, maps, wideKeys, modest, calm, conditions, laid).
  DERIVED. THE GIVEN ROWS OF THIS SEAT. 5 by the template 'for every input the law returns true; each argument reads behind the call as it read before'; 0 by the template 'total and deterministic' (their statements: YtemnahimheffgaaTotals.lean).
  GIVEN WITH THE SEED: the statements are not yours to turn. If you find one false, say at which input.
  Laid BY PROGRAM, IN A SANDBOX (cutbox-rows.mjs): the forced cells as the released guide's own fill.sh prints them over the translation 6ff3ab06fbd5b26b… (all of the seat's roots in one cut). By AI agents, Wed Nov 11 2026. No macro, syntax, notation, axiom, sorry.
-/
import Derived.Test.YtemnahimheffgaaChecked
import GoSem.Claim
import GoSem.ClaimJoined
import GoSem.ClaimMapViews
import Derived.JoinedTies
import Derived.KernelRfl
namespace Go.Proofs.Ytemnahimheffgaa
/- THE CELL 'sum', in the pinned program and in every row, IS THE sha256 OF THE DUMP (.gsa) THAT YtemnahimheffgaaProg.lean LOADS. Nothing in Lean hashes anything: it is a label: what it is worth is what the hold of that sum in a sandbox is worth. -/
noncomputable def Try.pinned : Pinned := { name := "ytemnahimheffgaa", sum := "6ff3ab06fbd5b26b0b3e0e04c569212f0fc5efe5d9fd67d6fac1f88b343a32ea", checked := Try.checked }
namespace Rows
def none {H : Type} : Left H := { results := [], args := [] }

/-- 'drogherlaw13.InflateTells': WHATEVER THE INPUT: true; the input reads as it did. -/
def inflateTellsSpec : ChangeSpec := { name := "inflateTells", fn := fun _ => fun
  | [d1, d2] => { results := [.lit (.bool true)], args := [d1, d2] }
  | _ => none }
def inflateTellsRow : OpenClaim := { program := "ytemnahimheffgaa", sum := "6ff3ab06fbd5b26b0b3e0e04c569212f0fc5efe5d9fd67d6fac1f88b343a32ea", func := "drogher/drogherlaw13.InflateTells", spec := "inflateTells", unfollowed := true, recurses := true, apart := false }
def InflateTellsSaid : Prop := inflateTellsRow.holds Try.pinned (OpenSpec.ofChange inflateTellsSpec)

/-- ITS FALSE NEIGHBOUR: 'it returns false'. Refute it at one input. -/
def inflateTellsWrong : ChangeSpec := { name := "inflateTells", fn := fun _ => fun
  | [d1, d2] => { results := [.lit (.bool false)], args := [d1, d2] }
  | _ => none }
def InflateTellsWrongFalsely : Prop := inflateTellsRow.holds Try.pinned (OpenSpec.ofChange inflateTellsWrong)

/-- 'drogherlaw13.InflatePieces': WHATEVER THE INPUT: true; the input reads as it did. -/
def inflatePiecesSpec : ChangeSpec := { name := "inflatePieces", fn := fun _ => fun
  | [d1, d2] => { results := [.lit (.bool true)], args := [d1, d2] }
  | _ => none }
def inflatePiecesRow : OpenClaim := { program := "ytemnahimheffgaa", sum := "6ff3ab06fbd5b26b0b3e0e04c569212f0fc5efe5d9fd67d6fac1f88b343a32ea", func := "drogher/drogherlaw13.InflatePieces", spec := "inflatePieces", unfollowed := true, recurses := true, apart := false }
def InflatePiecesSaid : Prop := inflatePiecesRow.holds Try.pinned (OpenSpec.ofChange inflatePiecesSpec)

/-- ITS FALSE NEIGHBOUR: 'it returns false'. Refute it at one input. -/
def inflatePiecesWrong : ChangeSpec := { name := "inflatePieces", fn := fun _ => fun
  | [d1, d2] => { results := [.lit (.bool false)], args := [d1, d2] }
  | _ => none }
def InflatePiecesWrongFalsely : Prop := inflatePiecesRow.holds Try.pinned (OpenSpec.ofChange inflatePiecesWrong)

/-- 'drogherlaw13.InflateEver': WHATEVER THE INPUT: true; the input reads as it did. -/
def inflateEverSpec : ChangeSpec := { name := "inflateEver", fn := fun _ => fun
  | [d1, d2, d3] => { results := [.lit (.bool true)], args := [d1, d2, d3] }
  | _ => none }
def inflateEverRow : OpenClaim := { program := "ytemnahimheffgaa", sum := "6ff3ab06fbd5b26b0b3e0e04c569212f0fc5efe5d9fd67d6fac1f88b343a32ea", func := "drogher/drogherlaw13.InflateEver", spec := "inflateEver", unfollowed := true, recurses := true, apart := false }
def InflateEverSaid : Prop := inflateEverRow.holds Try.pinned (OpenSpec.ofChange inflateEverSpec)

/-- ITS FALSE NEIGHBOUR: 'it returns false'. Refute it at one input. -/
def inflateEverWrong : ChangeSpec := { name := "inflateEver", fn := fun _ => fun
  | [d1, d2, d3] => { results := [.lit (.bool false)], args := [d1, d2, d3] }
  | _ => none }
def InflateEverWrongFalsely : Prop := inflateEverRow.holds Try.pinned (OpenSpec.ofChange inflateEverWrong)

/-- 'drogherlaw13.InflateBounds': WHATEVER THE INPUT: true; the input reads as it did. -/
def inflateBoundsSpec : ChangeSpec := { name := "inflateBounds", fn := fun _ => fun
  | [d1, d2] => { results := [.lit (.bool true)], args := [d1, d2] }
  | _ => none }
def inflateBoundsRow : OpenClaim := { program := "ytemnahimheffgaa", sum := "6ff3ab06fbd5b26b0b3e0e04c569212f0fc5efe5d9fd67d6fac1f88b343a32ea", func := "drogher/drogherlaw13.InflateBounds", spec := "inflateBounds", unfollowed := true, recurses := true, apart := false }
def InflateBoundsSaid : Prop := inflateBoundsRow.holds Try.pinned (OpenSpec.ofChange inflateBoundsSpec)

/-- ITS FALSE NEIGHBOUR: 'it returns false'. Refute it at one input. -/
def inflateBoundsWrong : ChangeSpec := { name := "inflateBounds", fn := fun _ => fun
  | [d1, d2] => { results := [.lit (.bool false)], args := [d1, d2] }
  | _ => none }
def InflateBoundsWrongFalsely : Prop := inflateBoundsRow.holds Try.pinned (OpenSpec.ofChange inflateBoundsWrong)

/-- 'drogherlaw13.InflateNil': WHATEVER THE INPUT: true; the input reads as it did. -/
def inflateNilSpec : ChangeSpec := { name := "inflateNil", fn := fun _ => fun
  | [d] => { results := [.lit (.bool true)], args := [d] }
  | _ => none }
def inflateNilRow : OpenClaim := { program := "ytemnahimheffgaa", sum := "6ff3ab06fbd5b26b0b3e0e04c569212f0fc5efe5d9fd67d6fac1f88b343a32ea", func := "drogher/drogherlaw13.InflateNil", spec := "inflateNil", unfollowed := true, recurses := true, apart := false }
def InflateNilSaid : Prop := inflateNilRow.holds Try.pinned (OpenSpec.ofChange inflateNilSpec)

/-- ITS FALSE NEIGHBOUR: 'it returns false'. Refute it at one input. -/
def inflateNilWrong : ChangeSpec := { name := "inflateNil", fn := fun _ => fun
  | [d] => { results := [.lit (.bool false)], args := [d] }
  | _ => none }
def InflateNilWrongFalsely : Prop := inflateNilRow.holds Try.pinned (OpenSpec.ofChange inflateNilWrong)

/- THE SECOND FORM. 'bulk': how many values and letters a reading holds, each counted each time it is reached (what is shared counts as often as it is met; a slice's spare places count too). A statement '..UptoSaid' is the law's where the arguments, and the package variables that the reading takes, are together of bulk at most 1048576: NARROWER than '..Said'. Prove '..Said' where nothing that the law and all that it calls make is longer than what came in: it says more and counts as full. Else prove '..UptoSaid'. A law counts once. -/
mutual
def uptoBulk {H : Type} : DataW H → Nat
  | .lit (.string bytes) => bytes.length + 1
  | .lit _ => 1
  | .nil => 1
  | .ptr d => uptoBulk d + 1
  | .slice elems spare => uptoBulkAll elems + uptoBulkAll spare + 1
  | .agg parts => uptoBulkAll parts + 1
  | .iface _ d => uptoBulk d + 1
  | .map entries => uptoBulkEntries entries + 1
  | .held _ => 1
def uptoBulkAll {H : Type} : List (DataW H) → Nat
  | [] => 0
  | d :: r => uptoBulk d + uptoBulkAll r
def uptoBulkEntries {H : Type} : List (Lit × DataW H) → Nat
  | [] => 0
  | x :: r => uptoBulkEntry x + uptoBulkEntries r
def uptoBulkEntry {H : Type} : Lit × DataW H → Nat
  | (.string bytes, d) => bytes.length + uptoBulk d + 1
  | (_, d) => uptoBulk d + 1
 end
def uptoSmall : (H : Type) → List (DataW H) → Bool := fun _ ds => decide (uptoBulkAll ds ≤ 1048576)
def OpenSpec.upto (s : _root_.Go.ChangeSpec) : _root_.Go.OpenSpec := { _root_.Go.OpenSpec.ofChange s with cond := some uptoSmall }

/-- 'drogherlaw13.InflateTells', WHERE WHAT IT READS IS OF BULK AT MOST 1048576: true; the input reads as it did. -/
def inflateTellsUptoRow : OpenClaim := { program := "ytemnahimheffgaa", sum := "6ff3ab06fbd5b26b0b3e0e04c569212f0fc5efe5d9fd67d6fac1f88b343a32ea", func := "drogher/drogherlaw13.InflateTells", spec := "inflateTells", unfollowed := true, recurses := true, apart := false, narrowed := true }
def InflateTellsUptoSaid : Prop := inflateTellsUptoRow.holds Try.pinned (OpenSpec.upto inflateTellsSpec)

/-- 'drogherlaw13.InflatePieces', WHERE WHAT IT READS IS OF BULK AT MOST 1048576: true; the input reads as it did. -/
def inflatePiecesUptoRow : OpenClaim := { program := "ytemnahimheffgaa", sum := "6ff3ab06fbd5b26b0b3e0e04c569212f0fc5efe5d9fd67d6fac1f88b343a32ea", func := "drogher/drogherlaw13.InflatePieces", spec := "inflatePieces", unfollowed := true, recurses := true, apart := false, narrowed := true }
def InflatePiecesUptoSaid : Prop := inflatePiecesUptoRow.holds Try.pinned (OpenSpec.upto inflatePiecesSpec)

/-- 'drogherlaw13.InflateEver', WHERE WHAT IT READS IS OF BULK AT MOST 1048576: true; the input reads as it did. -/
def inflateEverUptoRow : OpenClaim := { program := "ytemnahimheffgaa", sum := "6ff3ab06fbd5b26b0b3e0e04c569212f0fc5efe5d9fd67d6fac1f88b343a32ea", func := "drogher/drogherlaw13.InflateEver", spec := "inflateEver", unfollowed := true, recurses := true, apart := false, narrowed := true }
def InflateEverUptoSaid : Prop := inflateEverUptoRow.holds Try.pinned (OpenSpec.upto inflateEverSpec)

/-- 'drogherlaw13.InflateBounds', WHERE WHAT IT READS IS OF BULK AT MOST 1048576: true; the input reads as it did. -/
def inflateBoundsUptoRow : OpenClaim := { program := "ytemnahimheffgaa", sum := "6ff3ab06fbd5b26b0b3e0e04c569212f0fc5efe5d9fd67d6fac1f88b343a32ea", func := "drogher/drogherlaw13.InflateBounds", spec := "inflateBounds", unfollowed := true, recurses := true, apart := false, narrowed := true }
def InflateBoundsUptoSaid : Prop := inflateBoundsUptoRow.holds Try.pinned (OpenSpec.upto inflateBoundsSpec)

/-- 'drogherlaw13.InflateNil', WHERE WHAT IT READS IS OF BULK AT MOST 1048576: true; the input reads as it did. -/
def inflateNilUptoRow : OpenClaim := { program := "ytemnahimheffgaa", sum := "6ff3ab06fbd5b26b0b3e0e04c569212f0fc5efe5d9fd67d6fac1f88b343a32ea", func := "drogher/drogherlaw13.InflateNil", spec := "inflateNil", unfollowed := true, recurses := true, apart := false, narrowed := true }
def InflateNilUptoSaid : Prop := inflateNilUptoRow.holds Try.pinned (OpenSpec.upto inflateNilSpec)

end Rows
end Go.Proofs.Ytemnahimheffgaa
