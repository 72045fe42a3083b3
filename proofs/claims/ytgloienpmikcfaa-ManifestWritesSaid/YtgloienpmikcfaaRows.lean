/-
  No cell of these rows narrows 'for every input' (looked for: loops, veiled, ifaces, maps, wideKeys, modest, calm, conditions, laid).
  DERIVED. THE GIVEN ROWS OF THIS SEAT. 8 by the template 'for every input the law returns true; each argument reads behind the call as it read before'; 0 by the template 'total and deterministic' (their statements: YtgloienpmikcfaaTotals.lean).
  GIVEN WITH THE SEED: the statements are not yours to turn. If you find one false, say at which input.
  Laid BY PROGRAM, IN A SANDBOX (cutbox-rows.mjs): the forced cells as the released guide's own fill.sh prints them over the translation 9e9b61a367a671c7… (all of the seat's roots in one cut). By AI agents, Wed Nov 11 2026. No macro, syntax, notation, axiom, sorry.
-/
import Derived.Test.YtgloienpmikcfaaChecked
import GoSem.Claim
import GoSem.ClaimJoined
import GoSem.ClaimMapViews
import Derived.JoinedTies
import Derived.KernelRfl
namespace Go.Proofs.Ytgloienpmikcfaa
/- THE CELL 'sum', in the pinned program and in every row, IS THE sha256 OF THE DUMP (.gsa) THAT YtgloienpmikcfaaProg.lean LOADS. Nothing in Lean hashes anything: it is a label: what it is worth is what the hold of that sum in a sandbox is worth. -/
noncomputable def Try.pinned : Pinned := { name := "ytgloienpmikcfaa", sum := "9e9b61a367a671c7aee025c4d367e2fb24b650126e353f62d47281bdeb6e6058", checked := Try.checked }
namespace Rows
def none {H : Type} : Left H := { results := [], args := [] }

/-- 'drogherlaw07.PartLayouts': WHATEVER THE INPUT: true; the input reads as it did. -/
def partLayoutsSpec : ChangeSpec := { name := "partLayouts", fn := fun _ => fun
  | [d] => { results := [.lit (.bool true)], args := [d] }
  | _ => none }
def partLayoutsRow : OpenClaim := { program := "ytgloienpmikcfaa", sum := "9e9b61a367a671c7aee025c4d367e2fb24b650126e353f62d47281bdeb6e6058", func := "drogher/drogherlaw07.PartLayouts", spec := "partLayouts", unfollowed := true, recurses := true, apart := false }
def PartLayoutsSaid : Prop := partLayoutsRow.holds Try.pinned (OpenSpec.ofChange partLayoutsSpec)

/-- ITS FALSE NEIGHBOUR: 'it returns false'. Refute it at one input. -/
def partLayoutsWrong : ChangeSpec := { name := "partLayouts", fn := fun _ => fun
  | [d] => { results := [.lit (.bool false)], args := [d] }
  | _ => none }
def PartLayoutsWrongFalsely : Prop := partLayoutsRow.holds Try.pinned (OpenSpec.ofChange partLayoutsWrong)

/-- 'drogherlaw26.ChunkSizes': WHATEVER THE INPUT: true; the input reads as it did. -/
def chunkSizesSpec : ChangeSpec := { name := "chunkSizes", fn := fun _ => fun
  | [d1, d2] => { results := [.lit (.bool true)], args := [d1, d2] }
  | _ => none }
def chunkSizesRow : OpenClaim := { program := "ytgloienpmikcfaa", sum := "9e9b61a367a671c7aee025c4d367e2fb24b650126e353f62d47281bdeb6e6058", func := "drogher/drogherlaw26.ChunkSizes", spec := "chunkSizes", unfollowed := true, recurses := true, apart := false }
def ChunkSizesSaid : Prop := chunkSizesRow.holds Try.pinned (OpenSpec.ofChange chunkSizesSpec)

/-- ITS FALSE NEIGHBOUR: 'it returns false'. Refute it at one input. -/
def chunkSizesWrong : ChangeSpec := { name := "chunkSizes", fn := fun _ => fun
  | [d1, d2] => { results := [.lit (.bool false)], args := [d1, d2] }
  | _ => none }
def ChunkSizesWrongFalsely : Prop := chunkSizesRow.holds Try.pinned (OpenSpec.ofChange chunkSizesWrong)

/-- 'drogherlaw12.DeflateStores': WHATEVER THE INPUT: true; the input reads as it did. -/
def deflateStoresSpec : ChangeSpec := { name := "deflateStores", fn := fun _ => fun
  | [d] => { results := [.lit (.bool true)], args := [d] }
  | _ => none }
def deflateStoresRow : OpenClaim := { program := "ytgloienpmikcfaa", sum := "9e9b61a367a671c7aee025c4d367e2fb24b650126e353f62d47281bdeb6e6058", func := "drogher/drogherlaw12.DeflateStores", spec := "deflateStores", apart := false }
def DeflateStoresSaid : Prop := deflateStoresRow.holds Try.pinned (OpenSpec.ofChange deflateStoresSpec)

/-- ITS FALSE NEIGHBOUR: 'it returns false'. Refute it at one input. -/
def deflateStoresWrong : ChangeSpec := { name := "deflateStores", fn := fun _ => fun
  | [d] => { results := [.lit (.bool false)], args := [d] }
  | _ => none }
def DeflateStoresWrongFalsely : Prop := deflateStoresRow.holds Try.pinned (OpenSpec.ofChange deflateStoresWrong)

/-- 'drogherlaw12.DeflateSymbols': WHATEVER THE INPUT: true; the input reads as it did. -/
def deflateSymbolsSpec : ChangeSpec := { name := "deflateSymbols", fn := fun _ => fun
  | [d] => { results := [.lit (.bool true)], args := [d] }
  | _ => none }
def deflateSymbolsRow : OpenClaim := { program := "ytgloienpmikcfaa", sum := "9e9b61a367a671c7aee025c4d367e2fb24b650126e353f62d47281bdeb6e6058", func := "drogher/drogherlaw12.DeflateSymbols", spec := "deflateSymbols", apart := false }
def DeflateSymbolsSaid : Prop := deflateSymbolsRow.holds Try.pinned (OpenSpec.ofChange deflateSymbolsSpec)

/-- ITS FALSE NEIGHBOUR: 'it returns false'. Refute it at one input. -/
def deflateSymbolsWrong : ChangeSpec := { name := "deflateSymbols", fn := fun _ => fun
  | [d] => { results := [.lit (.bool false)], args := [d] }
  | _ => none }
def DeflateSymbolsWrongFalsely : Prop := deflateSymbolsRow.holds Try.pinned (OpenSpec.ofChange deflateSymbolsWrong)

/-- 'drogherlaw22.ManifestHeads': WHATEVER THE INPUT: true; the input reads as it did. -/
def manifestHeadsSpec : ChangeSpec := { name := "manifestHeads", fn := fun _ => fun
  | [d1, d2] => { results := [.lit (.bool true)], args := [d1, d2] }
  | _ => none }
def manifestHeadsRow : OpenClaim := { program := "ytgloienpmikcfaa", sum := "9e9b61a367a671c7aee025c4d367e2fb24b650126e353f62d47281bdeb6e6058", func := "drogher/drogherlaw22.ManifestHeads", spec := "manifestHeads", unfollowed := true, recurses := true, apart := false }
def ManifestHeadsSaid : Prop := manifestHeadsRow.holds Try.pinned (OpenSpec.ofChange manifestHeadsSpec)

/-- ITS FALSE NEIGHBOUR: 'it returns false'. Refute it at one input. -/
def manifestHeadsWrong : ChangeSpec := { name := "manifestHeads", fn := fun _ => fun
  | [d1, d2] => { results := [.lit (.bool false)], args := [d1, d2] }
  | _ => none }
def ManifestHeadsWrongFalsely : Prop := manifestHeadsRow.holds Try.pinned (OpenSpec.ofChange manifestHeadsWrong)

/-- 'drogherlaw22.ManifestBlocks': WHATEVER THE INPUT: true; the input reads as it did. -/
def manifestBlocksSpec : ChangeSpec := { name := "manifestBlocks", fn := fun _ => fun
  | [d1, d2] => { results := [.lit (.bool true)], args := [d1, d2] }
  | _ => none }
def manifestBlocksRow : OpenClaim := { program := "ytgloienpmikcfaa", sum := "9e9b61a367a671c7aee025c4d367e2fb24b650126e353f62d47281bdeb6e6058", func := "drogher/drogherlaw22.ManifestBlocks", spec := "manifestBlocks", unfollowed := true, recurses := true, apart := false }
def ManifestBlocksSaid : Prop := manifestBlocksRow.holds Try.pinned (OpenSpec.ofChange manifestBlocksSpec)

/-- ITS FALSE NEIGHBOUR: 'it returns false'. Refute it at one input. -/
def manifestBlocksWrong : ChangeSpec := { name := "manifestBlocks", fn := fun _ => fun
  | [d1, d2] => { results := [.lit (.bool false)], args := [d1, d2] }
  | _ => none }
def ManifestBlocksWrongFalsely : Prop := manifestBlocksRow.holds Try.pinned (OpenSpec.ofChange manifestBlocksWrong)

/-- 'drogherlaw22.ManifestWrites': WHATEVER THE INPUT: true; the input reads as it did. -/
def manifestWritesSpec : ChangeSpec := { name := "manifestWrites", fn := fun _ => fun
  | [d] => { results := [.lit (.bool true)], args := [d] }
  | _ => none }
def manifestWritesRow : OpenClaim := { program := "ytgloienpmikcfaa", sum := "9e9b61a367a671c7aee025c4d367e2fb24b650126e353f62d47281bdeb6e6058", func := "drogher/drogherlaw22.ManifestWrites", spec := "manifestWrites", unfollowed := true, recurses := true, apart := false }
def ManifestWritesSaid : Prop := manifestWritesRow.holds Try.pinned (OpenSpec.ofChange manifestWritesSpec)

/-- ITS FALSE NEIGHBOUR: 'it returns false'. Refute it at one input. -/
def manifestWritesWrong : ChangeSpec := { name := "manifestWrites", fn := fun _ => fun
  | [d] => { results := [.lit (.bool false)], args := [d] }
  | _ => none }
def ManifestWritesWrongFalsely : Prop := manifestWritesRow.holds Try.pinned (OpenSpec.ofChange manifestWritesWrong)

/-- 'drogherlaw22.ManifestReads': WHATEVER THE INPUT: true; the input reads as it did. -/
def manifestReadsSpec : ChangeSpec := { name := "manifestReads", fn := fun _ => fun
  | [d] => { results := [.lit (.bool true)], args := [d] }
  | _ => none }
def manifestReadsRow : OpenClaim := { program := "ytgloienpmikcfaa", sum := "9e9b61a367a671c7aee025c4d367e2fb24b650126e353f62d47281bdeb6e6058", func := "drogher/drogherlaw22.ManifestReads", spec := "manifestReads", unfollowed := true, recurses := true, apart := false }
def ManifestReadsSaid : Prop := manifestReadsRow.holds Try.pinned (OpenSpec.ofChange manifestReadsSpec)

/-- ITS FALSE NEIGHBOUR: 'it returns false'. Refute it at one input. -/
def manifestReadsWrong : ChangeSpec := { name := "manifestReads", fn := fun _ => fun
  | [d] => { results := [.lit (.bool false)], args := [d] }
  | _ => none }
def ManifestReadsWrongFalsely : Prop := manifestReadsRow.holds Try.pinned (OpenSpec.ofChange manifestReadsWrong)

/- THE SECOND FORM. 'bulk': how many values and letters a reading holds, each counted each time it is reached (what is shared counts as often as it is met; a slice's spare places count too). A statement '..UptoSaid' is the law's where the arguments, and the package variables that the reading takes, are together of bulk at most 1048576: NARROWER than '..Said'. Prove '..Said' where nothing that the law and all that it calls make is longer than what came in: it says more and counts as full. Else prove '..UptoSaid'. A law counts once. -/
mutual
def uptoBulk {H : Type} : DataW H → Nat
  | .lit (.string bytes) => bytes.length + 1
  | .lit _ => 1
  | .nil => 1
  | .ptr d => uptoBulk d + 1
  | .slice elems spare => uptoBulkAll elems + uptoBulkAll spare + 1
  | .agg parts => uptoBulkAll parts + 1
  | .iface _ d => uptoBulk d + 1
  | .map entries => uptoBulkEntries entries + 1
  | .held _ => 1
def uptoBulkAll {H : Type} : List (DataW H) → Nat
  | [] => 0
  | d :: r => uptoBulk d + uptoBulkAll r
def uptoBulkEntries {H : Type} : List (Lit × DataW H) → Nat
  | [] => 0
  | x :: r => uptoBulkEntry x + uptoBulkEntries r
def uptoBulkEntry {H : Type} : Lit × DataW H → Nat
  | (.string bytes, d) => bytes.length + uptoBulk d + 1
  | (_, d) => uptoBulk d + 1
 end
def uptoSmall : (H : Type) → List (DataW H) → Bool := fun _ ds => decide (uptoBulkAll ds ≤ 1048576)
def OpenSpec.upto (s : _root_.Go.ChangeSpec) : _root_.Go.OpenSpec := { _root_.Go.OpenSpec.ofChange s with cond := some uptoSmall }

/-- 'drogherlaw07.PartLayouts', WHERE WHAT IT READS IS OF BULK AT MOST 1048576: true; the input reads as it did. -/
def partLayoutsUptoRow : OpenClaim := { program := "ytgloienpmikcfaa", sum := "9e9b61a367a671c7aee025c4d367e2fb24b650126e353f62d47281bdeb6e6058", func := "drogher/drogherlaw07.PartLayouts", spec := "partLayouts", unfollowed := true, recurses := true, apart := false, narrowed := true }
def PartLayoutsUptoSaid : Prop := partLayoutsUptoRow.holds Try.pinned (OpenSpec.upto partLayoutsSpec)

/-- 'drogherlaw26.ChunkSizes', WHERE WHAT IT READS IS OF BULK AT MOST 1048576: true; the input reads as it did. -/
def chunkSizesUptoRow : OpenClaim := { program := "ytgloienpmikcfaa", sum := "9e9b61a367a671c7aee025c4d367e2fb24b650126e353f62d47281bdeb6e6058", func := "drogher/drogherlaw26.ChunkSizes", spec := "chunkSizes", unfollowed := true, recurses := true, apart := false, narrowed := true }
def ChunkSizesUptoSaid : Prop := chunkSizesUptoRow.holds Try.pinned (OpenSpec.upto chunkSizesSpec)

/-- 'drogherlaw12.DeflateStores', WHERE WHAT IT READS IS OF BULK AT MOST 1048576: true; the input reads as it did. -/
def deflateStoresUptoRow : OpenClaim := { program := "ytgloienpmikcfaa", sum := "9e9b61a367a671c7aee025c4d367e2fb24b650126e353f62d47281bdeb6e6058", func := "drogher/drogherlaw12.DeflateStores", spec := "deflateStores", apart := false, narrowed := true }
def DeflateStoresUptoSaid : Prop := deflateStoresUptoRow.holds Try.pinned (OpenSpec.upto deflateStoresSpec)

/-- 'drogherlaw12.DeflateSymbols', WHERE WHAT IT READS IS OF BULK AT MOST 1048576: true; the input reads as it did. -/
def deflateSymbolsUptoRow : OpenClaim := { program := "ytgloienpmikcfaa", sum := "9e9b61a367a671c7aee025c4d367e2fb24b650126e353f62d47281bdeb6e6058", func := "drogher/drogherlaw12.DeflateSymbols", spec := "deflateSymbols", apart := false, narrowed := true }
def DeflateSymbolsUptoSaid : Prop := deflateSymbolsUptoRow.holds Try.pinned (OpenSpec.upto deflateSymbolsSpec)

/-- 'drogherlaw22.ManifestHeads', WHERE WHAT IT READS IS OF BULK AT MOST 1048576: true; the input reads as it did. -/
def manifestHeadsUptoRow : OpenClaim := { program := "ytgloienpmikcfaa", sum := "9e9b61a367a671c7aee025c4d367e2fb24b650126e353f62d47281bdeb6e6058", func := "drogher/drogherlaw22.ManifestHeads", spec := "manifestHeads", unfollowed := true, recurses := true, apart := false, narrowed := true }
def ManifestHeadsUptoSaid : Prop := manifestHeadsUptoRow.holds Try.pinned (OpenSpec.upto manifestHeadsSpec)

/-- 'drogherlaw22.ManifestBlocks', WHERE WHAT IT READS IS OF BULK AT MOST 1048576: true; the input reads as it did. -/
def manifestBlocksUptoRow : OpenClaim := { program := "ytgloienpmikcfaa", sum := "9e9b61a367a671c7aee025c4d367e2fb24b650126e353f62d47281bdeb6e6058", func := "drogher/drogherlaw22.ManifestBlocks", spec := "manifestBlocks", unfollowed := true, recurses := true, apart := false, narrowed := true }
def ManifestBlocksUptoSaid : Prop := manifestBlocksUptoRow.holds Try.pinned (OpenSpec.upto manifestBlocksSpec)

/-- 'drogherlaw22.ManifestWrites', WHERE WHAT IT READS IS OF BULK AT MOST 1048576: true; the input reads as it did. -/
def manifestWritesUptoRow : OpenClaim := { program := "ytgloienpmikcfaa", sum := "9e9b61a367a671c7aee025c4d367e2fb24b650126e353f62d47281bdeb6e6058", func := "drogher/drogherlaw22.ManifestWrites", spec := "manifestWrites", unfollowed := true, recurses := true, apart := false, narrowed := true }
def ManifestWritesUptoSaid : Prop := manifestWritesUptoRow.holds Try.pinned (OpenSpec.upto manifestWritesSpec)

/-- 'drogherlaw22.ManifestReads', WHERE WHAT IT READS IS OF BULK AT MOST 1048576: true; the input reads as it did. -/
def manifestReadsUptoRow : OpenClaim := { program := "ytgloienpmikcfaa", sum := "9e9b61a367a671c7aee025c4d367e2fb24b650126e353f62d47281bdeb6e6058", func := "drogher/drogherlaw22.ManifestReads", spec := "manifestReads", unfollowed := true, recurses := true, apart := false, narrowed := true }
def ManifestReadsUptoSaid : Prop := manifestReadsUptoRow.holds Try.pinned (OpenSpec.upto manifestReadsSpec)

end Rows
end Go.Proofs.Ytgloienpmikcfaa
