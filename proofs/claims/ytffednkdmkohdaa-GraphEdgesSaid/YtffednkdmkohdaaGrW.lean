/-
  graph: Edges: the plain law.
-/
import Derived.Test.YtffednkdmkohdaaGrV
set_option linter.unusedVariables false
set_option linter.unusedSimpArgs false
namespace Go.Proofs.Ytffednkdmkohdaa
open Go.RowKit
def gedge (l : List Ast) (block : Int) (many i : Nat) : List Int := but (i : Int) (gset l block many)
def gedges (rs : List (List Ast)) (block : Int) : List (List Int) := (List.range rs.length).map fun i => gedge (rs.getD i []) block rs.length i
theorem gset_asc (l : List Ast) (block : Int) (many : Nat) : (gset l block many).Pairwise (· < ·) := by
  unfold gset
  rw [List.pairwise_map]
  exact (List.pairwise_lt_range.filter _).imp fun h => by omega
theorem gset_nodup (l : List Ast) (block : Int) (many : Nat) : (gset l block many).Nodup := (gset_asc l block many).imp fun h => by omega
theorem gedges_len (rs : List (List Ast)) (block : Int) : (gedges rs block).length = rs.length := by simp [gedges]
theorem gedges_right {rs : List (List Ast)} {block : Int} (h : rs.length ≤ 4096) : rightG (gedges rs block) = true := by
  unfold rightG
  rw [Bool.and_eq_true, gedges_len]
  refine ⟨List.all_eq_true.2 fun i hi => ?_, decide_eq_true h⟩
  have hi := List.mem_range.1 hi
  have he : (gedges rs block).getD i [] = gedge (rs.getD i []) block rs.length i := by simp [gedges, List.getD, hi]
  rw [he]
  refine okRow_of ((gset_asc _ _ _).filter _) fun x hx => ?_
  unfold gedge but at hx
  rw [List.mem_filter, decide_eq_true_eq, gset_mem] at hx
  exact ⟨hx.1.1, hx.2⟩
end Go.Proofs.Ytffednkdmkohdaa
