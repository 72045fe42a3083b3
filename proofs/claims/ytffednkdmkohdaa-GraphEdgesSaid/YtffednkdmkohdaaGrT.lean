/-
  slices.DeleteFunc where one number goes (contract).
-/
import Derived.Test.YtffednkdmkohdaaGrS
set_option linter.unusedVariables false
set_option linter.unusedSimpArgs false
namespace Go.Proofs.Ytffednkdmkohdaa
open Go.RowKit

section
variable {w0 w : World} {L X : List Ent} {A : Option Addr} {n c gp : Nat} {xs : List Int} {k : Int}
set_option maxHeartbeats 800000 in
set_option maxRecDepth 100000 in
theorem delete_no (K : Known w0 w (X ++ L)) (hp : Has (row gp #[.int .i64 k] 3) L) (O : OwnL 3 1 A n c (xs.map (Value.int .i64)) X) (hn : n ≤ 1000000000) (hk : k ∉ xs) : Calls Try.prog 53 #[.slice A n c, .func (.func 54) #[] #[.pointer (some ⟨gp, 0, none⟩)]] w fun e w' => e = .returned (.slice A n c) ∧ Known w0 w' (X ++ L) := by
  have hl := O.len
  rw [List.length_map] at hl
  have HM := Lib.hid (fun (r : Int) (h : (r = -1 ∧ k ∉ xs) ∨ ∃ j : Nat, j < n ∧ r = j ∧ k ∉ xs.take j ∧ xs.getD j 0 = k) => show r = -1 by
    rcases h with h | ⟨j, hj, _, _, he⟩
    · exact h.1
    · refine absurd ?_ hk
      rw [← he]
      simp [List.getD, show j < xs.length by omega])
  go_enter Try.func53, Try.ntmps53
  go_upto_region 2 with ((first | (go_at_call 78; (with_reducible refine (index_any K (Has.ap _ hp) (RdS.own (L := _) O (Seg.ap X L)) O.le hn).mono ?_); rintro e w' ⟨r, rfl, hres, rfl⟩; obtain rfl := HM.out _ hres)))
  go_wp2
  go_ret
  exact ⟨rfl, K⟩
end
end Go.Proofs.Ytffednkdmkohdaa
