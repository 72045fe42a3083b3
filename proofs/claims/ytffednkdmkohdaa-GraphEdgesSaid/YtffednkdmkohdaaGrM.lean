/-
  graph: Turned where the rows are not right; drogherlaw18.GraphTurns (walk).
-/
import Derived.Test.YtffednkdmkohdaaGrL
set_option linter.unusedVariables false
set_option linter.unusedSimpArgs false
namespace Go.Proofs.Ytffednkdmkohdaa
open Go.RowKit

section
variable {w0 w : World} {L : List Ent} {A : Option Addr} {n c : Nat} {rows : List (Arow Int)}
set_option maxRecDepth 100000 in
theorem gturned_no (K : Known w0 w L) (G : Grid w0 L A n rows) (hc : n ≤ c) (hn : n ≤ 4096) (hr9 : ∀ r ∈ rows, r.n ≤ 1000000) (hrt : rightG (rows.map (·.l)) = false) : Calls Try.prog 20 #[.slice A n c] w fun e w' => e = .returned (.tuple #[.slice none 0 0, .int .i64 3]) ∧ Known w0 w' L := by
  have HRT := Lib.hid hrt
  clear hrt
  go_enter Try.func20, Try.ntmps20
  go_wp2_with (first | (go_at_call 51; (with_reducible refine (gright_any K G hc (by omega) hr9).mono ?_); rintro e w' ⟨rfl, rfl⟩; rw [HRT.out]))
  go_ret2
  exact ⟨rfl, K⟩
set_option maxHeartbeats 1600000 in
set_option maxRecDepth 100000 in
theorem graphTurns_any (K : Known w0 w L) (G : Grid w0 [] A n rows) (hc : n ≤ c) : Calls Try.prog 4 #[.slice A n c] w fun e w' => e = .returned (.bool true) ∧ Known w0 w' L := by
  have hl := G.R.len
  cases hg : greatG rows
  · have HG := Lib.hid hg
    obtain ⟨hgn, hg6⟩ := greatG_no hg
    have hn4 : n ≤ 40 := by omega
    have hr9 : ∀ r ∈ rows, r.n ≤ 1000000 := fun r hr => by have := hg6 r hr; omega
    clear hg hgn hg6 hl
    cases hrt : rightG (rows.map (·.l))
    · have HRT := Lib.hid hrt
      clear hrt
      go_enter Try.func4, Try.ntmps4
      go_wp2_with (first | (go_at_call 19; (with_reducible refine (ggreat_any K (G.cov (Cov.nil _)) hc).mono ?_); rintro e w' ⟨rfl, rfl⟩; rw [HG.out]) | (go_at_call 21; (with_reducible refine (rgright_any K (G.cov (Cov.nil _)) hc (by omega) hr9).mono ?_); clear K; rintro e w1 ⟨rfl, K⟩; rw [HRT.out]) | (go_at_call 20; (with_reducible refine (gturned_no K (G.cov (Cov.nil _)) hc (by omega) hr9 HRT.out).mono ?_); clear K; rintro e w1 ⟨rfl, K⟩) | (go_at_call 15; (with_reducible refine (awake18K K).mono ?_); clear K; rintro e w1 ⟨rfl, K⟩))
      go_ret
      exact ⟨rfl, K⟩
    · have HRT := Lib.hid hrt
      clear hrt
      go_enter Try.func4, Try.ntmps4
      go_wp2_with (first | (go_at_call 19; (with_reducible refine (ggreat_any K (G.cov (Cov.nil _)) hc).mono ?_); rintro e w' ⟨rfl, rfl⟩; rw [HG.out]) | (go_at_call 21; (with_reducible refine (rgright_any K (G.cov (Cov.nil _)) hc (by omega) hr9).mono ?_); clear K; rintro e w1 ⟨rfl, K⟩; rw [HRT.out]) | (go_at_call 20; (with_reducible refine (gturned_any K (G.cov (Cov.nil _)) hc (by omega) hr9 HRT.out).mono ?_); clear K; rintro e w1 ⟨A1, c1, rfl, hc1, rows1, hm1, X1, G1, hr1, K⟩; replace hm1 := Lib.hid hm1) | (go_at_call 20; (with_reducible refine (gturned_any K (G1.cov Cov.auto) hc1 (by omega) (fun r hr => by have := hr1 r hr; omega) (by rw [hm1.out]; exact turned_right HRT.out)).mono ?_); clear K; rintro e w1 ⟨A2, c2, rfl, hc2, rows2, hm2, X2, G2, hr2, K⟩; replace hm2 := Lib.hid hm2) | (go_at_call 23; (with_reducible refine (rturned_any K (G.cov (Cov.nil _)) hc (by omega) hr9).mono ?_); clear K; rintro e w1 ⟨A3, c3, rfl, hc3, rows3, X3, hm3, G3, hr3, K⟩; replace hm3 := Lib.hid hm3) | (go_at_call 22; (with_reducible refine (rsameall_any K (G1.cov Cov.auto) (G3.cov Cov.auto) hc1 hc3 (by omega) (fun r hr => by have := hr1 r hr; omega) (hm1.out.trans hm3.out.symm)).mono ?_); clear K; rintro e w1 ⟨rfl, K⟩) | (go_at_call 22; (with_reducible refine (rsameall_any K (G2.cov Cov.auto) (G.cov (Cov.nil _)) hc2 hc (by omega) (fun r hr => by have := hr2 r hr; omega) (by rw [hm2.out, hm1.out]; exact turned_turned HRT.out)).mono ?_); clear K; rintro e w1 ⟨rfl, K⟩) | (go_at_call 15; (with_reducible refine (awake18K K).mono ?_); clear K; rintro e w1 ⟨rfl, K⟩))
      go_ret
      exact ⟨rfl, K.cov Cov.auto⟩
  · have HG := Lib.hid hg
    clear hg hl
    go_enter Try.func4, Try.ntmps4
    go_wp2_with (first | (go_at_call 19; (with_reducible refine (ggreat_any K (G.cov (Cov.nil _)) hc).mono ?_); rintro e w' ⟨rfl, rfl⟩; rw [HG.out]) | (go_at_call 15; (with_reducible refine (awake18K K).mono ?_); clear K; rintro e w1 ⟨rfl, K⟩))
    go_ret
    exact ⟨rfl, K⟩
end
end Go.Proofs.Ytffednkdmkohdaa
