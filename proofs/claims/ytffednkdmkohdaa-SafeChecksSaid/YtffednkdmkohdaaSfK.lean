/-
  drogherlaw20.SafeChecks (walk).
-/
import Derived.Test.YtffednkdmkohdaaSfJ
set_option linter.unusedVariables false
set_option linter.unusedSimpArgs false
namespace Go.Proofs.Ytffednkdmkohdaa
open Go.RowKit

section
variable {w0 w : World} {L : List Ent} {A B : Option Addr} {n c m d : Nat} {rows : List (Arow Ast)} {os : List Int} {block old new : Int}
set_option maxHeartbeats 800000 in
set_option maxRecDepth 100000 in
theorem safeChecks_any (K : Known w0 w L) (G : Plans w0 [] A n rows) (hc : n ≤ c) (R : RdS w0 [] .i64 B m os) (hd : m ≤ d) (hd9 : d ≤ 9223372036854775807) : Calls Try.prog 6 #[.slice A n c, .slice B m d, .int .i64 block, .int .i64 old, .int .i64 new] w fun e w' => e = .returned (.bool true) ∧ Known w0 w' L := by
  cases hg : greatP rows
  · have HG := Lib.hid hg
    obtain ⟨hgn, hg6⟩ := greatP_no hg
    have hl := G.R.len
    have hn4 : n ≤ 40 := by omega
    have h6 : ∀ r ∈ rows, r.n ≤ 60 := fun r hr => by
      have h1 := greatA_no (hg6 r hr)
      have h2 := (G.row r hr).1.len
      omega
    clear hg hgn hg6 hl
    by_cases hm6 : 60 < m
    · have d1 : decide (60 < (m : Int)) = true := decide_eq_true (by omega)
      go_enter Try.func6, Try.ntmps6
      go_wp2_with (first | (go_at_call 24; (with_reducible refine (pgreat_any K G hc).mono ?_); rintro e w' ⟨rfl, rfl⟩; rw [HG.out]) | (go_at_call 27; (with_reducible refine (awake20K K).mono ?_); clear K; rintro e w1 ⟨rfl, K⟩))
      go_ret
      exact ⟨rfl, K⟩
    · have d1 : decide (60 < (m : Int)) = false := decide_eq_false (by omega)
      obtain ⟨x, hx⟩ : ∃ x, checkE (rows.map (·.l)) os block old new = x := ⟨_, rfl⟩
      have HX := Lib.hid hx
      have e1 : (x == x) = true := by simp
      clear hx
      go_enter Try.func6, Try.ntmps6
      go_wp2_with (first | (go_at_call 24; (with_reducible refine (pgreat_any K G hc).mono ?_); rintro e w' ⟨rfl, rfl⟩; rw [HG.out]) | (go_at_call 28; (with_reducible refine (scheck_any K G hc R hd (by omega) (by omega) h6).mono ?_); clear K; rintro e w1 ⟨rfl, K⟩; rw [HX.out]) | (go_at_call 29; (with_reducible refine (rcheck_any K G hc R hd (by omega) (by omega) h6 hd9).mono ?_); clear K; rintro e w1 ⟨rfl, K⟩; rw [HX.out]) | (go_at_call 27; (with_reducible refine (awake20K K).mono ?_); clear K; rintro e w1 ⟨rfl, K⟩))
      go_ret
      exact ⟨rfl, K⟩
  · have HG := Lib.hid hg
    clear hg
    go_enter Try.func6, Try.ntmps6
    go_wp2_with (first | (go_at_call 24; (with_reducible refine (pgreat_any K G hc).mono ?_); rintro e w' ⟨rfl, rfl⟩; rw [HG.out]) | (go_at_call 27; (with_reducible refine (awake20K K).mono ?_); clear K; rintro e w1 ⟨rfl, K⟩))
    go_ret
    exact ⟨rfl, K⟩
end
end Go.Proofs.Ytffednkdmkohdaa
