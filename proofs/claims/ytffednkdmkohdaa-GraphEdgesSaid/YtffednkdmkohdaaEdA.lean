/-
  drogherlaw18.GraphEdges (walk).
-/
import Derived.Test.YtffednkdmkohdaaGrZ
set_option linter.unusedVariables false
set_option linter.unusedSimpArgs false
namespace Go.Proofs.Ytffednkdmkohdaa
open Go.RowKit
theorem gedgesE_cases (rs : List (List Ast)) (block : Int) : ((gedgesE rs block).2 = 0 ∧ gmayB block rs.length = true ∧ (gedgesE rs block).1 = gedges rs block) ∨ ((gedgesE rs block).2 = 1 ∧ (gedgesE rs block).1 = []) ∨ ((gedgesE rs block).2 = 3 ∧ (gedgesE rs block).1 = []) := by
  unfold gedgesE
  by_cases h1 : gmayB block rs.length = true
  · rw [if_pos h1]
    by_cases h2 : rs.all (·.all rightB) = true
    · rw [if_pos h2]
      exact .inl ⟨rfl, h1, rfl⟩
    · rw [if_neg h2]
      exact .inr (.inr ⟨rfl, rfl⟩)
  · rw [if_neg h1]
    exact .inr (.inl ⟨rfl, rfl⟩)
section
variable {w0 w : World} {L : List Ent} {A : Option Addr} {n c : Nat} {rows : List (Arow Ast)} {block : Int}
theorem gedges_any (K : Known w0 w L) (G : Plans w0 [] A n rows) (hc : n ≤ c) (h6 : ∀ r ∈ rows, r.n ≤ 60) : Calls Try.prog 25 #[.slice A n c, .int .i64 block] w fun e w' => ∃ A' n' c', e = .returned (.tuple #[.slice A' n' c', .int .i64 (gedgesE (rows.map (·.l)) block).2]) ∧ n' ≤ c' ∧ ∃ (rows' : List (Arow Int)), rows'.map (·.l) = (gedgesE (rows.map (·.l)) block).1 ∧ ∃ X, Grid w0 X A' n' rows' ∧ (∀ r ∈ rows', r.n ≤ n) ∧ Known w0 w' (X ++ L) := by
  cases hm : gmayB block n
  · refine (gedges_no K G hc hm).mono ?_
    rintro e w' ⟨rfl, K⟩
    have h := gedgesE_one (rs := rows.map (·.l)) (by rw [List.length_map, G.R.len]; exact hm)
    exact ⟨none, 0, 0, by rw [h], Nat.le_refl _, [], by rw [h]; rfl, [], Grid.nil _, (by simp), K⟩
  · exact gedges_yes K G hc hm h6
end

section
variable {w0 w : World} {L : List Ent} {A : Option Addr} {n c : Nat} {rows : List (Arow Ast)} {block : Int}
theorem grid_same {X1 X2 : List Ent} {A1 A2 : Option Addr} {n1 n2 : Nat} {r1 r2 : List (Arow Int)} (G1 : Grid w0 X1 A1 n1 r1) (G2 : Grid w0 X2 A2 n2 r2) (h : r1.map (·.l) = r2.map (·.l)) : n1 = n2 := by
  have := congrArg List.length h
  rw [List.length_map, List.length_map, G1.R.len, G2.R.len] at this
  exact this
set_option maxHeartbeats 1600000 in
set_option maxRecDepth 100000 in
theorem graphEdges_any (K : Known w0 w L) (G : Plans w0 [] A n rows) (hc : n ≤ c) : Calls Try.prog 5 #[.slice A n c, .int .i64 block] w fun e w' => e = .returned (.bool true) ∧ Known w0 w' L := by
  have hl := G.R.len
  cases hg : greatP rows
  · have HG := Lib.hid hg
    obtain ⟨hgn, hg6⟩ := greatP_no hg
    have hn4 : n ≤ 40 := by omega
    have h6 : ∀ r ∈ rows, r.n ≤ 60 := fun r hr => by
      have h1 := greatA_no (hg6 r hr)
      have h2 := (G.row r hr).1.len
      omega
    rcases gedgesE_cases (rows.map (·.l)) block with ⟨h1, h2, h3⟩ | h | h
    · have HE := Lib.hid h1
      have HRT := Lib.hid (show rightG (gedgesE (rows.map (·.l)) block).1 = true by rw [h3]; exact gedges_right (by rw [List.length_map]; omega))
      have HN9 := Lib.hid (fun (X1 : List Ent) (A1 : Option Addr) (n1 : Nat) (r1 : List (Arow Int)) (G1 : Grid w0 X1 A1 n1 r1) (h : r1.map (·.l) = (gedgesE (rows.map (·.l)) block).1) => show n1 ≤ 40 by
        have h5 := congrArg List.length h
        rw [h3, gedges_len, List.length_map, List.length_map, G1.R.len] at h5
        omega)
      clear h1 h2 h3 hg hgn hg6 hl
      go_enter Try.func5, Try.ntmps5
      go_wp2_with (first | (go_at_call 24; (with_reducible refine (pgreat_any K G hc).mono ?_); rintro e w' ⟨rfl, rfl⟩; rw [HG.out]) | (go_at_call 25; (with_reducible refine (gedges_any K G hc h6).mono ?_); clear K; rintro e w1 ⟨A1, n1, c1, rfl, hc1, rows1, hm1, X1, G1, hr1, K⟩; replace hm1 := Lib.hid hm1; rw [HE.out]) | (go_at_call 26; (with_reducible refine (redges_any K G hc hn4 h6).mono ?_); clear K; rintro e w1 ⟨A2, n2, c2, rfl, hc2, rows2, hm2, X2, G2, hr2, K⟩; replace hm2 := Lib.hid hm2; rw [HE.out]; obtain rfl := grid_same G1 G2 (hm1.out.trans hm2.out.symm); have hn9 := HN9.out _ _ _ _ G1 hm1.out) | (go_at_call 22; (with_reducible refine (rsameall_any K (G1.cov Cov.auto) (G2.cov Cov.auto) hc1 hc2 (by omega) (fun r hr => by have := hr1 r hr; omega) (hm1.out.trans hm2.out.symm)).mono ?_); clear K; rintro e w1 ⟨rfl, K⟩) | (go_at_call 20; (with_reducible refine (gturned_any K (G1.cov Cov.auto) hc1 (by omega) (fun r hr => by have := hr1 r hr; omega) (by rw [hm1.out]; exact HRT.out)).mono ?_); clear K; rintro e w1 ⟨A3, c3, rfl, hc3, rows3, hm3, X3, G3, hr3, K⟩; replace hm3 := Lib.hid hm3) | (go_at_call 23; (with_reducible refine (rturned_any K (G2.cov Cov.auto) hc2 (by omega) (fun r hr => by have := hr2 r hr; omega)).mono ?_); clear K; rintro e w1 ⟨A4, c4, rfl, hc4, rows4, X4, hm4, G4, hr4, K⟩; replace hm4 := Lib.hid hm4) | (go_at_call 22; (with_reducible refine (rsameall_any K (G3.cov Cov.auto) (G4.cov Cov.auto) hc3 hc4 (by omega) (fun r hr => by have := hr3 r hr; omega) (by rw [hm3.out, hm4.out, hm1.out, hm2.out])).mono ?_); clear K; rintro e w1 ⟨rfl, K⟩) | (go_at_call 15; (with_reducible refine (awake18K K).mono ?_); clear K; rintro e w1 ⟨rfl, K⟩))
      go_ret
      exact ⟨rfl, K.cov Cov.auto⟩
    all_goals
      have HE := Lib.hid h.1
      have HN9 := Lib.hid (fun (X1 : List Ent) (A1 : Option Addr) (n1 : Nat) (r1 : List (Arow Int)) (G1 : Grid w0 X1 A1 n1 r1) (h9 : r1.map (·.l) = (gedgesE (rows.map (·.l)) block).1) => show n1 ≤ 40 by
        have h5 := congrArg List.length h9
        rw [h.2, List.length_map, G1.R.len] at h5
        simp at h5
        omega)
      clear h hg hgn hg6 hl
      go_enter Try.func5, Try.ntmps5
      go_wp2_with (first | (go_at_call 24; (with_reducible refine (pgreat_any K G hc).mono ?_); rintro e w' ⟨rfl, rfl⟩; rw [HG.out]) | (go_at_call 25; (with_reducible refine (gedges_any K G hc h6).mono ?_); clear K; rintro e w1 ⟨A1, n1, c1, rfl, hc1, rows1, hm1, X1, G1, hr1, K⟩; replace hm1 := Lib.hid hm1; rw [HE.out]) | (go_at_call 26; (with_reducible refine (redges_any K G hc hn4 h6).mono ?_); clear K; rintro e w1 ⟨A2, n2, c2, rfl, hc2, rows2, hm2, X2, G2, hr2, K⟩; replace hm2 := Lib.hid hm2; rw [HE.out]; obtain rfl := grid_same G1 G2 (hm1.out.trans hm2.out.symm); have hn9 := HN9.out _ _ _ _ G1 hm1.out) | (go_at_call 22; (with_reducible refine (rsameall_any K (G1.cov Cov.auto) (G2.cov Cov.auto) hc1 hc2 (by omega) (fun r hr => by have := hr1 r hr; omega) (hm1.out.trans hm2.out.symm)).mono ?_); clear K; rintro e w1 ⟨rfl, K⟩) | (go_at_call 20; (with_reducible refine (gturned_any K (G1.cov Cov.auto) hc1 (by omega) (fun r hr => by have := hr1 r hr; omega) (by rw [hm1.out]; exact HRT.out)).mono ?_); clear K; rintro e w1 ⟨A3, c3, rfl, hc3, rows3, hm3, X3, G3, hr3, K⟩; replace hm3 := Lib.hid hm3) | (go_at_call 23; (with_reducible refine (rturned_any K (G2.cov Cov.auto) hc2 (by omega) (fun r hr => by have := hr2 r hr; omega)).mono ?_); clear K; rintro e w1 ⟨A4, c4, rfl, hc4, rows4, X4, hm4, G4, hr4, K⟩; replace hm4 := Lib.hid hm4) | (go_at_call 22; (with_reducible refine (rsameall_any K (G3.cov Cov.auto) (G4.cov Cov.auto) hc3 hc4 (by omega) (fun r hr => by have := hr3 r hr; omega) (by rw [hm3.out, hm4.out, hm1.out, hm2.out])).mono ?_); clear K; rintro e w1 ⟨rfl, K⟩) | (go_at_call 15; (with_reducible refine (awake18K K).mono ?_); clear K; rintro e w1 ⟨rfl, K⟩))
      go_ret
      exact ⟨rfl, K.cov Cov.auto⟩
  · have HG := Lib.hid hg
    clear hg hl
    go_enter Try.func5, Try.ntmps5
    go_wp2_with (first | (go_at_call 24; (with_reducible refine (pgreat_any K G hc).mono ?_); rintro e w' ⟨rfl, rfl⟩; rw [HG.out]) | (go_at_call 15; (with_reducible refine (awake18K K).mono ?_); clear K; rintro e w1 ⟨rfl, K⟩))
    go_ret
    exact ⟨rfl, K⟩
end
end Go.Proofs.Ytffednkdmkohdaa
