/-
  drogherlaw06: SectorNil, SectorPlays (walks).
-/
import Derived.Test.YtokbloddaoakgaaLawI
import Derived.Test.YtokbloddaoakgaaSecP
set_option linter.unusedVariables false
set_option linter.unusedSimpArgs false
namespace Go.Proofs.Ytokbloddaoakgaa
open Go.RowKit
theorem sdo_offs (D : Dev) (s : Stp) : (sdo D s).offs ≤ D.offs + 1 ∧ (sdo D s).writes ≤ D.writes + 1 ∧ (sdo D s).size = D.size ∧ (sdo D s).count = D.count := by
  have hf : ∀ D : Dev, (dfall D).offs ≤ D.offs + 1 ∧ (dfall D).writes ≤ D.writes + 1 ∧ (dfall D).size = D.size ∧ (dfall D).count = D.count := by
    intro D
    unfold dfall
    split
    · exact ⟨by omega, by omega, rfl, rfl⟩
    · exact ⟨by show D.offs + 1 ≤ _; omega, by show D.writes ≤ _; omega, rfl, rfl⟩
  have h0 : D.offs ≤ D.offs + 1 ∧ D.writes ≤ D.writes + 1 ∧ D.size = D.size ∧ D.count = D.count := ⟨by omega, by omega, rfl, rfl⟩
  unfold sdo
  split
  · unfold dwrite
    split
    · exact h0
    · split
      · exact h0
      · split
        · exact hf (dput D s.i _)
        · exact ⟨by show D.offs ≤ _; omega, by show D.writes + 1 ≤ _; omega, rfl, rfl⟩
  · split
    · unfold dsync
      split
      · exact h0
      · split
        · exact hf D
        · exact ⟨by show D.offs ≤ _; omega, by show D.writes ≤ _; omega, rfl, rfl⟩
    · split
      · exact ⟨by show D.offs ≤ _; omega, by show D.writes ≤ _; omega, rfl, rfl⟩
      · split
        · exact hf D
        · split
          · exact hf D
          · exact h0

section
variable {w0 w : World} {L : List Ent}
set_option maxRecDepth 100000 in
theorem rnew_any (K : Known w0 w L) (s c : Int) : Calls Try.prog 46 #[.int .i64 s, .int .i64 c] w fun e w' => e = .returned (.agg #[.int .i64 s, .int .i64 c, .slice none 0 0, .slice none 0 0, .bool false, .int .i64 0, .int .i64 (-1), .int .u64 0]) ∧ Known w0 w' L := by
  go_enter Try.func46, Try.ntmps46
  go_wp2_with (first | ((with_reducible refine at_slot (N := 4) rfl ?_); (with_reducible refine at_alloc rfl ?_); refine wpList_does rfl (kd_alloc (z := (.agg #[.int .i64 0, .int .i64 0, .slice none 0 0, .slice none 0 0, .bool false, .int .i64 0, .int .i64 0, .int .u64 0])) K _ rfl (by kernel_rfl)) ?_; clear K; rintro _ w1 ⟨gr, rfl, K⟩; (try dsimp only [Value.cells] at K)) | ((with_reducible refine at_eqnil rfl ?_); refine wpList_reads rfl (kr_eqnil rfl rfl (by kernel_rfl)) ?_) | ((with_reducible refine at_box rfl ?_); refine wpList_does rfl (kd_box K _ _ rfl (by conv => lhs; whnf)) ?_; clear K; rintro _ w1 ⟨g, rfl, K⟩; (try dsimp only [Value.cells] at K)) | ((with_reducible refine at_alloc rfl ?_); refine wpList_does rfl (kd_alloc K _ rfl rfl) ?_; clear K; rintro _ w1 ⟨g, rfl, K⟩; (try dsimp only [Value.cells] at K)) | ((with_reducible refine at_buildSlice rfl ?_); refine wpList_does rfl (kd_lits (cs := _) K _ _ _ rfl (by first | rfl | (go_simp; done) | (go_simp; rfl)) (by first | rfl | (go_simp; done) | (go_simp; rfl))) ?_; clear K; rintro _ w1 ⟨g, rfl, K⟩) | ((with_reducible refine at_load rfl ?_); first | (refine wpList_reads (by rfl) (kr_load_cell K _ _ (by rfl) (by rfl) (by repeat (first | with_reducible exact Has.hd _ _ | with_reducible refine Has.tl _ ?_ | with_reducible refine Has.ap _ ?_)) (by decide +kernel) (by (try simp only [List.getElem?_toArray, List.getElem?_cons_succ, List.getElem?_cons_zero]); exact rfl)) ?_) | (refine wpList_reads (by rfl) (kr_load_row K _ _ (by rfl) (by rfl) (by repeat (first | with_reducible exact Has.hd _ _ | with_reducible refine Has.tl _ ?_ | with_reducible refine Has.ap _ ?_)) (by decide +kernel) (by kernel_rfl)) ?_)) | ((with_reducible refine at_store rfl ?_); (first | (refine wpList_does rfl (kd_store_cell K _ _ _ rfl rfl (by conv => lhs; whnf) (by repeat (first | with_reducible exact Repl.hd _ _ _ | with_reducible apply Repl.tl | with_reducible apply Repl.ap)) rfl rfl (by kernel_rfl) (by kernel_rfl) (by first | (simp only [List.setIfInBounds_toArray, List.set_cons_succ, List.set_cons_zero]; rfl) | rfl)) ?_) | (refine wpList_does rfl (kd_store_row K _ _ _ rfl rfl rfl (by repeat (first | with_reducible exact Repl.hd _ _ _ | with_reducible apply Repl.tl | with_reducible apply Repl.ap)) (by kernel_rfl) (by kernel_rfl) (by kernel_rfl)) ?_)); clear K; intro _ w1 K; (try simp only [Act.put])))
  exact bodyPost_cellK K (by rfl) (by rfl) (by repeat (first | with_reducible exact Has.hd _ _ | with_reducible refine Has.tl _ ?_ | with_reducible refine Has.ap _ ?_)) (by kernel_rfl) (by kernel_rfl) rfl  ⟨rfl, K.cov (by repeat (first | with_reducible exact Cov.all _ | with_reducible exact Cov.left _ _ | with_reducible exact Cov.nil _ | (with_reducible apply Cov.app; (· repeat (first | with_reducible exact Sel.nil _ | with_reducible exact Sel.ap _ _ | with_reducible exact Sel.hd _ _ | with_reducible exact Sel.all _ | with_reducible apply Sel.tl | with_reducible apply Sel.sk))) | (with_reducible apply Cov.cons; (· repeat (first | with_reducible exact Sel.nil _ | with_reducible exact Sel.ap _ _ | with_reducible exact Sel.hd _ _ | with_reducible exact Sel.all _ | with_reducible apply Sel.tl | with_reducible apply Sel.sk))) | with_reducible refine Cov.drop _ ?_ | with_reducible refine Cov.skip _ ?_))⟩
set_option maxRecDepth 100000 in
theorem sectorNil_any (K : Known w0 w L) (i : Int) (A : Option Addr) (n c : Nat) (B : Option Addr) (m d : Nat) : Calls Try.prog 8 #[.int .i64 i, .slice A n c, .slice B m d] w fun e w' => e = .returned (.bool true) ∧ Known w0 w' L := by
  by_cases h1 : 500 < n
  · have b1 : decide (500 < (n : Int)) = true := decide_eq_true (by omega)
    go_enter Try.func8, Try.ntmps8
    go_wp2_with (first | (go_at_call 31; (with_reducible refine (awake06K K).mono ?_); clear K; rintro e w1 ⟨rfl, K⟩))
    go_ret
    exact ⟨rfl, K⟩
  · have b1 : decide (500 < (n : Int)) = false := decide_eq_false (by omega)
    by_cases h2 : 60 < m
    · have b2 : decide (60 < (m : Int)) = true := decide_eq_true (by omega)
      go_enter Try.func8, Try.ntmps8
      go_wp2_with (first | (go_at_call 31; (with_reducible refine (awake06K K).mono ?_); clear K; rintro e w1 ⟨rfl, K⟩))
      go_ret
      exact ⟨rfl, K⟩
    · have b2 : decide (60 < (m : Int)) = false := decide_eq_false (by omega)
      go_enter Try.func8, Try.ntmps8
      go_wp2_with (first | (go_at_call 32; (with_reducible refine (sfuse_nil _ _).mono ?_); rintro e w' ⟨rfl, rfl⟩) | (go_at_call 33; (with_reducible refine (soff_nil _).mono ?_); rintro e w' ⟨rfl, rfl⟩) | (go_at_call 34; (with_reducible refine (sback_nil _ _ _ _).mono ?_); rintro e w' ⟨rfl, rfl⟩) | (go_at_call 35; (with_reducible refine (sread_nil _ _).mono ?_); rintro e w' ⟨rfl, rfl⟩) | (go_at_call 36; (with_reducible refine (swrite_nil _ _ _ _ _).mono ?_); rintro e w' ⟨rfl, rfl⟩) | (go_at_call 37; (with_reducible refine (ssync_nil _).mono ?_); rintro e w' ⟨rfl, rfl⟩) | (go_at_call 38; (with_reducible refine (son_nil _).mono ?_); rintro e w' ⟨rfl, rfl⟩) | (go_at_call 39; (with_reducible refine (soffs_nil _).mono ?_); rintro e w' ⟨rfl, rfl⟩) | (go_at_call 40; (with_reducible refine (swaits_nil _).mono ?_); rintro e w' ⟨rfl, rfl⟩) | (go_at_call 41; (with_reducible refine (swrites_nil _).mono ?_); rintro e w' ⟨rfl, rfl⟩) | (go_at_call 42; (with_reducible refine (ssize_nil _).mono ?_); rintro e w' ⟨rfl, rfl⟩) | (go_at_call 43; (with_reducible refine (scnt_nil _).mono ?_); rintro e w' ⟨rfl, rfl⟩) | (go_at_call 31; (with_reducible refine (awake06K K).mono ?_); clear K; rintro e w1 ⟨rfl, K⟩))
      go_ret
      exact ⟨rfl, K⟩
end
end Go.Proofs.Ytokbloddaoakgaa
