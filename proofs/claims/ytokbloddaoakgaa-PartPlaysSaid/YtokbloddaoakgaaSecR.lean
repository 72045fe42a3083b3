/-
  sector: Sync (contract).
-/
import Derived.Test.YtokbloddaoakgaaSecQ
set_option linter.unusedVariables false
set_option linter.unusedSimpArgs false
namespace Go.Proofs.Ytokbloddaoakgaa
open Go.RowKit
theorem dsync_ok {D : Dev} (h : DevOk D) : DevOk { dburn D with kept := amerge D.kept D.waits, waits := [] } := by
  refine ⟨h.size, h.count, amerge_rising h.rk, by simp [Rising], fun p hp => ?_, by simp, h.offs, ?_, h.writes⟩
  · rcases amerge_mem hp with hp | hp
    · exact h.fk p hp
    · exact h.fw p hp
  · have := h.fuse
    show -1 ≤ (if 0 < D.fuse then D.fuse - 1 else D.fuse) ∧ (if 0 < D.fuse then D.fuse - 1 else D.fuse) ≤ _
    split <;> omega

section
variable {w0 w : World} {L X : List Ent} {g : Nat} {D : Dev}
set_option maxHeartbeats 800000 in
set_option maxRecDepth 100000 in
theorem ssync_any (K : Known w0 w (X ++ L)) (hD : DevIs w0 g D X) (ho : D.offs < 1000000000000) : Calls Try.prog 37 #[.pointer (some ⟨g, 0, none⟩)] w fun e w' => e = .returned (.int .i64 (dsync D).1) ∧ ∃ X', DevIs w0 g (dsync D).2 X' ∧ Known w0 w' (X' ++ L) := by
  have H1 := Lib.hid (son_any K hD)
  have hok := hD.ok
  cases hoff : D.off
  · rw [hoff] at H1
    by_cases hf : D.fuse = 0
    · have HB := Lib.hid (show decide (D.fuse = 0) = true from decide_eq_true hf)
      have HR := Lib.hid (show dsync D = (8, dfall D) by rw [dsync, hoff, if_pos hf]; rfl)
      have HBE := Lib.hid (dburn_id (D := D) (by omega))
      clear hf hoff
      go_enter Try.func37, Try.ntmps37
      go_wp2_with (first | (go_at_call 38; (with_reducible refine (H1.out).mono ?_); rintro e w' ⟨rfl, rfl⟩) | (go_at_call 72; (with_reducible refine (sburns_any K hD).mono ?_); clear K; rintro e w1 ⟨rfl, X1, HD1, K⟩; rw [HB.out]; rw [HBE.out] at HD1) | (go_at_call 33; (with_reducible refine (soff_any K HD1 ho).mono ?_); clear K; rintro e w1 ⟨rfl, X2, HD2, K⟩))
      go_ret
      exact ⟨by rw [HR.out]; rfl, X2, by rw [HR.out]; exact HD2, K⟩
    · have HB := Lib.hid (show decide (D.fuse = 0) = false from decide_eq_false hf)
      obtain ⟨D1, hD1⟩ : ∃ D1, D1 = dburn D := ⟨_, rfl⟩
      have HR := Lib.hid (show dsync D = (0, { D1 with kept := amerge D1.kept D1.waits, waits := [] }) by rw [hD1, dsync, hoff, if_neg hf]; rfl)
      have HOK := Lib.hid (show DevOk { D1 with kept := amerge D1.kept D1.waits, waits := [] } by rw [hD1]; exact dsync_ok hok)
      have HDE := Lib.hid hD1
      clear hf hoff hD1
      go_enter Try.func37, Try.ntmps37
      go_upto_region 6 with ((first | (go_at_call 38; (with_reducible refine (H1.out).mono ?_); rintro e w' ⟨rfl, rfl⟩) | (go_at_call 72; (with_reducible refine (sburns_any K hD).mono ?_); clear K; rintro e w1 ⟨rfl, X1, HD1, K⟩; rw [HB.out]; rw [← HDE.out] at HD1)))
      have hk1 := HD1.ok.rk
      have hw1 := HD1.ok.rw_
      obtain ⟨mk, mw, lk, ck, lw, cw, fz, Y, rfl, hfz, HK, HW⟩ := HD1.out
      simp only [List.cons_append] at K
      clear HD1 hD hok
      refine wp_region_GK K (Cov.all _) (by kernel_rfl) (by kernel_rfl) (by kernel_rfl) (fun K hHeld => ?_)
      refine wpG_take (i := 0) (x := { dst := some 10, op := Op.move (Operand.tmp 0), type := 36, pos := "sector.go:121", after := #[], guard := none }) (v := ?_) rfl (by kernel_rfl) (fun _ _ _ h => h) (Or.inl ⟨by rfl, ?_⟩) hHeld ?_
      rotate_left
      · (intro w hS; (clear hS; go_simp); try with_reducible rfl)
      try simp only [Act.put, List.setIfInBounds_toArray, List.set_cons_zero, List.set_cons_succ]
      refine wpG_take (i := 1) (x := { dst := some 11, op := Op.nilCheck (Operand.tmp 10), type := 0, pos := "sector.go:121", after := #[{ on := 0, ground := Ground.data }], guard := none }) (v := ?_) rfl (by kernel_rfl) (fun _ _ _ h => h) (Or.inl ⟨by rfl, ?_⟩) hHeld ?_
      rotate_left
      · (intro w hS; (clear hS; go_simp); try with_reducible rfl)
      try simp only [Act.put, List.setIfInBounds_toArray, List.set_cons_zero, List.set_cons_succ]
      refine wpG_take (i := 2) (x := { dst := some 12, op := Op.fieldAddr 108 (Operand.tmp 11) 2, type := 0, pos := "sector.go:121", after := #[{ on := 1, ground := Ground.data }], guard := none }) (v := ?_) rfl (by kernel_rfl) (fun _ _ _ h => h) (Or.inl ⟨by rfl, ?_⟩) hHeld ?_
      rotate_left
      · (intro w hS; (clear hS; go_simp); try with_reducible rfl)
      try simp only [Act.put, List.setIfInBounds_toArray, List.set_cons_zero, List.set_cons_succ]
      refine wpG_take (i := 3) (x := { dst := some 13, op := Op.load 106 (Operand.tmp 12), type := 106, pos := "sector.go:121", after := #[{ on := 2, ground := Ground.data }], guard := none }) (v := .map (some mk)) rfl (by kernel_rfl) (fun _ _ _ h => h) (Or.inl ⟨by rfl, ?_⟩) hHeld ?_
      · (intro w hS; first | exact kr_load_cell hS _ _ (by rfl) (by rfl) (by repeat (first | with_reducible exact Has.hd _ _ | with_reducible refine Has.tl _ ?_ | with_reducible refine Has.ap _ ?_)) (by kernel_rfl) (by rfl))
      try simp only [Act.put, List.setIfInBounds_toArray, List.set_cons_zero, List.set_cons_succ]
      refine wpG_take (i := 4) (x := { dst := some 14, op := Op.move (Operand.tmp 0), type := 36, pos := "sector.go:121", after := #[], guard := none }) (v := ?_) rfl (by kernel_rfl) (fun _ _ _ h => h) (Or.inl ⟨by rfl, ?_⟩) hHeld ?_
      rotate_left
      · (intro w hS; (clear hS; go_simp); try with_reducible rfl)
      try simp only [Act.put, List.setIfInBounds_toArray, List.set_cons_zero, List.set_cons_succ]
      refine wpG_take (i := 5) (x := { dst := some 15, op := Op.nilCheck (Operand.tmp 14), type := 0, pos := "sector.go:121", after := #[{ on := 4, ground := Ground.data }], guard := none }) (v := ?_) rfl (by kernel_rfl) (fun _ _ _ h => h) (Or.inl ⟨by rfl, ?_⟩) hHeld ?_
      rotate_left
      · (intro w hS; (clear hS; go_simp); try with_reducible rfl)
      try simp only [Act.put, List.setIfInBounds_toArray, List.set_cons_zero, List.set_cons_succ]
      refine wpG_take (i := 6) (x := { dst := some 16, op := Op.fieldAddr 108 (Operand.tmp 15) 3, type := 0, pos := "sector.go:121", after := #[{ on := 5, ground := Ground.data }], guard := none }) (v := ?_) rfl (by kernel_rfl) (fun _ _ _ h => h) (Or.inl ⟨by rfl, ?_⟩) hHeld ?_
      rotate_left
      · (intro w hS; (clear hS; go_simp); try with_reducible rfl)
      try simp only [Act.put, List.setIfInBounds_toArray, List.set_cons_zero, List.set_cons_succ]
      refine wpG_take (i := 7) (x := { dst := some 17, op := Op.load 106 (Operand.tmp 16), type := 106, pos := "sector.go:121", after := #[{ on := 6, ground := Ground.data }], guard := none }) (v := .map (some mw)) rfl (by kernel_rfl) (fun _ _ _ h => h) (Or.inl ⟨by rfl, ?_⟩) hHeld ?_
      · (intro w hS; first | exact kr_load_cell hS _ _ (by rfl) (by rfl) (by repeat (first | with_reducible exact Has.hd _ _ | with_reducible refine Has.tl _ ?_ | with_reducible refine Has.ap _ ?_)) (by kernel_rfl) (by rfl))
      try simp only [Act.put, List.setIfInBounds_toArray, List.set_cons_zero, List.set_cons_succ]
      refine wpG_last (i := 8) (o := { dst := some 18, op := Op.call { callee := Callee.value (Operand.func 73), args := #[Operand.tmp 13, Operand.tmp 17], argTypes := #[106, 106] }, type := 0, pos := "sector.go:121", after := #[{ on := 3, ground := Ground.data }, { on := 7, ground := Ground.data }], guard := none }) rfl (by kernel_rfl) (fun K9 hK => ?_)
      go_simp
      (go_at_call 73; (with_reducible refine (mcopy_any (K.cov (by repeat (first | with_reducible exact Cov.all _ | with_reducible exact Cov.left _ _ | with_reducible exact Cov.nil _ | (with_reducible apply Cov.app; (· repeat (first | with_reducible exact Sel.nil _ | with_reducible exact Sel.ap _ _ | with_reducible exact Sel.hd _ _ | with_reducible exact Sel.all _ | with_reducible apply Sel.tl | with_reducible apply Sel.sk))) | (with_reducible apply Cov.cons; (· repeat (first | with_reducible exact Sel.nil _ | with_reducible exact Sel.ap _ _ | with_reducible exact Sel.hd _ _ | with_reducible exact Sel.all _ | with_reducible apply Sel.tl | with_reducible apply Sel.sk))) | with_reducible refine Cov.drop _ ?_ | with_reducible refine Cov.skip _ ?_))) HK HW hk1 hw1).mono ?_); clear K; rintro e w1 ⟨rfl, l2, c2, HM, K⟩)
      refine hK.out _ _ ?_
      clear hK K9
      try simp only [Act.put, List.setIfInBounds_toArray, List.set_cons_zero, List.set_cons_succ]
      skip
      go_wp2_with (first | ((with_reducible refine at_clear1 (t := 106) rfl ?_); refine wpList_does rfl (kd_clear K rfl rfl (by repeat (first | with_reducible exact Repl.hd _ _ _ | with_reducible apply Repl.tl | with_reducible apply Repl.ap)) Try.underlying106) ?_; clear K; intro _ w1 K) | ((with_reducible refine at_eqnil rfl ?_); refine wpList_reads rfl (kr_eqnil rfl rfl (by kernel_rfl)) ?_) | ((with_reducible refine at_box rfl ?_); refine wpList_does rfl (kd_box K _ _ rfl (by conv => lhs; whnf)) ?_; clear K; rintro _ w1 ⟨g, rfl, K⟩; (try dsimp only [Value.cells] at K)) | ((with_reducible refine at_alloc rfl ?_); refine wpList_does rfl (kd_alloc K _ rfl rfl) ?_; clear K; rintro _ w1 ⟨g, rfl, K⟩; (try dsimp only [Value.cells] at K)) | ((with_reducible refine at_buildSlice rfl ?_); refine wpList_does rfl (kd_lits (cs := _) K _ _ _ rfl (by first | rfl | (go_simp; done) | (go_simp; rfl)) (by first | rfl | (go_simp; done) | (go_simp; rfl))) ?_; clear K; rintro _ w1 ⟨g, rfl, K⟩) | ((with_reducible refine at_load rfl ?_); first | (refine wpList_reads (by rfl) (kr_load_cell K _ _ (by rfl) (by rfl) (by repeat (first | with_reducible exact Has.hd _ _ | with_reducible refine Has.tl _ ?_ | with_reducible refine Has.ap _ ?_)) (by decide +kernel) (by (try simp only [List.getElem?_toArray, List.getElem?_cons_succ, List.getElem?_cons_zero]); exact rfl)) ?_) | (refine wpList_reads (by rfl) (kr_load_row K _ _ (by rfl) (by rfl) (by repeat (first | with_reducible exact Has.hd _ _ | with_reducible refine Has.tl _ ?_ | with_reducible refine Has.ap _ ?_)) (by decide +kernel) (by kernel_rfl)) ?_)) | ((with_reducible refine at_store rfl ?_); (first | (refine wpList_does rfl (kd_store_cell K _ _ _ rfl rfl (by conv => lhs; whnf) (by repeat (first | with_reducible exact Repl.hd _ _ _ | with_reducible apply Repl.tl | with_reducible apply Repl.ap)) rfl rfl (by kernel_rfl) (by kernel_rfl) (by first | (simp only [List.setIfInBounds_toArray, List.set_cons_succ, List.set_cons_zero]; rfl) | rfl)) ?_) | (refine wpList_does rfl (kd_store_row K _ _ _ rfl rfl rfl (by repeat (first | with_reducible exact Repl.hd _ _ _ | with_reducible apply Repl.tl | with_reducible apply Repl.ap)) (by kernel_rfl) (by kernel_rfl) (by kernel_rfl)) ?_)); clear K; intro _ w1 K; (try simp only [Act.put])))
      have K2 : Known w0 w1 (row g #[.int .i64 (D1.size : Nat), .int .i64 (D1.count : Nat), .map (some mk), .map (some mw), .bool D1.off, .int .i64 D1.offs, .bool (decide (0 ≤ D1.fuse)), .int .i64 fz, .int .u64 D1.writes] 108 :: mrow mk l2 c2 :: mrow mw [] cw :: (Y ++ L)) := K.cov (by repeat (first | with_reducible exact Cov.all _ | with_reducible exact Cov.left _ _ | with_reducible exact Cov.nil _ | (with_reducible apply Cov.app; (· repeat (first | with_reducible exact Sel.nil _ | with_reducible exact Sel.ap _ _ | with_reducible exact Sel.hd _ _ | with_reducible exact Sel.all _ | with_reducible apply Sel.tl | with_reducible apply Sel.sk))) | (with_reducible apply Cov.cons; (· repeat (first | with_reducible exact Sel.nil _ | with_reducible exact Sel.ap _ _ | with_reducible exact Sel.hd _ _ | with_reducible exact Sel.all _ | with_reducible apply Sel.tl | with_reducible apply Sel.sk))) | with_reducible refine Cov.drop _ ?_ | with_reducible refine Cov.skip _ ?_))
      go_ret
      exact ⟨by rw [HR.out]; rfl, _, ⟨⟨mk, mw, l2, c2, [], cw, fz, Y, rfl, by rw [HR.out]; exact hfz, by rw [HR.out]; exact HM, by rw [HR.out]; exact MapIs.nil _ _ _⟩, by rw [HR.out]; exact HOK.out⟩, by rw [HR.out]; exact K2⟩
  · rw [hoff] at H1
    have HR := Lib.hid (show dsync D = (8, D) by rw [dsync, hoff]; rfl)
    clear hoff
    go_enter Try.func37, Try.ntmps37
    go_wp2_with (first | (go_at_call 38; (with_reducible refine (H1.out).mono ?_); rintro e w' ⟨rfl, rfl⟩))
    go_ret
    exact ⟨by rw [HR.out]; rfl, X, by rw [HR.out]; exact hD, K⟩
end
end Go.Proofs.Ytokbloddaoakgaa
