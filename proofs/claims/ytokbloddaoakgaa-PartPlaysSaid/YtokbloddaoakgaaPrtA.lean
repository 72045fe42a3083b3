/-
  part: Open, Size, fits on a device (contracts).
-/
import Derived.Test.YtokbloddaoakgaaSecB
set_option linter.unusedVariables false
set_option linter.unusedSimpArgs false
namespace Go.Proofs.Ytokbloddaoakgaa
open Go.RowKit
/-- a part in memory -/
abbrev prow (gp g : Nat) (first count : Int) : Ent := row gp #[.pointer (some ⟨g, 0, none⟩), .int .i64 first, .int .i64 count] 104
def onR (n : Nat) (first count : Int) : Bool := decide (0 ≤ first) && (decide (1 ≤ count) && (decide (first ≤ n) && decide (count ≤ n - first)))
def fitsB (S at_ n : Int) : Bool := decide (0 ≤ at_) && (decide (0 ≤ n) && (decide (at_ ≤ S) && decide (n ≤ S - at_)))
theorem ret_boolP {a b : Bool} (h : a = b) : Ending.returned (.bool a) = Ending.returned (.bool b) := by rw [h]

section
variable {w0 w : World} {L X : List Ent} {g gp : Nat} {D : Dev} {first count : Int}
theorem ssizeK (K : Known w0 w (X ++ L)) (hD : DevIs w0 g D X) : Calls Try.prog 42 #[.pointer (some ⟨g, 0, none⟩)] w fun e w' => e = .returned (.int .i64 (D.size : Nat)) ∧ Known w0 w' (X ++ L) :=
  (ssize_any K hD).mono (by rintro e w' ⟨h, rfl⟩; exact ⟨h, K⟩)
theorem scountK (K : Known w0 w (X ++ L)) (hD : DevIs w0 g D X) : Calls Try.prog 43 #[.pointer (some ⟨g, 0, none⟩)] w fun e w' => e = .returned (.int .i64 (D.count : Nat)) ∧ Known w0 w' (X ++ L) :=
  (scount_any K hD).mono (by rintro e w' ⟨h, rfl⟩; exact ⟨h, K⟩)
set_option maxRecDepth 100000 in
theorem ron07_any (n : Nat) (hn : n ≤ 1048576) (hf : -9223372036854775808 ≤ first ∧ first ≤ 9223372036854775807) (K : Known w0 w L) : Calls Try.prog 20 #[.int .i64 n, .agg #[.int .i64 first, .int .i64 count]] w fun e w' => e = .returned (.bool (onR n first count)) ∧ Known w0 w' L := by
  by_cases h0 : 0 ≤ first
  rotate_left
  · skip
    have d0 : decide (0 ≤ first) = false := decide_eq_false h0
    have HR := Lib.hid (show onR n first count = false by simp [onR, h0])
    clear h0
    go_enter Try.func20, Try.ntmps20
    go_wp2_with (first | ((with_reducible refine at_eqnil rfl ?_); refine wpList_reads rfl (kr_eqnil rfl rfl (by kernel_rfl)) ?_) | ((with_reducible refine at_box rfl ?_); refine wpList_does rfl (kd_box K _ _ rfl (by conv => lhs; whnf)) ?_; clear K; rintro _ w1 ⟨g, rfl, K⟩; (try dsimp only [Value.cells] at K)) | ((with_reducible refine at_alloc rfl ?_); refine wpList_does rfl (kd_alloc K _ rfl rfl) ?_; clear K; rintro _ w1 ⟨g, rfl, K⟩; (try dsimp only [Value.cells] at K)) | ((with_reducible refine at_buildSlice rfl ?_); refine wpList_does rfl (kd_lits (cs := _) K _ _ _ rfl (by first | rfl | (go_simp; done) | (go_simp; rfl)) (by first | rfl | (go_simp; done) | (go_simp; rfl))) ?_; clear K; rintro _ w1 ⟨g, rfl, K⟩) | ((with_reducible refine at_load rfl ?_); first | (refine wpList_reads (by rfl) (kr_load_cell K _ _ (by rfl) (by rfl) (by repeat (first | with_reducible exact Has.hd _ _ | with_reducible refine Has.tl _ ?_ | with_reducible refine Has.ap _ ?_)) (by decide +kernel) (by (try simp only [List.getElem?_toArray, List.getElem?_cons_succ, List.getElem?_cons_zero]); exact rfl)) ?_) | (refine wpList_reads (by rfl) (kr_load_row K _ _ (by rfl) (by rfl) (by repeat (first | with_reducible exact Has.hd _ _ | with_reducible refine Has.tl _ ?_ | with_reducible refine Has.ap _ ?_)) (by decide +kernel) (by kernel_rfl)) ?_)) | ((with_reducible refine at_store rfl ?_); (first | (refine wpList_does rfl (kd_store_cell K _ _ _ rfl rfl (by conv => lhs; whnf) (by repeat (first | with_reducible exact Repl.hd _ _ _ | with_reducible apply Repl.tl | with_reducible apply Repl.ap)) rfl rfl (by kernel_rfl) (by kernel_rfl) (by first | (simp only [List.setIfInBounds_toArray, List.set_cons_succ, List.set_cons_zero]; rfl) | rfl)) ?_) | (refine wpList_does rfl (kd_store_row K _ _ _ rfl rfl rfl (by repeat (first | with_reducible exact Repl.hd _ _ _ | with_reducible apply Repl.tl | with_reducible apply Repl.ap)) (by kernel_rfl) (by kernel_rfl) (by kernel_rfl)) ?_)); clear K; intro _ w1 K; (try simp only [Act.put])))
    go_ret
    exact ⟨by rw [HR.out]; rfl, K.cov (by repeat (first | with_reducible exact Cov.all _ | with_reducible exact Cov.left _ _ | with_reducible exact Cov.nil _ | (with_reducible apply Cov.app; (· repeat (first | with_reducible exact Sel.nil _ | with_reducible exact Sel.ap _ _ | with_reducible exact Sel.hd _ _ | with_reducible exact Sel.all _ | with_reducible apply Sel.tl | with_reducible apply Sel.sk))) | (with_reducible apply Cov.cons; (· repeat (first | with_reducible exact Sel.nil _ | with_reducible exact Sel.ap _ _ | with_reducible exact Sel.hd _ _ | with_reducible exact Sel.all _ | with_reducible apply Sel.tl | with_reducible apply Sel.sk))) | with_reducible refine Cov.drop _ ?_ | with_reducible refine Cov.skip _ ?_))⟩
  by_cases h1 : 1 ≤ count
  rotate_left
  · skip
    have d0 : decide (0 ≤ first) = true := decide_eq_true h0
    have d1 : decide (1 ≤ count) = false := decide_eq_false h1
    have HR := Lib.hid (show onR n first count = false by simp [onR, h0, h1])
    clear h0 h1
    go_enter Try.func20, Try.ntmps20
    go_wp2_with (first | ((with_reducible refine at_eqnil rfl ?_); refine wpList_reads rfl (kr_eqnil rfl rfl (by kernel_rfl)) ?_) | ((with_reducible refine at_box rfl ?_); refine wpList_does rfl (kd_box K _ _ rfl (by conv => lhs; whnf)) ?_; clear K; rintro _ w1 ⟨g, rfl, K⟩; (try dsimp only [Value.cells] at K)) | ((with_reducible refine at_alloc rfl ?_); refine wpList_does rfl (kd_alloc K _ rfl rfl) ?_; clear K; rintro _ w1 ⟨g, rfl, K⟩; (try dsimp only [Value.cells] at K)) | ((with_reducible refine at_buildSlice rfl ?_); refine wpList_does rfl (kd_lits (cs := _) K _ _ _ rfl (by first | rfl | (go_simp; done) | (go_simp; rfl)) (by first | rfl | (go_simp; done) | (go_simp; rfl))) ?_; clear K; rintro _ w1 ⟨g, rfl, K⟩) | ((with_reducible refine at_load rfl ?_); first | (refine wpList_reads (by rfl) (kr_load_cell K _ _ (by rfl) (by rfl) (by repeat (first | with_reducible exact Has.hd _ _ | with_reducible refine Has.tl _ ?_ | with_reducible refine Has.ap _ ?_)) (by decide +kernel) (by (try simp only [List.getElem?_toArray, List.getElem?_cons_succ, List.getElem?_cons_zero]); exact rfl)) ?_) | (refine wpList_reads (by rfl) (kr_load_row K _ _ (by rfl) (by rfl) (by repeat (first | with_reducible exact Has.hd _ _ | with_reducible refine Has.tl _ ?_ | with_reducible refine Has.ap _ ?_)) (by decide +kernel) (by kernel_rfl)) ?_)) | ((with_reducible refine at_store rfl ?_); (first | (refine wpList_does rfl (kd_store_cell K _ _ _ rfl rfl (by conv => lhs; whnf) (by repeat (first | with_reducible exact Repl.hd _ _ _ | with_reducible apply Repl.tl | with_reducible apply Repl.ap)) rfl rfl (by kernel_rfl) (by kernel_rfl) (by first | (simp only [List.setIfInBounds_toArray, List.set_cons_succ, List.set_cons_zero]; rfl) | rfl)) ?_) | (refine wpList_does rfl (kd_store_row K _ _ _ rfl rfl rfl (by repeat (first | with_reducible exact Repl.hd _ _ _ | with_reducible apply Repl.tl | with_reducible apply Repl.ap)) (by kernel_rfl) (by kernel_rfl) (by kernel_rfl)) ?_)); clear K; intro _ w1 K; (try simp only [Act.put])))
    go_ret
    exact ⟨by rw [HR.out]; rfl, K.cov (by repeat (first | with_reducible exact Cov.all _ | with_reducible exact Cov.left _ _ | with_reducible exact Cov.nil _ | (with_reducible apply Cov.app; (· repeat (first | with_reducible exact Sel.nil _ | with_reducible exact Sel.ap _ _ | with_reducible exact Sel.hd _ _ | with_reducible exact Sel.all _ | with_reducible apply Sel.tl | with_reducible apply Sel.sk))) | (with_reducible apply Cov.cons; (· repeat (first | with_reducible exact Sel.nil _ | with_reducible exact Sel.ap _ _ | with_reducible exact Sel.hd _ _ | with_reducible exact Sel.all _ | with_reducible apply Sel.tl | with_reducible apply Sel.sk))) | with_reducible refine Cov.drop _ ?_ | with_reducible refine Cov.skip _ ?_))⟩
  by_cases h2 : first ≤ (n : Int)
  rotate_left
  · skip
    have d0 : decide (0 ≤ first) = true := decide_eq_true h0
    have d1 : decide (1 ≤ count) = true := decide_eq_true h1
    have d2 : decide (first ≤ (n : Int)) = false := decide_eq_false h2
    have HR := Lib.hid (show onR n first count = false by simp [onR, h0, h1, h2])
    clear h0 h1 h2
    go_enter Try.func20, Try.ntmps20
    go_wp2_with (first | ((with_reducible refine at_eqnil rfl ?_); refine wpList_reads rfl (kr_eqnil rfl rfl (by kernel_rfl)) ?_) | ((with_reducible refine at_box rfl ?_); refine wpList_does rfl (kd_box K _ _ rfl (by conv => lhs; whnf)) ?_; clear K; rintro _ w1 ⟨g, rfl, K⟩; (try dsimp only [Value.cells] at K)) | ((with_reducible refine at_alloc rfl ?_); refine wpList_does rfl (kd_alloc K _ rfl rfl) ?_; clear K; rintro _ w1 ⟨g, rfl, K⟩; (try dsimp only [Value.cells] at K)) | ((with_reducible refine at_buildSlice rfl ?_); refine wpList_does rfl (kd_lits (cs := _) K _ _ _ rfl (by first | rfl | (go_simp; done) | (go_simp; rfl)) (by first | rfl | (go_simp; done) | (go_simp; rfl))) ?_; clear K; rintro _ w1 ⟨g, rfl, K⟩) | ((with_reducible refine at_load rfl ?_); first | (refine wpList_reads (by rfl) (kr_load_cell K _ _ (by rfl) (by rfl) (by repeat (first | with_reducible exact Has.hd _ _ | with_reducible refine Has.tl _ ?_ | with_reducible refine Has.ap _ ?_)) (by decide +kernel) (by (try simp only [List.getElem?_toArray, List.getElem?_cons_succ, List.getElem?_cons_zero]); exact rfl)) ?_) | (refine wpList_reads (by rfl) (kr_load_row K _ _ (by rfl) (by rfl) (by repeat (first | with_reducible exact Has.hd _ _ | with_reducible refine Has.tl _ ?_ | with_reducible refine Has.ap _ ?_)) (by decide +kernel) (by kernel_rfl)) ?_)) | ((with_reducible refine at_store rfl ?_); (first | (refine wpList_does rfl (kd_store_cell K _ _ _ rfl rfl (by conv => lhs; whnf) (by repeat (first | with_reducible exact Repl.hd _ _ _ | with_reducible apply Repl.tl | with_reducible apply Repl.ap)) rfl rfl (by kernel_rfl) (by kernel_rfl) (by first | (simp only [List.setIfInBounds_toArray, List.set_cons_succ, List.set_cons_zero]; rfl) | rfl)) ?_) | (refine wpList_does rfl (kd_store_row K _ _ _ rfl rfl rfl (by repeat (first | with_reducible exact Repl.hd _ _ _ | with_reducible apply Repl.tl | with_reducible apply Repl.ap)) (by kernel_rfl) (by kernel_rfl) (by kernel_rfl)) ?_)); clear K; intro _ w1 K; (try simp only [Act.put])))
    go_ret
    exact ⟨by rw [HR.out]; rfl, K.cov (by repeat (first | with_reducible exact Cov.all _ | with_reducible exact Cov.left _ _ | with_reducible exact Cov.nil _ | (with_reducible apply Cov.app; (· repeat (first | with_reducible exact Sel.nil _ | with_reducible exact Sel.ap _ _ | with_reducible exact Sel.hd _ _ | with_reducible exact Sel.all _ | with_reducible apply Sel.tl | with_reducible apply Sel.sk))) | (with_reducible apply Cov.cons; (· repeat (first | with_reducible exact Sel.nil _ | with_reducible exact Sel.ap _ _ | with_reducible exact Sel.hd _ _ | with_reducible exact Sel.all _ | with_reducible apply Sel.tl | with_reducible apply Sel.sk))) | with_reducible refine Cov.drop _ ?_ | with_reducible refine Cov.skip _ ?_))⟩
  by_cases h3 : count ≤ (n : Int) - first
  rotate_left
  · skip
    have i1 := IntWalk.i64_in ((n : Int) - first) (by omega)
    have d0 : decide (0 ≤ first) = true := decide_eq_true h0
    have d1 : decide (1 ≤ count) = true := decide_eq_true h1
    have d2 : decide (first ≤ (n : Int)) = true := decide_eq_true h2
    have d3 : decide (count ≤ (n : Int) - first) = false := decide_eq_false h3
    have HR := Lib.hid (show onR n first count = false by simp [onR, h0, h1, h2, h3])
    clear h0 h1 h2 h3
    go_enter Try.func20, Try.ntmps20
    go_wp2_with (first | ((with_reducible refine at_eqnil rfl ?_); refine wpList_reads rfl (kr_eqnil rfl rfl (by kernel_rfl)) ?_) | ((with_reducible refine at_box rfl ?_); refine wpList_does rfl (kd_box K _ _ rfl (by conv => lhs; whnf)) ?_; clear K; rintro _ w1 ⟨g, rfl, K⟩; (try dsimp only [Value.cells] at K)) | ((with_reducible refine at_alloc rfl ?_); refine wpList_does rfl (kd_alloc K _ rfl rfl) ?_; clear K; rintro _ w1 ⟨g, rfl, K⟩; (try dsimp only [Value.cells] at K)) | ((with_reducible refine at_buildSlice rfl ?_); refine wpList_does rfl (kd_lits (cs := _) K _ _ _ rfl (by first | rfl | (go_simp; done) | (go_simp; rfl)) (by first | rfl | (go_simp; done) | (go_simp; rfl))) ?_; clear K; rintro _ w1 ⟨g, rfl, K⟩) | ((with_reducible refine at_load rfl ?_); first | (refine wpList_reads (by rfl) (kr_load_cell K _ _ (by rfl) (by rfl) (by repeat (first | with_reducible exact Has.hd _ _ | with_reducible refine Has.tl _ ?_ | with_reducible refine Has.ap _ ?_)) (by decide +kernel) (by (try simp only [List.getElem?_toArray, List.getElem?_cons_succ, List.getElem?_cons_zero]); exact rfl)) ?_) | (refine wpList_reads (by rfl) (kr_load_row K _ _ (by rfl) (by rfl) (by repeat (first | with_reducible exact Has.hd _ _ | with_reducible refine Has.tl _ ?_ | with_reducible refine Has.ap _ ?_)) (by decide +kernel) (by kernel_rfl)) ?_)) | ((with_reducible refine at_store rfl ?_); (first | (refine wpList_does rfl (kd_store_cell K _ _ _ rfl rfl (by conv => lhs; whnf) (by repeat (first | with_reducible exact Repl.hd _ _ _ | with_reducible apply Repl.tl | with_reducible apply Repl.ap)) rfl rfl (by kernel_rfl) (by kernel_rfl) (by first | (simp only [List.setIfInBounds_toArray, List.set_cons_succ, List.set_cons_zero]; rfl) | rfl)) ?_) | (refine wpList_does rfl (kd_store_row K _ _ _ rfl rfl rfl (by repeat (first | with_reducible exact Repl.hd _ _ _ | with_reducible apply Repl.tl | with_reducible apply Repl.ap)) (by kernel_rfl) (by kernel_rfl) (by kernel_rfl)) ?_)); clear K; intro _ w1 K; (try simp only [Act.put])))
    go_ret
    exact ⟨by rw [HR.out]; rfl, K.cov (by repeat (first | with_reducible exact Cov.all _ | with_reducible exact Cov.left _ _ | with_reducible exact Cov.nil _ | (with_reducible apply Cov.app; (· repeat (first | with_reducible exact Sel.nil _ | with_reducible exact Sel.ap _ _ | with_reducible exact Sel.hd _ _ | with_reducible exact Sel.all _ | with_reducible apply Sel.tl | with_reducible apply Sel.sk))) | (with_reducible apply Cov.cons; (· repeat (first | with_reducible exact Sel.nil _ | with_reducible exact Sel.ap _ _ | with_reducible exact Sel.hd _ _ | with_reducible exact Sel.all _ | with_reducible apply Sel.tl | with_reducible apply Sel.sk))) | with_reducible refine Cov.drop _ ?_ | with_reducible refine Cov.skip _ ?_))⟩
  have i1 := IntWalk.i64_in ((n : Int) - first) (by omega)
  have d0 : decide (0 ≤ first) = true := decide_eq_true h0
  have d1 : decide (1 ≤ count) = true := decide_eq_true h1
  have d2 : decide (first ≤ (n : Int)) = true := decide_eq_true h2
  have d3 : decide (count ≤ (n : Int) - first) = true := decide_eq_true h3
  have HR := Lib.hid (show onR n first count = true by simp [onR, h0, h1, h2, h3])
  clear h0 h1 h2 h3
  go_enter Try.func20, Try.ntmps20
  go_wp2_with (first | ((with_reducible refine at_eqnil rfl ?_); refine wpList_reads rfl (kr_eqnil rfl rfl (by kernel_rfl)) ?_) | ((with_reducible refine at_box rfl ?_); refine wpList_does rfl (kd_box K _ _ rfl (by conv => lhs; whnf)) ?_; clear K; rintro _ w1 ⟨g, rfl, K⟩; (try dsimp only [Value.cells] at K)) | ((with_reducible refine at_alloc rfl ?_); refine wpList_does rfl (kd_alloc K _ rfl rfl) ?_; clear K; rintro _ w1 ⟨g, rfl, K⟩; (try dsimp only [Value.cells] at K)) | ((with_reducible refine at_buildSlice rfl ?_); refine wpList_does rfl (kd_lits (cs := _) K _ _ _ rfl (by first | rfl | (go_simp; done) | (go_simp; rfl)) (by first | rfl | (go_simp; done) | (go_simp; rfl))) ?_; clear K; rintro _ w1 ⟨g, rfl, K⟩) | ((with_reducible refine at_load rfl ?_); first | (refine wpList_reads (by rfl) (kr_load_cell K _ _ (by rfl) (by rfl) (by repeat (first | with_reducible exact Has.hd _ _ | with_reducible refine Has.tl _ ?_ | with_reducible refine Has.ap _ ?_)) (by decide +kernel) (by (try simp only [List.getElem?_toArray, List.getElem?_cons_succ, List.getElem?_cons_zero]); exact rfl)) ?_) | (refine wpList_reads (by rfl) (kr_load_row K _ _ (by rfl) (by rfl) (by repeat (first | with_reducible exact Has.hd _ _ | with_reducible refine Has.tl _ ?_ | with_reducible refine Has.ap _ ?_)) (by decide +kernel) (by kernel_rfl)) ?_)) | ((with_reducible refine at_store rfl ?_); (first | (refine wpList_does rfl (kd_store_cell K _ _ _ rfl rfl (by conv => lhs; whnf) (by repeat (first | with_reducible exact Repl.hd _ _ _ | with_reducible apply Repl.tl | with_reducible apply Repl.ap)) rfl rfl (by kernel_rfl) (by kernel_rfl) (by first | (simp only [List.setIfInBounds_toArray, List.set_cons_succ, List.set_cons_zero]; rfl) | rfl)) ?_) | (refine wpList_does rfl (kd_store_row K _ _ _ rfl rfl rfl (by repeat (first | with_reducible exact Repl.hd _ _ _ | with_reducible apply Repl.tl | with_reducible apply Repl.ap)) (by kernel_rfl) (by kernel_rfl) (by kernel_rfl)) ?_)); clear K; intro _ w1 K; (try simp only [Act.put])))
  go_ret
  exact ⟨by rw [HR.out]; rfl, K.cov (by repeat (first | with_reducible exact Cov.all _ | with_reducible exact Cov.left _ _ | with_reducible exact Cov.nil _ | (with_reducible apply Cov.app; (· repeat (first | with_reducible exact Sel.nil _ | with_reducible exact Sel.ap _ _ | with_reducible exact Sel.hd _ _ | with_reducible exact Sel.all _ | with_reducible apply Sel.tl | with_reducible apply Sel.sk))) | (with_reducible apply Cov.cons; (· repeat (first | with_reducible exact Sel.nil _ | with_reducible exact Sel.ap _ _ | with_reducible exact Sel.hd _ _ | with_reducible exact Sel.all _ | with_reducible apply Sel.tl | with_reducible apply Sel.sk))) | with_reducible refine Cov.drop _ ?_ | with_reducible refine Cov.skip _ ?_))⟩
set_option maxRecDepth 100000 in
theorem popen_yes (K : Known w0 w (X ++ L)) (hD : DevIs w0 g D X) (h : onR D.count first count = true) : Calls Try.prog 16 #[.pointer (some ⟨g, 0, none⟩), .agg #[.int .i64 first, .int .i64 count]] w fun e w' => ∃ gp, e = .returned (.tuple #[.pointer (some ⟨gp, 0, none⟩), .int .i64 0]) ∧ Known w0 w' (X ++ (prow gp g first count :: L)) := by
  simp only [onR, Bool.and_eq_true, decide_eq_true_eq] at h
  obtain ⟨h1, h2, h3, h4⟩ := h
  have hc := hD.ok.count
  have d1 : decide (first < 0) = false := decide_eq_false (by omega)
  have d2 : decide (count < 1) = false := decide_eq_false (by omega)
  have d3 : decide ((D.count : Int) < first) = false := decide_eq_false (by omega)
  have d4 : decide ((D.count : Int) - first < count) = false := decide_eq_false (by omega)
  have i1 := IntWalk.i64_in ((D.count : Int) - first) (by omega)
  go_enter Try.func16, Try.ntmps16
  go_upto_region 1 with ((first | ((with_reducible refine at_box rfl ?_); refine wpList_does rfl (kd_box K _ _ rfl (by conv => lhs; whnf)) ?_; clear K; rintro _ w1 ⟨gr, rfl, K⟩; (try dsimp only [Value.cells] at K)) | ((with_reducible refine at_eqnil rfl ?_); refine wpList_reads rfl (kr_eqnil rfl rfl (by kernel_rfl)) ?_) | ((with_reducible refine at_box rfl ?_); refine wpList_does rfl (kd_box K _ _ rfl (by conv => lhs; whnf)) ?_; clear K; rintro _ w1 ⟨g, rfl, K⟩; (try dsimp only [Value.cells] at K)) | ((with_reducible refine at_alloc rfl ?_); refine wpList_does rfl (kd_alloc K _ rfl rfl) ?_; clear K; rintro _ w1 ⟨g, rfl, K⟩; (try dsimp only [Value.cells] at K)) | ((with_reducible refine at_buildSlice rfl ?_); refine wpList_does rfl (kd_lits (cs := _) K _ _ _ rfl (by first | rfl | (go_simp; done) | (go_simp; rfl)) (by first | rfl | (go_simp; done) | (go_simp; rfl))) ?_; clear K; rintro _ w1 ⟨g, rfl, K⟩) | ((with_reducible refine at_load rfl ?_); first | (refine wpList_reads (by rfl) (kr_load_cell K _ _ (by rfl) (by rfl) (by repeat (first | with_reducible exact Has.hd _ _ | with_reducible refine Has.tl _ ?_ | with_reducible refine Has.ap _ ?_)) (by decide +kernel) (by (try simp only [List.getElem?_toArray, List.getElem?_cons_succ, List.getElem?_cons_zero]); exact rfl)) ?_) | (refine wpList_reads (by rfl) (kr_load_row K _ _ (by rfl) (by rfl) (by repeat (first | with_reducible exact Has.hd _ _ | with_reducible refine Has.tl _ ?_ | with_reducible refine Has.ap _ ?_)) (by decide +kernel) (by kernel_rfl)) ?_)) | ((with_reducible refine at_store rfl ?_); (first | (refine wpList_does rfl (kd_store_cell K _ _ _ rfl rfl (by conv => lhs; whnf) (by repeat (first | with_reducible exact Repl.hd _ _ _ | with_reducible apply Repl.tl | with_reducible apply Repl.ap)) rfl rfl (by kernel_rfl) (by kernel_rfl) (by first | (simp only [List.setIfInBounds_toArray, List.set_cons_succ, List.set_cons_zero]; rfl) | rfl)) ?_) | (refine wpList_does rfl (kd_store_row K _ _ _ rfl rfl rfl (by repeat (first | with_reducible exact Repl.hd _ _ _ | with_reducible apply Repl.tl | with_reducible apply Repl.ap)) (by kernel_rfl) (by kernel_rfl) (by kernel_rfl)) ?_)); clear K; intro _ w1 K; (try simp only [Act.put]))))
  replace K : Known w0 w1 (X ++ (row gr #[.int .i64 first, .int .i64 count] 23 :: L)) := K.cov (by repeat (first | with_reducible exact Cov.all _ | with_reducible exact Cov.left _ _ | with_reducible exact Cov.nil _ | (with_reducible apply Cov.app; (· repeat (first | with_reducible exact Sel.nil _ | with_reducible exact Sel.ap _ _ | with_reducible exact Sel.hd _ _ | with_reducible exact Sel.all _ | with_reducible apply Sel.tl | with_reducible apply Sel.sk))) | (with_reducible apply Cov.cons; (· repeat (first | with_reducible exact Sel.nil _ | with_reducible exact Sel.ap _ _ | with_reducible exact Sel.hd _ _ | with_reducible exact Sel.all _ | with_reducible apply Sel.tl | with_reducible apply Sel.sk))) | with_reducible refine Cov.drop _ ?_ | with_reducible refine Cov.skip _ ?_))
  refine wp_region_QLK K (by kernel_rfl) (by kernel_rfl) ?_
  clear K
  refine wpQL_step (k := 0) (x := { dst := some 6, op := Op.fieldAddr 23 (Operand.tmp 3) 0, type := 0, pos := "part.go:51", after := #[], guard := none }) (v := ?_) rfl (by kernel_rfl) (by rfl) ?_ ?_
  rotate_left
  · (intro w hS; refine quiet_value ?_; (clear hS; go_simp); try with_reducible rfl)
  try simp only [Act.put, List.setIfInBounds_toArray, List.set_cons_zero, List.set_cons_succ]
  refine wpQL_step (k := 1) (x := { dst := some 7, op := Op.load 3 (Operand.tmp 6), type := 3, pos := "part.go:51", after := #[{ on := 0, ground := Ground.data }], guard := none }) (v := .int .i64 first) rfl (by kernel_rfl) (by rfl) ?_ ?_
  · (intro w hS; refine quiet_value ?_; first | exact kr_load_cell hS _ _ (by rfl) (by rfl) (by repeat (first | with_reducible exact Has.hd _ _ | with_reducible refine Has.tl _ ?_ | with_reducible refine Has.ap _ ?_)) (by kernel_rfl) (by rfl))
  try simp only [Act.put, List.setIfInBounds_toArray, List.set_cons_zero, List.set_cons_succ]
  refine wpQL_step (k := 2) (x := { dst := some 8, op := Op.binOp BinOp.lss 3 (Operand.tmp 7) (Operand.const (Value.int IntKind.i64 0)) 3, type := 4, pos := "part.go:51", after := #[{ on := 1, ground := Ground.data }], guard := none }) (v := ?_) rfl (by kernel_rfl) (by rfl) ?_ ?_
  rotate_left
  · (intro w hS; refine quiet_value ?_; (clear hS; go_simp); try with_reducible rfl)
  try simp only [Act.put, List.setIfInBounds_toArray, List.set_cons_zero, List.set_cons_succ]
  refine wpQL_step (k := 3) (x := { dst := some 9, op := Op.move (Operand.tmp 8), type := 4, pos := "part.go:51", after := #[{ on := 2, ground := Ground.data }], guard := none }) (v := ?_) rfl (by kernel_rfl) (by rfl) ?_ ?_
  rotate_left
  · (intro w hS; refine quiet_value ?_; (clear hS; go_simp); try with_reducible rfl)
  try simp only [Act.put, List.setIfInBounds_toArray, List.set_cons_zero, List.set_cons_succ]
  refine wpQL_step (k := 4) (x := { dst := some 10, op := Op.fieldAddr 23 (Operand.tmp 3) 1, type := 0, pos := "part.go:51", after := #[{ on := 3, ground := Ground.guard }], guard := some (3, false) }) (v := ?_) rfl (by kernel_rfl) (by rfl) ?_ ?_
  rotate_left
  · (intro w hS; refine quiet_value ?_; (clear hS; go_simp); try with_reducible rfl)
  try simp only [Act.put, List.setIfInBounds_toArray, List.set_cons_zero, List.set_cons_succ]
  refine wpQL_step (k := 5) (x := { dst := some 11, op := Op.load 3 (Operand.tmp 10), type := 3, pos := "part.go:51", after := #[{ on := 4, ground := Ground.data }, { on := 3, ground := Ground.guard }], guard := some (3, false) }) (v := .int .i64 count) rfl (by kernel_rfl) (by rfl) ?_ ?_
  · (intro w hS; refine quiet_value ?_; first | exact kr_load_cell hS _ _ (by rfl) (by rfl) (by repeat (first | with_reducible exact Has.hd _ _ | with_reducible refine Has.tl _ ?_ | with_reducible refine Has.ap _ ?_)) (by kernel_rfl) (by rfl))
  try simp only [Act.put, List.setIfInBounds_toArray, List.set_cons_zero, List.set_cons_succ]
  refine wpQL_step (k := 6) (x := { dst := some 12, op := Op.binOp BinOp.lss 3 (Operand.tmp 11) (Operand.const (Value.int IntKind.i64 1)) 3, type := 4, pos := "part.go:51", after := #[{ on := 5, ground := Ground.data }, { on := 3, ground := Ground.guard }], guard := some (3, false) }) (v := ?_) rfl (by kernel_rfl) (by rfl) ?_ ?_
  rotate_left
  · (intro w hS; refine quiet_value ?_; (clear hS; go_simp); try with_reducible rfl)
  try simp only [Act.put, List.setIfInBounds_toArray, List.set_cons_zero, List.set_cons_succ]
  refine wpQL_step (k := 7) (x := { dst := some 13, op := Op.pick (Operand.tmp 9) (Operand.const (Value.bool true)) (Operand.tmp 12), type := 4, pos := "part.go:51", after := #[{ on := 3, ground := Ground.data }, { on := 6, ground := Ground.data }], guard := none }) (v := ?_) rfl (by kernel_rfl) (by rfl) ?_ ?_
  rotate_left
  · (intro w hS; refine quiet_value ?_; (clear hS; go_simp); try with_reducible rfl)
  try simp only [Act.put, List.setIfInBounds_toArray, List.set_cons_zero, List.set_cons_succ]
  refine wpQL_step (k := 8) (x := { dst := some 14, op := Op.move (Operand.tmp 13), type := 4, pos := "part.go:51", after := #[{ on := 7, ground := Ground.data }, { on := 3, ground := Ground.chain }], guard := none }) (v := ?_) rfl (by kernel_rfl) (by rfl) ?_ ?_
  rotate_left
  · (intro w hS; refine quiet_value ?_; (clear hS; go_simp); try with_reducible rfl)
  try simp only [Act.put, List.setIfInBounds_toArray, List.set_cons_zero, List.set_cons_succ]
  refine wpQL_step (k := 9) (x := { dst := some 15, op := Op.fieldAddr 23 (Operand.tmp 3) 0, type := 0, pos := "part.go:51", after := #[{ on := 8, ground := Ground.guard }], guard := some (8, false) }) (v := ?_) rfl (by kernel_rfl) (by rfl) ?_ ?_
  rotate_left
  · (intro w hS; refine quiet_value ?_; (clear hS; go_simp); try with_reducible rfl)
  try simp only [Act.put, List.setIfInBounds_toArray, List.set_cons_zero, List.set_cons_succ]
  refine wpQL_step (k := 10) (x := { dst := some 16, op := Op.load 3 (Operand.tmp 15), type := 3, pos := "part.go:51", after := #[{ on := 9, ground := Ground.data }, { on := 8, ground := Ground.guard }], guard := some (8, false) }) (v := .int .i64 first) rfl (by kernel_rfl) (by rfl) ?_ ?_
  · (intro w hS; refine quiet_value ?_; first | exact kr_load_cell hS _ _ (by rfl) (by rfl) (by repeat (first | with_reducible exact Has.hd _ _ | with_reducible refine Has.tl _ ?_ | with_reducible refine Has.ap _ ?_)) (by kernel_rfl) (by rfl))
  try simp only [Act.put, List.setIfInBounds_toArray, List.set_cons_zero, List.set_cons_succ]
  refine wpQL_step (k := 11) (x := { dst := some 17, op := Op.move (Operand.tmp 0), type := 36, pos := "part.go:51", after := #[{ on := 8, ground := Ground.guard }], guard := some (8, false) }) (v := ?_) rfl (by kernel_rfl) (by rfl) ?_ ?_
  rotate_left
  · (intro w hS; refine quiet_value ?_; (clear hS; go_simp); try with_reducible rfl)
  try simp only [Act.put, List.setIfInBounds_toArray, List.set_cons_zero, List.set_cons_succ]
  refine wpQL_step (k := 12) (x := { dst := some 18, op := Op.call { callee := Callee.value (Operand.func 43), args := #[Operand.tmp 17], argTypes := #[36] }, type := 3, pos := "part.go:51", after := #[{ on := 11, ground := Ground.data }, { on := 8, ground := Ground.chain }, { on := 8, ground := Ground.guard }], guard := some (8, false) }) (v := .int .i64 (D.count : Nat)) rfl (by kernel_rfl) (by rfl) ?_ ?_
  · intro w hS
    refine quiet_call (f := 43) (args := ?_) ?_ ?_
    rotate_left
    · (go_simp; try with_reducible rfl)
    · exact (scountK hS hD)
  try simp only [Act.put, List.setIfInBounds_toArray, List.set_cons_zero, List.set_cons_succ]
  refine wpQL_step (k := 13) (x := { dst := some 19, op := Op.binOp BinOp.gtr 3 (Operand.tmp 16) (Operand.tmp 18) 3, type := 4, pos := "part.go:51", after := #[{ on := 10, ground := Ground.data }, { on := 12, ground := Ground.data }, { on := 8, ground := Ground.guard }], guard := some (8, false) }) (v := ?_) rfl (by kernel_rfl) (by rfl) ?_ ?_
  rotate_left
  · (intro w hS; refine quiet_value ?_; (clear hS; go_simp); try with_reducible rfl)
  try simp only [Act.put, List.setIfInBounds_toArray, List.set_cons_zero, List.set_cons_succ]
  refine wpQL_step (k := 14) (x := { dst := some 20, op := Op.pick (Operand.tmp 14) (Operand.const (Value.bool true)) (Operand.tmp 19), type := 4, pos := "part.go:51", after := #[{ on := 8, ground := Ground.data }, { on := 13, ground := Ground.data }], guard := none }) (v := ?_) rfl (by kernel_rfl) (by rfl) ?_ ?_
  rotate_left
  · (intro w hS; refine quiet_value ?_; (clear hS; go_simp); try with_reducible rfl)
  try simp only [Act.put, List.setIfInBounds_toArray, List.set_cons_zero, List.set_cons_succ]
  refine wpQL_step (k := 15) (x := { dst := some 21, op := Op.move (Operand.tmp 20), type := 4, pos := "part.go:51", after := #[{ on := 14, ground := Ground.data }, { on := 12, ground := Ground.chain }], guard := none }) (v := ?_) rfl (by kernel_rfl) (by rfl) ?_ ?_
  rotate_left
  · (intro w hS; refine quiet_value ?_; (clear hS; go_simp); try with_reducible rfl)
  try simp only [Act.put, List.setIfInBounds_toArray, List.set_cons_zero, List.set_cons_succ]
  refine wpQL_step (k := 16) (x := { dst := some 22, op := Op.fieldAddr 23 (Operand.tmp 3) 1, type := 0, pos := "part.go:51", after := #[{ on := 15, ground := Ground.guard }], guard := some (15, false) }) (v := ?_) rfl (by kernel_rfl) (by rfl) ?_ ?_
  rotate_left
  · (intro w hS; refine quiet_value ?_; (clear hS; go_simp); try with_reducible rfl)
  try simp only [Act.put, List.setIfInBounds_toArray, List.set_cons_zero, List.set_cons_succ]
  refine wpQL_step (k := 17) (x := { dst := some 23, op := Op.load 3 (Operand.tmp 22), type := 3, pos := "part.go:51", after := #[{ on := 16, ground := Ground.data }, { on := 15, ground := Ground.guard }], guard := some (15, false) }) (v := .int .i64 count) rfl (by kernel_rfl) (by rfl) ?_ ?_
  · (intro w hS; refine quiet_value ?_; first | exact kr_load_cell hS _ _ (by rfl) (by rfl) (by repeat (first | with_reducible exact Has.hd _ _ | with_reducible refine Has.tl _ ?_ | with_reducible refine Has.ap _ ?_)) (by kernel_rfl) (by rfl))
  try simp only [Act.put, List.setIfInBounds_toArray, List.set_cons_zero, List.set_cons_succ]
  refine wpQL_step (k := 18) (x := { dst := some 24, op := Op.move (Operand.tmp 0), type := 36, pos := "part.go:51", after := #[{ on := 15, ground := Ground.guard }], guard := some (15, false) }) (v := ?_) rfl (by kernel_rfl) (by rfl) ?_ ?_
  rotate_left
  · (intro w hS; refine quiet_value ?_; (clear hS; go_simp); try with_reducible rfl)
  try simp only [Act.put, List.setIfInBounds_toArray, List.set_cons_zero, List.set_cons_succ]
  refine wpQL_step (k := 19) (x := { dst := some 25, op := Op.call { callee := Callee.value (Operand.func 43), args := #[Operand.tmp 24], argTypes := #[36] }, type := 3, pos := "part.go:51", after := #[{ on := 18, ground := Ground.data }, { on := 15, ground := Ground.chain }, { on := 15, ground := Ground.guard }], guard := some (15, false) }) (v := .int .i64 (D.count : Nat)) rfl (by kernel_rfl) (by rfl) ?_ ?_
  · intro w hS
    refine quiet_call (f := 43) (args := ?_) ?_ ?_
    rotate_left
    · (go_simp; try with_reducible rfl)
    · exact (scountK hS hD)
  try simp only [Act.put, List.setIfInBounds_toArray, List.set_cons_zero, List.set_cons_succ]
  refine wpQL_step (k := 20) (x := { dst := some 26, op := Op.fieldAddr 23 (Operand.tmp 3) 0, type := 0, pos := "part.go:51", after := #[{ on := 15, ground := Ground.guard }], guard := some (15, false) }) (v := ?_) rfl (by kernel_rfl) (by rfl) ?_ ?_
  rotate_left
  · (intro w hS; refine quiet_value ?_; (clear hS; go_simp); try with_reducible rfl)
  try simp only [Act.put, List.setIfInBounds_toArray, List.set_cons_zero, List.set_cons_succ]
  refine wpQL_step (k := 21) (x := { dst := some 27, op := Op.load 3 (Operand.tmp 26), type := 3, pos := "part.go:51", after := #[{ on := 20, ground := Ground.data }, { on := 15, ground := Ground.guard }], guard := some (15, false) }) (v := .int .i64 first) rfl (by kernel_rfl) (by rfl) ?_ ?_
  · (intro w hS; refine quiet_value ?_; first | exact kr_load_cell hS _ _ (by rfl) (by rfl) (by repeat (first | with_reducible exact Has.hd _ _ | with_reducible refine Has.tl _ ?_ | with_reducible refine Has.ap _ ?_)) (by kernel_rfl) (by rfl))
  try simp only [Act.put, List.setIfInBounds_toArray, List.set_cons_zero, List.set_cons_succ]
  refine wpQL_step (k := 22) (x := { dst := some 28, op := Op.binOp BinOp.sub 3 (Operand.tmp 25) (Operand.tmp 27) 3, type := 3, pos := "part.go:51", after := #[{ on := 19, ground := Ground.data }, { on := 21, ground := Ground.data }, { on := 15, ground := Ground.guard }], guard := some (15, false) }) (v := ?_) rfl (by kernel_rfl) (by rfl) ?_ ?_
  rotate_left
  · (intro w hS; refine quiet_value ?_; (clear hS; go_simp); try with_reducible rfl)
  try simp only [Act.put, List.setIfInBounds_toArray, List.set_cons_zero, List.set_cons_succ]
  refine wpQL_step (k := 23) (x := { dst := some 29, op := Op.binOp BinOp.gtr 3 (Operand.tmp 23) (Operand.tmp 28) 3, type := 4, pos := "part.go:51", after := #[{ on := 17, ground := Ground.data }, { on := 22, ground := Ground.data }, { on := 15, ground := Ground.guard }], guard := some (15, false) }) (v := ?_) rfl (by kernel_rfl) (by rfl) ?_ ?_
  rotate_left
  · (intro w hS; refine quiet_value ?_; (clear hS; go_simp); try with_reducible rfl)
  try simp only [Act.put, List.setIfInBounds_toArray, List.set_cons_zero, List.set_cons_succ]
  refine wpQL_end (k := 24) (x := { dst := some 30, op := Op.pick (Operand.tmp 21) (Operand.const (Value.bool true)) (Operand.tmp 29), type := 4, pos := "part.go:51", after := #[{ on := 15, ground := Ground.data }, { on := 23, ground := Ground.data }], guard := none }) rfl (by kernel_rfl) (fun w1 K K9 hK => ?_)
  refine st_reads (v := ?_) (by rfl) ?_ ?_
  rotate_left
  · (go_simp; try with_reducible rfl)
  refine hK.out _ _ ?_
  clear hK K9
  try simp only [Act.put, List.setIfInBounds_toArray, List.set_cons_zero, List.set_cons_succ]
  skip
  go_wp2_with (first | ((with_reducible refine at_box rfl ?_); refine wpList_does rfl (kd_box K _ _ rfl (by conv => lhs; whnf)) ?_; clear K; rintro _ w1 ⟨gp, rfl, K⟩; (try dsimp only [Value.cells] at K)) | ((with_reducible refine at_eqnil rfl ?_); refine wpList_reads rfl (kr_eqnil rfl rfl (by kernel_rfl)) ?_) | ((with_reducible refine at_box rfl ?_); refine wpList_does rfl (kd_box K _ _ rfl (by conv => lhs; whnf)) ?_; clear K; rintro _ w1 ⟨g, rfl, K⟩; (try dsimp only [Value.cells] at K)) | ((with_reducible refine at_alloc rfl ?_); refine wpList_does rfl (kd_alloc K _ rfl rfl) ?_; clear K; rintro _ w1 ⟨g, rfl, K⟩; (try dsimp only [Value.cells] at K)) | ((with_reducible refine at_buildSlice rfl ?_); refine wpList_does rfl (kd_lits (cs := _) K _ _ _ rfl (by first | rfl | (go_simp; done) | (go_simp; rfl)) (by first | rfl | (go_simp; done) | (go_simp; rfl))) ?_; clear K; rintro _ w1 ⟨g, rfl, K⟩) | ((with_reducible refine at_load rfl ?_); first | (refine wpList_reads (by rfl) (kr_load_cell K _ _ (by rfl) (by rfl) (by repeat (first | with_reducible exact Has.hd _ _ | with_reducible refine Has.tl _ ?_ | with_reducible refine Has.ap _ ?_)) (by decide +kernel) (by (try simp only [List.getElem?_toArray, List.getElem?_cons_succ, List.getElem?_cons_zero]); exact rfl)) ?_) | (refine wpList_reads (by rfl) (kr_load_row K _ _ (by rfl) (by rfl) (by repeat (first | with_reducible exact Has.hd _ _ | with_reducible refine Has.tl _ ?_ | with_reducible refine Has.ap _ ?_)) (by decide +kernel) (by kernel_rfl)) ?_)) | ((with_reducible refine at_store rfl ?_); (first | (refine wpList_does rfl (kd_store_cell K _ _ _ rfl rfl (by conv => lhs; whnf) (by repeat (first | with_reducible exact Repl.hd _ _ _ | with_reducible apply Repl.tl | with_reducible apply Repl.ap)) rfl rfl (by kernel_rfl) (by kernel_rfl) (by first | (simp only [List.setIfInBounds_toArray, List.set_cons_succ, List.set_cons_zero]; rfl) | rfl)) ?_) | (refine wpList_does rfl (kd_store_row K _ _ _ rfl rfl rfl (by repeat (first | with_reducible exact Repl.hd _ _ _ | with_reducible apply Repl.tl | with_reducible apply Repl.ap)) (by kernel_rfl) (by kernel_rfl) (by kernel_rfl)) ?_)); clear K; intro _ w1 K; (try simp only [Act.put])))
  go_ret2
  exact ⟨gp, rfl, K.cov (by repeat (first | with_reducible exact Cov.all _ | with_reducible exact Cov.left _ _ | with_reducible exact Cov.nil _ | (with_reducible apply Cov.app; (· repeat (first | with_reducible exact Sel.nil _ | with_reducible exact Sel.ap _ _ | with_reducible exact Sel.hd _ _ | with_reducible exact Sel.all _ | with_reducible apply Sel.tl | with_reducible apply Sel.sk))) | (with_reducible apply Cov.cons; (· repeat (first | with_reducible exact Sel.nil _ | with_reducible exact Sel.ap _ _ | with_reducible exact Sel.hd _ _ | with_reducible exact Sel.all _ | with_reducible apply Sel.tl | with_reducible apply Sel.sk))) | with_reducible refine Cov.drop _ ?_ | with_reducible refine Cov.skip _ ?_))⟩
variable {n : Nat}
set_option maxRecDepth 100000 in
theorem psize_any (K : Known w0 w (X ++ L)) (hD : DevIs w0 g D X) (hp : Has (prow gp g first count) L) (hb : 0 ≤ count ∧ count ≤ 1048576) : Calls Try.prog 19 #[.pointer (some ⟨gp, 0, none⟩)] w fun e w' => e = .returned (.int .i64 (count * (D.size : Nat))) ∧ Known w0 w' (X ++ L) := by
  have hs := hD.ok.size
  have hp2 := Has.ap X hp
  have i1 := IntWalk.i64_in (count * (D.size : Int)) (by
    have h1 : 0 ≤ count * (D.size : Int) := Int.mul_nonneg hb.1 (by omega)
    have h2 : count * (D.size : Int) ≤ 1048576 * 4096 := Int.mul_le_mul hb.2 (by omega) (by omega) (by omega)
    omega)
  go_enter Try.func19, Try.ntmps19
  go_upto_region 3 with (fail)
  refine wp_region_QLK K (by kernel_rfl) (by kernel_rfl) ?_
  clear K
  refine wpQL_step (k := 0) (x := { dst := some 5, op := Op.move (Operand.tmp 0), type := 26, pos := "part.go:62", after := #[], guard := none }) (v := ?_) rfl (by kernel_rfl) (by rfl) ?_ ?_
  rotate_left
  · (intro w hS; refine quiet_value ?_; (clear hS; go_simp); try with_reducible rfl)
  try simp only [Act.put, List.setIfInBounds_toArray, List.set_cons_zero, List.set_cons_succ]
  refine wpQL_step (k := 1) (x := { dst := some 6, op := Op.nilCheck (Operand.tmp 5), type := 0, pos := "part.go:62", after := #[{ on := 0, ground := Ground.data }], guard := none }) (v := ?_) rfl (by kernel_rfl) (by rfl) ?_ ?_
  rotate_left
  · (intro w hS; refine quiet_value ?_; (clear hS; go_simp); try with_reducible rfl)
  try simp only [Act.put, List.setIfInBounds_toArray, List.set_cons_zero, List.set_cons_succ]
  refine wpQL_step (k := 2) (x := { dst := some 7, op := Op.fieldAddr 104 (Operand.tmp 6) 1, type := 0, pos := "part.go:62", after := #[{ on := 1, ground := Ground.data }], guard := none }) (v := ?_) rfl (by kernel_rfl) (by rfl) ?_ ?_
  rotate_left
  · (intro w hS; refine quiet_value ?_; (clear hS; go_simp); try with_reducible rfl)
  try simp only [Act.put, List.setIfInBounds_toArray, List.set_cons_zero, List.set_cons_succ]
  refine wpQL_step (k := 3) (x := { dst := some 8, op := Op.fieldAddr 23 (Operand.tmp 7) 1, type := 0, pos := "part.go:62", after := #[{ on := 2, ground := Ground.data }], guard := none }) (v := ?_) rfl (by kernel_rfl) (by rfl) ?_ ?_
  rotate_left
  · (intro w hS; refine quiet_value ?_; (clear hS; go_simp); try with_reducible rfl)
  try simp only [Act.put, List.setIfInBounds_toArray, List.set_cons_zero, List.set_cons_succ]
  refine wpQL_step (k := 4) (x := { dst := some 9, op := Op.load 3 (Operand.tmp 8), type := 3, pos := "part.go:62", after := #[{ on := 3, ground := Ground.data }], guard := none }) (v := .int .i64 count) rfl (by kernel_rfl) (by rfl) ?_ ?_
  · (intro w hS; refine quiet_value ?_; first | exact kr_load_cell hS _ _ (by rfl) (by rfl) hp2 (by kernel_rfl) (by rfl))
  try simp only [Act.put, List.setIfInBounds_toArray, List.set_cons_zero, List.set_cons_succ]
  refine wpQL_step (k := 5) (x := { dst := some 10, op := Op.move (Operand.tmp 0), type := 26, pos := "part.go:62", after := #[], guard := none }) (v := ?_) rfl (by kernel_rfl) (by rfl) ?_ ?_
  rotate_left
  · (intro w hS; refine quiet_value ?_; (clear hS; go_simp); try with_reducible rfl)
  try simp only [Act.put, List.setIfInBounds_toArray, List.set_cons_zero, List.set_cons_succ]
  refine wpQL_step (k := 6) (x := { dst := some 11, op := Op.nilCheck (Operand.tmp 10), type := 0, pos := "part.go:62", after := #[{ on := 5, ground := Ground.data }], guard := none }) (v := ?_) rfl (by kernel_rfl) (by rfl) ?_ ?_
  rotate_left
  · (intro w hS; refine quiet_value ?_; (clear hS; go_simp); try with_reducible rfl)
  try simp only [Act.put, List.setIfInBounds_toArray, List.set_cons_zero, List.set_cons_succ]
  refine wpQL_step (k := 7) (x := { dst := some 12, op := Op.fieldAddr 104 (Operand.tmp 11) 0, type := 0, pos := "part.go:62", after := #[{ on := 6, ground := Ground.data }], guard := none }) (v := ?_) rfl (by kernel_rfl) (by rfl) ?_ ?_
  rotate_left
  · (intro w hS; refine quiet_value ?_; (clear hS; go_simp); try with_reducible rfl)
  try simp only [Act.put, List.setIfInBounds_toArray, List.set_cons_zero, List.set_cons_succ]
  refine wpQL_step (k := 8) (x := { dst := some 13, op := Op.load 36 (Operand.tmp 12), type := 36, pos := "part.go:62", after := #[{ on := 7, ground := Ground.data }], guard := none }) (v := .pointer (some ⟨g, 0, none⟩)) rfl (by kernel_rfl) (by rfl) ?_ ?_
  · (intro w hS; refine quiet_value ?_; first | exact kr_load_cell hS _ _ (by rfl) (by rfl) hp2 (by kernel_rfl) (by rfl))
  try simp only [Act.put, List.setIfInBounds_toArray, List.set_cons_zero, List.set_cons_succ]
  refine wpQL_step (k := 9) (x := { dst := some 14, op := Op.call { callee := Callee.value (Operand.func 42), args := #[Operand.tmp 13], argTypes := #[36] }, type := 3, pos := "part.go:62", after := #[{ on := 8, ground := Ground.data }], guard := none }) (v := .int .i64 (D.size : Nat)) rfl (by kernel_rfl) (by rfl) ?_ ?_
  · intro w hS
    refine quiet_call (f := 42) (args := ?_) ?_ ?_
    rotate_left
    · (go_simp; try with_reducible rfl)
    · exact (ssizeK hS hD)
  try simp only [Act.put, List.setIfInBounds_toArray, List.set_cons_zero, List.set_cons_succ]
  refine wpQL_step (k := 10) (x := { dst := some 15, op := Op.binOp BinOp.mul 3 (Operand.tmp 9) (Operand.tmp 14) 3, type := 3, pos := "part.go:62", after := #[{ on := 4, ground := Ground.data }, { on := 9, ground := Ground.data }], guard := none }) (v := ?_) rfl (by kernel_rfl) (by rfl) ?_ ?_
  rotate_left
  · (intro w hS; refine quiet_value ?_; (clear hS; go_simp); try with_reducible rfl)
  try simp only [Act.put, List.setIfInBounds_toArray, List.set_cons_zero, List.set_cons_succ]
  refine wpQL_end (k := 11) (x := { dst := some 2, op := Op.assign (Operand.tmp 15), type := 3, pos := "part.go:62", after := #[{ on := 10, ground := Ground.data }, { on := 9, ground := Ground.chain }, { on := 0, ground := Ground.phase }, { on := 1, ground := Ground.phase }, { on := 2, ground := Ground.phase }, { on := 3, ground := Ground.phase }, { on := 4, ground := Ground.phase }, { on := 5, ground := Ground.phase }, { on := 6, ground := Ground.phase }, { on := 7, ground := Ground.phase }, { on := 8, ground := Ground.phase }, { on := 9, ground := Ground.phase }, { on := 10, ground := Ground.phase }], guard := none }) rfl (by kernel_rfl) (fun w1 K K9 hK => ?_)
  refine st_reads (v := ?_) (by rfl) ?_ ?_
  rotate_left
  · (go_simp; try with_reducible rfl)
  refine hK.out _ _ ?_
  clear hK K9
  try simp only [Act.put, List.setIfInBounds_toArray, List.set_cons_zero, List.set_cons_succ]
  skip
  go_wp2
  go_ret
  exact ⟨rfl, K⟩
set_option maxHeartbeats 800000 in
set_option maxRecDepth 100000 in
theorem pfits_any (K : Known w0 w (X ++ L)) (hD : DevIs w0 g D X) (hp : Has (prow gp g first count) L) (hb : 0 ≤ count ∧ count ≤ 1048576) (S at_ m : Int) (hS : count * (D.size : Nat) = S) (ha : -9223372036854775808 ≤ at_ ∧ at_ ≤ 9223372036854775807) :
    Calls Try.prog 58 #[.pointer (some ⟨gp, 0, none⟩), .int .i64 at_, .int .i64 m] w fun e w' => e = .returned (.bool (fitsB S at_ m)) ∧ Known w0 w' (X ++ L) := by
  have hs := hD.ok.size
  have hS0 : 0 ≤ S ∧ S ≤ 4294967296 := by
    have h1 : 0 ≤ count * (D.size : Int) := Int.mul_nonneg hb.1 (by omega)
    have h2 : count * (D.size : Int) ≤ 1048576 * 4096 := Int.mul_le_mul hb.2 (by omega) (by omega) (by omega)
    omega
  have HS := Lib.hid hS
  clear hs hS
  by_cases h0 : 0 ≤ at_
  rotate_left
  · skip
    have d0 : decide (0 ≤ at_) = false := decide_eq_false h0
    have HR := Lib.hid (show fitsB S at_ m = false by simp [fitsB, h0])
    clear h0
    go_enter Try.func58, Try.ntmps58
    go_wp2_with (first | (go_at_call 19; (with_reducible refine (psize_any K hD hp hb).mono ?_); clear K; rintro e w1 ⟨rfl, K⟩; rw [HS.out]))
    go_ret
    exact ⟨by rw [HR.out]; rfl, K⟩
  by_cases h1 : 0 ≤ m
  rotate_left
  · skip
    have d0 : decide (0 ≤ at_) = true := decide_eq_true h0
    have d1 : decide (0 ≤ m) = false := decide_eq_false h1
    have HR := Lib.hid (show fitsB S at_ m = false by simp [fitsB, h0, h1])
    clear h0 h1
    go_enter Try.func58, Try.ntmps58
    go_wp2_with (first | (go_at_call 19; (with_reducible refine (psize_any K hD hp hb).mono ?_); clear K; rintro e w1 ⟨rfl, K⟩; rw [HS.out]))
    go_ret
    exact ⟨by rw [HR.out]; rfl, K⟩
  by_cases h2 : at_ ≤ S
  rotate_left
  · skip
    have d0 : decide (0 ≤ at_) = true := decide_eq_true h0
    have d1 : decide (0 ≤ m) = true := decide_eq_true h1
    have d2 : decide (at_ ≤ S) = false := decide_eq_false h2
    have HR := Lib.hid (show fitsB S at_ m = false by simp [fitsB, h0, h1, h2])
    clear h0 h1 h2
    go_enter Try.func58, Try.ntmps58
    go_wp2_with (first | (go_at_call 19; (with_reducible refine (psize_any K hD hp hb).mono ?_); clear K; rintro e w1 ⟨rfl, K⟩; rw [HS.out]))
    go_ret
    exact ⟨by rw [HR.out]; rfl, K⟩
  by_cases h3 : m ≤ S - at_
  rotate_left
  · skip
    have i1 := IntWalk.i64_in (S - at_) (by omega)
    have d0 : decide (0 ≤ at_) = true := decide_eq_true h0
    have d1 : decide (0 ≤ m) = true := decide_eq_true h1
    have d2 : decide (at_ ≤ S) = true := decide_eq_true h2
    have d3 : decide (m ≤ S - at_) = false := decide_eq_false h3
    have HR := Lib.hid (show fitsB S at_ m = false by simp [fitsB, h0, h1, h2, h3])
    clear h0 h1 h2 h3
    go_enter Try.func58, Try.ntmps58
    go_wp2_with (first | (go_at_call 19; (with_reducible refine (psize_any K hD hp hb).mono ?_); clear K; rintro e w1 ⟨rfl, K⟩; rw [HS.out]))
    go_ret
    exact ⟨by rw [HR.out]; rfl, K⟩
  have i1 := IntWalk.i64_in (S - at_) (by omega)
  have d0 : decide (0 ≤ at_) = true := decide_eq_true h0
  have d1 : decide (0 ≤ m) = true := decide_eq_true h1
  have d2 : decide (at_ ≤ S) = true := decide_eq_true h2
  have d3 : decide (m ≤ S - at_) = true := decide_eq_true h3
  have HR := Lib.hid (show fitsB S at_ m = true by simp [fitsB, h0, h1, h2, h3])
  clear h0 h1 h2 h3
  go_enter Try.func58, Try.ntmps58
  go_wp2_with (first | (go_at_call 19; (with_reducible refine (psize_any K hD hp hb).mono ?_); clear K; rintro e w1 ⟨rfl, K⟩; rw [HS.out]))
  go_ret
  exact ⟨by rw [HR.out]; rfl, K⟩
end
end Go.Proofs.Ytokbloddaoakgaa
