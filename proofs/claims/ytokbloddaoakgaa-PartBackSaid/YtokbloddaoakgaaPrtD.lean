/-
  part: the statement PartBack (walk).
-/
import Derived.Test.YtokbloddaoakgaaPrtM
import Derived.Test.YtokbloddaoakgaaAwake7
import Derived.Deep.Cut
set_option linter.unusedVariables false
set_option linter.unusedSimpArgs false
namespace Go.Proofs.Ytokbloddaoakgaa
open Go.RowKit
theorem pwl_count : ∀ (k : Nat) {D : Dev} (i : Int) (bs : List Int), (pwl k D i bs).1 = 0 → (pwl k D i bs).2.offs = D.offs ∧ (pwl k D i bs).2.writes ≤ D.writes + k
  | 0, D, i, bs, h => by simp [pwl]
  | k + 1, D, i, bs, h => by
    unfold pwl at h ⊢
    split
    · exact ⟨rfl, by show D.writes ≤ _; omega⟩
    · next hb =>
      rw [if_neg hb] at h
      split
      · next hc => rw [if_pos hc] at h; exact absurd h hc
      · next hc =>
        rw [if_neg hc] at h
        have h0 : (dwrite D i (zpad D.size bs)).1 = 0 := by simpa using hc
        have hz := dwrite_zero h0
        have hr := pwl_count k (D := (dwrite D i (zpad D.size bs)).2) (i + 1) (bs.drop D.size) h
        exact ⟨by rw [hr.1, hz.1], by omega⟩
theorem pwrite_count {D : Dev} {first count at_ : Int} {bs : List Int} (h : (pwrite D first count at_ bs).1 = 0) : (pwrite D first count at_ bs).2.offs = D.offs ∧ (pwrite D first count at_ bs).2.writes ≤ D.writes + bs.length := by
  unfold pwrite at h ⊢
  split
  · next hc => rw [if_pos hc] at h; simp at h
  · next hc =>
    rw [if_neg hc] at h
    split
    · next hd => rw [if_pos hd] at h; simp at h
    · next hd =>
      rw [if_neg hd] at h
      exact pwl_count _ _ _ h
theorem rng_const (a n : Nat) (v : Int) : rng (fun _ => v) a n = List.replicate n v := by simp [rng, List.map_const']
def fillC (N j : Nat) : Array Value := fcells N (fun k => .int .u8 (if k < j then 201 else 0))
theorem fillC_zero (N : Nat) : fillC N 0 = fcells N (fun _ => .int .u8 0) := fcells_congr fun i _ => by simp
theorem fillC_size (N j : Nat) : (fillC N j).size = N := fcells_size _ _
theorem fillC_set {N j : Nat} (h : j < N) : (fillC N j).set! j (.int .u8 201) = fillC N (j + 1) := by
  unfold fillC
  rw [fcells_set _ _ h]
  apply fcells_congr
  intro i hi
  unfold upd
  by_cases e : i = j
  · subst e; simp
  · rw [if_neg e]
    by_cases e2 : i < j
    · simp [e2, show i < j + 1 by omega]
    · simp [e2, show ¬ i < j + 1 by omega]
theorem fillC_rd {w0 : World} {L : List Ent} {g N : Nat} {t : TypeId} (h : Has (row g (fillC N N) t) L) : RdS w0 L .u8 (some ⟨g, 0, none⟩) N (List.replicate N 201) :=
  fcells_rd h (by simp) (by omega) fun j hj => by simp [List.getD, hj]

section
variable {w0 w : World} {L : List Ent} {A : Option Addr} {n c : Nat} {bs : List Int}
set_option maxHeartbeats 1600000 in
set_option maxRecDepth 100000 in
theorem partBack_any (K : Known w0 w L) (size count first rc at_ : Int) (hff : -9223372036854775808 ≤ first ∧ first ≤ 9223372036854775807) (hat : -9223372036854775808 ≤ at_ ∧ at_ ≤ 9223372036854775807) (R : RdS w0 L .u8 A n bs) (hc : n ≤ c) (hb : ∀ v ∈ bs, 0 ≤ v ∧ v ≤ 255) :
    Calls Try.prog 4 #[.int .i64 size, .int .i64 count, .agg #[.int .i64 first, .int .i64 rc], .int .i64 at_, .slice A n c] w fun e w' => e = .returned (.bool true) ∧ Known w0 w' L := by
  by_cases h0 : 128 ≤ size
  rotate_left
  · skip
    have d0 : decide (size < 128) = true := decide_eq_true (by omega)
    clear h0
    go_enter Try.func4, Try.ntmps4
    go_wp2_with (first | (go_at_call 15; (with_reducible refine (awake07K K).mono ?_); clear K; rintro e w1 ⟨rfl, K⟩) | ((with_reducible refine at_eqnil rfl ?_); refine wpList_reads rfl (kr_eqnil rfl rfl (by kernel_rfl)) ?_) | ((with_reducible refine at_box rfl ?_); refine wpList_does rfl (kd_box K _ _ rfl (by conv => lhs; whnf)) ?_; clear K; rintro _ w1 ⟨g, rfl, K⟩; (try dsimp only [Value.cells] at K)) | ((with_reducible refine at_alloc rfl ?_); refine wpList_does rfl (kd_alloc K _ rfl rfl) ?_; clear K; rintro _ w1 ⟨g, rfl, K⟩; (try dsimp only [Value.cells] at K)) | ((with_reducible refine at_buildSlice rfl ?_); refine wpList_does rfl (kd_lits (cs := _) K _ _ _ rfl (by first | rfl | (go_simp; done) | (go_simp; rfl)) (by first | rfl | (go_simp; done) | (go_simp; rfl))) ?_; clear K; rintro _ w1 ⟨g, rfl, K⟩) | ((with_reducible refine at_load rfl ?_); first | (refine wpList_reads (by rfl) (kr_load_cell K _ _ (by rfl) (by rfl) (by repeat (first | with_reducible exact Has.hd _ _ | with_reducible refine Has.tl _ ?_ | with_reducible refine Has.ap _ ?_)) (by decide +kernel) (by (try simp only [List.getElem?_toArray, List.getElem?_cons_succ, List.getElem?_cons_zero]); exact rfl)) ?_) | (refine wpList_reads (by rfl) (kr_load_row K _ _ (by rfl) (by rfl) (by repeat (first | with_reducible exact Has.hd _ _ | with_reducible refine Has.tl _ ?_ | with_reducible refine Has.ap _ ?_)) (by decide +kernel) (by kernel_rfl)) ?_)) | ((with_reducible refine at_store rfl ?_); (first | (refine wpList_does rfl (kd_store_cell K _ _ _ rfl rfl (by conv => lhs; whnf) (by repeat (first | with_reducible exact Repl.hd _ _ _ | with_reducible apply Repl.tl | with_reducible apply Repl.ap)) rfl rfl (by kernel_rfl) (by kernel_rfl) (by first | (simp only [List.setIfInBounds_toArray, List.set_cons_succ, List.set_cons_zero]; rfl) | rfl)) ?_) | (refine wpList_does rfl (kd_store_row K _ _ _ rfl rfl rfl (by repeat (first | with_reducible exact Repl.hd _ _ _ | with_reducible apply Repl.tl | with_reducible apply Repl.ap)) (by kernel_rfl) (by kernel_rfl) (by kernel_rfl)) ?_)); clear K; intro _ w1 K; (try simp only [Act.put])))
    go_ret
    exact ⟨rfl, K.cov (by repeat (first | with_reducible exact Cov.all _ | with_reducible exact Cov.left _ _ | with_reducible exact Cov.nil _ | (with_reducible apply Cov.app; (· repeat (first | with_reducible exact Sel.nil _ | with_reducible exact Sel.ap _ _ | with_reducible exact Sel.hd _ _ | with_reducible exact Sel.all _ | with_reducible apply Sel.tl | with_reducible apply Sel.sk))) | (with_reducible apply Cov.cons; (· repeat (first | with_reducible exact Sel.nil _ | with_reducible exact Sel.ap _ _ | with_reducible exact Sel.hd _ _ | with_reducible exact Sel.all _ | with_reducible apply Sel.tl | with_reducible apply Sel.sk))) | with_reducible refine Cov.drop _ ?_ | with_reducible refine Cov.skip _ ?_))⟩
  by_cases h1 : size ≤ 512
  rotate_left
  · skip
    have d0 : decide (size < 128) = false := decide_eq_false (by omega)
    have d1 : decide (512 < size) = true := decide_eq_true (by omega)
    clear h0 h1
    go_enter Try.func4, Try.ntmps4
    go_wp2_with (first | (go_at_call 15; (with_reducible refine (awake07K K).mono ?_); clear K; rintro e w1 ⟨rfl, K⟩) | ((with_reducible refine at_eqnil rfl ?_); refine wpList_reads rfl (kr_eqnil rfl rfl (by kernel_rfl)) ?_) | ((with_reducible refine at_box rfl ?_); refine wpList_does rfl (kd_box K _ _ rfl (by conv => lhs; whnf)) ?_; clear K; rintro _ w1 ⟨g, rfl, K⟩; (try dsimp only [Value.cells] at K)) | ((with_reducible refine at_alloc rfl ?_); refine wpList_does rfl (kd_alloc K _ rfl rfl) ?_; clear K; rintro _ w1 ⟨g, rfl, K⟩; (try dsimp only [Value.cells] at K)) | ((with_reducible refine at_buildSlice rfl ?_); refine wpList_does rfl (kd_lits (cs := _) K _ _ _ rfl (by first | rfl | (go_simp; done) | (go_simp; rfl)) (by first | rfl | (go_simp; done) | (go_simp; rfl))) ?_; clear K; rintro _ w1 ⟨g, rfl, K⟩) | ((with_reducible refine at_load rfl ?_); first | (refine wpList_reads (by rfl) (kr_load_cell K _ _ (by rfl) (by rfl) (by repeat (first | with_reducible exact Has.hd _ _ | with_reducible refine Has.tl _ ?_ | with_reducible refine Has.ap _ ?_)) (by decide +kernel) (by (try simp only [List.getElem?_toArray, List.getElem?_cons_succ, List.getElem?_cons_zero]); exact rfl)) ?_) | (refine wpList_reads (by rfl) (kr_load_row K _ _ (by rfl) (by rfl) (by repeat (first | with_reducible exact Has.hd _ _ | with_reducible refine Has.tl _ ?_ | with_reducible refine Has.ap _ ?_)) (by decide +kernel) (by kernel_rfl)) ?_)) | ((with_reducible refine at_store rfl ?_); (first | (refine wpList_does rfl (kd_store_cell K _ _ _ rfl rfl (by conv => lhs; whnf) (by repeat (first | with_reducible exact Repl.hd _ _ _ | with_reducible apply Repl.tl | with_reducible apply Repl.ap)) rfl rfl (by kernel_rfl) (by kernel_rfl) (by first | (simp only [List.setIfInBounds_toArray, List.set_cons_succ, List.set_cons_zero]; rfl) | rfl)) ?_) | (refine wpList_does rfl (kd_store_row K _ _ _ rfl rfl rfl (by repeat (first | with_reducible exact Repl.hd _ _ _ | with_reducible apply Repl.tl | with_reducible apply Repl.ap)) (by kernel_rfl) (by kernel_rfl) (by kernel_rfl)) ?_)); clear K; intro _ w1 K; (try simp only [Act.put])))
    go_ret
    exact ⟨rfl, K.cov (by repeat (first | with_reducible exact Cov.all _ | with_reducible exact Cov.left _ _ | with_reducible exact Cov.nil _ | (with_reducible apply Cov.app; (· repeat (first | with_reducible exact Sel.nil _ | with_reducible exact Sel.ap _ _ | with_reducible exact Sel.hd _ _ | with_reducible exact Sel.all _ | with_reducible apply Sel.tl | with_reducible apply Sel.sk))) | (with_reducible apply Cov.cons; (· repeat (first | with_reducible exact Sel.nil _ | with_reducible exact Sel.ap _ _ | with_reducible exact Sel.hd _ _ | with_reducible exact Sel.all _ | with_reducible apply Sel.tl | with_reducible apply Sel.sk))) | with_reducible refine Cov.drop _ ?_ | with_reducible refine Cov.skip _ ?_))⟩
  by_cases h2 : 1 ≤ count
  rotate_left
  · skip
    have d0 : decide (size < 128) = false := decide_eq_false (by omega)
    have d1 : decide (512 < size) = false := decide_eq_false (by omega)
    have d2 : decide (count < 1) = true := decide_eq_true (by omega)
    clear h0 h1 h2
    go_enter Try.func4, Try.ntmps4
    go_wp2_with (first | (go_at_call 15; (with_reducible refine (awake07K K).mono ?_); clear K; rintro e w1 ⟨rfl, K⟩) | ((with_reducible refine at_eqnil rfl ?_); refine wpList_reads rfl (kr_eqnil rfl rfl (by kernel_rfl)) ?_) | ((with_reducible refine at_box rfl ?_); refine wpList_does rfl (kd_box K _ _ rfl (by conv => lhs; whnf)) ?_; clear K; rintro _ w1 ⟨g, rfl, K⟩; (try dsimp only [Value.cells] at K)) | ((with_reducible refine at_alloc rfl ?_); refine wpList_does rfl (kd_alloc K _ rfl rfl) ?_; clear K; rintro _ w1 ⟨g, rfl, K⟩; (try dsimp only [Value.cells] at K)) | ((with_reducible refine at_buildSlice rfl ?_); refine wpList_does rfl (kd_lits (cs := _) K _ _ _ rfl (by first | rfl | (go_simp; done) | (go_simp; rfl)) (by first | rfl | (go_simp; done) | (go_simp; rfl))) ?_; clear K; rintro _ w1 ⟨g, rfl, K⟩) | ((with_reducible refine at_load rfl ?_); first | (refine wpList_reads (by rfl) (kr_load_cell K _ _ (by rfl) (by rfl) (by repeat (first | with_reducible exact Has.hd _ _ | with_reducible refine Has.tl _ ?_ | with_reducible refine Has.ap _ ?_)) (by decide +kernel) (by (try simp only [List.getElem?_toArray, List.getElem?_cons_succ, List.getElem?_cons_zero]); exact rfl)) ?_) | (refine wpList_reads (by rfl) (kr_load_row K _ _ (by rfl) (by rfl) (by repeat (first | with_reducible exact Has.hd _ _ | with_reducible refine Has.tl _ ?_ | with_reducible refine Has.ap _ ?_)) (by decide +kernel) (by kernel_rfl)) ?_)) | ((with_reducible refine at_store rfl ?_); (first | (refine wpList_does rfl (kd_store_cell K _ _ _ rfl rfl (by conv => lhs; whnf) (by repeat (first | with_reducible exact Repl.hd _ _ _ | with_reducible apply Repl.tl | with_reducible apply Repl.ap)) rfl rfl (by kernel_rfl) (by kernel_rfl) (by first | (simp only [List.setIfInBounds_toArray, List.set_cons_succ, List.set_cons_zero]; rfl) | rfl)) ?_) | (refine wpList_does rfl (kd_store_row K _ _ _ rfl rfl rfl (by repeat (first | with_reducible exact Repl.hd _ _ _ | with_reducible apply Repl.tl | with_reducible apply Repl.ap)) (by kernel_rfl) (by kernel_rfl) (by kernel_rfl)) ?_)); clear K; intro _ w1 K; (try simp only [Act.put])))
    go_ret
    exact ⟨rfl, K.cov (by repeat (first | with_reducible exact Cov.all _ | with_reducible exact Cov.left _ _ | with_reducible exact Cov.nil _ | (with_reducible apply Cov.app; (· repeat (first | with_reducible exact Sel.nil _ | with_reducible exact Sel.ap _ _ | with_reducible exact Sel.hd _ _ | with_reducible exact Sel.all _ | with_reducible apply Sel.tl | with_reducible apply Sel.sk))) | (with_reducible apply Cov.cons; (· repeat (first | with_reducible exact Sel.nil _ | with_reducible exact Sel.ap _ _ | with_reducible exact Sel.hd _ _ | with_reducible exact Sel.all _ | with_reducible apply Sel.tl | with_reducible apply Sel.sk))) | with_reducible refine Cov.drop _ ?_ | with_reducible refine Cov.skip _ ?_))⟩
  by_cases h3 : count ≤ 40
  rotate_left
  · skip
    have d0 : decide (size < 128) = false := decide_eq_false (by omega)
    have d1 : decide (512 < size) = false := decide_eq_false (by omega)
    have d2 : decide (count < 1) = false := decide_eq_false (by omega)
    have d3 : decide (40 < count) = true := decide_eq_true (by omega)
    clear h0 h1 h2 h3
    go_enter Try.func4, Try.ntmps4
    go_wp2_with (first | (go_at_call 15; (with_reducible refine (awake07K K).mono ?_); clear K; rintro e w1 ⟨rfl, K⟩) | ((with_reducible refine at_eqnil rfl ?_); refine wpList_reads rfl (kr_eqnil rfl rfl (by kernel_rfl)) ?_) | ((with_reducible refine at_box rfl ?_); refine wpList_does rfl (kd_box K _ _ rfl (by conv => lhs; whnf)) ?_; clear K; rintro _ w1 ⟨g, rfl, K⟩; (try dsimp only [Value.cells] at K)) | ((with_reducible refine at_alloc rfl ?_); refine wpList_does rfl (kd_alloc K _ rfl rfl) ?_; clear K; rintro _ w1 ⟨g, rfl, K⟩; (try dsimp only [Value.cells] at K)) | ((with_reducible refine at_buildSlice rfl ?_); refine wpList_does rfl (kd_lits (cs := _) K _ _ _ rfl (by first | rfl | (go_simp; done) | (go_simp; rfl)) (by first | rfl | (go_simp; done) | (go_simp; rfl))) ?_; clear K; rintro _ w1 ⟨g, rfl, K⟩) | ((with_reducible refine at_load rfl ?_); first | (refine wpList_reads (by rfl) (kr_load_cell K _ _ (by rfl) (by rfl) (by repeat (first | with_reducible exact Has.hd _ _ | with_reducible refine Has.tl _ ?_ | with_reducible refine Has.ap _ ?_)) (by decide +kernel) (by (try simp only [List.getElem?_toArray, List.getElem?_cons_succ, List.getElem?_cons_zero]); exact rfl)) ?_) | (refine wpList_reads (by rfl) (kr_load_row K _ _ (by rfl) (by rfl) (by repeat (first | with_reducible exact Has.hd _ _ | with_reducible refine Has.tl _ ?_ | with_reducible refine Has.ap _ ?_)) (by decide +kernel) (by kernel_rfl)) ?_)) | ((with_reducible refine at_store rfl ?_); (first | (refine wpList_does rfl (kd_store_cell K _ _ _ rfl rfl (by conv => lhs; whnf) (by repeat (first | with_reducible exact Repl.hd _ _ _ | with_reducible apply Repl.tl | with_reducible apply Repl.ap)) rfl rfl (by kernel_rfl) (by kernel_rfl) (by first | (simp only [List.setIfInBounds_toArray, List.set_cons_succ, List.set_cons_zero]; rfl) | rfl)) ?_) | (refine wpList_does rfl (kd_store_row K _ _ _ rfl rfl rfl (by repeat (first | with_reducible exact Repl.hd _ _ _ | with_reducible apply Repl.tl | with_reducible apply Repl.ap)) (by kernel_rfl) (by kernel_rfl) (by kernel_rfl)) ?_)); clear K; intro _ w1 K; (try simp only [Act.put])))
    go_ret
    exact ⟨rfl, K.cov (by repeat (first | with_reducible exact Cov.all _ | with_reducible exact Cov.left _ _ | with_reducible exact Cov.nil _ | (with_reducible apply Cov.app; (· repeat (first | with_reducible exact Sel.nil _ | with_reducible exact Sel.ap _ _ | with_reducible exact Sel.hd _ _ | with_reducible exact Sel.all _ | with_reducible apply Sel.tl | with_reducible apply Sel.sk))) | (with_reducible apply Cov.cons; (· repeat (first | with_reducible exact Sel.nil _ | with_reducible exact Sel.ap _ _ | with_reducible exact Sel.hd _ _ | with_reducible exact Sel.all _ | with_reducible apply Sel.tl | with_reducible apply Sel.sk))) | with_reducible refine Cov.drop _ ?_ | with_reducible refine Cov.skip _ ?_))⟩
  by_cases h4 : n ≤ 2000
  rotate_left
  · skip
    have d0 : decide (size < 128) = false := decide_eq_false (by omega)
    have d1 : decide (512 < size) = false := decide_eq_false (by omega)
    have d2 : decide (count < 1) = false := decide_eq_false (by omega)
    have d3 : decide (40 < count) = false := decide_eq_false (by omega)
    have d4 : decide (2000 < (n : Int)) = true := decide_eq_true (by omega)
    clear h0 h1 h2 h3 h4
    go_enter Try.func4, Try.ntmps4
    go_wp2_with (first | (go_at_call 15; (with_reducible refine (awake07K K).mono ?_); clear K; rintro e w1 ⟨rfl, K⟩) | ((with_reducible refine at_eqnil rfl ?_); refine wpList_reads rfl (kr_eqnil rfl rfl (by kernel_rfl)) ?_) | ((with_reducible refine at_box rfl ?_); refine wpList_does rfl (kd_box K _ _ rfl (by conv => lhs; whnf)) ?_; clear K; rintro _ w1 ⟨g, rfl, K⟩; (try dsimp only [Value.cells] at K)) | ((with_reducible refine at_alloc rfl ?_); refine wpList_does rfl (kd_alloc K _ rfl rfl) ?_; clear K; rintro _ w1 ⟨g, rfl, K⟩; (try dsimp only [Value.cells] at K)) | ((with_reducible refine at_buildSlice rfl ?_); refine wpList_does rfl (kd_lits (cs := _) K _ _ _ rfl (by first | rfl | (go_simp; done) | (go_simp; rfl)) (by first | rfl | (go_simp; done) | (go_simp; rfl))) ?_; clear K; rintro _ w1 ⟨g, rfl, K⟩) | ((with_reducible refine at_load rfl ?_); first | (refine wpList_reads (by rfl) (kr_load_cell K _ _ (by rfl) (by rfl) (by repeat (first | with_reducible exact Has.hd _ _ | with_reducible refine Has.tl _ ?_ | with_reducible refine Has.ap _ ?_)) (by decide +kernel) (by (try simp only [List.getElem?_toArray, List.getElem?_cons_succ, List.getElem?_cons_zero]); exact rfl)) ?_) | (refine wpList_reads (by rfl) (kr_load_row K _ _ (by rfl) (by rfl) (by repeat (first | with_reducible exact Has.hd _ _ | with_reducible refine Has.tl _ ?_ | with_reducible refine Has.ap _ ?_)) (by decide +kernel) (by kernel_rfl)) ?_)) | ((with_reducible refine at_store rfl ?_); (first | (refine wpList_does rfl (kd_store_cell K _ _ _ rfl rfl (by conv => lhs; whnf) (by repeat (first | with_reducible exact Repl.hd _ _ _ | with_reducible apply Repl.tl | with_reducible apply Repl.ap)) rfl rfl (by kernel_rfl) (by kernel_rfl) (by first | (simp only [List.setIfInBounds_toArray, List.set_cons_succ, List.set_cons_zero]; rfl) | rfl)) ?_) | (refine wpList_does rfl (kd_store_row K _ _ _ rfl rfl rfl (by repeat (first | with_reducible exact Repl.hd _ _ _ | with_reducible apply Repl.tl | with_reducible apply Repl.ap)) (by kernel_rfl) (by kernel_rfl) (by kernel_rfl)) ?_)); clear K; intro _ w1 K; (try simp only [Act.put])))
    go_ret
    exact ⟨rfl, K.cov (by repeat (first | with_reducible exact Cov.all _ | with_reducible exact Cov.left _ _ | with_reducible exact Cov.nil _ | (with_reducible apply Cov.app; (· repeat (first | with_reducible exact Sel.nil _ | with_reducible exact Sel.ap _ _ | with_reducible exact Sel.hd _ _ | with_reducible exact Sel.all _ | with_reducible apply Sel.tl | with_reducible apply Sel.sk))) | (with_reducible apply Cov.cons; (· repeat (first | with_reducible exact Sel.nil _ | with_reducible exact Sel.ap _ _ | with_reducible exact Sel.hd _ _ | with_reducible exact Sel.all _ | with_reducible apply Sel.tl | with_reducible apply Sel.sk))) | with_reducible refine Cov.drop _ ?_ | with_reducible refine Cov.skip _ ?_))⟩
  have d0 : decide (size < 128) = false := decide_eq_false (by omega)
  have d1 : decide (512 < size) = false := decide_eq_false (by omega)
  have d2 : decide (count < 1) = false := decide_eq_false (by omega)
  have d3 : decide (40 < count) = false := decide_eq_false (by omega)
  have d4 : decide (2000 < (n : Int)) = false := decide_eq_false (by omega)
  obtain ⟨sn, rfl⟩ := Int.eq_ofNat_of_zero_le (show 0 ≤ size by omega)
  obtain ⟨cn, rfl⟩ := Int.eq_ofNat_of_zero_le (show 0 ≤ count by omega)
  obtain ⟨D, hsz, hcn, hnew⟩ : ∃ D : Dev, D.size = sn ∧ D.count = cn ∧ Dev.new sn cn = D := ⟨Dev.new sn cn, rfl, rfl, rfl⟩
  subst hsz hcn
  have HNEW := Lib.hid hnew
  have HB := Lib.hid hb
  clear hnew hb
  cases hon : onR D.count first rc
  · have HON := Lib.hid hon
    clear hon
    go_enter Try.func4, Try.ntmps4
    go_wp2_with (first | (go_at_call 20; (with_reducible refine (ron07_any D.count (by omega) hff K).mono ?_); clear K; rintro e w1 ⟨rfl, K⟩; rw [HON.out]) | (go_at_call 15; (with_reducible refine (awake07K K).mono ?_); clear K; rintro e w1 ⟨rfl, K⟩) | ((with_reducible refine at_eqnil rfl ?_); refine wpList_reads rfl (kr_eqnil rfl rfl (by kernel_rfl)) ?_) | ((with_reducible refine at_box rfl ?_); refine wpList_does rfl (kd_box K _ _ rfl (by conv => lhs; whnf)) ?_; clear K; rintro _ w1 ⟨g, rfl, K⟩; (try dsimp only [Value.cells] at K)) | ((with_reducible refine at_alloc rfl ?_); refine wpList_does rfl (kd_alloc K _ rfl rfl) ?_; clear K; rintro _ w1 ⟨g, rfl, K⟩; (try dsimp only [Value.cells] at K)) | ((with_reducible refine at_buildSlice rfl ?_); refine wpList_does rfl (kd_lits (cs := _) K _ _ _ rfl (by first | rfl | (go_simp; done) | (go_simp; rfl)) (by first | rfl | (go_simp; done) | (go_simp; rfl))) ?_; clear K; rintro _ w1 ⟨g, rfl, K⟩) | ((with_reducible refine at_load rfl ?_); first | (refine wpList_reads (by rfl) (kr_load_cell K _ _ (by rfl) (by rfl) (by repeat (first | with_reducible exact Has.hd _ _ | with_reducible refine Has.tl _ ?_ | with_reducible refine Has.ap _ ?_)) (by decide +kernel) (by (try simp only [List.getElem?_toArray, List.getElem?_cons_succ, List.getElem?_cons_zero]); exact rfl)) ?_) | (refine wpList_reads (by rfl) (kr_load_row K _ _ (by rfl) (by rfl) (by repeat (first | with_reducible exact Has.hd _ _ | with_reducible refine Has.tl _ ?_ | with_reducible refine Has.ap _ ?_)) (by decide +kernel) (by kernel_rfl)) ?_)) | ((with_reducible refine at_store rfl ?_); (first | (refine wpList_does rfl (kd_store_cell K _ _ _ rfl rfl (by conv => lhs; whnf) (by repeat (first | with_reducible exact Repl.hd _ _ _ | with_reducible apply Repl.tl | with_reducible apply Repl.ap)) rfl rfl (by kernel_rfl) (by kernel_rfl) (by first | (simp only [List.setIfInBounds_toArray, List.set_cons_succ, List.set_cons_zero]; rfl) | rfl)) ?_) | (refine wpList_does rfl (kd_store_row K _ _ _ rfl rfl rfl (by repeat (first | with_reducible exact Repl.hd _ _ _ | with_reducible apply Repl.tl | with_reducible apply Repl.ap)) (by kernel_rfl) (by kernel_rfl) (by kernel_rfl)) ?_)); clear K; intro _ w1 K; (try simp only [Act.put])))
    go_ret
    exact ⟨rfl, K.cov (by repeat (first | with_reducible exact Cov.all _ | with_reducible exact Cov.left _ _ | with_reducible exact Cov.nil _ | (with_reducible apply Cov.app; (· repeat (first | with_reducible exact Sel.nil _ | with_reducible exact Sel.ap _ _ | with_reducible exact Sel.hd _ _ | with_reducible exact Sel.all _ | with_reducible apply Sel.tl | with_reducible apply Sel.sk))) | (with_reducible apply Cov.cons; (· repeat (first | with_reducible exact Sel.nil _ | with_reducible exact Sel.ap _ _ | with_reducible exact Sel.hd _ _ | with_reducible exact Sel.all _ | with_reducible apply Sel.tl | with_reducible apply Sel.sk))) | with_reducible refine Cov.drop _ ?_ | with_reducible refine Cov.skip _ ?_))⟩
  · have HON := Lib.hid hon
    have hon2 := hon
    simp only [onR, Bool.and_eq_true, decide_eq_true_eq] at hon2
    obtain ⟨o1, o2, o3, o4⟩ := hon2
    obtain ⟨F, rfl⟩ := Int.eq_ofNat_of_zero_le o1
    have hon0 : onR D.count 0 D.count = true := by simp [onR]; omega
    have HON0 := Lib.hid hon0
    obtain ⟨N, hN⟩ : ∃ N : Nat, D.size * D.count = N := ⟨_, rfl⟩
    have hNI : (D.size : Int) * (D.count : Int) = (N : Int) := by rw [← hN, Int.natCast_mul]
    have hNb : N ≤ 512 * 40 := by rw [← hN]; exact Nat.mul_le_mul (by omega) (by omega)
    have HNN := Lib.hid hN
    have i1 := IntWalk.i64_in (N : Int) (by omega)
    clear hon hon0 hN
    go_enter Try.func4, Try.ntmps4
    go_upto_region 9 with ((first | (go_at_call 20; (with_reducible refine (ron07_any D.count (by omega) hff K).mono ?_); clear K; rintro e w1 ⟨rfl, K⟩; rw [HON.out]) | (go_at_call 21; (with_reducible refine (snew_yes K D.size D.count (by omega) (by omega)).mono ?_); clear K; rintro e w1 ⟨g, rfl, X, hD, K⟩; rw [HNEW.out] at hD) | (go_at_call 16; (with_reducible refine (popen_yes K hD HON.out).mono ?_); clear K; rintro e w1 ⟨gp, rfl, K⟩) | (go_at_call 16; (with_reducible refine (popen_yes K hD HON0.out).mono ?_); clear K; rintro e w1 ⟨ga, rfl, K⟩) | ((with_reducible refine at_makeSlice rfl ?_); refine wpList_does rfl (kd_make (z := .int .u8 0) (bytes := 1) K 24 5 rfl Try.underlying24 (by kernel_rfl) rfl N N rfl rfl (by omega) (by omega) (by omega)) ?_; clear K; rintro _ w1 ⟨gf, rfl, K⟩; rw [fcells_repl, ← fillC_zero] at K) | ((with_reducible refine at_box rfl ?_); refine wpList_does rfl (kd_box K _ _ rfl (by conv => lhs; whnf)) ?_; clear K; rintro _ w1 ⟨gr, rfl, K⟩; (try dsimp only [Value.cells] at K)) | ((with_reducible refine at_eqnil rfl ?_); refine wpList_reads rfl (kr_eqnil rfl rfl (by kernel_rfl)) ?_) | ((with_reducible refine at_box rfl ?_); refine wpList_does rfl (kd_box K _ _ rfl (by conv => lhs; whnf)) ?_; clear K; rintro _ w1 ⟨g, rfl, K⟩; (try dsimp only [Value.cells] at K)) | ((with_reducible refine at_alloc rfl ?_); refine wpList_does rfl (kd_alloc K _ rfl rfl) ?_; clear K; rintro _ w1 ⟨g, rfl, K⟩; (try dsimp only [Value.cells] at K)) | ((with_reducible refine at_buildSlice rfl ?_); refine wpList_does rfl (kd_lits (cs := _) K _ _ _ rfl (by first | rfl | (go_simp; done) | (go_simp; rfl)) (by first | rfl | (go_simp; done) | (go_simp; rfl))) ?_; clear K; rintro _ w1 ⟨g, rfl, K⟩) | ((with_reducible refine at_load rfl ?_); first | (refine wpList_reads (by rfl) (kr_load_cell K _ _ (by rfl) (by rfl) (by repeat (first | with_reducible exact Has.hd _ _ | with_reducible refine Has.tl _ ?_ | with_reducible refine Has.ap _ ?_)) (by decide +kernel) (by (try simp only [List.getElem?_toArray, List.getElem?_cons_succ, List.getElem?_cons_zero]); exact rfl)) ?_) | (refine wpList_reads (by rfl) (kr_load_row K _ _ (by rfl) (by rfl) (by repeat (first | with_reducible exact Has.hd _ _ | with_reducible refine Has.tl _ ?_ | with_reducible refine Has.ap _ ?_)) (by decide +kernel) (by kernel_rfl)) ?_)) | ((with_reducible refine at_store rfl ?_); (first | (refine wpList_does rfl (kd_store_cell K _ _ _ rfl rfl (by conv => lhs; whnf) (by repeat (first | with_reducible exact Repl.hd _ _ _ | with_reducible apply Repl.tl | with_reducible apply Repl.ap)) rfl rfl (by kernel_rfl) (by kernel_rfl) (by first | (simp only [List.setIfInBounds_toArray, List.set_cons_succ, List.set_cons_zero]; rfl) | rfl)) ?_) | (refine wpList_does rfl (kd_store_row K _ _ _ rfl rfl rfl (by repeat (first | with_reducible exact Repl.hd _ _ _ | with_reducible apply Repl.tl | with_reducible apply Repl.ap)) (by kernel_rfl) (by kernel_rfl) (by kernel_rfl)) ?_)); clear K; intro _ w1 K; (try simp only [Act.put]))))
    obtain ⟨BASE, hBASE⟩ : ∃ BASE, BASE = prow ga g 0 (D.count : Int) :: prow gp g (F : Int) rc :: row gr #[.int .i64 (F : Int), .int .i64 rc] 23 :: L := ⟨_, rfl⟩
    have HBASE := Lib.hid hBASE
    replace K : Known w0 w1 (row gf (fillC N 0) 5 :: (X ++ BASE)) := by rw [hBASE]; exact K
    clear hBASE
    go_upto_region 10 with (fail)
    go_loopg [18] N (fun d i wr => ∃ (j : Nat), i = .int .i64 j ∧ j + d = N ∧ Known w0 wr (row gf (fillC N j) 5 :: (X ++ BASE)))
    case atStart => exact ⟨0, by go_num, by omega, K⟩
    case round =>
      clear K
      obtain ⟨j, rfl, hd, K⟩ := hrel
      by_cases hj : j < N
      · have hj1 : (0 : Int) ≤ (j : Int) ∧ (j : Int) < N := by omega
        have hj2 : (j : Int) < N := by omega
        have j1 := IntWalk.i64_in ((j : Int) + 1) (by omega)
        go_wp2_with (first | ((with_reducible refine at_store rfl ?_); refine wpList_does rfl (kd_store_cell K _ _ _ rfl rfl (by conv => lhs; whnf) (by repeat (first | with_reducible exact Repl.hd _ _ _ | with_reducible apply Repl.tl | with_reducible apply Repl.ap)) rfl rfl (by kernel_rfl) (by simp only [fillC_size, decide_eq_true_eq]; omega) (fillC_set hj)) ?_; clear K; intro _ w1 K; (try simp only [Act.put])))
        go_roundg (gk - 1)
        case measure => omega
        case rel => exact ⟨j + 1, by go_num, by omega, K⟩
      · obtain rfl : j = N := by omega
        rw [HBASE.out] at K
        have HFN := Lib.hid (flat_new D.size D.count)
        rw [HNEW.out] at HFN
        obtain ⟨a1, a2, a3, a4⟩ := fill_flat (by omega) HFN.out
        rw [HNN.out] at a1 a2 a3 a4
        have a5 := pwrite_count a1
        rw [List.length_replicate] at a5
        have b0 : D.offs = 0 ∧ D.writes = 0 := by rw [← HNEW.out]; exact ⟨rfl, rfl⟩
        obtain ⟨r1, hr1⟩ : ∃ r1, r1 = pwrite D 0 D.count 0 (List.replicate j 201) := ⟨_, rfl⟩
        have HR1 := Lib.hid hr1
        rw [← hr1] at a1 a2 a3 a4 a5
        obtain ⟨r1a, D1⟩ := r1
        simp only at a1 a2 a3 a4 a5
        subst a1
        clear hr1
        go_upto_region 15 with ((first | (go_at_call 18; (with_reducible refine (pwrite_any (show Known w0 _ (X ++ (row gf (fillC j j) 5 :: prow ga g 0 (D.count : Int) :: prow gp g (F : Int) rc :: row gr #[.int .i64 (F : Int), .int .i64 rc] 23 :: L)) from K.cov (by repeat (first | with_reducible exact Cov.all _ | with_reducible exact Cov.left _ _ | with_reducible exact Cov.nil _ | (with_reducible apply Cov.app; (· repeat (first | with_reducible exact Sel.nil _ | with_reducible exact Sel.ap _ _ | with_reducible exact Sel.hd _ _ | with_reducible exact Sel.all _ | with_reducible apply Sel.tl | with_reducible apply Sel.sk))) | (with_reducible apply Cov.cons; (· repeat (first | with_reducible exact Sel.nil _ | with_reducible exact Sel.ap _ _ | with_reducible exact Sel.hd _ _ | with_reducible exact Sel.all _ | with_reducible apply Sel.tl | with_reducible apply Sel.sk))) | with_reducible refine Cov.drop _ ?_ | with_reducible refine Cov.skip _ ?_))) hD (Has.tl _ (Has.hd _ _)) (by omega) (by omega) 0 (by omega) (fillC_rd (Has.hd _ _)) (Nat.le_refl _) (fun v hv => by rw [(List.mem_replicate.1 hv).2]; decide) (by omega) (by omega) (by omega)).mono ?_); clear K; rintro e w1 ⟨rfl, X1, hD1, K⟩; rw [← HR1.out]; rw [← HR1.out] at hD1)))
        have A2 := Lib.hid a2
        have A3 := Lib.hid a3
        have A4 := Lib.hid a4
        have hD1s := hD1.ok.size
        have HBK := Lib.hid (back_flat (D := D1) (by omega) a4 (first := (F : Int)) (count := rc) (at_ := at_) (by rw [a3]; exact HON.out) bs)
        obtain ⟨r2, hr2⟩ : ∃ r2, r2 = pwrite D1 F rc at_ bs := ⟨_, rfl⟩
        have HR2 := Lib.hid hr2
        rw [← hr2] at HBK
        obtain ⟨q, D2⟩ := r2
        clear hr2 a2 a3 a4 HR1 HFN hD
        rcases HBK.out with ⟨b1, b2⟩ | ⟨p0, b1, b2, b3, b4, b5, b6⟩
        · simp only at b1 b2
          subst b2
          have HRD := Lib.hid (show pread D2 0 D.count 0 (j : Int) = (List.replicate j 201, 0) by
            have := all_read (D := D2) (by omega) A4.out
            rw [A3.out, A2.out, hNI, HNN.out, rng_const] at this
            exact this)
          have b1' : (q != 0) = true := by simpa using b1
          clear b1 HBK
          go_wp2_with (first | (go_at_call 18; (with_reducible refine (pwrite_any (show Known w0 _ (X1 ++ (row gf (fillC j j) 5 :: prow ga g 0 (D.count : Int) :: prow gp g (F : Int) rc :: row gr #[.int .i64 (F : Int), .int .i64 rc] 23 :: L)) from K.cov (by repeat (first | with_reducible exact Cov.all _ | with_reducible exact Cov.left _ _ | with_reducible exact Cov.nil _ | (with_reducible apply Cov.app; (· repeat (first | with_reducible exact Sel.nil _ | with_reducible exact Sel.ap _ _ | with_reducible exact Sel.hd _ _ | with_reducible exact Sel.all _ | with_reducible apply Sel.tl | with_reducible apply Sel.sk))) | (with_reducible apply Cov.cons; (· repeat (first | with_reducible exact Sel.nil _ | with_reducible exact Sel.ap _ _ | with_reducible exact Sel.hd _ _ | with_reducible exact Sel.all _ | with_reducible apply Sel.tl | with_reducible apply Sel.sk))) | with_reducible refine Cov.drop _ ?_ | with_reducible refine Cov.skip _ ?_))) hD1 (Has.tl _ (Has.tl _ (Has.hd _ _))) (by omega) (by omega) at_ hat (R.cov (by repeat (first | with_reducible exact Cov.all _ | with_reducible exact Cov.left _ _ | with_reducible exact Cov.nil _ | (with_reducible apply Cov.app; (· repeat (first | with_reducible exact Sel.nil _ | with_reducible exact Sel.ap _ _ | with_reducible exact Sel.hd _ _ | with_reducible exact Sel.all _ | with_reducible apply Sel.tl | with_reducible apply Sel.sk))) | (with_reducible apply Cov.cons; (· repeat (first | with_reducible exact Sel.nil _ | with_reducible exact Sel.ap _ _ | with_reducible exact Sel.hd _ _ | with_reducible exact Sel.all _ | with_reducible apply Sel.tl | with_reducible apply Sel.sk))) | with_reducible refine Cov.drop _ ?_ | with_reducible refine Cov.skip _ ?_))) hc HB.out (by omega) (by omega) (by omega)).mono ?_); clear K; rintro e w1 ⟨rfl, X2, hD2, K⟩; rw [← HR2.out]; rw [← HR2.out] at hD2) | (go_at_call 17; (with_reducible refine (pread_any (show Known w0 _ (X2 ++ (row gf (fillC j j) 5 :: prow ga g 0 (D.count : Int) :: prow gp g (F : Int) rc :: row gr #[.int .i64 (F : Int), .int .i64 rc] 23 :: L)) from K.cov (by repeat (first | with_reducible exact Cov.all _ | with_reducible exact Cov.left _ _ | with_reducible exact Cov.nil _ | (with_reducible apply Cov.app; (· repeat (first | with_reducible exact Sel.nil _ | with_reducible exact Sel.ap _ _ | with_reducible exact Sel.hd _ _ | with_reducible exact Sel.all _ | with_reducible apply Sel.tl | with_reducible apply Sel.sk))) | (with_reducible apply Cov.cons; (· repeat (first | with_reducible exact Sel.nil _ | with_reducible exact Sel.ap _ _ | with_reducible exact Sel.hd _ _ | with_reducible exact Sel.all _ | with_reducible apply Sel.tl | with_reducible apply Sel.sk))) | with_reducible refine Cov.drop _ ?_ | with_reducible refine Cov.skip _ ?_))) hD2 (Has.tl _ (Has.hd _ _)) (by omega) (by omega) 0 (by omega) (j : Int)).mono ?_); clear K; rintro e w1 ⟨A2, n2, c2, rfl, Z2, O2, hn2, K⟩; subst hn2; rw [HRD.out] at O2 ⊢; simp only [List.length_replicate, rng_len] at O2 ⊢) | (go_at_call 15; (with_reducible refine (awake07K K).mono ?_); clear K; rintro e w1 ⟨rfl, K⟩) | ((with_reducible refine at_convert (t := 24) (u := 9) rfl ?_); refine wpList_reads rfl (kr_string rfl rfl ((RdS.own (L := _) O2 (by repeat (first | with_reducible exact Seg.nil _ | with_reducible exact Seg.all _ | with_reducible exact Seg.ap _ _ | with_reducible exact Seg.hd _ _ | with_reducible apply Seg.tl | with_reducible apply Seg.sk))).at_ _ K) Try.underlying24 Try.underlying5 Try.underlying9) ?_) | ((with_reducible refine at_convert (t := 24) (u := 9) rfl ?_); refine wpList_reads rfl (kr_string rfl rfl ((fillC_rd (L := _) (by repeat (first | with_reducible exact Has.hd _ _ | with_reducible refine Has.tl _ ?_ | with_reducible refine Has.ap _ ?_))).at_ _ K) Try.underlying24 Try.underlying5 Try.underlying9) ?_))
          go_ret
          exact ⟨rfl, K.cov (by repeat (first | with_reducible exact Cov.all _ | with_reducible exact Cov.left _ _ | with_reducible exact Cov.nil _ | (with_reducible apply Cov.app; (· repeat (first | with_reducible exact Sel.nil _ | with_reducible exact Sel.ap _ _ | with_reducible exact Sel.hd _ _ | with_reducible exact Sel.all _ | with_reducible apply Sel.tl | with_reducible apply Sel.sk))) | (with_reducible apply Cov.cons; (· repeat (first | with_reducible exact Sel.nil _ | with_reducible exact Sel.ap _ _ | with_reducible exact Sel.hd _ _ | with_reducible exact Sel.all _ | with_reducible apply Sel.tl | with_reducible apply Sel.sk))) | with_reducible refine Cov.drop _ ?_ | with_reducible refine Cov.skip _ ?_))⟩
        · simp only at b1 b2 b3 b4 b5 b6
          subst b3
          have hl := R.len
          rw [hl] at b2 b6
          obtain ⟨G, hG⟩ : ∃ G : Nat → Int, G = fun p => if p0 ≤ p ∧ p < p0 + upto D1.size n then bs.getD (p - p0) 0 else 201 := ⟨_, rfl⟩
          have HG := Lib.hid hG
          have HRD := Lib.hid (show pread D2 0 D.count 0 (j : Int) = (rng G 0 j, 0) by
            have b7 : Flat D2 G := by rw [hG]; exact b6
            have := all_read (D := D2) (by omega) b7
            rw [b5, b4, A3.out, A2.out, hNI, HNN.out] at this
            exact this)
          obtain ⟨fs, hfs⟩ : ∃ fs : Nat, (F : Int) * (D.size : Int) = fs := ⟨F * D.size, (Int.natCast_mul ..).symm⟩
          have hfsb : (fs : Int) ≤ 40 * 512 := by rw [← hfs]; exact Int.mul_le_mul (by omega) (by omega) (by omega) (by omega)
          rw [A2.out, hfs] at b1
          obtain ⟨U, hU⟩ : ∃ U, U = upto D1.size n := ⟨_, rfl⟩
          have hsp : 0 < D.size := by omega
          have hUb : n ≤ U := by rw [hU]; exact upto_ge (by omega) n
          have hUN : p0 + U ≤ j := by rw [hU, ← HNN.out, Nat.mul_comm]; rw [← A2.out, ← A3.out]; exact b2
          rw [← hU] at hG
          obtain ⟨qq, hqq⟩ : ∃ qq : Nat, (n + D.size - 1) / D.size = qq := ⟨_, rfl⟩
          have hqU : (qq : Int) * (D.size : Int) = (U : Int) := by rw [← Int.natCast_mul, hU, upto, A2.out, hqq]
          have htd : Int.tdiv ((n : Int) + (D.size : Int) - 1) (D.size : Int) = (qq : Int) := by
            rw [Int.tdiv_eq_ediv_of_nonneg (by omega), show (n : Int) + (D.size : Int) - 1 = ((n + D.size - 1 : Nat) : Int) by omega, ← Int.natCast_ediv, hqq]
          have hnn : D.size ≠ 0 := by omega
          have hqb : qq ≤ 4000 := by rw [← hqq]; exact Nat.le_trans (Nat.div_le_self _ _) (by omega)
          have k1 := IntWalk.i64_in (fs : Int) (by omega)
          have k2 := IntWalk.i64_in ((p0 : Nat) : Int) (by omega)
          have k3 := IntWalk.i64_in ((n : Int) + (D.size : Int)) (by omega)
          have k4 := IntWalk.i64_in ((n : Int) + (D.size : Int) - 1) (by omega)
          have k5 := IntWalk.i64_in (qq : Int) (by omega)
          have k6 := IntWalk.i64_in (U : Int) (by omega)
          have HG2 := Lib.hid hG
          clear HBK b2 b6 hU hqq hG hfsb
          go_upto_region 24 with ((first | (go_at_call 18; (with_reducible refine (pwrite_any (show Known w0 _ (X1 ++ (row gf (fillC j j) 5 :: prow ga g 0 (D.count : Int) :: prow gp g (F : Int) rc :: row gr #[.int .i64 (F : Int), .int .i64 rc] 23 :: L)) from K.cov (by repeat (first | with_reducible exact Cov.all _ | with_reducible exact Cov.left _ _ | with_reducible exact Cov.nil _ | (with_reducible apply Cov.app; (· repeat (first | with_reducible exact Sel.nil _ | with_reducible exact Sel.ap _ _ | with_reducible exact Sel.hd _ _ | with_reducible exact Sel.all _ | with_reducible apply Sel.tl | with_reducible apply Sel.sk))) | (with_reducible apply Cov.cons; (· repeat (first | with_reducible exact Sel.nil _ | with_reducible exact Sel.ap _ _ | with_reducible exact Sel.hd _ _ | with_reducible exact Sel.all _ | with_reducible apply Sel.tl | with_reducible apply Sel.sk))) | with_reducible refine Cov.drop _ ?_ | with_reducible refine Cov.skip _ ?_))) hD1 (Has.tl _ (Has.tl _ (Has.hd _ _))) (by omega) (by omega) at_ hat (R.cov (by repeat (first | with_reducible exact Cov.all _ | with_reducible exact Cov.left _ _ | with_reducible exact Cov.nil _ | (with_reducible apply Cov.app; (· repeat (first | with_reducible exact Sel.nil _ | with_reducible exact Sel.ap _ _ | with_reducible exact Sel.hd _ _ | with_reducible exact Sel.all _ | with_reducible apply Sel.tl | with_reducible apply Sel.sk))) | (with_reducible apply Cov.cons; (· repeat (first | with_reducible exact Sel.nil _ | with_reducible exact Sel.ap _ _ | with_reducible exact Sel.hd _ _ | with_reducible exact Sel.all _ | with_reducible apply Sel.tl | with_reducible apply Sel.sk))) | with_reducible refine Cov.drop _ ?_ | with_reducible refine Cov.skip _ ?_))) hc HB.out (by omega) (by omega) (by omega)).mono ?_); clear K; rintro e w1 ⟨rfl, X2, hD2, K⟩; rw [← HR2.out]; rw [← HR2.out] at hD2) | (go_at_call 17; (with_reducible refine (pread_any (show Known w0 _ (X2 ++ (row gf (fillC j j) 5 :: prow ga g 0 (D.count : Int) :: prow gp g (F : Int) rc :: row gr #[.int .i64 (F : Int), .int .i64 rc] 23 :: L)) from K.cov (by repeat (first | with_reducible exact Cov.all _ | with_reducible exact Cov.left _ _ | with_reducible exact Cov.nil _ | (with_reducible apply Cov.app; (· repeat (first | with_reducible exact Sel.nil _ | with_reducible exact Sel.ap _ _ | with_reducible exact Sel.hd _ _ | with_reducible exact Sel.all _ | with_reducible apply Sel.tl | with_reducible apply Sel.sk))) | (with_reducible apply Cov.cons; (· repeat (first | with_reducible exact Sel.nil _ | with_reducible exact Sel.ap _ _ | with_reducible exact Sel.hd _ _ | with_reducible exact Sel.all _ | with_reducible apply Sel.tl | with_reducible apply Sel.sk))) | with_reducible refine Cov.drop _ ?_ | with_reducible refine Cov.skip _ ?_))) hD2 (Has.tl _ (Has.hd _ _)) (by omega) (by omega) 0 (by omega) (j : Int)).mono ?_); clear K; rintro e w1 ⟨A2, n2, c2, rfl, Z2, O2, hn2, K⟩; subst hn2; rw [HRD.out] at O2 ⊢; simp only [List.length_replicate, rng_len] at O2 ⊢) | ((with_reducible refine at_eqnil rfl ?_); refine wpList_reads rfl (kr_eqnil rfl rfl (by kernel_rfl)) ?_) | ((with_reducible refine at_box rfl ?_); refine wpList_does rfl (kd_box K _ _ rfl (by conv => lhs; whnf)) ?_; clear K; rintro _ w1 ⟨g, rfl, K⟩; (try dsimp only [Value.cells] at K)) | ((with_reducible refine at_alloc rfl ?_); refine wpList_does rfl (kd_alloc K _ rfl rfl) ?_; clear K; rintro _ w1 ⟨g, rfl, K⟩; (try dsimp only [Value.cells] at K)) | ((with_reducible refine at_buildSlice rfl ?_); refine wpList_does rfl (kd_lits (cs := _) K _ _ _ rfl (by first | rfl | (go_simp; done) | (go_simp; rfl)) (by first | rfl | (go_simp; done) | (go_simp; rfl))) ?_; clear K; rintro _ w1 ⟨g, rfl, K⟩) | ((with_reducible refine at_load rfl ?_); first | (refine wpList_reads (by rfl) (kr_load_cell K _ _ (by rfl) (by rfl) (by repeat (first | with_reducible exact Has.hd _ _ | with_reducible refine Has.tl _ ?_ | with_reducible refine Has.ap _ ?_)) (by decide +kernel) (by (try simp only [List.getElem?_toArray, List.getElem?_cons_succ, List.getElem?_cons_zero]); exact rfl)) ?_) | (refine wpList_reads (by rfl) (kr_load_row K _ _ (by rfl) (by rfl) (by repeat (first | with_reducible exact Has.hd _ _ | with_reducible refine Has.tl _ ?_ | with_reducible refine Has.ap _ ?_)) (by decide +kernel) (by kernel_rfl)) ?_)) | ((with_reducible refine at_store rfl ?_); (first | (refine wpList_does rfl (kd_store_cell K _ _ _ rfl rfl (by conv => lhs; whnf) (by repeat (first | with_reducible exact Repl.hd _ _ _ | with_reducible apply Repl.tl | with_reducible apply Repl.ap)) rfl rfl (by kernel_rfl) (by kernel_rfl) (by first | (simp only [List.setIfInBounds_toArray, List.set_cons_succ, List.set_cons_zero]; rfl) | rfl)) ?_) | (refine wpList_does rfl (kd_store_row K _ _ _ rfl rfl rfl (by repeat (first | with_reducible exact Repl.hd _ _ _ | with_reducible apply Repl.tl | with_reducible apply Repl.ap)) (by kernel_rfl) (by kernel_rfl) (by kernel_rfl)) ?_)); clear K; intro _ w1 K; (try simp only [Act.put]))))
          have HQ := Lib.hid (show ∀ k, k < j → (rng G 0 j).getD k 0 = if p0 ≤ k ∧ k < p0 + U then bs.getD (k - p0) 0 else 201 from fun k hk => by
            rw [HG2.out]
            simp [rng, List.getD, hk])
          have hcc := O2.le
          obtain ⟨LL, hLL⟩ : ∃ LL, LL = X2 ++ (Z2 ++ (row gf (fillC j j) 5 :: prow ga g 0 (D.count : Int) :: prow gp g (F : Int) rc :: row gr #[.int .i64 (F : Int), .int .i64 rc] 23 :: L)) := ⟨_, rfl⟩
          have RN : RdS w0 LL .u8 A2 j (rng G 0 j) := by rw [hLL]; exact RdS.own O2 (by repeat (first | with_reducible exact Seg.nil _ | with_reducible exact Seg.all _ | with_reducible exact Seg.ap _ _ | with_reducible exact Seg.hd _ _ | with_reducible apply Seg.tl | with_reducible apply Seg.sk))
          have RB : RdS w0 LL .u8 A n bs := by rw [hLL]; exact R.cov (by repeat (first | with_reducible exact Cov.all _ | with_reducible exact Cov.left _ _ | with_reducible exact Cov.nil _ | (with_reducible apply Cov.app; (· repeat (first | with_reducible exact Sel.nil _ | with_reducible exact Sel.ap _ _ | with_reducible exact Sel.hd _ _ | with_reducible exact Sel.all _ | with_reducible apply Sel.tl | with_reducible apply Sel.sk))) | (with_reducible apply Cov.cons; (· repeat (first | with_reducible exact Sel.nil _ | with_reducible exact Sel.ap _ _ | with_reducible exact Sel.hd _ _ | with_reducible exact Sel.all _ | with_reducible apply Sel.tl | with_reducible apply Sel.sk))) | with_reducible refine Cov.drop _ ?_ | with_reducible refine Cov.skip _ ?_))
          rw [← hLL] at K
          have KC := Lib.hid (show ∀ w', Known w0 w' LL → Known w0 w' L from fun w' K => by rw [hLL] at K; exact K.cov (by repeat (first | with_reducible exact Cov.all _ | with_reducible exact Cov.left _ _ | with_reducible exact Cov.nil _ | (with_reducible apply Cov.app; (· repeat (first | with_reducible exact Sel.nil _ | with_reducible exact Sel.ap _ _ | with_reducible exact Sel.hd _ _ | with_reducible exact Sel.all _ | with_reducible apply Sel.tl | with_reducible apply Sel.sk))) | (with_reducible apply Cov.cons; (· repeat (first | with_reducible exact Sel.nil _ | with_reducible exact Sel.ap _ _ | with_reducible exact Sel.hd _ _ | with_reducible exact Sel.all _ | with_reducible apply Sel.tl | with_reducible apply Sel.sk))) | with_reducible refine Cov.drop _ ?_ | with_reducible refine Cov.skip _ ?_)))
          clear hLL O2
          go_loopg [24] j (fun d i wr => ∃ (k : Nat), i = .int .i64 k ∧ k + d = j ∧ Known w0 wr LL)
          case atStart => exact ⟨0, by go_num, by omega, K⟩
          case round =>
            clear K
            obtain ⟨k, rfl, hd, K⟩ := hrel
            by_cases hk : k < j
            · have hk1 : (0 : Int) ≤ (k : Int) ∧ (k : Int) < j := by omega
              have hk2 : (k : Int) < j := by omega
              have j1 := IntWalk.i64_in ((k : Int) + 1) (by omega)
              have hq := HQ.out k hk
              obtain ⟨bN, oN, rfl⟩ := RN.form K (by omega)
              by_cases e1 : p0 ≤ k
              · by_cases e2 : k < p0 + n
                · have f1 : (p0 : Int) ≤ (k : Int) := by omega
                  have f2 : (k : Int) < (p0 : Int) + (n : Int) := by omega
                  rw [if_pos ⟨e1, by omega⟩] at hq
                  obtain ⟨v, hv⟩ : ∃ v, bs.getD (k - p0) 0 = v := ⟨_, rfl⟩
                  have HV2 := Lib.hid hv
                  have HV := Lib.hid (hq.trans hv)
                  have j2 := IntWalk.i64_in ((k : Int) - (p0 : Int)) (by omega)
                  have j3 := IntWalk.i64_in ((p0 : Int) + (n : Int)) (by omega)
                  have j4 : (0 : Int) ≤ (k : Int) - (p0 : Int) ∧ (k : Int) - (p0 : Int) < (n : Int) := by omega
                  clear hq hv e1 e2
                  obtain ⟨bB, oB, rfl⟩ := RB.form K (by omega)
                  go_wp2_with (first | ((with_reducible refine at_load rfl ?_); first | (refine wpList_reads (by rfl) (kr_load_cell K _ _ (by rfl) (by rfl) (by repeat (first | with_reducible exact Has.hd _ _ | with_reducible refine Has.tl _ ?_ | with_reducible refine Has.ap _ ?_)) (by decide +kernel) (by (try simp only [List.getElem?_toArray, List.getElem?_cons_succ, List.getElem?_cons_zero]); exact rfl)) ?_) | (refine wpList_reads (by rfl) (kr_load_row K _ _ (by rfl) (by rfl) (by repeat (first | with_reducible exact Has.hd _ _ | with_reducible refine Has.tl _ ?_ | with_reducible refine Has.ap _ ?_)) (by decide +kernel) (by kernel_rfl)) ?_) | (refine wpList_reads (by rfl) (kr_load_fact _ _ (by rfl) (by rfl) (RN.cell K (by omega) HV.out (by omega)) (by decide +kernel)) ?_)) | ((with_reducible refine at_load rfl ?_); first | (refine wpList_reads (by rfl) (kr_load_cell K _ _ (by rfl) (by rfl) (by repeat (first | with_reducible exact Has.hd _ _ | with_reducible refine Has.tl _ ?_ | with_reducible refine Has.ap _ ?_)) (by decide +kernel) (by (try simp only [List.getElem?_toArray, List.getElem?_cons_succ, List.getElem?_cons_zero]); exact rfl)) ?_) | (refine wpList_reads (by rfl) (kr_load_row K _ _ (by rfl) (by rfl) (by repeat (first | with_reducible exact Has.hd _ _ | with_reducible refine Has.tl _ ?_ | with_reducible refine Has.ap _ ?_)) (by decide +kernel) (by kernel_rfl)) ?_) | (refine wpList_reads (by rfl) (kr_load_fact _ _ (by rfl) (by rfl) (RB.cell K (by omega) HV2.out (by omega)) (by decide +kernel)) ?_)))
                  go_roundg (gk - 1)
                  case measure => omega
                  case rel => exact ⟨k + 1, by go_num, by omega, K⟩
                · by_cases e3 : k < p0 + U
                  · have f1 : (p0 : Int) ≤ (k : Int) := by omega
                    have f2 : ¬ (k : Int) < (p0 : Int) + (n : Int) := by omega
                    have f3 : (k : Int) < (p0 : Int) + (U : Int) := by omega
                    have hnx : bs.getD (k - p0) 0 = 0 := by rw [List.getD, List.getElem?_eq_none (show bs.length ≤ k - p0 by omega), Option.getD_none]
                    rw [if_pos ⟨e1, e3⟩, hnx] at hq
                    have HV := Lib.hid hq
                    have j3 := IntWalk.i64_in ((p0 : Int) + (n : Int)) (by omega)
                    have j4 := IntWalk.i64_in ((p0 : Int) + (U : Int)) (by omega)
                    clear hnx hq e1 e2 e3
                    go_wp2_with (first | ((with_reducible refine at_load rfl ?_); first | (refine wpList_reads (by rfl) (kr_load_cell K _ _ (by rfl) (by rfl) (by repeat (first | with_reducible exact Has.hd _ _ | with_reducible refine Has.tl _ ?_ | with_reducible refine Has.ap _ ?_)) (by decide +kernel) (by (try simp only [List.getElem?_toArray, List.getElem?_cons_succ, List.getElem?_cons_zero]); exact rfl)) ?_) | (refine wpList_reads (by rfl) (kr_load_row K _ _ (by rfl) (by rfl) (by repeat (first | with_reducible exact Has.hd _ _ | with_reducible refine Has.tl _ ?_ | with_reducible refine Has.ap _ ?_)) (by decide +kernel) (by kernel_rfl)) ?_) | (refine wpList_reads (by rfl) (kr_load_fact _ _ (by rfl) (by rfl) (RN.cell K (by omega) HV.out (by omega)) (by decide +kernel)) ?_)))
                    go_roundg (gk - 1)
                    case measure => omega
                    case rel => exact ⟨k + 1, by go_num, by omega, K⟩
                  · have f1 : (p0 : Int) ≤ (k : Int) := by omega
                    have f2 : ¬ (k : Int) < (p0 : Int) + (n : Int) := by omega
                    have f3 : ¬ (k : Int) < (p0 : Int) + (U : Int) := by omega
                    rw [if_neg (by omega)] at hq
                    have HV := Lib.hid hq
                    have j3 := IntWalk.i64_in ((p0 : Int) + (n : Int)) (by omega)
                    have j4 := IntWalk.i64_in ((p0 : Int) + (U : Int)) (by omega)
                    clear hq e1 e2 e3
                    go_wp2_with (first | ((with_reducible refine at_load rfl ?_); first | (refine wpList_reads (by rfl) (kr_load_cell K _ _ (by rfl) (by rfl) (by repeat (first | with_reducible exact Has.hd _ _ | with_reducible refine Has.tl _ ?_ | with_reducible refine Has.ap _ ?_)) (by decide +kernel) (by (try simp only [List.getElem?_toArray, List.getElem?_cons_succ, List.getElem?_cons_zero]); exact rfl)) ?_) | (refine wpList_reads (by rfl) (kr_load_row K _ _ (by rfl) (by rfl) (by repeat (first | with_reducible exact Has.hd _ _ | with_reducible refine Has.tl _ ?_ | with_reducible refine Has.ap _ ?_)) (by decide +kernel) (by kernel_rfl)) ?_) | (refine wpList_reads (by rfl) (kr_load_fact _ _ (by rfl) (by rfl) (RN.cell K (by omega) HV.out (by omega)) (by decide +kernel)) ?_)))
                    go_roundg (gk - 1)
                    case measure => omega
                    case rel => exact ⟨k + 1, by go_num, by omega, K⟩
              · have f1 : ¬ (p0 : Int) ≤ (k : Int) := by omega
                rw [if_neg (by omega)] at hq
                have HV := Lib.hid hq
                clear hq e1
                go_wp2_with (first | ((with_reducible refine at_load rfl ?_); first | (refine wpList_reads (by rfl) (kr_load_cell K _ _ (by rfl) (by rfl) (by repeat (first | with_reducible exact Has.hd _ _ | with_reducible refine Has.tl _ ?_ | with_reducible refine Has.ap _ ?_)) (by decide +kernel) (by (try simp only [List.getElem?_toArray, List.getElem?_cons_succ, List.getElem?_cons_zero]); exact rfl)) ?_) | (refine wpList_reads (by rfl) (kr_load_row K _ _ (by rfl) (by rfl) (by repeat (first | with_reducible exact Has.hd _ _ | with_reducible refine Has.tl _ ?_ | with_reducible refine Has.ap _ ?_)) (by decide +kernel) (by kernel_rfl)) ?_) | (refine wpList_reads (by rfl) (kr_load_fact _ _ (by rfl) (by rfl) (RN.cell K (by omega) HV.out (by omega)) (by decide +kernel)) ?_)))
                go_roundg (gk - 1)
                case measure => omega
                case rel => exact ⟨k + 1, by go_num, by omega, K⟩
            · obtain rfl : k = j := by omega
              go_wp2_with (first | (go_at_call 15; (with_reducible refine (awake07K K).mono ?_); clear K; rintro e w1 ⟨rfl, K⟩))
              go_ret
              exact ⟨rfl, KC.out _ K⟩
end
end Go.Proofs.Ytokbloddaoakgaa
