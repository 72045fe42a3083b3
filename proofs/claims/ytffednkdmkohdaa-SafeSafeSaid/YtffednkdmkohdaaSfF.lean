/-
  safe: the checker's step, late, plan (contracts).
-/
import Derived.Test.YtffednkdmkohdaaSfE
set_option linter.unusedVariables false
set_option linter.unusedSimpArgs false
namespace Go.Proofs.Ytffednkdmkohdaa
open Go.RowKit
abbrev ckRow (gc gw n : Nat) (block old : Int) : Ent := row gc #[.int .i64 block, .int .i64 old, .slice (some ⟨gw, 0, none⟩) n n] 87
abbrev wkRow (gw n : Nat) (ws : List Int) : Ent := row gw (marks n ws) 4
def stepE (old : Int) (s : Ast) : Int := if overB old s then 5 else 0
theorem stepE_iff {old : Int} {s : Ast} {b : Bool} (h : overB old s = b) : stepE old s = if b then 5 else 0 := by rw [stepE, h]
theorem overB_iff (old : Int) (s : Ast) : overB old s = (decide (s.kind ≠ 1) && (decide (old < s.from_) || decide (old - s.from_ < s.len))) ∨ s.len < 1 := by
  by_cases h : s.len < 1
  · exact .inr h
  · left
    unfold overB
    congr 1
    rw [Bool.eq_iff_iff]
    simp
    omega
theorem all_take' {l : List Ast} {j : Nat} {p : Ast → Bool} (h : j < l.length) : (l.take (j + 1)).all p = ((l.take j).all p && p l[j]) := by
  rw [List.take_succ_eq_append_getElem h, List.all_append]
  simp
theorem any_take' {l : List Ast} {j : Nat} {p : Ast → Bool} (h : j < l.length) : (l.take (j + 1)).any p = ((l.take j).any p || p l[j]) := by
  rw [List.take_succ_eq_append_getElem h, List.any_append]
  simp

section
variable {w0 w : World} {L : List Ent} {gc gw n : Nat} {ws : List Int} {block old : Int} {s : Ast}
set_option maxHeartbeats 800000 in
set_option maxRecDepth 100000 in
theorem cstep_any (K : Known w0 w L) (hg : Has (ckRow gc gw n block old) L) (hr : rightB s = true) (ho : 0 ≤ old ∧ old ≤ 2147483647) : Calls Try.prog 82 #[.pointer (some ⟨gc, 0, none⟩), .agg #[.int .u8 s.kind, .int .i64 s.from_, .int .i64 s.len, .slice s.A s.n s.c]] w fun e w' => e = .returned (.int .i64 (stepE old s)) ∧ Known w0 w' L := by
  have hry := rightB_yes hr
  have hov : overB old s = (decide (s.kind ≠ 1) && (decide (old < s.from_) || decide (old - s.from_ < s.len))) := by
    rcases overB_iff old s with h | h
    · exact h
    · omega
  clear hr
  by_cases hk : s.kind = 1
  · have e1 : (s.kind == 1) = true := by simpa using hk
    have HR := Lib.hid (stepE_iff (show overB old s = false by rw [hov, decide_eq_false (by simpa using hk)]; rfl))
    clear hk hov
    go_enter Try.func82, Try.ntmps82
    go_wp2_with (first | ((with_reducible refine at_eqnil rfl ?_); refine wpList_reads rfl (kr_eqnil rfl rfl (by kernel_rfl)) ?_) | ((with_reducible refine at_box rfl ?_); refine wpList_does rfl (kd_box K _ _ rfl (by conv => lhs; whnf)) ?_; clear K; rintro _ w1 ⟨g, rfl, K⟩; (try dsimp only [Value.cells] at K)) | ((with_reducible refine at_alloc rfl ?_); refine wpList_does rfl (kd_alloc K _ rfl rfl) ?_; clear K; rintro _ w1 ⟨g, rfl, K⟩; (try dsimp only [Value.cells] at K)) | ((with_reducible refine at_buildSlice rfl ?_); refine wpList_does rfl (kd_lits (cs := _) K _ _ _ rfl (by first | rfl | (go_simp; done) | (go_simp; rfl)) (by first | rfl | (go_simp; done) | (go_simp; rfl))) ?_; clear K; rintro _ w1 ⟨g, rfl, K⟩) | ((with_reducible refine at_load rfl ?_); first | (refine wpList_reads (by rfl) (kr_load_cell K _ _ (by rfl) (by rfl) Has.auto (by decide +kernel) (by (try simp only [List.getElem?_toArray, List.getElem?_cons_succ, List.getElem?_cons_zero]); exact rfl)) ?_) | (refine wpList_reads (by rfl) (kr_load_row K _ _ (by rfl) (by rfl) Has.auto (by decide +kernel) (by kernel_rfl)) ?_)) | ((with_reducible refine at_store rfl ?_); (first | (refine wpList_does rfl (kd_store_cell K _ _ _ rfl rfl (by conv => lhs; whnf) Repl.auto rfl rfl (by kernel_rfl) (by kernel_rfl) (by first | (simp only [List.setIfInBounds_toArray, List.set_cons_succ, List.set_cons_zero]; rfl) | rfl)) ?_) | (refine wpList_does rfl (kd_store_row K _ _ _ rfl rfl rfl Repl.auto (by kernel_rfl) (by kernel_rfl) (by kernel_rfl)) ?_)); clear K; intro _ w1 K; (try simp only [Act.put])))
    go_ret
    exact ⟨by rw [HR.out]; rfl, K.cov Cov.auto⟩
  have e1 : (s.kind == 1) = false := by simpa using hk
  have hg2 : ∀ x : Ent, Has (ckRow gc gw n block old) (x :: L) := fun x => Has.tl x hg
  by_cases h1 : old < s.from_
  · have d1 : decide (old < s.from_) = true := decide_eq_true h1
    have HR := Lib.hid (stepE_iff (show overB old s = true by rw [hov, decide_eq_true hk, d1]; rfl))
    clear hk hov h1
    go_enter Try.func82, Try.ntmps82
    go_upto_region 3 with ((first | ((with_reducible refine at_eqnil rfl ?_); refine wpList_reads rfl (kr_eqnil rfl rfl (by kernel_rfl)) ?_) | ((with_reducible refine at_box rfl ?_); refine wpList_does rfl (kd_box K _ _ rfl (by conv => lhs; whnf)) ?_; clear K; rintro _ w1 ⟨g, rfl, K⟩; (try dsimp only [Value.cells] at K)) | ((with_reducible refine at_alloc rfl ?_); refine wpList_does rfl (kd_alloc K _ rfl rfl) ?_; clear K; rintro _ w1 ⟨g, rfl, K⟩; (try dsimp only [Value.cells] at K)) | ((with_reducible refine at_buildSlice rfl ?_); refine wpList_does rfl (kd_lits (cs := _) K _ _ _ rfl (by first | rfl | (go_simp; done) | (go_simp; rfl)) (by first | rfl | (go_simp; done) | (go_simp; rfl))) ?_; clear K; rintro _ w1 ⟨g, rfl, K⟩) | ((with_reducible refine at_load rfl ?_); first | (refine wpList_reads (by rfl) (kr_load_cell K _ _ (by rfl) (by rfl) Has.auto (by decide +kernel) (by (try simp only [List.getElem?_toArray, List.getElem?_cons_succ, List.getElem?_cons_zero]); exact rfl)) ?_) | (refine wpList_reads (by rfl) (kr_load_row K _ _ (by rfl) (by rfl) Has.auto (by decide +kernel) (by kernel_rfl)) ?_)) | ((with_reducible refine at_store rfl ?_); (first | (refine wpList_does rfl (kd_store_cell K _ _ _ rfl rfl (by conv => lhs; whnf) Repl.auto rfl rfl (by kernel_rfl) (by kernel_rfl) (by first | (simp only [List.setIfInBounds_toArray, List.set_cons_succ, List.set_cons_zero]; rfl) | rfl)) ?_) | (refine wpList_does rfl (kd_store_row K _ _ _ rfl rfl rfl Repl.auto (by kernel_rfl) (by kernel_rfl) (by kernel_rfl)) ?_)); clear K; intro _ w1 K; (try simp only [Act.put]))))
    replace hg2 := hg2 (row g #[.int .u8 s.kind, .int .i64 s.from_, .int .i64 s.len, .slice s.A s.n s.c] 71)
    refine wp_region_GK K (Cov.all _) (by kernel_rfl) (by kernel_rfl) (by kernel_rfl) (fun K hHeld => ?_)
    refine wpG_takeA 0 (v := ?_) ?_ hHeld ?_
    rotate_left
    · (intro w hS; (clear hS; go_simp); try with_reducible rfl)
    try simp only [Act.put, List.setIfInBounds_toArray, List.set_cons_zero, List.set_cons_succ]
    refine wpG_takeA 1 (v := ?_) ?_ hHeld ?_
    rotate_left
    · (intro w hS; first | exact kr_load_cell hS _ _ (by rfl) (by rfl) Has.auto (by decide +kernel) (by (try simp only [List.getElem?_toArray, List.getElem?_cons_succ, List.getElem?_cons_zero]); exact rfl) | exact kr_load_row hS _ _ (by rfl) (by rfl) Has.auto (by decide +kernel) (by kernel_rfl))
    try simp only [Act.put, List.setIfInBounds_toArray, List.set_cons_zero, List.set_cons_succ]
    refine wpG_takeA 2 (v := ?_) ?_ hHeld ?_
    rotate_left
    · (intro w hS; (clear hS; go_simp); try with_reducible rfl)
    try simp only [Act.put, List.setIfInBounds_toArray, List.set_cons_zero, List.set_cons_succ]
    refine wpG_takeA 3 (v := ?_) ?_ hHeld ?_
    rotate_left
    · (intro w hS; (clear hS; go_simp); try with_reducible rfl)
    try simp only [Act.put, List.setIfInBounds_toArray, List.set_cons_zero, List.set_cons_succ]
    refine wpG_takeA 4 (v := ?_) ?_ hHeld ?_
    rotate_left
    · (intro w hS; (clear hS; go_simp); try with_reducible rfl)
    try simp only [Act.put, List.setIfInBounds_toArray, List.set_cons_zero, List.set_cons_succ]
    refine wpG_takeA 5 (v := .int .i64 old) ?_ hHeld ?_
    · (intro w hS; first | exact kr_load_cell hS _ _ (by rfl) (by rfl) (hg2) (by kernel_rfl) ((by rfl)))
    try simp only [Act.put, List.setIfInBounds_toArray, List.set_cons_zero, List.set_cons_succ]
    refine wpG_takeA 6 (v := ?_) ?_ hHeld ?_
    rotate_left
    · (intro w hS; (clear hS; go_simp); try with_reducible rfl)
    try simp only [Act.put, List.setIfInBounds_toArray, List.set_cons_zero, List.set_cons_succ]
    refine wpG_takeA 7 (v := ?_) ?_ hHeld ?_
    rotate_left
    · (intro w hS; (clear hS; go_simp); try with_reducible rfl)
    try simp only [Act.put, List.setIfInBounds_toArray, List.set_cons_zero, List.set_cons_succ]
    refine wpG_offA 8 hHeld ?_
    try simp only [Act.put, List.setIfInBounds_toArray, List.set_cons_zero, List.set_cons_succ]
    refine wpG_offA 9 hHeld ?_
    try simp only [Act.put, List.setIfInBounds_toArray, List.set_cons_zero, List.set_cons_succ]
    refine wpG_offA 10 hHeld ?_
    try simp only [Act.put, List.setIfInBounds_toArray, List.set_cons_zero, List.set_cons_succ]
    refine wpG_offA 11 hHeld ?_
    try simp only [Act.put, List.setIfInBounds_toArray, List.set_cons_zero, List.set_cons_succ]
    refine wpG_offA 12 hHeld ?_
    try simp only [Act.put, List.setIfInBounds_toArray, List.set_cons_zero, List.set_cons_succ]
    refine wpG_offA 13 hHeld ?_
    try simp only [Act.put, List.setIfInBounds_toArray, List.set_cons_zero, List.set_cons_succ]
    refine wpG_offA 14 hHeld ?_
    try simp only [Act.put, List.setIfInBounds_toArray, List.set_cons_zero, List.set_cons_succ]
    refine wpG_offA 15 hHeld ?_
    try simp only [Act.put, List.setIfInBounds_toArray, List.set_cons_zero, List.set_cons_succ]
    refine wpG_offA 16 hHeld ?_
    try simp only [Act.put, List.setIfInBounds_toArray, List.set_cons_zero, List.set_cons_succ]
    refine wpG_offA 17 hHeld ?_
    try simp only [Act.put, List.setIfInBounds_toArray, List.set_cons_zero, List.set_cons_succ]
    refine wpG_takeA 18 (v := ?_) ?_ hHeld ?_
    rotate_left
    · (intro w hS; (clear hS; go_simp); try with_reducible rfl)
    try simp only [Act.put, List.setIfInBounds_toArray, List.set_cons_zero, List.set_cons_succ]
    refine wpG_takeA 19 (v := ?_) ?_ hHeld ?_
    rotate_left
    · (intro w hS; (clear hS; go_simp); try with_reducible rfl)
    try simp only [Act.put, List.setIfInBounds_toArray, List.set_cons_zero, List.set_cons_succ]
    refine wpG_done (by kernel_rfl) ?_
    skip
    go_wp2
    go_ret
    exact ⟨by rw [HR.out]; rfl, K.cov Cov.auto⟩
  have d1 : decide (old < s.from_) = false := decide_eq_false h1
  have i1 := IntWalk.i64_in (old - s.from_) (by omega)
  by_cases h2 : old - s.from_ < s.len
  · have d2 : decide (old - s.from_ < s.len) = true := decide_eq_true h2
    have HR := Lib.hid (stepE_iff (show overB old s = true by rw [hov, decide_eq_true hk, d1, d2]; rfl))
    clear hk hov h1 h2
    go_enter Try.func82, Try.ntmps82
    go_upto_region 3 with ((first | ((with_reducible refine at_eqnil rfl ?_); refine wpList_reads rfl (kr_eqnil rfl rfl (by kernel_rfl)) ?_) | ((with_reducible refine at_box rfl ?_); refine wpList_does rfl (kd_box K _ _ rfl (by conv => lhs; whnf)) ?_; clear K; rintro _ w1 ⟨g, rfl, K⟩; (try dsimp only [Value.cells] at K)) | ((with_reducible refine at_alloc rfl ?_); refine wpList_does rfl (kd_alloc K _ rfl rfl) ?_; clear K; rintro _ w1 ⟨g, rfl, K⟩; (try dsimp only [Value.cells] at K)) | ((with_reducible refine at_buildSlice rfl ?_); refine wpList_does rfl (kd_lits (cs := _) K _ _ _ rfl (by first | rfl | (go_simp; done) | (go_simp; rfl)) (by first | rfl | (go_simp; done) | (go_simp; rfl))) ?_; clear K; rintro _ w1 ⟨g, rfl, K⟩) | ((with_reducible refine at_load rfl ?_); first | (refine wpList_reads (by rfl) (kr_load_cell K _ _ (by rfl) (by rfl) Has.auto (by decide +kernel) (by (try simp only [List.getElem?_toArray, List.getElem?_cons_succ, List.getElem?_cons_zero]); exact rfl)) ?_) | (refine wpList_reads (by rfl) (kr_load_row K _ _ (by rfl) (by rfl) Has.auto (by decide +kernel) (by kernel_rfl)) ?_)) | ((with_reducible refine at_store rfl ?_); (first | (refine wpList_does rfl (kd_store_cell K _ _ _ rfl rfl (by conv => lhs; whnf) Repl.auto rfl rfl (by kernel_rfl) (by kernel_rfl) (by first | (simp only [List.setIfInBounds_toArray, List.set_cons_succ, List.set_cons_zero]; rfl) | rfl)) ?_) | (refine wpList_does rfl (kd_store_row K _ _ _ rfl rfl rfl Repl.auto (by kernel_rfl) (by kernel_rfl) (by kernel_rfl)) ?_)); clear K; intro _ w1 K; (try simp only [Act.put]))))
    replace hg2 := hg2 (row g #[.int .u8 s.kind, .int .i64 s.from_, .int .i64 s.len, .slice s.A s.n s.c] 71)
    refine wp_region_GK K (Cov.all _) (by kernel_rfl) (by kernel_rfl) (by kernel_rfl) (fun K hHeld => ?_)
    refine wpG_takeA 0 (v := ?_) ?_ hHeld ?_
    rotate_left
    · (intro w hS; (clear hS; go_simp); try with_reducible rfl)
    try simp only [Act.put, List.setIfInBounds_toArray, List.set_cons_zero, List.set_cons_succ]
    refine wpG_takeA 1 (v := ?_) ?_ hHeld ?_
    rotate_left
    · (intro w hS; first | exact kr_load_cell hS _ _ (by rfl) (by rfl) Has.auto (by decide +kernel) (by (try simp only [List.getElem?_toArray, List.getElem?_cons_succ, List.getElem?_cons_zero]); exact rfl) | exact kr_load_row hS _ _ (by rfl) (by rfl) Has.auto (by decide +kernel) (by kernel_rfl))
    try simp only [Act.put, List.setIfInBounds_toArray, List.set_cons_zero, List.set_cons_succ]
    refine wpG_takeA 2 (v := ?_) ?_ hHeld ?_
    rotate_left
    · (intro w hS; (clear hS; go_simp); try with_reducible rfl)
    try simp only [Act.put, List.setIfInBounds_toArray, List.set_cons_zero, List.set_cons_succ]
    refine wpG_takeA 3 (v := ?_) ?_ hHeld ?_
    rotate_left
    · (intro w hS; (clear hS; go_simp); try with_reducible rfl)
    try simp only [Act.put, List.setIfInBounds_toArray, List.set_cons_zero, List.set_cons_succ]
    refine wpG_takeA 4 (v := ?_) ?_ hHeld ?_
    rotate_left
    · (intro w hS; (clear hS; go_simp); try with_reducible rfl)
    try simp only [Act.put, List.setIfInBounds_toArray, List.set_cons_zero, List.set_cons_succ]
    refine wpG_takeA 5 (v := .int .i64 old) ?_ hHeld ?_
    · (intro w hS; first | exact kr_load_cell hS _ _ (by rfl) (by rfl) (hg2) (by kernel_rfl) ((by rfl)))
    try simp only [Act.put, List.setIfInBounds_toArray, List.set_cons_zero, List.set_cons_succ]
    refine wpG_takeA 6 (v := ?_) ?_ hHeld ?_
    rotate_left
    · (intro w hS; (clear hS; go_simp); try with_reducible rfl)
    try simp only [Act.put, List.setIfInBounds_toArray, List.set_cons_zero, List.set_cons_succ]
    refine wpG_takeA 7 (v := ?_) ?_ hHeld ?_
    rotate_left
    · (intro w hS; (clear hS; go_simp); try with_reducible rfl)
    try simp only [Act.put, List.setIfInBounds_toArray, List.set_cons_zero, List.set_cons_succ]
    refine wpG_takeA 8 (v := ?_) ?_ hHeld ?_
    rotate_left
    · (intro w hS; (clear hS; go_simp); try with_reducible rfl)
    try simp only [Act.put, List.setIfInBounds_toArray, List.set_cons_zero, List.set_cons_succ]
    refine wpG_takeA 9 (v := ?_) ?_ hHeld ?_
    rotate_left
    · (intro w hS; first | exact kr_load_cell hS _ _ (by rfl) (by rfl) Has.auto (by decide +kernel) (by (try simp only [List.getElem?_toArray, List.getElem?_cons_succ, List.getElem?_cons_zero]); exact rfl) | exact kr_load_row hS _ _ (by rfl) (by rfl) Has.auto (by decide +kernel) (by kernel_rfl))
    try simp only [Act.put, List.setIfInBounds_toArray, List.set_cons_zero, List.set_cons_succ]
    refine wpG_takeA 10 (v := ?_) ?_ hHeld ?_
    rotate_left
    · (intro w hS; (clear hS; go_simp); try with_reducible rfl)
    try simp only [Act.put, List.setIfInBounds_toArray, List.set_cons_zero, List.set_cons_succ]
    refine wpG_takeA 11 (v := ?_) ?_ hHeld ?_
    rotate_left
    · (intro w hS; (clear hS; go_simp); try with_reducible rfl)
    try simp only [Act.put, List.setIfInBounds_toArray, List.set_cons_zero, List.set_cons_succ]
    refine wpG_takeA 12 (v := ?_) ?_ hHeld ?_
    rotate_left
    · (intro w hS; (clear hS; go_simp); try with_reducible rfl)
    try simp only [Act.put, List.setIfInBounds_toArray, List.set_cons_zero, List.set_cons_succ]
    refine wpG_takeA 13 (v := .int .i64 old) ?_ hHeld ?_
    · (intro w hS; first | exact kr_load_cell hS _ _ (by rfl) (by rfl) (hg2) (by kernel_rfl) ((by rfl)))
    try simp only [Act.put, List.setIfInBounds_toArray, List.set_cons_zero, List.set_cons_succ]
    refine wpG_takeA 14 (v := ?_) ?_ hHeld ?_
    rotate_left
    · (intro w hS; (clear hS; go_simp); try with_reducible rfl)
    try simp only [Act.put, List.setIfInBounds_toArray, List.set_cons_zero, List.set_cons_succ]
    refine wpG_takeA 15 (v := ?_) ?_ hHeld ?_
    rotate_left
    · (intro w hS; first | exact kr_load_cell hS _ _ (by rfl) (by rfl) Has.auto (by decide +kernel) (by (try simp only [List.getElem?_toArray, List.getElem?_cons_succ, List.getElem?_cons_zero]); exact rfl) | exact kr_load_row hS _ _ (by rfl) (by rfl) Has.auto (by decide +kernel) (by kernel_rfl))
    try simp only [Act.put, List.setIfInBounds_toArray, List.set_cons_zero, List.set_cons_succ]
    refine wpG_takeA 16 (v := ?_) ?_ hHeld ?_
    rotate_left
    · (intro w hS; (clear hS; go_simp); try with_reducible rfl)
    try simp only [Act.put, List.setIfInBounds_toArray, List.set_cons_zero, List.set_cons_succ]
    refine wpG_takeA 17 (v := ?_) ?_ hHeld ?_
    rotate_left
    · (intro w hS; (clear hS; go_simp); try with_reducible rfl)
    try simp only [Act.put, List.setIfInBounds_toArray, List.set_cons_zero, List.set_cons_succ]
    refine wpG_takeA 18 (v := ?_) ?_ hHeld ?_
    rotate_left
    · (intro w hS; (clear hS; go_simp); try with_reducible rfl)
    try simp only [Act.put, List.setIfInBounds_toArray, List.set_cons_zero, List.set_cons_succ]
    refine wpG_takeA 19 (v := ?_) ?_ hHeld ?_
    rotate_left
    · (intro w hS; (clear hS; go_simp); try with_reducible rfl)
    try simp only [Act.put, List.setIfInBounds_toArray, List.set_cons_zero, List.set_cons_succ]
    refine wpG_done (by kernel_rfl) ?_
    skip
    go_wp2
    go_ret
    exact ⟨by rw [HR.out]; rfl, K.cov Cov.auto⟩
  · have d2 : decide (old - s.from_ < s.len) = false := decide_eq_false h2
    have HR := Lib.hid (stepE_iff (show overB old s = false by rw [hov, d1, d2]; simp))
    clear hk hov h1 h2
    go_enter Try.func82, Try.ntmps82
    go_upto_region 3 with ((first | ((with_reducible refine at_eqnil rfl ?_); refine wpList_reads rfl (kr_eqnil rfl rfl (by kernel_rfl)) ?_) | ((with_reducible refine at_box rfl ?_); refine wpList_does rfl (kd_box K _ _ rfl (by conv => lhs; whnf)) ?_; clear K; rintro _ w1 ⟨g, rfl, K⟩; (try dsimp only [Value.cells] at K)) | ((with_reducible refine at_alloc rfl ?_); refine wpList_does rfl (kd_alloc K _ rfl rfl) ?_; clear K; rintro _ w1 ⟨g, rfl, K⟩; (try dsimp only [Value.cells] at K)) | ((with_reducible refine at_buildSlice rfl ?_); refine wpList_does rfl (kd_lits (cs := _) K _ _ _ rfl (by first | rfl | (go_simp; done) | (go_simp; rfl)) (by first | rfl | (go_simp; done) | (go_simp; rfl))) ?_; clear K; rintro _ w1 ⟨g, rfl, K⟩) | ((with_reducible refine at_load rfl ?_); first | (refine wpList_reads (by rfl) (kr_load_cell K _ _ (by rfl) (by rfl) Has.auto (by decide +kernel) (by (try simp only [List.getElem?_toArray, List.getElem?_cons_succ, List.getElem?_cons_zero]); exact rfl)) ?_) | (refine wpList_reads (by rfl) (kr_load_row K _ _ (by rfl) (by rfl) Has.auto (by decide +kernel) (by kernel_rfl)) ?_)) | ((with_reducible refine at_store rfl ?_); (first | (refine wpList_does rfl (kd_store_cell K _ _ _ rfl rfl (by conv => lhs; whnf) Repl.auto rfl rfl (by kernel_rfl) (by kernel_rfl) (by first | (simp only [List.setIfInBounds_toArray, List.set_cons_succ, List.set_cons_zero]; rfl) | rfl)) ?_) | (refine wpList_does rfl (kd_store_row K _ _ _ rfl rfl rfl Repl.auto (by kernel_rfl) (by kernel_rfl) (by kernel_rfl)) ?_)); clear K; intro _ w1 K; (try simp only [Act.put]))))
    replace hg2 := hg2 (row g #[.int .u8 s.kind, .int .i64 s.from_, .int .i64 s.len, .slice s.A s.n s.c] 71)
    refine wp_region_GK K (Cov.all _) (by kernel_rfl) (by kernel_rfl) (by kernel_rfl) (fun K hHeld => ?_)
    refine wpG_takeA 0 (v := ?_) ?_ hHeld ?_
    rotate_left
    · (intro w hS; (clear hS; go_simp); try with_reducible rfl)
    try simp only [Act.put, List.setIfInBounds_toArray, List.set_cons_zero, List.set_cons_succ]
    refine wpG_takeA 1 (v := ?_) ?_ hHeld ?_
    rotate_left
    · (intro w hS; first | exact kr_load_cell hS _ _ (by rfl) (by rfl) Has.auto (by decide +kernel) (by (try simp only [List.getElem?_toArray, List.getElem?_cons_succ, List.getElem?_cons_zero]); exact rfl) | exact kr_load_row hS _ _ (by rfl) (by rfl) Has.auto (by decide +kernel) (by kernel_rfl))
    try simp only [Act.put, List.setIfInBounds_toArray, List.set_cons_zero, List.set_cons_succ]
    refine wpG_takeA 2 (v := ?_) ?_ hHeld ?_
    rotate_left
    · (intro w hS; (clear hS; go_simp); try with_reducible rfl)
    try simp only [Act.put, List.setIfInBounds_toArray, List.set_cons_zero, List.set_cons_succ]
    refine wpG_takeA 3 (v := ?_) ?_ hHeld ?_
    rotate_left
    · (intro w hS; (clear hS; go_simp); try with_reducible rfl)
    try simp only [Act.put, List.setIfInBounds_toArray, List.set_cons_zero, List.set_cons_succ]
    refine wpG_takeA 4 (v := ?_) ?_ hHeld ?_
    rotate_left
    · (intro w hS; (clear hS; go_simp); try with_reducible rfl)
    try simp only [Act.put, List.setIfInBounds_toArray, List.set_cons_zero, List.set_cons_succ]
    refine wpG_takeA 5 (v := .int .i64 old) ?_ hHeld ?_
    · (intro w hS; first | exact kr_load_cell hS _ _ (by rfl) (by rfl) (hg2) (by kernel_rfl) ((by rfl)))
    try simp only [Act.put, List.setIfInBounds_toArray, List.set_cons_zero, List.set_cons_succ]
    refine wpG_takeA 6 (v := ?_) ?_ hHeld ?_
    rotate_left
    · (intro w hS; (clear hS; go_simp); try with_reducible rfl)
    try simp only [Act.put, List.setIfInBounds_toArray, List.set_cons_zero, List.set_cons_succ]
    refine wpG_takeA 7 (v := ?_) ?_ hHeld ?_
    rotate_left
    · (intro w hS; (clear hS; go_simp); try with_reducible rfl)
    try simp only [Act.put, List.setIfInBounds_toArray, List.set_cons_zero, List.set_cons_succ]
    refine wpG_takeA 8 (v := ?_) ?_ hHeld ?_
    rotate_left
    · (intro w hS; (clear hS; go_simp); try with_reducible rfl)
    try simp only [Act.put, List.setIfInBounds_toArray, List.set_cons_zero, List.set_cons_succ]
    refine wpG_takeA 9 (v := ?_) ?_ hHeld ?_
    rotate_left
    · (intro w hS; first | exact kr_load_cell hS _ _ (by rfl) (by rfl) Has.auto (by decide +kernel) (by (try simp only [List.getElem?_toArray, List.getElem?_cons_succ, List.getElem?_cons_zero]); exact rfl) | exact kr_load_row hS _ _ (by rfl) (by rfl) Has.auto (by decide +kernel) (by kernel_rfl))
    try simp only [Act.put, List.setIfInBounds_toArray, List.set_cons_zero, List.set_cons_succ]
    refine wpG_takeA 10 (v := ?_) ?_ hHeld ?_
    rotate_left
    · (intro w hS; (clear hS; go_simp); try with_reducible rfl)
    try simp only [Act.put, List.setIfInBounds_toArray, List.set_cons_zero, List.set_cons_succ]
    refine wpG_takeA 11 (v := ?_) ?_ hHeld ?_
    rotate_left
    · (intro w hS; (clear hS; go_simp); try with_reducible rfl)
    try simp only [Act.put, List.setIfInBounds_toArray, List.set_cons_zero, List.set_cons_succ]
    refine wpG_takeA 12 (v := ?_) ?_ hHeld ?_
    rotate_left
    · (intro w hS; (clear hS; go_simp); try with_reducible rfl)
    try simp only [Act.put, List.setIfInBounds_toArray, List.set_cons_zero, List.set_cons_succ]
    refine wpG_takeA 13 (v := .int .i64 old) ?_ hHeld ?_
    · (intro w hS; first | exact kr_load_cell hS _ _ (by rfl) (by rfl) (hg2) (by kernel_rfl) ((by rfl)))
    try simp only [Act.put, List.setIfInBounds_toArray, List.set_cons_zero, List.set_cons_succ]
    refine wpG_takeA 14 (v := ?_) ?_ hHeld ?_
    rotate_left
    · (intro w hS; (clear hS; go_simp); try with_reducible rfl)
    try simp only [Act.put, List.setIfInBounds_toArray, List.set_cons_zero, List.set_cons_succ]
    refine wpG_takeA 15 (v := ?_) ?_ hHeld ?_
    rotate_left
    · (intro w hS; first | exact kr_load_cell hS _ _ (by rfl) (by rfl) Has.auto (by decide +kernel) (by (try simp only [List.getElem?_toArray, List.getElem?_cons_succ, List.getElem?_cons_zero]); exact rfl) | exact kr_load_row hS _ _ (by rfl) (by rfl) Has.auto (by decide +kernel) (by kernel_rfl))
    try simp only [Act.put, List.setIfInBounds_toArray, List.set_cons_zero, List.set_cons_succ]
    refine wpG_takeA 16 (v := ?_) ?_ hHeld ?_
    rotate_left
    · (intro w hS; (clear hS; go_simp); try with_reducible rfl)
    try simp only [Act.put, List.setIfInBounds_toArray, List.set_cons_zero, List.set_cons_succ]
    refine wpG_takeA 17 (v := ?_) ?_ hHeld ?_
    rotate_left
    · (intro w hS; (clear hS; go_simp); try with_reducible rfl)
    try simp only [Act.put, List.setIfInBounds_toArray, List.set_cons_zero, List.set_cons_succ]
    refine wpG_takeA 18 (v := ?_) ?_ hHeld ?_
    rotate_left
    · (intro w hS; (clear hS; go_simp); try with_reducible rfl)
    try simp only [Act.put, List.setIfInBounds_toArray, List.set_cons_zero, List.set_cons_succ]
    refine wpG_takeA 19 (v := ?_) ?_ hHeld ?_
    rotate_left
    · (intro w hS; (clear hS; go_simp); try with_reducible rfl)
    try simp only [Act.put, List.setIfInBounds_toArray, List.set_cons_zero, List.set_cons_succ]
    refine wpG_done (by kernel_rfl) ?_
    skip
    go_wp2
    go_ret
    exact ⟨by rw [HR.out]; rfl, K.cov Cov.auto⟩
set_option maxHeartbeats 1600000 in
set_option maxRecDepth 100000 in
theorem clate_any (K : Known w0 w L) (hg : Has (ckRow gc gw n block old) L) (hw : Has (wkRow gw n ws) L) (hr : rightB s = true) (hb : 128 ≤ block ∧ block ≤ 4096) (hn : n ≤ 4096) (hws : ∀ x ∈ ws, 0 ≤ x ∧ x < n) : Calls Try.prog 84 #[.pointer (some ⟨gc, 0, none⟩), .agg #[.int .u8 s.kind, .int .i64 s.from_, .int .i64 s.len, .slice s.A s.n s.c]] w fun e w' => e = .returned (.bool (lateB block ws s)) ∧ Known w0 w' L := by
  have hry := rightB_yes hr
  by_cases hk : s.kind = 1
  · have e1 : (s.kind == 1) = true := by simpa using hk
    have HR := Lib.hid (show lateB block ws s = false by
      rw [lateB, List.any_eq_false]
      intro x hx
      rw [touch, decide_eq_false (by simpa using hk)]
      simp)
    clear hk
    go_enter Try.func84, Try.ntmps84
    go_wp2_with (first | ((with_reducible refine at_eqnil rfl ?_); refine wpList_reads rfl (kr_eqnil rfl rfl (by kernel_rfl)) ?_) | ((with_reducible refine at_box rfl ?_); refine wpList_does rfl (kd_box K _ _ rfl (by conv => lhs; whnf)) ?_; clear K; rintro _ w1 ⟨g, rfl, K⟩; (try dsimp only [Value.cells] at K)) | ((with_reducible refine at_alloc rfl ?_); refine wpList_does rfl (kd_alloc K _ rfl rfl) ?_; clear K; rintro _ w1 ⟨g, rfl, K⟩; (try dsimp only [Value.cells] at K)) | ((with_reducible refine at_buildSlice rfl ?_); refine wpList_does rfl (kd_lits (cs := _) K _ _ _ rfl (by first | rfl | (go_simp; done) | (go_simp; rfl)) (by first | rfl | (go_simp; done) | (go_simp; rfl))) ?_; clear K; rintro _ w1 ⟨g, rfl, K⟩) | ((with_reducible refine at_load rfl ?_); first | (refine wpList_reads (by rfl) (kr_load_cell K _ _ (by rfl) (by rfl) Has.auto (by decide +kernel) (by (try simp only [List.getElem?_toArray, List.getElem?_cons_succ, List.getElem?_cons_zero]); exact rfl)) ?_) | (refine wpList_reads (by rfl) (kr_load_row K _ _ (by rfl) (by rfl) Has.auto (by decide +kernel) (by kernel_rfl)) ?_)) | ((with_reducible refine at_store rfl ?_); (first | (refine wpList_does rfl (kd_store_cell K _ _ _ rfl rfl (by conv => lhs; whnf) Repl.auto rfl rfl (by kernel_rfl) (by kernel_rfl) (by first | (simp only [List.setIfInBounds_toArray, List.set_cons_succ, List.set_cons_zero]; rfl) | rfl)) ?_) | (refine wpList_does rfl (kd_store_row K _ _ _ rfl rfl rfl Repl.auto (by kernel_rfl) (by kernel_rfl) (by kernel_rfl)) ?_)); clear K; intro _ w1 K; (try simp only [Act.put])))
    go_ret
    exact ⟨by rw [HR.out]; rfl, K.cov Cov.auto⟩
  have e1 : (s.kind == 1) = false := by simpa using hk
  have hb0 : block ≠ 0 := by omega
  obtain ⟨q0, hq0⟩ : ∃ q0, s.from_ / block = q0 := ⟨_, rfl⟩
  obtain ⟨q1, hq1⟩ : ∃ q1, (s.from_ + s.len - 1) / block = q1 := ⟨_, rfl⟩
  have HTC := Lib.hid (fun i => show touch block i s = (decide (q0 ≤ i) && decide (i ≤ q1)) by rw [touch, decide_eq_true hk, Bool.true_and, hq0, hq1])
  have ht0 : Int.tdiv s.from_ block = q0 := by rw [Int.tdiv_eq_ediv_of_nonneg (by omega), hq0]
  have ht1 : Int.tdiv (s.from_ + s.len - 1) block = q1 := by rw [Int.tdiv_eq_ediv_of_nonneg (by omega), hq1]
  have hq0b : 0 ≤ q0 ∧ q0 ≤ 2147483647 := by rw [← hq0]; exact ⟨Int.ediv_nonneg (by omega) (by omega), Int.le_trans (Int.ediv_le_self _ (by omega)) (by omega)⟩
  have hq1b : 0 ≤ q1 ∧ q1 ≤ 2147487743 := by rw [← hq1]; exact ⟨Int.ediv_nonneg (by omega) (by omega), Int.le_trans (Int.ediv_le_self _ (by omega)) (by omega)⟩
  have iq0 := IntWalk.i64_in q0 (by omega)
  have iq1 := IntWalk.i64_in q1 (by omega)
  have is1 := IntWalk.i64_in (s.from_ + s.len) (by omega)
  have is2 := IntWalk.i64_in (s.from_ + s.len - 1) (by omega)
  clear hk hq0 hq1 hr
  go_enter Try.func84, Try.ntmps84
  go_upto_region 3 with ((first | ((with_reducible refine at_eqnil rfl ?_); refine wpList_reads rfl (kr_eqnil rfl rfl (by kernel_rfl)) ?_) | ((with_reducible refine at_box rfl ?_); refine wpList_does rfl (kd_box K _ _ rfl (by conv => lhs; whnf)) ?_; clear K; rintro _ w1 ⟨g, rfl, K⟩; (try dsimp only [Value.cells] at K)) | ((with_reducible refine at_alloc rfl ?_); refine wpList_does rfl (kd_alloc K _ rfl rfl) ?_; clear K; rintro _ w1 ⟨g, rfl, K⟩; (try dsimp only [Value.cells] at K)) | ((with_reducible refine at_buildSlice rfl ?_); refine wpList_does rfl (kd_lits (cs := _) K _ _ _ rfl (by first | rfl | (go_simp; done) | (go_simp; rfl)) (by first | rfl | (go_simp; done) | (go_simp; rfl))) ?_; clear K; rintro _ w1 ⟨g, rfl, K⟩) | ((with_reducible refine at_load rfl ?_); first | (refine wpList_reads (by rfl) (kr_load_cell K _ _ (by rfl) (by rfl) Has.auto (by decide +kernel) (by (try simp only [List.getElem?_toArray, List.getElem?_cons_succ, List.getElem?_cons_zero]); exact rfl)) ?_) | (refine wpList_reads (by rfl) (kr_load_row K _ _ (by rfl) (by rfl) Has.auto (by decide +kernel) (by kernel_rfl)) ?_)) | ((with_reducible refine at_store rfl ?_); (first | (refine wpList_does rfl (kd_store_cell K _ _ _ rfl rfl (by conv => lhs; whnf) Repl.auto rfl rfl (by kernel_rfl) (by kernel_rfl) (by first | (simp only [List.setIfInBounds_toArray, List.set_cons_succ, List.set_cons_zero]; rfl) | rfl)) ?_) | (refine wpList_does rfl (kd_store_row K _ _ _ rfl rfl rfl Repl.auto (by kernel_rfl) (by kernel_rfl) (by kernel_rfl)) ?_)); clear K; intro _ w1 K; (try simp only [Act.put]))))
  have hg2 : Has (ckRow gc gw n block old) (row g #[.int .u8 s.kind, .int .i64 s.from_, .int .i64 s.len, .slice s.A s.n s.c] 71 :: L) := Has.tl _ hg
  have hw2 : Has (wkRow gw n ws) (row g #[.int .u8 s.kind, .int .i64 s.from_, .int .i64 s.len, .slice s.A s.n s.c] 71 :: L) := Has.tl _ hw
  refine wp_region_GK K (Cov.all _) (by kernel_rfl) (by kernel_rfl) (by kernel_rfl) (fun K hHeld => ?_)
  refine wpG_takeA 0 (v := ?_) ?_ hHeld ?_
  rotate_left
  · (intro w hS; (clear hS; go_simp); try with_reducible rfl)
  try simp only [Act.put, List.setIfInBounds_toArray, List.set_cons_zero, List.set_cons_succ]
  refine wpG_takeA 1 (v := ?_) ?_ hHeld ?_
  rotate_left
  · (intro w hS; first | exact kr_load_cell hS _ _ (by rfl) (by rfl) Has.auto (by decide +kernel) (by (try simp only [List.getElem?_toArray, List.getElem?_cons_succ, List.getElem?_cons_zero]); exact rfl) | exact kr_load_row hS _ _ (by rfl) (by rfl) Has.auto (by decide +kernel) (by kernel_rfl))
  try simp only [Act.put, List.setIfInBounds_toArray, List.set_cons_zero, List.set_cons_succ]
  refine wpG_takeA 2 (v := ?_) ?_ hHeld ?_
  rotate_left
  · (intro w hS; (clear hS; go_simp); try with_reducible rfl)
  try simp only [Act.put, List.setIfInBounds_toArray, List.set_cons_zero, List.set_cons_succ]
  refine wpG_takeA 3 (v := ?_) ?_ hHeld ?_
  rotate_left
  · (intro w hS; (clear hS; go_simp); try with_reducible rfl)
  try simp only [Act.put, List.setIfInBounds_toArray, List.set_cons_zero, List.set_cons_succ]
  refine wpG_takeA 4 (v := ?_) ?_ hHeld ?_
  rotate_left
  · (intro w hS; (clear hS; go_simp); try with_reducible rfl)
  try simp only [Act.put, List.setIfInBounds_toArray, List.set_cons_zero, List.set_cons_succ]
  refine wpG_takeA 5 (v := .int .i64 block) ?_ hHeld ?_
  · (intro w hS; first | exact kr_load_cell hS _ _ (by rfl) (by rfl) (hg2) (by kernel_rfl) ((by rfl)))
  try simp only [Act.put, List.setIfInBounds_toArray, List.set_cons_zero, List.set_cons_succ]
  refine wpG_takeA 6 (v := ?_) ?_ hHeld ?_
  rotate_left
  · (intro w hS; (clear hS; go_simp); try with_reducible rfl)
  try simp only [Act.put, List.setIfInBounds_toArray, List.set_cons_zero, List.set_cons_succ]
  refine wpG_takeA 7 (v := ?_) ?_ hHeld ?_
  rotate_left
  · (intro w hS; (clear hS; go_simp); try with_reducible rfl)
  try simp only [Act.put, List.setIfInBounds_toArray, List.set_cons_zero, List.set_cons_succ]
  refine wpG_done (by kernel_rfl) ?_
  skip
  go_upto_region 4 with (fail)
  go_loopg [5] (q1 + 1 - q0).toNat (fun d v w2 => ∃ (i : Int), v = .int .i64 i ∧ (q0 ≤ i ∧ (i = q0 ∨ i ≤ q1 + 1)) ∧ (q1 + 1 - i).toNat ≤ d ∧ Hid (∀ j, q0 ≤ j → j < i → j < (n : Int) → j ∉ ws) ∧ Known w0 w2 (row g #[.int .u8 s.kind, .int .i64 s.from_, .int .i64 s.len, .slice s.A s.n s.c] 71 :: L))
  case atStart => exact ⟨q0, rfl, by omega, by omega, Lib.hid (fun j h1 h2 => by omega), K⟩
  case round =>
    clear K
    obtain ⟨i, rfl, hi, hdi, HE, K⟩ := hrel
    by_cases c1 : i ≤ q1
    · have d1 : decide (i ≤ q1) = true := decide_eq_true c1
      by_cases c2 : i < (n : Int)
      · have d2 : decide (i < (n : Int)) = true := decide_eq_true c2
        obtain ⟨k, rfl⟩ : ∃ k : Nat, i = k := ⟨i.toNat, by omega⟩
        have hkk : (0 : Int) ≤ (k : Int) ∧ (k : Int) < (n : Int) := by omega
        have i2 := IntWalk.i64_in ((k : Int) + 1) (by omega)
        by_cases hm : (k : Int) ∈ ws
        · have HMK := Lib.hid (show (marks n ws)[k]? = some (.bool true) by rw [marks_get _ (by omega), decide_eq_true hm])
          have HR := Lib.hid (show lateB block ws s = true from List.any_eq_true.2 ⟨_, hm, by rw [HTC.out, decide_eq_true hi.1, d1]; rfl⟩)
          clear hm
          go_upto_region 4 with (fail)
          refine wp_region_GK K (Cov.all _) (by kernel_rfl) (by kernel_rfl) (by kernel_rfl) (fun K hHeld => ?_)
          refine wpG_takeA 0 (v := ?_) ?_ hHeld ?_
          rotate_left
          · (intro w hS; (clear hS; go_simp); try with_reducible rfl)
          try simp only [Act.put, List.setIfInBounds_toArray, List.set_cons_zero, List.set_cons_succ]
          refine wpG_takeA 1 (v := ?_) ?_ hHeld ?_
          rotate_left
          · (intro w hS; (clear hS; go_simp); try with_reducible rfl)
          try simp only [Act.put, List.setIfInBounds_toArray, List.set_cons_zero, List.set_cons_succ]
          refine wpG_takeA 2 (v := ?_) ?_ hHeld ?_
          rotate_left
          · (intro w hS; first | exact kr_load_cell hS _ _ (by rfl) (by rfl) Has.auto (by decide +kernel) (by (try simp only [List.getElem?_toArray, List.getElem?_cons_succ, List.getElem?_cons_zero]); exact rfl) | exact kr_load_row hS _ _ (by rfl) (by rfl) Has.auto (by decide +kernel) (by kernel_rfl))
          try simp only [Act.put, List.setIfInBounds_toArray, List.set_cons_zero, List.set_cons_succ]
          refine wpG_takeA 3 (v := ?_) ?_ hHeld ?_
          rotate_left
          · (intro w hS; (clear hS; go_simp); try with_reducible rfl)
          try simp only [Act.put, List.setIfInBounds_toArray, List.set_cons_zero, List.set_cons_succ]
          refine wpG_takeA 4 (v := ?_) ?_ hHeld ?_
          rotate_left
          · (intro w hS; first | exact kr_load_cell hS _ _ (by rfl) (by rfl) Has.auto (by decide +kernel) (by (try simp only [List.getElem?_toArray, List.getElem?_cons_succ, List.getElem?_cons_zero]); exact rfl) | exact kr_load_row hS _ _ (by rfl) (by rfl) Has.auto (by decide +kernel) (by kernel_rfl))
          try simp only [Act.put, List.setIfInBounds_toArray, List.set_cons_zero, List.set_cons_succ]
          refine wpG_takeA 5 (v := ?_) ?_ hHeld ?_
          rotate_left
          · (intro w hS; (clear hS; go_simp); try with_reducible rfl)
          try simp only [Act.put, List.setIfInBounds_toArray, List.set_cons_zero, List.set_cons_succ]
          refine wpG_takeA 6 (v := ?_) ?_ hHeld ?_
          rotate_left
          · (intro w hS; (clear hS; go_simp); try with_reducible rfl)
          try simp only [Act.put, List.setIfInBounds_toArray, List.set_cons_zero, List.set_cons_succ]
          refine wpG_takeA 7 (v := ?_) ?_ hHeld ?_
          rotate_left
          · (intro w hS; (clear hS; go_simp); try with_reducible rfl)
          try simp only [Act.put, List.setIfInBounds_toArray, List.set_cons_zero, List.set_cons_succ]
          refine wpG_takeA 8 (v := ?_) ?_ hHeld ?_
          rotate_left
          · (intro w hS; (clear hS; go_simp); try with_reducible rfl)
          try simp only [Act.put, List.setIfInBounds_toArray, List.set_cons_zero, List.set_cons_succ]
          refine wpG_takeA 9 (v := ?_) ?_ hHeld ?_
          rotate_left
          · (intro w hS; (clear hS; go_simp); try with_reducible rfl)
          try simp only [Act.put, List.setIfInBounds_toArray, List.set_cons_zero, List.set_cons_succ]
          refine wpG_takeA 10 (v := .int .i64 block) ?_ hHeld ?_
          · (intro w hS; first | exact kr_load_cell hS _ _ (by rfl) (by rfl) (hg2) (by kernel_rfl) ((by rfl)))
          try simp only [Act.put, List.setIfInBounds_toArray, List.set_cons_zero, List.set_cons_succ]
          refine wpG_takeA 11 (v := ?_) ?_ hHeld ?_
          rotate_left
          · (intro w hS; (clear hS; go_simp); try with_reducible rfl)
          try simp only [Act.put, List.setIfInBounds_toArray, List.set_cons_zero, List.set_cons_succ]
          refine wpG_takeA 12 (v := ?_) ?_ hHeld ?_
          rotate_left
          · (intro w hS; (clear hS; go_simp); try with_reducible rfl)
          try simp only [Act.put, List.setIfInBounds_toArray, List.set_cons_zero, List.set_cons_succ]
          refine wpG_takeA 13 (v := ?_) ?_ hHeld ?_
          rotate_left
          · (intro w hS; (clear hS; go_simp); try with_reducible rfl)
          try simp only [Act.put, List.setIfInBounds_toArray, List.set_cons_zero, List.set_cons_succ]
          refine wpG_takeA 14 (v := ?_) ?_ hHeld ?_
          rotate_left
          · (intro w hS; (clear hS; go_simp); try with_reducible rfl)
          try simp only [Act.put, List.setIfInBounds_toArray, List.set_cons_zero, List.set_cons_succ]
          refine wpG_takeA 15 (v := ?_) ?_ hHeld ?_
          rotate_left
          · (intro w hS; (clear hS; go_simp); try with_reducible rfl)
          try simp only [Act.put, List.setIfInBounds_toArray, List.set_cons_zero, List.set_cons_succ]
          refine wpG_takeA 16 (v := ?_) ?_ hHeld ?_
          rotate_left
          · (intro w hS; (clear hS; go_simp); try with_reducible rfl)
          try simp only [Act.put, List.setIfInBounds_toArray, List.set_cons_zero, List.set_cons_succ]
          refine wpG_takeA 17 (v := ?_) ?_ hHeld ?_
          rotate_left
          · (intro w hS; (clear hS; go_simp); try with_reducible rfl)
          try simp only [Act.put, List.setIfInBounds_toArray, List.set_cons_zero, List.set_cons_succ]
          refine wpG_takeA 18 (v := .slice (some ⟨gw, 0, none⟩) n n) ?_ hHeld ?_
          · (intro w hS; first | exact kr_load_cell hS _ _ (by rfl) (by rfl) (hg2) (by kernel_rfl) ((by rfl)))
          try simp only [Act.put, List.setIfInBounds_toArray, List.set_cons_zero, List.set_cons_succ]
          refine wpG_takeA 19 (v := ?_) ?_ hHeld ?_
          rotate_left
          · (intro w hS; (clear hS; go_simp); try with_reducible rfl)
          try simp only [Act.put, List.setIfInBounds_toArray, List.set_cons_zero, List.set_cons_succ]
          refine wpG_takeA 20 (v := ?_) ?_ hHeld ?_
          rotate_left
          · (intro w hS; (clear hS; go_simp); try with_reducible rfl)
          try simp only [Act.put, List.setIfInBounds_toArray, List.set_cons_zero, List.set_cons_succ]
          refine wpG_takeA 21 (v := ?_) ?_ hHeld ?_
          rotate_left
          · (intro w hS; (clear hS; go_simp); try with_reducible rfl)
          try simp only [Act.put, List.setIfInBounds_toArray, List.set_cons_zero, List.set_cons_succ]
          refine wpG_done (by kernel_rfl) ?_
          skip
          go_wp2_with (first | ((with_reducible refine at_load rfl ?_); first | (refine wpList_reads (by rfl) (kr_load_cell K _ _ (by rfl) (by rfl) (hg2) (by kernel_rfl) ((by rfl))) ?_) | (refine wpList_reads (by rfl) (kr_load_cell K _ _ (by rfl) (by rfl) (hw2) (by kernel_rfl) (HMK.out)) ?_)))
          go_ret
          exact ⟨by rw [HR.out]; rfl, K.cov Cov.auto⟩
        · have HMK := Lib.hid (show (marks n ws)[k]? = some (.bool false) by rw [marks_get _ (by omega), decide_eq_false hm])
          have HNM := Lib.hid hm
          clear hm
          go_upto_region 4 with (fail)
          refine wp_region_GK K (Cov.all _) (by kernel_rfl) (by kernel_rfl) (by kernel_rfl) (fun K hHeld => ?_)
          refine wpG_takeA 0 (v := ?_) ?_ hHeld ?_
          rotate_left
          · (intro w hS; (clear hS; go_simp); try with_reducible rfl)
          try simp only [Act.put, List.setIfInBounds_toArray, List.set_cons_zero, List.set_cons_succ]
          refine wpG_takeA 1 (v := ?_) ?_ hHeld ?_
          rotate_left
          · (intro w hS; (clear hS; go_simp); try with_reducible rfl)
          try simp only [Act.put, List.setIfInBounds_toArray, List.set_cons_zero, List.set_cons_succ]
          refine wpG_takeA 2 (v := ?_) ?_ hHeld ?_
          rotate_left
          · (intro w hS; first | exact kr_load_cell hS _ _ (by rfl) (by rfl) Has.auto (by decide +kernel) (by (try simp only [List.getElem?_toArray, List.getElem?_cons_succ, List.getElem?_cons_zero]); exact rfl) | exact kr_load_row hS _ _ (by rfl) (by rfl) Has.auto (by decide +kernel) (by kernel_rfl))
          try simp only [Act.put, List.setIfInBounds_toArray, List.set_cons_zero, List.set_cons_succ]
          refine wpG_takeA 3 (v := ?_) ?_ hHeld ?_
          rotate_left
          · (intro w hS; (clear hS; go_simp); try with_reducible rfl)
          try simp only [Act.put, List.setIfInBounds_toArray, List.set_cons_zero, List.set_cons_succ]
          refine wpG_takeA 4 (v := ?_) ?_ hHeld ?_
          rotate_left
          · (intro w hS; first | exact kr_load_cell hS _ _ (by rfl) (by rfl) Has.auto (by decide +kernel) (by (try simp only [List.getElem?_toArray, List.getElem?_cons_succ, List.getElem?_cons_zero]); exact rfl) | exact kr_load_row hS _ _ (by rfl) (by rfl) Has.auto (by decide +kernel) (by kernel_rfl))
          try simp only [Act.put, List.setIfInBounds_toArray, List.set_cons_zero, List.set_cons_succ]
          refine wpG_takeA 5 (v := ?_) ?_ hHeld ?_
          rotate_left
          · (intro w hS; (clear hS; go_simp); try with_reducible rfl)
          try simp only [Act.put, List.setIfInBounds_toArray, List.set_cons_zero, List.set_cons_succ]
          refine wpG_takeA 6 (v := ?_) ?_ hHeld ?_
          rotate_left
          · (intro w hS; (clear hS; go_simp); try with_reducible rfl)
          try simp only [Act.put, List.setIfInBounds_toArray, List.set_cons_zero, List.set_cons_succ]
          refine wpG_takeA 7 (v := ?_) ?_ hHeld ?_
          rotate_left
          · (intro w hS; (clear hS; go_simp); try with_reducible rfl)
          try simp only [Act.put, List.setIfInBounds_toArray, List.set_cons_zero, List.set_cons_succ]
          refine wpG_takeA 8 (v := ?_) ?_ hHeld ?_
          rotate_left
          · (intro w hS; (clear hS; go_simp); try with_reducible rfl)
          try simp only [Act.put, List.setIfInBounds_toArray, List.set_cons_zero, List.set_cons_succ]
          refine wpG_takeA 9 (v := ?_) ?_ hHeld ?_
          rotate_left
          · (intro w hS; (clear hS; go_simp); try with_reducible rfl)
          try simp only [Act.put, List.setIfInBounds_toArray, List.set_cons_zero, List.set_cons_succ]
          refine wpG_takeA 10 (v := .int .i64 block) ?_ hHeld ?_
          · (intro w hS; first | exact kr_load_cell hS _ _ (by rfl) (by rfl) (hg2) (by kernel_rfl) ((by rfl)))
          try simp only [Act.put, List.setIfInBounds_toArray, List.set_cons_zero, List.set_cons_succ]
          refine wpG_takeA 11 (v := ?_) ?_ hHeld ?_
          rotate_left
          · (intro w hS; (clear hS; go_simp); try with_reducible rfl)
          try simp only [Act.put, List.setIfInBounds_toArray, List.set_cons_zero, List.set_cons_succ]
          refine wpG_takeA 12 (v := ?_) ?_ hHeld ?_
          rotate_left
          · (intro w hS; (clear hS; go_simp); try with_reducible rfl)
          try simp only [Act.put, List.setIfInBounds_toArray, List.set_cons_zero, List.set_cons_succ]
          refine wpG_takeA 13 (v := ?_) ?_ hHeld ?_
          rotate_left
          · (intro w hS; (clear hS; go_simp); try with_reducible rfl)
          try simp only [Act.put, List.setIfInBounds_toArray, List.set_cons_zero, List.set_cons_succ]
          refine wpG_takeA 14 (v := ?_) ?_ hHeld ?_
          rotate_left
          · (intro w hS; (clear hS; go_simp); try with_reducible rfl)
          try simp only [Act.put, List.setIfInBounds_toArray, List.set_cons_zero, List.set_cons_succ]
          refine wpG_takeA 15 (v := ?_) ?_ hHeld ?_
          rotate_left
          · (intro w hS; (clear hS; go_simp); try with_reducible rfl)
          try simp only [Act.put, List.setIfInBounds_toArray, List.set_cons_zero, List.set_cons_succ]
          refine wpG_takeA 16 (v := ?_) ?_ hHeld ?_
          rotate_left
          · (intro w hS; (clear hS; go_simp); try with_reducible rfl)
          try simp only [Act.put, List.setIfInBounds_toArray, List.set_cons_zero, List.set_cons_succ]
          refine wpG_takeA 17 (v := ?_) ?_ hHeld ?_
          rotate_left
          · (intro w hS; (clear hS; go_simp); try with_reducible rfl)
          try simp only [Act.put, List.setIfInBounds_toArray, List.set_cons_zero, List.set_cons_succ]
          refine wpG_takeA 18 (v := .slice (some ⟨gw, 0, none⟩) n n) ?_ hHeld ?_
          · (intro w hS; first | exact kr_load_cell hS _ _ (by rfl) (by rfl) (hg2) (by kernel_rfl) ((by rfl)))
          try simp only [Act.put, List.setIfInBounds_toArray, List.set_cons_zero, List.set_cons_succ]
          refine wpG_takeA 19 (v := ?_) ?_ hHeld ?_
          rotate_left
          · (intro w hS; (clear hS; go_simp); try with_reducible rfl)
          try simp only [Act.put, List.setIfInBounds_toArray, List.set_cons_zero, List.set_cons_succ]
          refine wpG_takeA 20 (v := ?_) ?_ hHeld ?_
          rotate_left
          · (intro w hS; (clear hS; go_simp); try with_reducible rfl)
          try simp only [Act.put, List.setIfInBounds_toArray, List.set_cons_zero, List.set_cons_succ]
          refine wpG_takeA 21 (v := ?_) ?_ hHeld ?_
          rotate_left
          · (intro w hS; (clear hS; go_simp); try with_reducible rfl)
          try simp only [Act.put, List.setIfInBounds_toArray, List.set_cons_zero, List.set_cons_succ]
          refine wpG_done (by kernel_rfl) ?_
          skip
          go_wp2_with (first | ((with_reducible refine at_load rfl ?_); first | (refine wpList_reads (by rfl) (kr_load_cell K _ _ (by rfl) (by rfl) (hg2) (by kernel_rfl) ((by rfl))) ?_) | (refine wpList_reads (by rfl) (kr_load_cell K _ _ (by rfl) (by rfl) (hw2) (by kernel_rfl) (HMK.out)) ?_)))
          go_roundg (gk - 1)
          case measure => omega
          case rel => exact ⟨(k : Int) + 1, rfl, by omega, by omega, Lib.hid (fun j h1 h2 h3 => by
            by_cases hjk : j = (k : Int)
            · rw [hjk]; exact HNM.out
            · exact HE.out j h1 (by omega) h3), K⟩
      · have d2 : decide (i < (n : Int)) = false := decide_eq_false c2
        have HR := Lib.hid (show lateB block ws s = false by
          rw [lateB, List.any_eq_false]
          intro x hx
          have h1 := hws x hx
          rw [HTC.out]
          have h2 : ¬ q0 ≤ x := fun h => HE.out x h (by omega) h1.2 hx
          rw [decide_eq_false h2]
          simp)
        go_upto_region 4 with (fail)
        refine wp_region_GK K (Cov.all _) (by kernel_rfl) (by kernel_rfl) (by kernel_rfl) (fun K hHeld => ?_)
        refine wpG_takeA 0 (v := ?_) ?_ hHeld ?_
        rotate_left
        · (intro w hS; (clear hS; go_simp); try with_reducible rfl)
        try simp only [Act.put, List.setIfInBounds_toArray, List.set_cons_zero, List.set_cons_succ]
        refine wpG_takeA 1 (v := ?_) ?_ hHeld ?_
        rotate_left
        · (intro w hS; (clear hS; go_simp); try with_reducible rfl)
        try simp only [Act.put, List.setIfInBounds_toArray, List.set_cons_zero, List.set_cons_succ]
        refine wpG_takeA 2 (v := ?_) ?_ hHeld ?_
        rotate_left
        · (intro w hS; first | exact kr_load_cell hS _ _ (by rfl) (by rfl) Has.auto (by decide +kernel) (by (try simp only [List.getElem?_toArray, List.getElem?_cons_succ, List.getElem?_cons_zero]); exact rfl) | exact kr_load_row hS _ _ (by rfl) (by rfl) Has.auto (by decide +kernel) (by kernel_rfl))
        try simp only [Act.put, List.setIfInBounds_toArray, List.set_cons_zero, List.set_cons_succ]
        refine wpG_takeA 3 (v := ?_) ?_ hHeld ?_
        rotate_left
        · (intro w hS; (clear hS; go_simp); try with_reducible rfl)
        try simp only [Act.put, List.setIfInBounds_toArray, List.set_cons_zero, List.set_cons_succ]
        refine wpG_takeA 4 (v := ?_) ?_ hHeld ?_
        rotate_left
        · (intro w hS; first | exact kr_load_cell hS _ _ (by rfl) (by rfl) Has.auto (by decide +kernel) (by (try simp only [List.getElem?_toArray, List.getElem?_cons_succ, List.getElem?_cons_zero]); exact rfl) | exact kr_load_row hS _ _ (by rfl) (by rfl) Has.auto (by decide +kernel) (by kernel_rfl))
        try simp only [Act.put, List.setIfInBounds_toArray, List.set_cons_zero, List.set_cons_succ]
        refine wpG_takeA 5 (v := ?_) ?_ hHeld ?_
        rotate_left
        · (intro w hS; (clear hS; go_simp); try with_reducible rfl)
        try simp only [Act.put, List.setIfInBounds_toArray, List.set_cons_zero, List.set_cons_succ]
        refine wpG_takeA 6 (v := ?_) ?_ hHeld ?_
        rotate_left
        · (intro w hS; (clear hS; go_simp); try with_reducible rfl)
        try simp only [Act.put, List.setIfInBounds_toArray, List.set_cons_zero, List.set_cons_succ]
        refine wpG_takeA 7 (v := ?_) ?_ hHeld ?_
        rotate_left
        · (intro w hS; (clear hS; go_simp); try with_reducible rfl)
        try simp only [Act.put, List.setIfInBounds_toArray, List.set_cons_zero, List.set_cons_succ]
        refine wpG_takeA 8 (v := ?_) ?_ hHeld ?_
        rotate_left
        · (intro w hS; (clear hS; go_simp); try with_reducible rfl)
        try simp only [Act.put, List.setIfInBounds_toArray, List.set_cons_zero, List.set_cons_succ]
        refine wpG_takeA 9 (v := ?_) ?_ hHeld ?_
        rotate_left
        · (intro w hS; (clear hS; go_simp); try with_reducible rfl)
        try simp only [Act.put, List.setIfInBounds_toArray, List.set_cons_zero, List.set_cons_succ]
        refine wpG_takeA 10 (v := .int .i64 block) ?_ hHeld ?_
        · (intro w hS; first | exact kr_load_cell hS _ _ (by rfl) (by rfl) (hg2) (by kernel_rfl) ((by rfl)))
        try simp only [Act.put, List.setIfInBounds_toArray, List.set_cons_zero, List.set_cons_succ]
        refine wpG_takeA 11 (v := ?_) ?_ hHeld ?_
        rotate_left
        · (intro w hS; (clear hS; go_simp); try with_reducible rfl)
        try simp only [Act.put, List.setIfInBounds_toArray, List.set_cons_zero, List.set_cons_succ]
        refine wpG_takeA 12 (v := ?_) ?_ hHeld ?_
        rotate_left
        · (intro w hS; (clear hS; go_simp); try with_reducible rfl)
        try simp only [Act.put, List.setIfInBounds_toArray, List.set_cons_zero, List.set_cons_succ]
        refine wpG_takeA 13 (v := ?_) ?_ hHeld ?_
        rotate_left
        · (intro w hS; (clear hS; go_simp); try with_reducible rfl)
        try simp only [Act.put, List.setIfInBounds_toArray, List.set_cons_zero, List.set_cons_succ]
        refine wpG_takeA 14 (v := ?_) ?_ hHeld ?_
        rotate_left
        · (intro w hS; (clear hS; go_simp); try with_reducible rfl)
        try simp only [Act.put, List.setIfInBounds_toArray, List.set_cons_zero, List.set_cons_succ]
        refine wpG_takeA 15 (v := ?_) ?_ hHeld ?_
        rotate_left
        · (intro w hS; (clear hS; go_simp); try with_reducible rfl)
        try simp only [Act.put, List.setIfInBounds_toArray, List.set_cons_zero, List.set_cons_succ]
        refine wpG_takeA 16 (v := ?_) ?_ hHeld ?_
        rotate_left
        · (intro w hS; (clear hS; go_simp); try with_reducible rfl)
        try simp only [Act.put, List.setIfInBounds_toArray, List.set_cons_zero, List.set_cons_succ]
        refine wpG_takeA 17 (v := ?_) ?_ hHeld ?_
        rotate_left
        · (intro w hS; (clear hS; go_simp); try with_reducible rfl)
        try simp only [Act.put, List.setIfInBounds_toArray, List.set_cons_zero, List.set_cons_succ]
        refine wpG_takeA 18 (v := .slice (some ⟨gw, 0, none⟩) n n) ?_ hHeld ?_
        · (intro w hS; first | exact kr_load_cell hS _ _ (by rfl) (by rfl) (hg2) (by kernel_rfl) ((by rfl)))
        try simp only [Act.put, List.setIfInBounds_toArray, List.set_cons_zero, List.set_cons_succ]
        refine wpG_takeA 19 (v := ?_) ?_ hHeld ?_
        rotate_left
        · (intro w hS; (clear hS; go_simp); try with_reducible rfl)
        try simp only [Act.put, List.setIfInBounds_toArray, List.set_cons_zero, List.set_cons_succ]
        refine wpG_takeA 20 (v := ?_) ?_ hHeld ?_
        rotate_left
        · (intro w hS; (clear hS; go_simp); try with_reducible rfl)
        try simp only [Act.put, List.setIfInBounds_toArray, List.set_cons_zero, List.set_cons_succ]
        refine wpG_takeA 21 (v := ?_) ?_ hHeld ?_
        rotate_left
        · (intro w hS; (clear hS; go_simp); try with_reducible rfl)
        try simp only [Act.put, List.setIfInBounds_toArray, List.set_cons_zero, List.set_cons_succ]
        refine wpG_done (by kernel_rfl) ?_
        skip
        go_wp2
        go_ret
        exact ⟨by rw [HR.out]; rfl, K.cov Cov.auto⟩
    · have d1 : decide (i ≤ q1) = false := decide_eq_false c1
      have HR := Lib.hid (show lateB block ws s = false by
        rw [lateB, List.any_eq_false]
        intro x hx
        have h1 := hws x hx
        rw [HTC.out]
        by_cases h2 : q0 ≤ x
        · have h3 : ¬ x ≤ q1 := fun h => HE.out x h2 (by omega) h1.2 hx
          rw [decide_eq_false h3]
          simp
        · rw [decide_eq_false h2]
          simp)
      go_upto_region 4 with (fail)
      refine wp_region_GK K (Cov.all _) (by kernel_rfl) (by kernel_rfl) (by kernel_rfl) (fun K hHeld => ?_)
      refine wpG_takeA 0 (v := ?_) ?_ hHeld ?_
      rotate_left
      · (intro w hS; (clear hS; go_simp); try with_reducible rfl)
      try simp only [Act.put, List.setIfInBounds_toArray, List.set_cons_zero, List.set_cons_succ]
      refine wpG_takeA 1 (v := ?_) ?_ hHeld ?_
      rotate_left
      · (intro w hS; (clear hS; go_simp); try with_reducible rfl)
      try simp only [Act.put, List.setIfInBounds_toArray, List.set_cons_zero, List.set_cons_succ]
      refine wpG_takeA 2 (v := ?_) ?_ hHeld ?_
      rotate_left
      · (intro w hS; first | exact kr_load_cell hS _ _ (by rfl) (by rfl) Has.auto (by decide +kernel) (by (try simp only [List.getElem?_toArray, List.getElem?_cons_succ, List.getElem?_cons_zero]); exact rfl) | exact kr_load_row hS _ _ (by rfl) (by rfl) Has.auto (by decide +kernel) (by kernel_rfl))
      try simp only [Act.put, List.setIfInBounds_toArray, List.set_cons_zero, List.set_cons_succ]
      refine wpG_takeA 3 (v := ?_) ?_ hHeld ?_
      rotate_left
      · (intro w hS; (clear hS; go_simp); try with_reducible rfl)
      try simp only [Act.put, List.setIfInBounds_toArray, List.set_cons_zero, List.set_cons_succ]
      refine wpG_takeA 4 (v := ?_) ?_ hHeld ?_
      rotate_left
      · (intro w hS; first | exact kr_load_cell hS _ _ (by rfl) (by rfl) Has.auto (by decide +kernel) (by (try simp only [List.getElem?_toArray, List.getElem?_cons_succ, List.getElem?_cons_zero]); exact rfl) | exact kr_load_row hS _ _ (by rfl) (by rfl) Has.auto (by decide +kernel) (by kernel_rfl))
      try simp only [Act.put, List.setIfInBounds_toArray, List.set_cons_zero, List.set_cons_succ]
      refine wpG_takeA 5 (v := ?_) ?_ hHeld ?_
      rotate_left
      · (intro w hS; (clear hS; go_simp); try with_reducible rfl)
      try simp only [Act.put, List.setIfInBounds_toArray, List.set_cons_zero, List.set_cons_succ]
      refine wpG_takeA 6 (v := ?_) ?_ hHeld ?_
      rotate_left
      · (intro w hS; (clear hS; go_simp); try with_reducible rfl)
      try simp only [Act.put, List.setIfInBounds_toArray, List.set_cons_zero, List.set_cons_succ]
      refine wpG_takeA 7 (v := ?_) ?_ hHeld ?_
      rotate_left
      · (intro w hS; (clear hS; go_simp); try with_reducible rfl)
      try simp only [Act.put, List.setIfInBounds_toArray, List.set_cons_zero, List.set_cons_succ]
      refine wpG_takeA 8 (v := ?_) ?_ hHeld ?_
      rotate_left
      · (intro w hS; (clear hS; go_simp); try with_reducible rfl)
      try simp only [Act.put, List.setIfInBounds_toArray, List.set_cons_zero, List.set_cons_succ]
      refine wpG_takeA 9 (v := ?_) ?_ hHeld ?_
      rotate_left
      · (intro w hS; (clear hS; go_simp); try with_reducible rfl)
      try simp only [Act.put, List.setIfInBounds_toArray, List.set_cons_zero, List.set_cons_succ]
      refine wpG_takeA 10 (v := .int .i64 block) ?_ hHeld ?_
      · (intro w hS; first | exact kr_load_cell hS _ _ (by rfl) (by rfl) (hg2) (by kernel_rfl) ((by rfl)))
      try simp only [Act.put, List.setIfInBounds_toArray, List.set_cons_zero, List.set_cons_succ]
      refine wpG_takeA 11 (v := ?_) ?_ hHeld ?_
      rotate_left
      · (intro w hS; (clear hS; go_simp); try with_reducible rfl)
      try simp only [Act.put, List.setIfInBounds_toArray, List.set_cons_zero, List.set_cons_succ]
      refine wpG_takeA 12 (v := ?_) ?_ hHeld ?_
      rotate_left
      · (intro w hS; (clear hS; go_simp); try with_reducible rfl)
      try simp only [Act.put, List.setIfInBounds_toArray, List.set_cons_zero, List.set_cons_succ]
      refine wpG_takeA 13 (v := ?_) ?_ hHeld ?_
      rotate_left
      · (intro w hS; (clear hS; go_simp); try with_reducible rfl)
      try simp only [Act.put, List.setIfInBounds_toArray, List.set_cons_zero, List.set_cons_succ]
      refine wpG_offA 14 hHeld ?_
      try simp only [Act.put, List.setIfInBounds_toArray, List.set_cons_zero, List.set_cons_succ]
      refine wpG_offA 15 hHeld ?_
      try simp only [Act.put, List.setIfInBounds_toArray, List.set_cons_zero, List.set_cons_succ]
      refine wpG_offA 16 hHeld ?_
      try simp only [Act.put, List.setIfInBounds_toArray, List.set_cons_zero, List.set_cons_succ]
      refine wpG_offA 17 hHeld ?_
      try simp only [Act.put, List.setIfInBounds_toArray, List.set_cons_zero, List.set_cons_succ]
      refine wpG_offA 18 hHeld ?_
      try simp only [Act.put, List.setIfInBounds_toArray, List.set_cons_zero, List.set_cons_succ]
      refine wpG_offA 19 hHeld ?_
      try simp only [Act.put, List.setIfInBounds_toArray, List.set_cons_zero, List.set_cons_succ]
      refine wpG_offA 20 hHeld ?_
      try simp only [Act.put, List.setIfInBounds_toArray, List.set_cons_zero, List.set_cons_succ]
      refine wpG_takeA 21 (v := ?_) ?_ hHeld ?_
      rotate_left
      · (intro w hS; (clear hS; go_simp); try with_reducible rfl)
      try simp only [Act.put, List.setIfInBounds_toArray, List.set_cons_zero, List.set_cons_succ]
      refine wpG_done (by kernel_rfl) ?_
      skip
      go_wp2
      go_ret
      exact ⟨by rw [HR.out]; rfl, K.cov Cov.auto⟩

set_option maxRecDepth 100000 in
theorem cindex_any {A : Option Addr} {m c : Nat} {l : List Ast} (K : Known w0 w L) (hg : Has (ckRow gc gw n block old) L) (hw : Has (wkRow gw n ws) L) (R : RdM w0 [] asC 4 A m l) (hc : m ≤ c) (hm : m ≤ 100000) (hr : l.all rightB = true) (hb : 128 ≤ block ∧ block ≤ 4096) (hn : n ≤ 4096) (hws : ∀ x ∈ ws, 0 ≤ x ∧ x < n) :
    Calls Try.prog 109 #[.slice A m c, .func (.func 84) #[.pointer (some ⟨gc, 0, none⟩)] #[]] w fun e w' => ∃ r : Int, e = .returned (.int .i64 r) ∧ decide (0 ≤ r) = l.any (lateB block ws) ∧ Known w0 w' L := by
  have hl := R.len
  go_enter Try.func109, Try.ntmps109
  go_upto_region 2 with (fail)
  go_loopg [8] m (fun q v wr => ∃ (j : Nat), v = .int .i64 j ∧ j + q = m ∧ Hid ((l.take j).any (lateB block ws) = false) ∧ Known w0 wr L)
  case atStart => exact ⟨0, by go_num, by omega, Lib.hid rfl, K⟩
  case round =>
    clear K
    obtain ⟨j, rfl, hd, HE, K⟩ := hrel
    by_cases hj : j < m
    · have hj2 : decide ((j : Int) < (m : Int)) = true := decide_eq_true (by omega)
      have hjj : (0 : Int) ≤ (j : Int) ∧ (j : Int) < (m : Int) := by omega
      have i1 := IntWalk.i64_in ((j : Int) + 1) (by omega)
      obtain ⟨b, off, rfl⟩ := R.form (K.cov (Cov.nil _)) (by omega)
      obtain ⟨p, hp⟩ : ∃ p, p = l[j]'(by omega) := ⟨_, rfl⟩
      have hpm : p ∈ l := by rw [hp]; exact List.getElem_mem _
      have HP := Lib.hid (show encAt asC l j = [.int .u8 p.kind, .int .i64 p.from_, .int .i64 p.len, .slice p.A p.n p.c] by rw [encAt_get (by omega), ← hp]; rfl)
      have HPR := Lib.hid (List.all_eq_true.1 hr p hpm)
      have HT := Lib.hid (show (l.take (j + 1)).any (lateB block ws) = ((l.take j).any (lateB block ws) || lateB block ws p) by rw [any_take' (by omega), hp])
      cases hlt : lateB block ws p
      · have HLT := Lib.hid hlt
        clear hlt hpm hp
        go_wp2_with (first | ((with_reducible refine at_load rfl ?_); refine wpList_reads (by rfl) (kr_load_rec K _ _ (by rfl) (j) [.int .u8 p.kind, .int .i64 p.from_, .int .i64 p.len, .slice p.A p.n p.c] (by rfl) (R.cov (Cov.nil _)) (by omega) HP.out (by omega) (by kernel_rfl) (by kernel_rfl) (by rfl)) ?_) | (go_at_call 84; (with_reducible refine (clate_any (s := p) K hg hw HPR.out hb hn hws).mono ?_); clear K; rintro e w1 ⟨rfl, K⟩; rw [HLT.out]))
        go_roundg (gk - 1)
        case measure => omega
        case rel => exact ⟨j + 1, by go_num, by omega, Lib.hid (by rw [HT.out, HE.out, HLT.out]; rfl), K⟩
      · have HLT := Lib.hid hlt
        have HR := Lib.hid (show l.any (lateB block ws) = true from List.any_eq_true.2 ⟨p, hpm, hlt⟩)
        clear hlt hpm hp
        go_wp2_with (first | ((with_reducible refine at_load rfl ?_); refine wpList_reads (by rfl) (kr_load_rec K _ _ (by rfl) (j) [.int .u8 p.kind, .int .i64 p.from_, .int .i64 p.len, .slice p.A p.n p.c] (by rfl) (R.cov (Cov.nil _)) (by omega) HP.out (by omega) (by kernel_rfl) (by kernel_rfl) (by rfl)) ?_) | (go_at_call 84; (with_reducible refine (clate_any (s := p) K hg hw HPR.out hb hn hws).mono ?_); clear K; rintro e w1 ⟨rfl, K⟩; rw [HLT.out]))
        go_ret
        exact ⟨(j : Int), rfl, by rw [HR.out]; exact decide_eq_true (by omega), K⟩
    · have hj2 : decide ((j : Int) < (m : Int)) = false := decide_eq_false (by omega)
      have HR := Lib.hid (show l.any (lateB block ws) = false by have := HE.out; rw [List.take_of_length_le (by omega)] at this; exact this)
      go_wp2
      go_ret
      exact ⟨-1, rfl, by rw [HR.out]; rfl, K⟩

set_option maxRecDepth 100000 in
theorem ccontains_any {A : Option Addr} {m c : Nat} {l : List Ast} (K : Known w0 w L) (hg : Has (ckRow gc gw n block old) L) (hw : Has (wkRow gw n ws) L) (R : RdM w0 [] asC 4 A m l) (hc : m ≤ c) (hm : m ≤ 100000) (hr : l.all rightB = true) (hb : 128 ≤ block ∧ block ≤ 4096) (hn : n ≤ 4096) (hws : ∀ x ∈ ws, 0 ≤ x ∧ x < n) :
    Calls Try.prog 83 #[.slice A m c, .func (.func 84) #[.pointer (some ⟨gc, 0, none⟩)] #[]] w fun e w' => e = .returned (.bool (l.any (lateB block ws))) ∧ Known w0 w' L := by
  obtain ⟨b, hb9⟩ : ∃ b, l.any (lateB block ws) = b := ⟨_, rfl⟩
  rw [hb9]
  have HB := Lib.hid hb9
  clear hb9
  go_enter Try.func83, Try.ntmps83
  go_wp2_with (first | (go_at_call 109; (with_reducible refine (cindex_any K hg hw R hc hm hr hb hn hws).mono ?_); clear K; rintro e w1 ⟨r, rfl, hra, K⟩))
  go_ret
  exact ⟨by rw [← HB.out, ← hra]; rfl, K⟩
end
end Go.Proofs.Ytffednkdmkohdaa
