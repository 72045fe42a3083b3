/-
  Package huff: firsts (contract).
-/
import Derived.Test.YtemnahimheffgaaHufB
set_option linter.unusedVariables false
set_option linter.unusedSimpArgs false
namespace Go.Proofs.Ytemnahimheffgaa
open Go.RowKit
/-- the first codes of each length -/
def firstT (f : Nat → Int) : Nat → Int
  | 0 => 0
  | 1 => 0
  | n + 2 => 2 * (firstT f (n + 1) + f (n + 1))
theorem firstT_le (f : Nat → Int) (h : ∀ i, i < 16 → 0 ≤ f i ∧ f i ≤ 300) : ∀ n, n + 1 ≤ 16 → 0 ≤ firstT f (n + 1) ∧ firstT f (n + 1) + 600 ≤ 600 * 2 ^ n
  | 0, _ => by simp [firstT]
  | n + 1, hn => by
    have h1 := firstT_le f h n (by omega)
    have h2 := h (n + 1) (by omega)
    rw [firstT, show (2 : Int) ^ (n + 1) = 2 * 2 ^ n by rw [Int.pow_succ]; omega]
    omega


section
variable {w0 w : World} {L : List Ent} {f : Nat → Int}
set_option maxHeartbeats 800000 in
set_option maxRecDepth 100000 in
theorem firsts_any (K : Known w0 w L) (hf : ∀ i, i < 16 → 0 ≤ f i ∧ f i ≤ 300) : Calls Try.prog 69 #[.agg (ar f)] w fun e w' => e = .returned (.agg (ar (firstT f))) ∧ Known w0 w' L := by
  have HB := Lib.hid (firstT_le f hf)
  have HF := Lib.hid hf
  clear hf
  go_enter Try.func69, Try.ntmps69
  go_upto_region 3 with ((first | ((with_reducible refine at_slot (N := 1) rfl ?_); (with_reducible refine at_box rfl ?_); refine wpList_does rfl (kd_box K _ _ rfl (by conv => lhs; whnf)) ?_; clear K; rintro _ w1 ⟨g1, rfl, K⟩; (try dsimp only [Value.cells] at K)) | ((with_reducible refine at_slot (N := 2) rfl ?_); (with_reducible refine at_alloc rfl ?_); refine wpList_does rfl (kd_alloc (z := (.agg (ar fun _ => 0))) K _ rfl (by kernel_rfl)) ?_; clear K; rintro _ w1 ⟨g2, rfl, K⟩; (try dsimp only [Value.cells] at K)) | ((with_reducible refine at_slot (N := 3) rfl ?_); (with_reducible refine at_alloc rfl ?_); refine wpList_does rfl (kd_alloc (z := (.agg (ar fun _ => 0))) K _ rfl (by kernel_rfl)) ?_; clear K; rintro _ w1 ⟨g3, rfl, K⟩; (try dsimp only [Value.cells] at K))))
  have HZ := Lib.hid (show ar (fun _ => 0) = ar (fun j => if j ≤ 1 then firstT f j else 0) from ar_congr fun i _ => by
    by_cases h : i ≤ 1
    · rw [if_pos h]
      obtain rfl | rfl : i = 0 ∨ i = 1 := by omega
      · rfl
      · rfl
    · rw [if_neg h])
  go_loopg [4] 14 (fun d v wr => ∃ m : Nat, v = .int .i64 ((m : Int) + 1) ∧ 1 ≤ m ∧ m + d = 15 ∧ Known w0 wr (row g3 (ar fun j => if j ≤ m then firstT f j else 0) 104 :: row g2 (ar fun _ => 0) 104 :: row g1 (ar f) 104 :: L))
  case atStart => exact ⟨1, by go_num, by omega, by omega, by rw [← HZ.out]; exact K⟩
  case round =>
    clear K
    obtain ⟨m, rfl, hm1, hm, K⟩ := hrel
    by_cases hin : m < 15
    · have h2 : (m : Int) + 1 < 16 := by omega
      have HM := Lib.hid (show m < 16 ∧ some (Value.int .i64 (if m ≤ m then firstT f m else 0)) = some (.int .i64 (firstT f m)) from ⟨by omega, by rw [if_pos (Nat.le_refl m)]⟩)
      have HM2 := Lib.hid (show m + 1 < 16 by omega)
      have hb : 0 ≤ firstT f m ∧ firstT f m ≤ 39321600 := by
        obtain ⟨k, rfl⟩ : ∃ k, m = k + 1 := ⟨m - 1, by omega⟩
        have h1 := HB.out k (by omega)
        have h2 : (2 : Int) ^ k ≤ 2 ^ 16 := by
          have : (2 : Nat) ^ k ≤ 2 ^ 16 := Nat.pow_le_pow_right (by omega) (by omega)
          exact_mod_cast this
        omega
      have hfm := HF.out m (by omega)
      obtain ⟨x, hx⟩ : ∃ x, 2 * (firstT f m + f m) = x := ⟨_, rfl⟩
      have HX := Lib.hid (show firstT f (m + 1) = x by
        obtain ⟨k, rfl⟩ : ∃ k, m = k + 1 := ⟨m - 1, by omega⟩
        rw [← hx]; rfl)
      have HS := Lib.hid (show ar (fun j => if j = m + 1 then x else if j ≤ m then firstT f j else 0) = ar (fun j => if j ≤ m + 1 then firstT f j else 0) from ar_congr fun j hj => by
        by_cases h1 : j = m + 1
        · subst h1; rw [if_pos rfl, if_pos (Nat.le_refl _), HX.out]
        · rw [if_neg h1]
          by_cases h3 : j ≤ m
          · rw [if_pos h3, if_pos (by omega)]
          · rw [if_neg h3, if_neg (by omega)])
      have j1 := IntWalk.i64_in ((m : Int) + 1 - 1) (by omega)
      have j2 : (m : Int) + 1 - 1 = m := by omega
      have j3 := IntWalk.i64_in (firstT f m + f m) (by omega)
      have j4 := IntWalk.i64_in x (by omega)
      have j5 := IntWalk.i64_in ((m : Int) + 1 + 1) (by omega)
      have j6 : ((m : Int) + 1).toNat = m + 1 := by omega
      have j7 := IntWalk.i64_in (m : Int) (by omega)
      have j8 : (0 : Int) ≤ (m : Int) + 1 := by omega
      have j9 : (m : Int) < 16 := by omega
      clear hb hfm
      go_upto_region 5 with (fail)
      refine wp_region_GK (X := [row g3 (ar fun j => if j ≤ m then firstT f j else 0) 104, row g1 (ar f) 104]) K Cov.auto (by kernel_rfl) (by kernel_rfl) (by kernel_rfl) (fun K hHeld => ?_)
      refine wpG_takeA 0 (v := ?_) ?_ hHeld ?_
      rotate_left
      · (intro w hS; (clear hS; go_simp); try with_reducible rfl)
      try simp only [Act.put, List.setIfInBounds_toArray, List.set_cons_zero, List.set_cons_succ]
      refine wpG_takeA 1 (v := ?_) ?_ hHeld ?_
      rotate_left
      · (intro w hS; (clear hS; go_simp); try with_reducible rfl)
      try simp only [Act.put, List.setIfInBounds_toArray, List.set_cons_zero, List.set_cons_succ]
      refine wpG_takeA 2 (v := ?_) ?_ hHeld ?_
      rotate_left
      · (intro w hS; (clear hS; go_simp); try with_reducible rfl)
      try simp only [Act.put, List.setIfInBounds_toArray, List.set_cons_zero, List.set_cons_succ]
      refine wpG_takeA 3 (v := ?_) ?_ hHeld ?_
      rotate_left
      · (intro w hS; (clear hS; go_simp); try with_reducible rfl)
      try simp only [Act.put, List.setIfInBounds_toArray, List.set_cons_zero, List.set_cons_succ]
      refine wpG_takeA 4 (v := .int .i64 (firstT f m)) ?_ hHeld ?_
      · (intro w hS; first | exact kr_load_cell hS _ _ (by rfl) (by rfl) Has.auto (by kernel_rfl) ((ar_get (i := m) _ HM.out.1).trans HM.out.2))
      try simp only [Act.put, List.setIfInBounds_toArray, List.set_cons_zero, List.set_cons_succ]
      refine wpG_takeA 5 (v := ?_) ?_ hHeld ?_
      rotate_left
      · (intro w hS; (clear hS; go_simp); try with_reducible rfl)
      try simp only [Act.put, List.setIfInBounds_toArray, List.set_cons_zero, List.set_cons_succ]
      refine wpG_takeA 6 (v := ?_) ?_ hHeld ?_
      rotate_left
      · (intro w hS; (clear hS; go_simp); try with_reducible rfl)
      try simp only [Act.put, List.setIfInBounds_toArray, List.set_cons_zero, List.set_cons_succ]
      refine wpG_takeA 7 (v := ?_) ?_ hHeld ?_
      rotate_left
      · (intro w hS; (clear hS; go_simp); try with_reducible rfl)
      try simp only [Act.put, List.setIfInBounds_toArray, List.set_cons_zero, List.set_cons_succ]
      refine wpG_takeA 8 (v := .int .i64 (f m)) ?_ hHeld ?_
      · (intro w hS; first | exact kr_load_cell hS _ _ (by rfl) (by rfl) Has.auto (by kernel_rfl) (ar_get (i := m) _ HM.out.1))
      try simp only [Act.put, List.setIfInBounds_toArray, List.set_cons_zero, List.set_cons_succ]
      refine wpG_takeA 9 (v := ?_) ?_ hHeld ?_
      rotate_left
      · (intro w hS; (clear hS; go_simp); try with_reducible rfl)
      try simp only [Act.put, List.setIfInBounds_toArray, List.set_cons_zero, List.set_cons_succ]
      refine wpG_takeA 10 (v := ?_) ?_ hHeld ?_
      rotate_left
      · (intro w hS; (clear hS; go_simp); try with_reducible rfl)
      try simp only [Act.put, List.setIfInBounds_toArray, List.set_cons_zero, List.set_cons_succ]
      refine wpG_takeA 11 (v := ?_) ?_ hHeld ?_
      rotate_left
      · (intro w hS; (clear hS; go_simp); try with_reducible rfl)
      try simp only [Act.put, List.setIfInBounds_toArray, List.set_cons_zero, List.set_cons_succ]
      refine wpG_lastA 12 (fun K9 hK => ?_)
      refine st_does (by rfl) (kd_store_cell K _ _ _ (by rfl) (by rfl) (by conv => lhs; whnf) Repl.auto (by rfl) (by rfl) (by kernel_rfl) (by rw [ar_size]; exact decide_eq_true HM2.out) (ar_set (i := m + 1) _ _ HM2.out)) ?_
      clear K; intro _ w1 K
      refine hK.out _ _ ?_
      clear hK K9
      try simp only [Act.put, List.setIfInBounds_toArray, List.set_cons_zero, List.set_cons_succ]
      skip
      go_wp2
      rw [HS.out] at K
      go_roundg (gk - 1)
      case measure => omega
      case rel => exact ⟨m + 1, by go_num, by omega, by omega, K⟩
    · have h2 : ¬ (m : Int) + 1 < 16 := by omega
      obtain rfl : m = 15 := by omega
      have HE := Lib.hid (show ar (fun j => if j ≤ 15 then firstT f j else 0) = ar (firstT f) from ar_congr fun j hj => by rw [if_pos (by omega)])
      rw [HE.out] at K
      go_wp2_with (first | ((with_reducible refine at_load (t := 104) rfl ?_); refine wpList_reads (by rfl) (kr_load_row K _ _ (by rfl) (by rfl) Has.auto (by kernel_rfl) (by rw [ar_size]; kernel_rfl)) ?_) | ((with_reducible refine at_store rfl ?_); refine wpList_does (by rfl) (kd_store_row K _ _ _ (by rfl) (by rfl) (by rfl) Repl.auto (by rw [ar_size]; kernel_rfl) (by simp only [ar_size]; rfl) (ar_one _)) ?_; clear K; intro _ w1 K; (try simp only [Act.put])))
      exact bodyPost_cellK0 K (by rfl) (by rfl) Has.auto (by kernel_rfl) (by rw [ar_size]; kernel_rfl) rfl ⟨rfl, K.cov Cov.auto⟩
end
end Go.Proofs.Ytemnahimheffgaa
