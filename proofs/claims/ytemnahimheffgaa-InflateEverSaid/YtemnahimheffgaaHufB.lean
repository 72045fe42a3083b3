/-
  Package huff: May, firsts (contracts).
-/
import Derived.Test.YtemnahimheffgaaHufA
set_option linter.unusedVariables false
set_option linter.unusedSimpArgs false
namespace Go.Proofs.Ytemnahimheffgaa
open Go.RowKit
theorem ar_index0 (f : Nat → Int) (w : World) : (Instr.index 104 (.agg (ar f)) (.int .i64 0)).run Try.prog w = .ok (.int .i64 (f 0)) w := by kernel_rfl
theorem ar_index1 (f : Nat → Int) (w : World) : (Instr.index 104 (.agg (ar f)) (.int .i64 1)).run Try.prog w = .ok (.int .i64 (f 1)) w := by kernel_rfl
theorem ar_index2 (f : Nat → Int) (w : World) : (Instr.index 104 (.agg (ar f)) (.int .i64 2)).run Try.prog w = .ok (.int .i64 (f 2)) w := by kernel_rfl
theorem ar_index3 (f : Nat → Int) (w : World) : (Instr.index 104 (.agg (ar f)) (.int .i64 3)).run Try.prog w = .ok (.int .i64 (f 3)) w := by kernel_rfl
theorem ar_index4 (f : Nat → Int) (w : World) : (Instr.index 104 (.agg (ar f)) (.int .i64 4)).run Try.prog w = .ok (.int .i64 (f 4)) w := by kernel_rfl
theorem ar_index5 (f : Nat → Int) (w : World) : (Instr.index 104 (.agg (ar f)) (.int .i64 5)).run Try.prog w = .ok (.int .i64 (f 5)) w := by kernel_rfl
theorem ar_index6 (f : Nat → Int) (w : World) : (Instr.index 104 (.agg (ar f)) (.int .i64 6)).run Try.prog w = .ok (.int .i64 (f 6)) w := by kernel_rfl
theorem ar_index7 (f : Nat → Int) (w : World) : (Instr.index 104 (.agg (ar f)) (.int .i64 7)).run Try.prog w = .ok (.int .i64 (f 7)) w := by kernel_rfl
theorem ar_index8 (f : Nat → Int) (w : World) : (Instr.index 104 (.agg (ar f)) (.int .i64 8)).run Try.prog w = .ok (.int .i64 (f 8)) w := by kernel_rfl
theorem ar_index9 (f : Nat → Int) (w : World) : (Instr.index 104 (.agg (ar f)) (.int .i64 9)).run Try.prog w = .ok (.int .i64 (f 9)) w := by kernel_rfl
theorem ar_index10 (f : Nat → Int) (w : World) : (Instr.index 104 (.agg (ar f)) (.int .i64 10)).run Try.prog w = .ok (.int .i64 (f 10)) w := by kernel_rfl
theorem ar_index11 (f : Nat → Int) (w : World) : (Instr.index 104 (.agg (ar f)) (.int .i64 11)).run Try.prog w = .ok (.int .i64 (f 11)) w := by kernel_rfl
theorem ar_index12 (f : Nat → Int) (w : World) : (Instr.index 104 (.agg (ar f)) (.int .i64 12)).run Try.prog w = .ok (.int .i64 (f 12)) w := by kernel_rfl
theorem ar_index13 (f : Nat → Int) (w : World) : (Instr.index 104 (.agg (ar f)) (.int .i64 13)).run Try.prog w = .ok (.int .i64 (f 13)) w := by kernel_rfl
theorem ar_index14 (f : Nat → Int) (w : World) : (Instr.index 104 (.agg (ar f)) (.int .i64 14)).run Try.prog w = .ok (.int .i64 (f 14)) w := by kernel_rfl
theorem ar_index15 (f : Nat → Int) (w : World) : (Instr.index 104 (.agg (ar f)) (.int .i64 15)).run Try.prog w = .ok (.int .i64 (f 15)) w := by kernel_rfl
theorem ar_index (f : Nat → Int) (w : World) (i : Nat) (h : i < 16) : (Instr.index 104 (.agg (ar f)) (.int .i64 (i : Int))).run Try.prog w = .ok (.int .i64 (f i)) w := by
  obtain rfl | rfl | rfl | rfl | rfl | rfl | rfl | rfl | rfl | rfl | rfl | rfl | rfl | rfl | rfl | rfl : i = 0 ∨ i = 1 ∨ i = 2 ∨ i = 3 ∨ i = 4 ∨ i = 5 ∨ i = 6 ∨ i = 7 ∨ i = 8 ∨ i = 9 ∨ i = 10 ∨ i = 11 ∨ i = 12 ∨ i = 13 ∨ i = 14 ∨ i = 15 := by omega
  · exact ar_index0 f w
  · exact ar_index1 f w
  · exact ar_index2 f w
  · exact ar_index3 f w
  · exact ar_index4 f w
  · exact ar_index5 f w
  · exact ar_index6 f w
  · exact ar_index7 f w
  · exact ar_index8 f w
  · exact ar_index9 f w
  · exact ar_index10 f w
  · exact ar_index11 f w
  · exact ar_index12 f w
  · exact ar_index13 f w
  · exact ar_index14 f w
  · exact ar_index15 f w
/-- how many codes there are ahead of a length, and the parts they take -/
def codesT (l : List Int) : Nat → Int
  | 0 => 0
  | i + 1 => codesT l i + cntA l i
def partsT (l : List Int) : Nat → Int
  | 0 => 0
  | i + 1 => partsT l i + cntA l i * 2 ^ (15 - i)
theorem cntA_le (l : List Int) (i : Nat) : 0 ≤ cntA l i ∧ cntA l i ≤ l.length := by
  unfold cntA
  split
  · omega
  · exact cntN_le l i
theorem codesT_le (l : List Int) (h : l.length ≤ 300) : ∀ i, 0 ≤ codesT l i ∧ codesT l i ≤ 300 * i
  | 0 => by simp [codesT]
  | i + 1 => by
    have h1 := codesT_le l h i
    have h2 := cntA_le l i
    rw [codesT]
    omega
theorem part_le (l : List Int) (h : l.length ≤ 300) (i : Nat) : 0 ≤ cntA l i * 2 ^ (15 - i) ∧ cntA l i * 2 ^ (15 - i) ≤ 9830400 := by
  have h2 := cntA_le l i
  have h3 : (2 : Int) ^ (15 - i) ≤ 2 ^ 15 := by
    have : (2 : Nat) ^ (15 - i) ≤ 2 ^ 15 := Nat.pow_le_pow_right (by omega) (by omega)
    exact_mod_cast this
  have h4 : (0 : Int) ≤ 2 ^ (15 - i) := Int.pow_nonneg (by omega)
  refine ⟨Int.mul_nonneg h2.1 h4, ?_⟩
  have := Int.mul_le_mul (show cntA l i ≤ 300 by omega) h3 h4 (by omega)
  omega
theorem partsT_le (l : List Int) (h : l.length ≤ 300) : ∀ i, 0 ≤ partsT l i ∧ partsT l i ≤ 9830400 * i
  | 0 => by simp [partsT]
  | i + 1 => by
    have h1 := partsT_le l h i
    have h2 := part_le l h i
    rw [partsT]
    omega
/-- may lengths be? -/
def mayH (l : List Int) : Bool := okL l && (decide (partsT l 16 = 32768) || (decide (codesT l 16 = 0) || (decide (codesT l 16 = 1) && decide (cntA l 1 = 1))))


section
variable {w0 w : World} {L : List Ent} {A : Option Addr} {n c : Nat} {l : List Int}
set_option maxHeartbeats 800000 in
set_option maxRecDepth 100000 in
theorem hmay_any (K : Known w0 w L) (R : RdS w0 L .u8 A n l) (hb : ∀ v ∈ l, 0 ≤ v ∧ v ≤ 255) (hc : n ≤ 100000) (b : Bool) (hbm : mayH l = b) : Calls Try.prog 67 #[.slice A n c] w fun e w' => e = .returned (.bool b) ∧ Known w0 w' L := by
  subst hbm
  have hl := R.len
  cases hok : okL l
  · have HOK := Lib.hid hok
    have HM := Lib.hid (show mayH l = false by rw [mayH, hok]; rfl)
    clear hok
    go_enter Try.func67, Try.ntmps67
    go_wp2_with (first | (go_at_call 68; (with_reducible refine (counts_any K R hb (by omega)).mono ?_); clear K; rintro e w1 ⟨⟨f, rfl, hf⟩, K⟩; rw [HOK.out]; have HF := Lib.hid hf; clear hf) | ((with_reducible refine at_slot (N := 3) rfl ?_); (with_reducible refine at_alloc rfl ?_); refine wpList_does rfl (kd_alloc (z := (.agg (ar fun _ => 0))) K _ rfl (by kernel_rfl)) ?_; clear K; rintro _ w1 ⟨g3, rfl, K⟩; (try dsimp only [Value.cells] at K)) | ((with_reducible refine at_store rfl ?_); refine wpList_does (by rfl) (kd_store_row K _ _ _ (by rfl) (by rfl) (by rfl) Repl.auto (by rw [ar_size]; kernel_rfl) (by simp only [ar_size]; rfl) (ar_one _)) ?_; clear K; intro _ w1 K; (try simp only [Act.put])) | ((with_reducible refine at_load (t := 104) rfl ?_); refine wpList_reads (by rfl) (kr_load_row K _ _ (by rfl) (by rfl) Has.auto (by kernel_rfl) (by rw [ar_size]; kernel_rfl)) ?_))
    go_ret
    exact ⟨by rw [HM.out]; rfl, K.cov Cov.auto⟩
  have HOK := Lib.hid hok
  have h300 : l.length ≤ 300 := by
    rw [okL, Bool.and_eq_true] at hok
    exact of_decide_eq_true hok.1
  have HM := Lib.hid (show mayH l = (decide (partsT l 16 = 32768) || (decide (codesT l 16 = 0) || (decide (codesT l 16 = 1) && decide (cntA l 1 = 1)))) by rw [mayH, hok]; rfl)
  have HC := Lib.hid (codesT_le l h300)
  have HP := Lib.hid (partsT_le l h300)
  have HQ := Lib.hid (part_le l h300)
  clear hok
  go_enter Try.func67, Try.ntmps67
  go_upto_region 6 with ((first | (go_at_call 68; (with_reducible refine (counts_any K R hb (by omega)).mono ?_); clear K; rintro e w1 ⟨⟨f, rfl, hf⟩, K⟩; rw [HOK.out]; have HF := Lib.hid hf; clear hf) | ((with_reducible refine at_slot (N := 3) rfl ?_); (with_reducible refine at_alloc rfl ?_); refine wpList_does rfl (kd_alloc (z := (.agg (ar fun _ => 0))) K _ rfl (by kernel_rfl)) ?_; clear K; rintro _ w1 ⟨g3, rfl, K⟩; (try dsimp only [Value.cells] at K)) | ((with_reducible refine at_store rfl ?_); refine wpList_does (by rfl) (kd_store_row K _ _ _ (by rfl) (by rfl) (by rfl) Repl.auto (by rw [ar_size]; kernel_rfl) (by simp only [ar_size]; rfl) (ar_one _)) ?_; clear K; intro _ w1 K; (try simp only [Act.put])) | ((with_reducible refine at_load (t := 104) rfl ?_); refine wpList_reads (by rfl) (kr_load_row K _ _ (by rfl) (by rfl) Has.auto (by kernel_rfl) (by rw [ar_size]; kernel_rfl)) ?_)))
  go_loopg [5, 6, 17] 16 (fun d v5 v6 v17 wr => ∃ i : Nat, v5 = .int .i64 (codesT l i) ∧ v6 = .int .i64 (partsT l i) ∧ v17 = .int .i64 i ∧ i + d = 16 ∧ Known w0 wr (row g3 (ar f) 104 :: L))
  case atStart => exact ⟨0, rfl, rfl, by go_num, by omega, K⟩
  case round =>
    clear K
    obtain ⟨i, rfl, rfl, rfl, hi, K⟩ := hrel
    by_cases hin : i < 16
    · have h2 : (i : Int) < 16 := by omega
      have HIN := Lib.hid hin
      have hfi := HF.out HOK.out i hin
      obtain ⟨s, hs⟩ : ∃ s, 15 - i = s := ⟨_, rfl⟩
      have hq := HQ.out i
      have hcl := HC.out i
      have hpl := HP.out i
      have hcn := cntA_le l i
      have hc1 : codesT l (i + 1) = codesT l i + cntA l i := rfl
      have hp1 : partsT l (i + 1) = partsT l i + cntA l i * 2 ^ (15 - i) := rfl
      rw [hs] at hq hp1
      rw [← hfi] at hq hc1 hp1 hcn
      obtain ⟨x, hx⟩ : ∃ x, f i * 2 ^ s = x := ⟨_, rfl⟩
      rw [hx] at hq hp1
      have j1 := IntWalk.i64_in (15 - (i : Int)) (by omega)
      have j2 : (15 : Int) - (i : Int) = (s : Int) := by omega
      have j3 := IntWalk.i64_in (codesT l i + f i) (by omega)
      have j4 := IntWalk.i64_in x (by omega)
      have j5 := IntWalk.i64_in (partsT l i + x) (by omega)
      have j6 := IntWalk.i64_in ((i : Int) + 1) (by omega)
      have HC1 := Lib.hid hc1
      have HP1 := Lib.hid hp1
      clear hfi hq hcl hpl hcn hc1 hp1 hs
      go_wp2_with (first | ((with_reducible refine at_index (t := 104) rfl ?_); refine ev_index rfl 104 rfl rfl rfl (v := .int .i64 (f i)) (ar_index f _ i HIN.out) ?_))
      go_roundg (gk - 1)
      case measure => omega
      case rel => exact ⟨i + 1, by rw [HC1.out], by rw [HP1.out], by go_num, by omega, K⟩
    · have h2 : ¬ (i : Int) < 16 := by omega
      obtain rfl : i = 16 := by omega
      have HF1 := Lib.hid (HF.out HOK.out 1 (by omega))
      by_cases k1 : partsT l 16 = 32768
      · have e1 : (partsT l 16 == 32768) = true := by simpa using k1
        have HR := Lib.hid (show mayH l = true by rw [HM.out, decide_eq_true k1]; rfl)
        clear k1
        go_wp2_with (first | ((with_reducible refine at_slot (N := 42) rfl ?_); refine wpList_reads (by rfl) (kr_load_cell K _ _ (by rfl) (by rfl) Has.auto (by kernel_rfl) (ar_get (i := 1) _ (by omega))) ?_))
        go_ret
        exact ⟨by rw [HR.out]; rfl, K.cov Cov.auto⟩
      have e1 : (partsT l 16 == 32768) = false := by simpa using k1
      by_cases k2 : codesT l 16 = 0
      · have e2 : (codesT l 16 == 0) = true := by simpa using k2
        have HR := Lib.hid (show mayH l = true by rw [HM.out, decide_eq_false k1, decide_eq_true k2]; rfl)
        clear k1 k2
        go_wp2_with (first | ((with_reducible refine at_slot (N := 42) rfl ?_); refine wpList_reads (by rfl) (kr_load_cell K _ _ (by rfl) (by rfl) Has.auto (by kernel_rfl) (ar_get (i := 1) _ (by omega))) ?_))
        go_ret
        exact ⟨by rw [HR.out]; rfl, K.cov Cov.auto⟩
      have e2 : (codesT l 16 == 0) = false := by simpa using k2
      by_cases k3 : codesT l 16 = 1
      rotate_left
      · have e3 : (codesT l 16 == 1) = false := by simpa using k3
        have HR := Lib.hid (show mayH l = false by rw [HM.out, decide_eq_false k1, decide_eq_false k2, decide_eq_false k3]; rfl)
        clear k1 k2 k3
        go_wp2_with (first | ((with_reducible refine at_slot (N := 42) rfl ?_); refine wpList_reads (by rfl) (kr_load_cell K _ _ (by rfl) (by rfl) Has.auto (by kernel_rfl) (ar_get (i := 1) _ (by omega))) ?_))
        go_ret
        exact ⟨by rw [HR.out]; rfl, K.cov Cov.auto⟩
      have e3 : (codesT l 16 == 1) = true := by simpa using k3
      by_cases k4 : f 1 = 1
      · have e4 : (f 1 == 1) = true := by simpa using k4
        have HR := Lib.hid (show mayH l = true by rw [HM.out, decide_eq_false k1, decide_eq_false k2, decide_eq_true k3, decide_eq_true (by rw [← HF1.out]; exact k4)]; rfl)
        clear k1 k2 k3 k4
        go_wp2_with (first | ((with_reducible refine at_slot (N := 42) rfl ?_); refine wpList_reads (by rfl) (kr_load_cell K _ _ (by rfl) (by rfl) Has.auto (by kernel_rfl) (ar_get (i := 1) _ (by omega))) ?_))
        go_ret
        exact ⟨by rw [HR.out]; rfl, K.cov Cov.auto⟩
      · have e4 : (f 1 == 1) = false := by simpa using k4
        have HR := Lib.hid (show mayH l = false by rw [HM.out, decide_eq_false k1, decide_eq_false k2, decide_eq_true k3, decide_eq_false (by rw [← HF1.out]; exact k4)]; rfl)
        clear k1 k2 k3 k4
        go_wp2_with (first | ((with_reducible refine at_slot (N := 42) rfl ?_); refine wpList_reads (by rfl) (kr_load_cell K _ _ (by rfl) (by rfl) Has.auto (by kernel_rfl) (ar_get (i := 1) _ (by omega))) ?_))
        go_ret
        exact ⟨by rw [HR.out]; rfl, K.cov Cov.auto⟩
end
end Go.Proofs.Ytemnahimheffgaa
