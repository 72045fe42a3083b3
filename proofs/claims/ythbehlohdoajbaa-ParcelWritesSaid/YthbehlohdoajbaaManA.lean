/-
  Packages delta, slices, manifest: whether blocks may be so large, how many there are; whether lengths may be (contracts).
-/
import Derived.Test.YthbehlohdoajbaaCom
set_option linter.unusedVariables false
set_option linter.unusedSimpArgs false
namespace Go.Proofs.Ythbehlohdoajbaa
open Go.RowKit

theorem ret_bool' {a b : Bool} (h : a = b) : Ending.returned (.bool a) = .returned (.bool b) := by rw [h]
theorem ret_i64 {a b : Int} (h : a = b) : Ending.returned (.int .i64 a) = .returned (.int .i64 b) := by rw [h]

/-- how many blocks there are -/
def blocksN (n b : Int) : Int := if n < 1 ∨ b < 1 then 0 else (n - 1) / b + 1

theorem dmay_any (n : Int) (v : Bool) (hv : decide (128 ≤ n ∧ n ≤ 4096) = v) (w : World) : Calls Try.prog 45 #[.int .i64 n] w fun e w' => e = .returned (.bool v) ∧ w = w' := by
  subst hv
  by_cases h1 : 128 ≤ n
  · have e : decide (128 ≤ n ∧ n ≤ 4096) = decide (n ≤ 4096) := by simp [h1]
    rw [e]; clear e
    go_enter Try.func45, Try.ntmps45
    go_wp2
    go_ret
    exact ⟨rfl, rfl⟩
  · have e : decide (128 ≤ n ∧ n ≤ 4096) = false := by simp [h1]
    rw [e]; clear e
    go_enter Try.func45, Try.ntmps45
    go_wp2
    go_ret
    exact ⟨rfl, rfl⟩

def dmostN (n : Int) : Int := if 128 ≤ n ∧ n ≤ 4096 then n + 12 else 0
theorem dmost_any (n : Int) (w : World) : Calls Try.prog 36 #[.int .i64 n] w fun e w' => e = .returned (.int .i64 (dmostN n)) ∧ w = w' := by
  by_cases h : 128 ≤ n ∧ n ≤ 4096
  · have hv : decide (128 ≤ n ∧ n ≤ 4096) = true := by simp [h]
    have e : dmostN n = n + 12 := by simp [dmostN, h]
    rw [e]; clear e
    obtain ⟨h1, h2⟩ := h
    have HV := Lib.hid hv
    clear hv
    go_enter Try.func36, Try.ntmps36
    go_wp2_with (go_at_call 45; (with_reducible refine (dmay_any _ true HV.out _).mono ?_); rintro e w' ⟨rfl, rfl⟩)
    go_ret
    exact ⟨rfl, rfl⟩
  · have hv : decide (128 ≤ n ∧ n ≤ 4096) = false := by simpa using h
    have e : dmostN n = 0 := by simp [dmostN, h]
    rw [e]; clear e h
    have HV := Lib.hid hv
    clear hv
    go_enter Try.func36, Try.ntmps36
    go_wp2_with (go_at_call 45; (with_reducible refine (dmay_any _ false HV.out _).mono ?_); rintro e w' ⟨rfl, rfl⟩)
    go_ret
    exact ⟨rfl, rfl⟩

theorem div_le_self' {a b : Int} (ha : 0 ≤ a) (hb : 1 ≤ b) : a / b ≤ a := Int.ediv_le_self _ ha
theorem blocks_any (n b : Int) (hn : n ≤ 9223372036854775807) (w : World) : Calls Try.prog 43 #[.int .i64 n, .int .i64 b] w fun e w' => e = .returned (.int .i64 (blocksN n b)) ∧ w = w' := by
  by_cases h1 : n < 1
  · have e : blocksN n b = 0 := by simp [blocksN, h1]
    rw [e]; clear e
    go_enter Try.func43, Try.ntmps43
    go_wp2
    go_ret
    exact ⟨rfl, rfl⟩
  · by_cases h2 : b < 1
    · have e : blocksN n b = 0 := by simp [blocksN, h2]
      rw [e]; clear e
      go_enter Try.func43, Try.ntmps43
      go_wp2
      go_ret
      exact ⟨rfl, rfl⟩
    · have e : blocksN n b = (n - 1) / b + 1 := by rw [blocksN, if_neg (by omega)]
      rw [e]; clear e
      have q0 : 0 ≤ (n - 1) / b := Int.ediv_nonneg (by omega) (by omega)
      have q1 : (n - 1) / b ≤ n - 1 := div_le_self' (by omega) (by omega)
      have hb0 : ¬ b = 0 := by omega
      go_enter Try.func43, Try.ntmps43
      go_wp2
      go_ret
      exact ⟨rfl, rfl⟩

theorem rblocks_any (n b : Int) (hn : n ≤ 9223372036854775807) (w : World) : Calls Try.prog 39 #[.int .i64 n, .int .i64 b] w fun e w' => e = .returned (.int .i64 (blocksN n b)) ∧ w = w' := by
  by_cases h1 : n < 1
  · have e : blocksN n b = 0 := by simp [blocksN, h1]
    rw [e]; clear e
    go_enter Try.func39, Try.ntmps39
    go_wp2
    go_ret
    exact ⟨rfl, rfl⟩
  · by_cases h2 : b < 1
    · have e : blocksN n b = 0 := by simp [blocksN, h2]
      rw [e]; clear e
      go_enter Try.func39, Try.ntmps39
      go_wp2
      go_ret
      exact ⟨rfl, rfl⟩
    · have q0 : 0 ≤ n / b := Int.ediv_nonneg (by omega) (by omega)
      have q1 : n / b ≤ n := div_le_self' (by omega) (by omega)
      have hb0 : ¬ b = 0 := by omega
      have hm := Int.mul_ediv_add_emod n b
      have r0 := Int.emod_nonneg n hb0
      have r1 := Int.emod_lt_of_pos n (show 0 < b by omega)
      by_cases h3 : 0 < n % b
      · have e : blocksN n b = n / b + 1 := by
          rw [blocksN, if_neg (by omega)]
          congr 1
          rw [show n - 1 = (n % b - 1) + b * (n / b) by omega, Int.add_mul_ediv_left _ _ hb0, Int.ediv_eq_zero_of_lt (by omega) (by omega)]
          omega
        rw [e]
        clear e hm r1
        have q2 : n / b < n ∨ b = 1 := by
          by_cases hb1 : b = 1
          · right; exact hb1
          · left; exact Int.ediv_lt_self_of_pos_of_ne_one (by omega) (by omega)
        have q3 : n / b < n := by
          rcases q2 with h | h
          · exact h
          · subst h; simp at h3
        clear q2
        go_enter Try.func39, Try.ntmps39
        go_wp2
        go_ret
        exact ⟨rfl, rfl⟩
      · have e : blocksN n b = n / b := by
          rw [blocksN, if_neg (by omega)]
          have h0 : n % b = 0 := by omega
          have hm' : n = b * (n / b) := by omega
          have hq : 1 ≤ n / b := by
            by_cases hq : n / b ≤ 0
            · have : b * (n / b) ≤ 0 := Int.mul_nonpos_of_nonneg_of_nonpos (by omega) hq
              omega
            · omega
          rw [show n - 1 = (b - 1) + b * (n / b - 1) by rw [Int.mul_sub]; omega, Int.add_mul_ediv_left _ _ hb0, Int.ediv_eq_zero_of_lt (by omega) (by omega)]
          omega
        rw [e]
        clear e hm r0 r1
        go_enter Try.func39, Try.ntmps39
        go_wp2
        go_ret
        exact ⟨rfl, rfl⟩

/-- a length that may not be -/
def badLen (n : Int) : Bool := decide (n < 0 ∨ n > 2147483647)
theorem len1_any (n : Int) (v : Bool) (hv : badLen n = v) (w : World) : Calls Try.prog 60 #[.int .i64 n] w fun e w' => e = .returned (.bool v) ∧ w = w' := by
  subst hv
  by_cases h1 : n < 0
  · have e : badLen n = true := by simp [badLen, h1]
    rw [e]; clear e
    go_enter Try.func60, Try.ntmps60
    go_wp2
    go_ret
    exact ⟨rfl, rfl⟩
  · have e : badLen n = decide (n > 2147483647) := by simp [badLen, h1]
    rw [e]; clear e
    go_enter Try.func60, Try.ntmps60
    go_wp2
    go_ret
    exact ⟨rfl, rfl⟩

set_option maxHeartbeats 800000 in
/-- of two lengths -/
theorem index2_any (g : Nat) (x y : Int) (w : World) (B : Blk w g #[.int .i64 x, .int .i64 y] 3) :
    Calls Try.prog 65 #[.slice (some ⟨g, 0, none⟩) 2 2, .func (.func 60) #[] #[]] w fun e w' => e = .returned (.int .i64 (if badLen x then 0 else if badLen y then 1 else -1)) ∧ w = w' := by
  have hx : w.cell? ⟨g, 0, none⟩ = some (.int .i64 x) := (B.cell 0).trans rfl
  have hy : w.cell? ⟨g, 1, none⟩ = some (.int .i64 y) := (B.cell 1).trans rfl
  cases b1 : badLen x
  · cases b2 : badLen y
    all_goals
      go_enter Try.func65, Try.ntmps65
      go_wp2
      refine wp_loop_rounds 3 ?_
      repeat (rw [rounds_succ]; go_wp2_with (go_at_call 60; (with_reducible refine (len1_any _ _ rfl _).mono ?_); rintro e w' ⟨rfl, rfl⟩))
      go_ret
      exact ⟨rfl, rfl⟩
  · go_enter Try.func65, Try.ntmps65
    go_wp2
    refine wp_loop_rounds 3 ?_
    rw [rounds_succ]
    go_wp2_with (go_at_call 60; (with_reducible refine (len1_any _ _ rfl _).mono ?_); rintro e w' ⟨rfl, rfl⟩)
    go_ret
    exact ⟨rfl, rfl⟩

def goodLens (x y : Int) : Bool := !badLen x && !badLen y
set_option maxHeartbeats 800000 in
theorem contains2_any (g : Nat) (x y : Int) (w : World) (B : Blk w g #[.int .i64 x, .int .i64 y] 3) :
    Calls Try.prog 59 #[.slice (some ⟨g, 0, none⟩) 2 2, .func (.func 60) #[] #[]] w fun e w' => e = .returned (.bool (!goodLens x y)) ∧ w = w' := by
  cases b1 : badLen x
  · cases b2 : badLen y
    all_goals
      have e : goodLens x y = !badLen y := by simp [goodLens, b1]
      rw [e, b2]
      clear e
      go_enter Try.func59, Try.ntmps59
      go_wp2_with (go_at_call 65; (with_reducible refine (index2_any _ _ _ _ B).mono ?_); rintro e w' ⟨rfl, rfl⟩)
      go_ret
      exact ⟨rfl, rfl⟩
  · have e : goodLens x y = false := by simp [goodLens, b1]
    rw [e]
    clear e
    go_enter Try.func59, Try.ntmps59
    go_wp2_with (go_at_call 65; (with_reducible refine (index2_any _ _ _ _ B).mono ?_); rintro e w' ⟨rfl, rfl⟩)
    go_ret
    exact ⟨rfl, rfl⟩
theorem lengths_any (g : Nat) (x y : Int) (w : World) (B : Blk w g #[.int .i64 x, .int .i64 y] 3) :
    Calls Try.prog 51 #[.slice (some ⟨g, 0, none⟩) 2 2] w fun e w' => e = .returned (.bool (goodLens x y)) ∧ w = w' := by
  go_enter Try.func51, Try.ntmps51
  go_wp2_with (go_at_call 59; (with_reducible refine (contains2_any _ _ _ _ B).mono ?_); rintro e w' ⟨rfl, rfl⟩)
  go_ret
  exact ⟨by simp, rfl⟩
end Go.Proofs.Ythbehlohdoajbaa
