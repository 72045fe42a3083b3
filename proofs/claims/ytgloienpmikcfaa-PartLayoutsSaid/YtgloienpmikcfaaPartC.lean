/-
  Package part: the reference's May and Layout; the law's example (contracts).
-/
import Derived.Test.YtgloienpmikcfaaPartB
import Derived.Test.YtgloienpmikcfaaPartE
namespace Go.Proofs.Ytgloienpmikcfaa
open Go.RowKit

theorem ret_bool {a b : Bool} (h : a = b) : Ending.returned (.bool a) = .returned (.bool b) := by rw [h]
theorem mayB_no {s b n : Int} (h : ¬ (128 ≤ s ∧ s ≤ 4096 ∧ 128 ≤ b ∧ b ≤ 4096 ∧ 1 ≤ n ∧ n ≤ 4096 ∧ b % s = 0)) : mayB s b n = false := by
  unfold mayB
  rw [decide_eq_false_iff_not]
  rintro ⟨h1, h2, h3, h4, h5, h6, h7, -⟩
  exact h ⟨h1, h2, h3, h4, h5, h6, h7⟩

set_option maxHeartbeats 400000 in
set_option maxRecDepth 100000 in
theorem refmay_any (s b n : Int) (w : World) : Calls Try.prog 12 #[.agg #[.int .i64 s, .int .i64 b, .int .i64 n]] w fun e w' => e = .returned (.bool (mayB s b n)) ∧ Below w.heap.size w w' := by
  by_cases h : 128 ≤ s ∧ s ≤ 4096 ∧ 128 ≤ b ∧ b ≤ 4096 ∧ 1 ≤ n ∧ n ≤ 4096 ∧ b % s = 0
  · obtain ⟨s1, s2, b1, b2, n1, n2, h4⟩ := h
    have q1 : 0 ≤ b / s := Int.ediv_nonneg (by omega) (by omega)
    have q2 : b / s ≤ 32 := Int.ediv_le_of_le_mul (by omega) (by omega)
    have d1 : 0 ≤ 2 * n * (b / s) := Int.mul_nonneg (by omega) q1
    have d2 : 2 * n * (b / s) ≤ 8192 * 32 := Int.mul_le_mul (by omega) q2 (by omega) (by omega)
    have e : mayB s b n = decide (2 + b / s + 2 * n * (b / s) ≤ 1048576) := by
      unfold mayB
      have e2 : 2 * (b / s * n) = 2 * n * (b / s) := by rw [Int.mul_assoc, Int.mul_comm (b / s) n]
      rw [decide_eq_decide, e2]
      exact ⟨fun h => h.2.2.2.2.2.2.2, fun h => ⟨s1, s2, b1, b2, n1, n2, h4, h⟩⟩
    rw [e]
    clear e
    have hd : ((b % s) != 0) = false := by simp [h4]
    have H4 := Lib.hid h4
    clear h4
    go_enter Try.func12, Try.ntmps12
    go_wp2
    have w1 : IntKind.i64.wrap (2 + b / s) = 2 + b / s := IntWalk.i64_in _ (by omega)
    have w2 : IntKind.i64.wrap (2 * n) = 2 * n := IntWalk.i64_in _ (by omega)
    have w3 : IntKind.i64.wrap (2 * n * (b / s)) = 2 * n * (b / s) := IntWalk.i64_in _ (by omega)
    have w4 : IntKind.i64.wrap (2 + b / s + 2 * n * (b / s)) = 2 + b / s + 2 * n * (b / s) := IntWalk.i64_in _ (by omega)
    have w5 : IntKind.i64.wrap (b / s) = b / s := IntWalk.i64_in _ (by omega)
    have w6 : b.tdiv s = b / s := Int.tdiv_eq_ediv_of_nonneg (by omega)
    go_quiet (fail)
    clear w1 w2 w3 w4 w5 w6
    go_wp2
    go_ret
    exact ⟨rfl, by repeat (first | exact Below.refl _ _ | refine Below.drew ?_ | refine below_drewN ?_ _ | refine Below.alloc ?_ (by simp) _)⟩
  · rw [mayB_no h]
    go_enter Try.func12, Try.ntmps12
    go_wp2
    all_goals
      first
        | (go_ret; exact ⟨rfl, by repeat (first | exact Below.refl _ _ | refine Below.drew ?_ | refine Below.alloc ?_ (by simp; try omega) _)⟩)
        | (exfalso; apply h; refine ⟨by omega, by omega, by omega, by omega, by omega, by omega, ?_⟩; have hb : (b % s != 0) = false := And.right (by assumption); simpa using hb)

set_option maxHeartbeats 400000 in
set_option maxRecDepth 100000 in
theorem reflayout_any (s b n : Int) (hv : mayB s b n = true) (w : World) : Calls Try.prog 15 #[.agg #[.int .i64 s, .int .i64 b, .int .i64 n]] w fun e w' => e = .returned (.agg (mapCells 0 1 1 1 2 (b / s) (2 + b / s) (b / s * n) (2 + b / s + b / s * n) (b / s * n) (2 + b / s + b / s * n + b / s * n))) ∧ Below w.heap.size w w' := by
  have h := hv
  simp only [mayB, decide_eq_true_eq] at h
  obtain ⟨s1, s2, b1, b2, n1, n2, -, -⟩ := h
  have q1 : 0 ≤ b / s := Int.ediv_nonneg (by omega) (by omega)
  have q2 : b / s ≤ 32 := Int.ediv_le_of_le_mul (by omega) (by omega)
  have d1 : 0 ≤ b / s * n := Int.mul_nonneg q1 (by omega)
  have d2 : b / s * n ≤ 32 * 4096 := Int.mul_le_mul q2 n2 (by omega) (by omega)
  go_enter Try.func15, Try.ntmps15
  go_wp2
  have e : 2 + b / s + 2 * (b / s * n) = 2 + b / s + b / s * n + b / s * n := by omega
  rw [e]
  exact bodyPost_ret (v := .agg (mapCells 0 1 1 1 2 (b / s) (2 + b / s) (b / s * n) (2 + b / s + b / s * n) (b / s * n) (2 + b / s + b / s * n + b / s * n))) (by simp [results, Try.results15, go_sem, mapCells]) rfl ⟨rfl, by repeat (first | exact Below.refl _ _ | refine Below.drew ?_ | refine Below.alloc ?_ (by simp; try omega) _)⟩

set_option maxHeartbeats 400000 in
set_option maxRecDepth 100000 in
theorem awake_any (w : World) : Calls Try.prog 14 #[] w fun e w' => e = .returned (.bool true) ∧ Below w.heap.size w w' := by
  go_enter Try.func14, Try.ntmps14
  go_wp2_with (go_at_call 11; refine (layout_yes 128 256 3 (by decide) _).mono ?_; rintro e w1 ⟨rfl, hb⟩; simp only [mapCells])
  go_ret
  exact ⟨rfl, hb.alloc hb.size _⟩
end Go.Proofs.Ytgloienpmikcfaa
