/-
  Package part: plan, in, May, Layout (contracts).
-/
import Derived.Test.YtokbloddaoakgaaProg
import Derived.WalkKit
import Derived.WalkSpells
import Derived.WalkLawsBesides
import Derived.Deep.RegionWith
import Derived.Deep.QuietTactic
import Derived.BigQuiet
namespace Go.Proofs.Ytokbloddaoakgaa
open Go.RowKit

/-- a Map in memory, as the closure captured it -/
def mapCells (a0 a1 a2 a3 a4 a5 a6 a7 a8 a9 al : Int) : Array Value := #[.int .i64 a0, .int .i64 a1, .int .i64 a2, .int .i64 a3, .int .i64 a4, .int .i64 a5, .int .i64 a6, .int .i64 a7, .int .i64 a8, .int .i64 a9, .int .i64 al]


set_option maxHeartbeats 800000 in
theorem plan1_any (n al : Int) (B : Nat) (w : World) (hlt : B < w.heap.size) (hB : w.cell? ⟨B, 10, none⟩ = some (.int .i64 al)) (hf : w.frozen? ⟨B, 10, none⟩ = false)
    (hn : 0 ≤ n) (hn2 : n ≤ 1000000) (ha : 0 ≤ al) (ha2 : al ≤ 1000000000) :
    Calls Try.prog 96 #[.int .i64 n, .pointer (some ⟨B, 0, none⟩)] w fun e w' => e = .returned (.agg #[.int .i64 al, .int .i64 n]) ∧ w' = (((w.setCell ⟨B, 10, none⟩ (.int .i64 (al + n))).alloc
        (Obj.cells #[Value.int IntKind.i64 al, Value.int IntKind.i64 n] 23)).alloc
    (Obj.cells #[Value.int IntKind.i64 al, Value.int IntKind.i64 n] 23)) := by
  go_enter Try.func96, Try.ntmps96
  go_wp2
  exact bodyPost_ret (v := .agg #[.int .i64 al, .int .i64 n]) (by simp [results, Try.results96, go_sem]) rfl ⟨rfl, rfl⟩

set_option maxHeartbeats 1600000 in
theorem plan_any (s b n : Int) (w : World) (hs : 128 ≤ s) (hs2 : s ≤ 4096) (hb : 128 ≤ b) (hb2 : b ≤ 4096) (hn : 1 ≤ n) (hn2 : n ≤ 4096) (hd : 0 ≤ b / s) (hd2 : b / s ≤ 32) :
    Calls Try.prog 80 #[.agg #[.int .i64 s, .int .i64 b, .int .i64 n]] w fun e w' => e = .returned (.agg (mapCells 0 1 1 1 2 (b / s) (2 + b / s) (b / s * n) (2 + b / s + b / s * n) (b / s * n) (2 + b / s + b / s * n + b / s * n))) ∧ Below w.heap.size w w' := by
  have hmf : ∀ (fn : Fn) (first cap : Array Value) (w : World), (Instr.makeFunc fn first cap).run Try.prog w = .ok (.func fn first cap) w := fun _ _ _ _ => rfl
  go_enter Try.func80, Try.ntmps80
  have d1 : 0 ≤ b / s * n := by exact Int.mul_nonneg hd (by omega)
  have d2 : b / s * n ≤ 32 * 4096 := by exact Int.mul_le_mul hd2 hn2 (by omega) (by omega)
  go_wp2_with (go_at_call 96; refine (plan1_any _ _ _ _ (by simp) (by go_simp; rfl) (by go_simp) (by omega) (by omega) (by omega) (by omega)).mono ?_; rintro e w' ⟨rfl, rfl⟩)
  have hw : IntKind.i64.wrap (b / s * n) = b / s * n := IntWalk.i64_in _ (by omega)
  have d3 : b / s * n ≤ 1000000 := by omega
  have d4 : 0 ≤ 2 + b / s := by omega
  have d5 : 2 + b / s ≤ 1000000000 := by omega
  have d6 : 0 ≤ 2 + b / s + b / s * n := by omega
  have d7 : 2 + b / s + b / s * n ≤ 1000000000 := by omega
  go_region_with (go_at_call 96; refine (plan1_any _ _ _ _ (by simp) (by go_simp; rfl) (by go_simp) d1 d3 (by assumption) (by assumption)).mono ?_; rintro e w' ⟨rfl, rfl⟩)
  all_goals clear hw
  all_goals go_wp2
  all_goals
    refine bodyPost_ret (v := .agg (mapCells 0 1 1 1 2 (b / s) (2 + b / s) (b / s * n) (2 + b / s + b / s * n) (b / s * n) (2 + b / s + b / s * n + b / s * n))) (by simp [results, Try.results80, go_sem, mapCells]) rfl ⟨rfl, ?_⟩
    repeat (first | exact Below.refl _ _ | refine Below.drew ?_ | refine Below.alloc ?_ (by simp; try omega) _)
def inB (n a b : Int) : Bool := decide (a ≤ n ∧ n ≤ b)
theorem in_any (n a b : Int) (v : Bool) (hv : inB n a b = v) (w : World) : Calls Try.prog 95 #[.int .i64 n, .int .i64 a, .int .i64 b] w fun e w' => e = .returned (.bool v) ∧ w = w' := by
  subst hv
  by_cases h1 : a ≤ n
  · by_cases h2 : n ≤ b
    all_goals
      have e : inB n a b = decide (n ≤ b) := by simp [inB, h1]
      simp only [h2, decide_true, decide_false] at e
      rw [e]
      clear e
      go_enter Try.func95, Try.ntmps95
      go_wp2
      go_ret
      exact ⟨rfl, rfl⟩
  · have e : inB n a b = false := by simp [inB, h1]
    rw [e]
    clear e
    go_enter Try.func95, Try.ntmps95
    go_wp2
    go_ret
    exact ⟨rfl, rfl⟩

theorem field28_3 (a0 a1 a2 a3 a4 a5 a6 a7 a8 a9 al : Int) (w : World) : (Instr.field 93 (.agg #[.int .i64 a0, .int .i64 a1, .int .i64 a2, .int .i64 a3, .int .i64 a4, .int .i64 a5, .int .i64 a6, .int .i64 a7, .int .i64 a8, .int .i64 a9, .int .i64 al]) 3).run Try.prog w = .ok (.int .i64 al) w := by kernel_rfl

def mayB (s b n : Int) : Bool := decide (128 ≤ s ∧ s ≤ 4096 ∧ 128 ≤ b ∧ b ≤ 4096 ∧ 1 ≤ n ∧ n ≤ 4096 ∧ b % s = 0 ∧ 2 + b / s + 2 * (b / s * n) ≤ 1048576)

set_option maxHeartbeats 1600000 in
set_option maxRecDepth 100000 in
theorem may_any (s b n : Int) (v : Bool) (hv : mayB s b n = v) (w : World) : Calls Try.prog 79 #[.agg #[.int .i64 s, .int .i64 b, .int .i64 n]] w fun e w' => e = .returned (.bool v) ∧ Below w.heap.size w w' := by
  subst hv
  by_cases h1 : 128 ≤ s ∧ s ≤ 4096
  · have i1 : inB s 128 4096 = true := by simp [inB, h1]
    by_cases h2 : 128 ≤ b ∧ b ≤ 4096
    · have i2 : inB b 128 4096 = true := by simp [inB, h2]
      by_cases h3 : 1 ≤ n ∧ n ≤ 4096
      · have i3 : inB n 1 4096 = true := by simp [inB, h3]
        obtain ⟨s1, s2⟩ := h1
        obtain ⟨b1, b2⟩ := h2
        obtain ⟨n1, n2⟩ := h3
        have q1 : 0 ≤ b / s := Int.ediv_nonneg (by omega) (by omega)
        have q2 : b / s ≤ 32 := Int.ediv_le_of_le_mul (by omega) (by omega)
        have m0 : b % s = b.tmod s := (Int.tmod_eq_emod_of_nonneg (by omega)).symm
        by_cases h4 : b % s = 0
        · have hd : ((b % s) != 0) = false := by simp [h4]
          have e : mayB s b n = decide (2 + b / s + b / s * n + b / s * n ≤ 1048576) := by
            unfold mayB
            rw [decide_eq_decide]
            constructor
            · rintro ⟨-, -, -, -, -, -, -, h⟩; omega
            · intro h; refine ⟨s1, s2, b1, b2, n1, n2, h4, by omega⟩
          rw [e]
          clear e m0
          have H4 := h4
          clear h4
          have hfd := field28_3
          go_enter Try.func79, Try.ntmps79
          go_wp2_with (first | (go_at_call 95; refine (in_any _ _ _ _ (by assumption) _).mono ?_; rintro e w' ⟨rfl, rfl⟩) | (go_at_call 80; refine (plan_any _ _ _ _ s1 s2 b1 b2 n1 n2 q1 q2).mono ?_; rintro e w' ⟨rfl, hb⟩; simp only [mapCells]))
          go_ret
          exact ⟨rfl, (by repeat (first | exact Below.refl _ _ | refine Below.drew ?_ | refine Below.alloc ?_ (by simp; try omega) _) : Below w.heap.size w _).trans (hb.mono (by simp))⟩
        · have hd : ((b % s) != 0) = true := by simp [h4]
          have e : mayB s b n = false := by simp [mayB]; omega
          clear m0 h4
          rw [e]
          clear e
          go_enter Try.func79, Try.ntmps79
          go_wp2_with (go_at_call 95; refine (in_any _ _ _ _ (by assumption) _).mono ?_; rintro e w' ⟨rfl, rfl⟩)
          go_ret
          exact ⟨rfl, by repeat (first | exact Below.refl _ _ | refine Below.drew ?_ | refine Below.alloc ?_ (by simp; try omega) _)⟩
      · have i3 : inB n 1 4096 = false := by simp [inB]; omega
        have e : mayB s b n = false := by simp [mayB]; omega
        clear h1 h2 h3
        rw [e]
        clear e
        go_enter Try.func79, Try.ntmps79
        go_wp2_with (go_at_call 95; refine (in_any _ _ _ _ (by assumption) _).mono ?_; rintro e w' ⟨rfl, rfl⟩)
        go_ret
        exact ⟨rfl, by repeat (first | exact Below.refl _ _ | refine Below.drew ?_ | refine Below.alloc ?_ (by simp; try omega) _)⟩
    · have i2 : inB b 128 4096 = false := by simp [inB]; omega
      have e : mayB s b n = false := by simp [mayB]; omega
      clear h1 h2
      rw [e]
      clear e
      go_enter Try.func79, Try.ntmps79
      go_wp2_with (go_at_call 95; refine (in_any _ _ _ _ (by assumption) _).mono ?_; rintro e w' ⟨rfl, rfl⟩)
      go_ret
      exact ⟨rfl, by repeat (first | exact Below.refl _ _ | refine Below.drew ?_ | refine Below.alloc ?_ (by simp; try omega) _)⟩
  · have i1 : inB s 128 4096 = false := by simp [inB]; omega
    have e : mayB s b n = false := by simp [mayB]; omega
    clear h1
    rw [e]
    clear e
    go_enter Try.func79, Try.ntmps79
    go_wp2_with (go_at_call 95; refine (in_any _ _ _ _ (by assumption) _).mono ?_; rintro e w' ⟨rfl, rfl⟩)
    go_ret
    exact ⟨rfl, by repeat (first | exact Below.refl _ _ | refine Below.drew ?_ | refine Below.alloc ?_ (by simp; try omega) _)⟩

def zeroMap : Array Value := mapCells 0 0 0 0 0 0 0 0 0 0 0


end Go.Proofs.Ytokbloddaoakgaa
