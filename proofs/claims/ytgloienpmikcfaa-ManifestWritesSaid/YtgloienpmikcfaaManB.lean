/-
  Package manifest: once; the reference's has (contracts; the plain law that they tell the same).
-/
import Derived.Test.YtgloienpmikcfaaRd
import Derived.Test.YtgloienpmikcfaaManA
set_option linter.unusedVariables false
set_option linter.unusedSimpArgs false
namespace Go.Proofs.Ytgloienpmikcfaa
open Go.RowKit

/-- how often is a number in a list -/
def cntL (xs : List Int) (x : Int) : Int := ((xs.filter (fun y => y == x)).length : Int)
theorem cntL_le (xs : List Int) (x : Int) : 0 ≤ cntL xs x ∧ cntL xs x ≤ xs.length := ⟨by unfold cntL; omega, by unfold cntL; have := List.length_filter_le (fun y => y == x) xs; omega⟩
theorem cntL_snoc (xs : List Int) (y x : Int) : cntL (xs ++ [y]) x = cntL xs x + if y = x then 1 else 0 := by
  unfold cntL
  rw [List.filter_append]
  by_cases h : y = x <;> simp [List.filter_cons, h]
theorem take_snoc' (xs : List Int) (k : Nat) (h : k < xs.length) : xs.take (k + 1) = xs.take k ++ [xs.getD k 0] := by
  rw [List.take_succ_eq_append_getElem h, List.getD_eq_getElem?_getD, List.getElem?_eq_getElem h]
  rfl

set_option maxHeartbeats 800000 in
theorem has_any (A : Option Addr) (n c : Nat) (xs : List Int) (x : Int) (w : World) (R : Rd w .i64 A n xs) (hn : n ≤ 1152921504606846976) (_hc : n ≤ c) :
    Calls Try.prog 56 #[.slice A n c, .int .i64 x] w fun e w' => e = .returned (.int .i64 (cntL xs x)) ∧ w = w' := by
  have hl := R.len
  go_enter Try.func56, Try.ntmps56
  go_wp2
  go_loop [5, 9] (fun t i => ∃ k : Nat, k ≤ n ∧ i = .int .i64 k ∧ t = .int .i64 (cntL (xs.take k) x)) (fun _ i => n - (intOf i).toNat)
  case atStart => exact ⟨0, Nat.zero_le _, rfl, rfl⟩
  case round =>
    obtain ⟨k, hk, rfl, rfl⟩ := hrel
    have hd := cntL_le (xs.take k) x
    have hl2 : (xs.take k).length ≤ k := List.length_take_le _ _
    by_cases hlt : k < n
    · obtain ⟨b, off, rfl, hb, hcell⟩ := R.form (by omega)
      have hc := hcell k hlt
      obtain ⟨y, hy⟩ : ∃ y, y = xs.getD k 0 := ⟨_, rfl⟩
      rw [← hy] at hc
      have HS := Lib.hid (cntL_snoc (xs.take k) y x)
      have HT := Lib.hid ((take_snoc' xs k (by omega)).trans (by rw [← hy]) : xs.take (k + 1) = xs.take k ++ [y])
      clear hy hcell hl
      by_cases hyx : y = x
      · have hyb : (y == x) = true := by simpa using hyx
        have HX := Lib.hid hyx
        clear hyx
        go_wp2
        go_round
        case rel => exact ⟨k + 1, by omega, by go_num, by rw [HT.out, HS.out, if_pos HX.out]⟩
        case measure => simp [intOf]; omega
      · have hyb : (y == x) = false := by simpa using hyx
        have HX := Lib.hid hyx
        clear hyx
        go_wp2
        go_round
        case rel => exact ⟨k + 1, by omega, by go_num, by rw [HT.out, HS.out, if_neg HX.out]; simp⟩
        case measure => simp [intOf]; omega
    · have HL := Lib.hid hl
      clear hl
      go_wp2
      go_ret
      exact ⟨ret_i64 (by rw [List.take_of_length_le (by rw [HL.out]; omega)]), rfl⟩
end Go.Proofs.Ytgloienpmikcfaa
