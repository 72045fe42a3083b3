/-
  octet's Get (contracts); the document's.
-/
import Derived.Test.YtgloienpmikcfaaPutC
import Derived.Laws.BitsAllLaws
set_option linter.unusedVariables false
set_option linter.unusedSimpArgs false
namespace Go.Proofs.Ytgloienpmikcfaa
open Go.RowKit

/-- a number of bytes, the highest first -/
def numL (l : List Int) : Int := l.foldl (fun x c => x * 256 + c) 0
theorem numL_snoc (l : List Int) (c : Int) : numL (l ++ [c]) = numL l * 256 + c := by simp [numL]
theorem numL_bound : ∀ (k : Nat) (l : List Int), l.length ≤ k → (∀ c ∈ l, 0 ≤ c ∧ c ≤ 255) → 0 ≤ numL l ∧ numL l < 256 ^ k := by
  intro k
  induction k with
  | zero => intro l h _; have : l = [] := List.eq_nil_of_length_eq_zero (by omega); subst this; simp [numL]
  | succ k ih =>
    intro l h hc
    by_cases hl : l = []
    · subst hl
      refine ⟨by simp [numL], ?_⟩
      have : (0 : Int) < 256 ^ (k + 1) := Int.pow_pos (by decide)
      simpa [numL] using this
    · obtain ⟨l', c, rfl⟩ : ∃ l' c, l = l' ++ [c] := ⟨l.dropLast, l.getLast hl, (List.dropLast_concat_getLast hl).symm⟩
      obtain ⟨h0, h1⟩ := ih l' (by simp at h; omega) (fun x hx => hc x (by simp [hx]))
      have h2 := hc c (by simp)
      rw [numL_snoc, Int.pow_succ]
      omega

theorem nat_or256 (a b : Nat) (hb : b < 256) : a * 256 ||| b = a * 256 + b := by
  have := Nat.shiftLeft_add_eq_or_of_lt (b := b) (i := 8) hb a
  rw [Nat.shiftLeft_eq] at this
  exact this.symm
theorem or_u64 (u v : Int) (u0 : 0 ≤ u) (u1 : u ≤ 72057594037927935) (v0 : 0 ≤ v) (v1 : v ≤ 255) : bits .or .u64 (u * 256) v = u * 256 + v := by
  rw [u64_or _ _ (by omega) (by omega) (by omega) (by omega)]
  rw [show (u * 256).toNat = u.toNat * 256 by omega, nat_or256 _ _ (by omega)]
  omega
section
variable (A : Option Addr) (n c : Nat) (xs : List Int) (a k : Nat) (x y : Int) (w : World)
set_option maxHeartbeats 800000 in
set_option maxRecDepth 100000 in
theorem get_any (R : Rd w .u8 A n xs) (hx : x = a) (hy : y = k) (h1 : 1 ≤ k) (h8 : k ≤ 8) (hak : a + k ≤ n) (hc : n ≤ c) (hm : c ≤ 9223372036854775807) (hb : ∀ b ∈ xs, 0 ≤ b ∧ b ≤ 255) :
    Calls Try.prog 62 #[.slice A n c, .int .i64 x, .int .i64 y] w fun e w' => e = .returned (.tuple #[.int .u64 (numL ((xs.drop a).take k)), .int .i64 0]) ∧ w = w' := by
  subst hx hy
  obtain ⟨b, off, rfl, hlt, hcell⟩ := R.form (by omega)
  have d1 : decide ((k : Int) < 1) = false := decide_eq_false (by omega)
  have d2 : decide (8 < (k : Int)) = false := decide_eq_false (by omega)
  have d3 : decide ((a : Int) < 0) = false := decide_eq_false (by omega)
  have d4 : decide ((n : Int) < (a : Int)) = false := decide_eq_false (by omega)
  have d5 : decide ((n : Int) - (a : Int) < (k : Int)) = false := decide_eq_false (by omega)
  have HC := Lib.hid hcell
  have HB := Lib.hid hb
  clear hcell hb
  go_enter Try.func62, Try.ntmps62
  go_wp2
  go_loop [8, 42] (fun t i => ∃ j : Nat, j ≤ k ∧ i = .int .i64 j ∧ t = .int .u64 (numL ((xs.drop a).take j))) (fun _ i => k - (intOf i).toNat)
  case atStart => exact ⟨0, Nat.zero_le _, rfl, rfl⟩
  case round =>
    obtain ⟨j, hj, rfl, rfl⟩ := hrel
    by_cases hlt : j < k
    · obtain ⟨v, hv⟩ : ∃ v, v = xs.getD (a + j) 0 := ⟨_, rfl⟩
      have hl := R.len
      have hcj := HC.out (a + j) (by omega)
      rw [← hv, show off + (a + j) = off + a + j by omega] at hcj
      have hv2 := HB.out v (by rw [hv, List.getD, List.getElem?_eq_getElem (by omega)]; exact List.getElem_mem _)
      obtain ⟨v0, v1⟩ := hv2
      have HT := Lib.hid (show numL ((xs.drop a).take (j + 1)) = numL ((xs.drop a).take j) * 256 + v by
        rw [take_snoc' (xs.drop a) j (by simp; omega), numL_snoc, hv]; simp [List.getD])
      obtain ⟨u, hu⟩ : ∃ u, numL ((xs.drop a).take j) = u := ⟨_, rfl⟩
      have hub := numL_bound 7 ((xs.drop a).take j) (by simp; omega) (fun c hc => HB.out c (List.mem_of_mem_drop (List.mem_of_mem_take hc)))
      rw [hu] at HT hub ⊢
      obtain ⟨u0, u1⟩ := hub
      have u2 : u ≤ 72057594037927935 := by have e : (256 : Int) ^ 7 = 72057594037927936 := by decide
                                            omega
      clear hv hl hu u1
      go_wp2
      trace_state
      go_round
      case rel => exact ⟨j + 1, by omega, by go_num, by rw [HT.out]; rw [or_u64 u v u0 u2 v0 v1]⟩
      case measure => simp [intOf]; omega
    · have e : j = k := by omega
      subst e
      go_wp2
      go_ret2
      exact ⟨rfl, rfl⟩
end
end Go.Proofs.Ytgloienpmikcfaa
