/-
  Stored blocks (plain mathematics).
-/
import Derived.Test.YthbehlohdoajbaaBitM
namespace Go.Proofs.Ythbehlohdoajbaa
open Go.RowKit
def leI (n : Int) : List Int := [n % 256, n / 256]
/-- a stored block -/
def stBlock (l : Bool) (b : List Int) : List Int := [if l then 1 else 0] ++ leI b.length ++ leI (65535 - b.length) ++ b
/-- a text in stored blocks -/
def stF : Nat → List Int → List Int
  | 0, _ => []
  | d + 1, b => if b.length ≤ 65535 then stBlock true b else stBlock false (b.take 65535) ++ stF d (b.drop 65535)
def stL (b : List Int) : List Int := stF (b.length + 1) b
theorem stF_more : ∀ (d e : Nat) (b : List Int), b.length < d → b.length < e → stF d b = stF e b
  | 0, _, b, h, _ => absurd h (Nat.not_lt_zero _)
  | _, 0, b, _, h => absurd h (Nat.not_lt_zero _)
  | d + 1, e + 1, b, h1, h2 => by
    simp only [stF]
    split
    · rfl
    · rw [stF_more d e _ (by simp; omega) (by simp; omega)]
theorem stL_small (b : List Int) (h : b.length ≤ 65535) : stL b = stBlock true b := by simp [stL, stF, h]
theorem stL_big (b : List Int) (h : ¬ b.length ≤ 65535) : stL b = stBlock false (b.take 65535) ++ stL (b.drop 65535) := by
  rw [stL, stF, if_neg h, stL, stF_more _ (_ + 1) (b.drop 65535) (by simp; omega) (Nat.lt_succ_self _)]
theorem stBlock_length (l : Bool) (b : List Int) : (stBlock l b).length = 5 + b.length := by simp [stBlock, leI]; omega
theorem stBlock_byte (l : Bool) (b : List Int) (hb : ∀ v ∈ b, 0 ≤ v ∧ v ≤ 255) (h : b.length ≤ 65535) : ∀ v ∈ stBlock l b, 0 ≤ v ∧ v ≤ 255 := by
  intro v hv
  simp only [stBlock, leI, List.mem_append, List.mem_cons, List.not_mem_nil, or_false] at hv
  rcases hv with (((h1 | h1 | h1) | h1 | h1) | h1)
  · subst h1; cases l <;> simp
  · omega
  · omega
  · omega
  · omega
  · exact hb v h1
theorem ofBytes_append (a b : List Int) : ofBytes (a ++ b) = ofBytes a ++ ofBytes b := by simp [ofBytes]
theorem bitsN_add : ∀ (a b x : Nat), bitsN (a + b) x = bitsN a x ++ bitsN b (x / 2 ^ a)
  | 0, b, x => by simp [bitsN]
  | a + 1, b, x => by
    rw [show a + 1 + b = (a + b) + 1 by omega, bitsN, bitsN_add a b, bitsN, List.cons_append, Nat.div_div_eq_div_mul, Nat.pow_succ, Nat.mul_comm 2]
theorem bitsN_mod : ∀ (n x : Nat), bitsN n (x % 2 ^ n) = bitsN n x
  | 0, x => rfl
  | n + 1, x => by
    have e1 : x % 2 ^ (n + 1) % 2 = x % 2 := Nat.mod_mod_of_dvd _ ⟨2 ^ n, by rw [Nat.pow_succ, Nat.mul_comm]⟩
    have e2 : x % 2 ^ (n + 1) / 2 = x / 2 % 2 ^ n := by rw [Nat.pow_succ, Nat.mul_comm, Nat.mod_mul_right_div_self]
    simp only [bitsN]
    rw [e1, e2, bitsN_mod n]
theorem bits16 (n : Nat) (h : n ≤ 65535) : bitsN 16 n = ofBytes (leI n) := by
  have e1 : ((n : Int) % 256).toNat = n % 2 ^ 8 := by omega
  have e2 : ((n : Int) / 256).toNat = n / 2 ^ 8 := by omega
  rw [show 16 = 8 + 8 by rfl, bitsN_add]
  simp only [ofBytes, leI, List.flatMap_cons, List.flatMap_nil, List.append_nil, e1, e2, bitsN_mod]
theorem padB_bytes (b : List Int) : padB (ofBytes b) = ofBytes b := by simp [padB]
theorem stored_bits (acc b : List Int) (l : Bool) (h : b.length ≤ 65535) :
    padB (padB ((ofBytes acc ++ bitsN 1 (if l then 1 else 0)) ++ bitsN 2 0) ++ bitsN 16 b.length ++ bitsN 16 (65535 - b.length)) ++ ofBytes b = ofBytes (acc ++ stBlock l b) := by
  have e1 : padB ((ofBytes acc ++ bitsN 1 (if l then 1 else 0)) ++ bitsN 2 0) = ofBytes acc ++ ofBytes [if l then 1 else 0] := by
    have hl : ((ofBytes acc ++ bitsN 1 (if l then 1 else 0)) ++ bitsN 2 0).length = 8 * acc.length + 3 := by simp
    rw [padB, hl, show (8 - (8 * acc.length + 3) % 8) % 8 = 5 by omega]
    cases l <;> simp [ofBytes, bitsN, List.replicate]
  have e2 : bitsN 16 (65535 - b.length) = ofBytes (leI (65535 - b.length)) := by
    rw [bits16 _ (by omega)]
    congr 2
    omega
  rw [e1, bits16 _ h, e2, ← ofBytes_append, ← ofBytes_append, ← ofBytes_append, padB_bytes, ← ofBytes_append]
  simp [stBlock, List.append_assoc]
theorem xor_low (n : Nat) (h : n ≤ 65535) : n ^^^ 65535 = 65535 - n := by
  apply Nat.eq_of_testBit_eq
  intro i
  rw [Nat.testBit_xor, show 65535 - n = 2 ^ 16 - (n + 1) by omega, Nat.testBit_two_pow_sub_succ (by omega), show 65535 = 2 ^ 16 - 1 by rfl, Nat.testBit_two_pow_sub_one]
  by_cases hi : i < 16
  · simp [hi]
  · have : n.testBit i = false := Nat.testBit_lt_two_pow (Nat.lt_of_lt_of_le (by omega : n < 2 ^ 16) (Nat.pow_le_pow_right (by omega) (by omega)))
    simp [hi, this]
end Go.Proofs.Ythbehlohdoajbaa
