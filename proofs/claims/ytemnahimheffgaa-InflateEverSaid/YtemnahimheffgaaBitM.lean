/-
  Bits, the first one lowest: numbers, bytes (plain mathematics).
-/
import Derived.WalkKit
namespace Go.Proofs.Ytemnahimheffgaa
open Go.RowKit

def num : List Bool → Nat
  | [] => 0
  | b :: l => (if b then 1 else 0) + 2 * num l
def bitsN : Nat → Nat → List Bool
  | 0, _ => []
  | n + 1, x => (x % 2 == 1) :: bitsN n (x / 2)
@[simp] theorem bitsN_length : ∀ n x, (bitsN n x).length = n
  | 0, _ => rfl
  | n + 1, x => by simp [bitsN, bitsN_length n]
theorem num_bitsN : ∀ n x, num (bitsN n x) = x % 2 ^ n
  | 0, x => by simp [bitsN, num, Nat.mod_one]
  | n + 1, x => by
    simp only [bitsN, num, num_bitsN n]
    rw [Nat.pow_succ, Nat.mul_comm (2 ^ n) 2, Nat.mod_mul]
    have : x % 2 = 0 ∨ x % 2 = 1 := by omega
    rcases this with h | h <;> simp [h]
theorem num_append : ∀ a b : List Bool, num (a ++ b) = num a + 2 ^ a.length * num b
  | [], b => by simp [num]
  | x :: a, b => by simp only [List.cons_append, num, num_append a b, List.length_cons, Nat.pow_succ]; rw [Nat.mul_add, ← Nat.mul_assoc, Nat.mul_comm 2 (2 ^ a.length)]; omega
theorem num_lt : ∀ l : List Bool, num l < 2 ^ l.length
  | [] => by simp [num]
  | b :: l => by
    have := num_lt l
    simp only [num, List.length_cons, Nat.pow_succ]
    split <;> omega
theorem num_take (l : List Bool) (m : Nat) : num (l.take m) = num l % 2 ^ m := by
  have h := num_append (l.take m) (l.drop m)
  rw [List.take_append_drop] at h
  have hlt := num_lt (l.take m)
  by_cases hm : m ≤ l.length
  · rw [List.length_take, Nat.min_eq_left hm] at h hlt
    rw [h, Nat.add_mul_mod_self_left, Nat.mod_eq_of_lt hlt]
  · rw [List.take_of_length_le (by omega)]
    have h2 := num_lt l
    have h3 : 2 ^ l.length ≤ 2 ^ m := Nat.pow_le_pow_right (by omega) (by omega)
    rw [Nat.mod_eq_of_lt (by omega)]
theorem num_drop (l : List Bool) (m : Nat) : num (l.drop m) = num l / 2 ^ m := by
  have h := num_append (l.take m) (l.drop m)
  rw [List.take_append_drop] at h
  have hlt := num_lt (l.take m)
  by_cases hm : m ≤ l.length
  · rw [List.length_take, Nat.min_eq_left hm] at h hlt
    rw [h, Nat.add_mul_div_left _ _ (Nat.two_pow_pos m), Nat.div_eq_of_lt hlt]
    omega
  · have h2 := num_lt l
    have h3 : 2 ^ l.length ≤ 2 ^ m := Nat.pow_le_pow_right (by omega) (by omega)
    rw [List.drop_eq_nil_of_le (by omega), Nat.div_eq_of_lt (by omega)]
    rfl
theorem bitsN_num : ∀ l : List Bool, bitsN l.length (num l) = l
  | [] => rfl
  | b :: l => by
    simp only [List.length_cons, bitsN, num]
    have e1 : ((if b then 1 else 0) + 2 * num l) / 2 = num l := by cases b <;> simp <;> omega
    rw [e1, bitsN_num l]
    cases b <;> simp <;> omega

/-- n bytes of bits -/
def pack (n : Nat) (l : List Bool) : List Int := (List.range n).map fun i => ((num ((l.drop (8 * i)).take 8) : Nat) : Int)
@[simp] theorem pack_length (n : Nat) (l : List Bool) : (pack n l).length = n := by simp [pack]
theorem pack_succ (n : Nat) (l : List Bool) : pack (n + 1) l = pack n l ++ [((num ((l.drop (8 * n)).take 8) : Nat) : Int)] := by simp [pack, List.range_succ]
theorem pack_append (n : Nat) (l m : List Bool) (h : 8 * n ≤ l.length) : pack n (l ++ m) = pack n l := by
  apply List.map_congr_left
  intro i hi
  rw [List.mem_range] at hi
  rw [List.drop_append_of_le_length (by omega), List.take_append_of_le_length (by simp; omega)]
theorem pack_byte (n : Nat) (l : List Bool) : ∀ v ∈ pack n l, 0 ≤ v ∧ v ≤ 255 := by
  intro v hv
  obtain ⟨i, _, rfl⟩ := List.mem_map.1 hv
  have := num_lt ((l.drop (8 * i)).take 8)
  have h2 : 2 ^ ((l.drop (8 * i)).take 8).length ≤ 2 ^ 8 := Nat.pow_le_pow_right (by omega) (by simp; omega)
  omega
/-- the bits of bytes -/
def ofBytes (b : List Int) : List Bool := b.flatMap fun c => bitsN 8 c.toNat
@[simp] theorem ofBytes_length : ∀ b : List Int, (ofBytes b).length = 8 * b.length
  | [] => rfl
  | c :: b => by
    have := ofBytes_length b
    simp only [ofBytes, List.flatMap_cons, List.length_append, bitsN_length, List.length_cons] at this ⊢
    omega
theorem pack_bytes (n : Nat) (l : List Bool) (h : l.length = 8 * n) : ∀ (b : List Int), (∀ v ∈ b, 0 ≤ v ∧ v ≤ 255) → pack (n + b.length) (l ++ ofBytes b) = pack n l ++ b := by
  intro b
  induction b generalizing n l with
  | nil => intro _; simp [ofBytes]
  | cons c b ih =>
    intro hb
    have e : l ++ ofBytes (c :: b) = (l ++ bitsN 8 c.toNat) ++ ofBytes b := by simp [ofBytes]
    have hc := hb c (List.mem_cons_self ..)
    rw [e, List.length_cons, show n + (b.length + 1) = (n + 1) + b.length by omega, ih (n + 1) _ (by simp [h]; omega) (fun v hv => hb v (List.mem_cons_of_mem _ hv)), pack_succ,
      pack_append n l _ (by omega), List.drop_append_of_le_length (by omega), List.drop_eq_nil_of_le (by omega), List.nil_append, List.take_of_length_le (by simp), num_bitsN]
    have : ((c.toNat % 2 ^ 8 : Nat) : Int) = c := by omega
    rw [this]
    simp

theorem bitsN_zero : ∀ n, bitsN n 0 = List.replicate n false
  | 0 => rfl
  | n + 1 => by simp [bitsN, bitsN_zero n, List.replicate_succ]
/-- up to a byte's end -/
def padB (b : List Bool) : List Bool := b ++ List.replicate ((8 - b.length % 8) % 8) false
theorem padB_length (b : List Bool) : (padB b).length = 8 * ((b.length + 7) / 8) := by simp [padB]; omega
theorem u64_nat {x : Nat} (h : x < 18446744073709551616) : IntKind.u64.wrap (x : Int) = x := by
  simp [IntKind.wrap, IntKind.bits, IntKind.signed] <;> omega
/-- what Put makes of the bits that are no byte yet -/
theorem put_word (r x k m : Nat) (hr : r < 2 ^ m) (hm : m < 8) (hk : k ≤ 32) (hx : x < 4294967296) :
    bits .or .u64 (r : Int) (IntKind.u64.wrap (bits .and .u64 (IntKind.u64.wrap (x : Int)) (IntKind.u64.wrap (IntKind.u64.wrap (2 ^ k) - 1)) * 2 ^ m)) = ((r + 2 ^ m * (x % 2 ^ k) : Nat) : Int) := by
  have p1 : 2 ^ k ≤ 2 ^ 32 := Nat.pow_le_pow_right (by omega) hk
  have p2 : 2 ^ m ≤ 2 ^ 7 := Nat.pow_le_pow_right (by omega) (by omega)
  have p3 := Nat.two_pow_pos k
  have p4 := Nat.two_pow_pos m
  have e1 : (IntKind.u64.wrap (2 ^ k)) = ((2 ^ k : Nat) : Int) := by rw [show (2 : Int) ^ k = ((2 ^ k : Nat) : Int) by simp]; exact u64_nat (by omega)
  have e2 : IntKind.u64.wrap (((2 ^ k : Nat) : Int) - 1) = ((2 ^ k - 1 : Nat) : Int) := by rw [show ((2 ^ k : Nat) : Int) - 1 = ((2 ^ k - 1 : Nat) : Int) by omega]; exact u64_nat (by omega)
  rw [e1, e2, u64_nat (by omega : x < 18446744073709551616), u64_and_nat x (2 ^ k - 1) (by omega) (by omega), Nat.and_two_pow_sub_one_eq_mod]
  have hlt : x % 2 ^ k < 2 ^ 32 := Nat.lt_of_lt_of_le (Nat.mod_lt _ p3) p1
  have hmul : x % 2 ^ k * 2 ^ m < 2 ^ 32 * 2 ^ 7 := Nat.lt_of_lt_of_le (Nat.mul_lt_mul_of_pos_right hlt p4) (Nat.mul_le_mul_left _ p2)
  rw [show ((x % 2 ^ k : Nat) : Int) * 2 ^ m = ((x % 2 ^ k * 2 ^ m : Nat) : Int) by simp, u64_nat (by omega), u64_or_nat r _ (by omega) (by omega)]
  congr 1
  rw [Nat.or_comm, Nat.mul_comm (x % 2 ^ k), ← Nat.two_pow_add_eq_or_of_lt hr]
  omega
end Go.Proofs.Ytemnahimheffgaa
