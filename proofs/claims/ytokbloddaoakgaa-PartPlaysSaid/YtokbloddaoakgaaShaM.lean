/-
  sha: the words' laws, and the sum as plain mathematics (no program in sight).
-/
import Derived.Test.YtokbloddaoakgaaH
set_option linter.unusedVariables false
set_option linter.unusedSimpArgs false
namespace Go.Proofs.Ytokbloddaoakgaa
open Go.RowKit

abbrev U := BitVec 32

/-- a word as a number, and as a value -/
def un (a : U) : Int := (a.toNat : Int)
abbrev wv (a : U) : Value := .int .u32 (un a)

namespace U32
theorem ofInt_un (a : U) : BitVec.ofInt 32 (un a) = a := by
  unfold un
  apply BitVec.eq_of_toNat_eq
  rw [BitVec.toNat_ofInt]
  have := a.isLt
  omega
theorem wrapNat (x : Int) : IntKind.u32.wrap x = un (BitVec.ofInt 32 x) := by
  unfold un
  rw [IntKind.wrap_u32, BitVec.toNat_ofInt]
  omega
@[go_sem] theorem wrap_un (a : U) : IntKind.u32.wrap (un a) = un a := by
  rw [wrapNat, ofInt_un]
theorem wrap_self (a : U) : IntKind.u32.wrap (a.toNat : Int) = un a := wrap_un a
theorem add (a b : U) : IntKind.u32.wrap (un a + un b) = un (a + b) := by
  rw [wrapNat, BitVec.ofInt_add, ofInt_un, ofInt_un]
theorem shl (a : U) (n : Nat) : IntKind.u32.wrap (un a * 2 ^ n) = un (a <<< n) := by
  rw [wrapNat]
  unfold un
  congr 1
  rw [BitVec.toNat_ofInt, BitVec.toNat_shiftLeft, Nat.shiftLeft_eq]
  have : ((a.toNat : Int) * 2 ^ n) = ((a.toNat * 2 ^ n : Nat) : Int) := by push_cast; rfl
  rw [this]
  omega
theorem shr (a : U) (n : Nat) : (un a).fdiv (2 ^ n) = un (a >>> n) := by
  unfold un
  rw [BitVec.toNat_ushiftRight, Nat.shiftRight_eq_div_pow, Int.fdiv_eq_ediv_of_nonneg _ (by exact_mod_cast Nat.zero_le _)]
  push_cast
  rfl
end U32

/-- turned right by n places -/
def rotr (n : Nat) (a : U) : U := (a >>> n) ||| (a <<< (32 - n))

theorem ch_or (e f g : U) : (e &&& f) ||| (~~~e &&& g) = (e &&& f) ^^^ (~~~e &&& g) := by
  ext i hi
  simp only [BitVec.getElem_or, BitVec.getElem_and, BitVec.getElem_xor, BitVec.getElem_not]
  cases e[i] <;> cases f[i] <;> cases g[i] <;> rfl
theorem maj_or (a b c : U) : (a &&& b) ||| (a &&& c) ||| (b &&& c) = (a &&& b) ^^^ (a &&& c) ^^^ (b &&& c) := by
  ext i hi
  simp only [BitVec.getElem_or, BitVec.getElem_and, BitVec.getElem_xor]
  cases a[i] <;> cases b[i] <;> cases c[i] <;> rfl


/-- one round -/
def sT (k w e f g h : U) : U := h + (rotr 6 e ^^^ rotr 11 e ^^^ rotr 25 e) + ((e &&& f) ^^^ (~~~e &&& g)) + k + w
def sU (a b c : U) : U := (rotr 2 a ^^^ rotr 13 a ^^^ rotr 22 a) + ((a &&& b) ^^^ (a &&& c) ^^^ (b &&& c))
structure S8 where
  (a b c d e f g h : U)
def S8.get (s : S8) : Nat → U
  | 0 => s.a | 1 => s.b | 2 => s.c | 3 => s.d | 4 => s.e | 5 => s.f | 6 => s.g | _ => s.h
def S8.rnd (s : S8) (k w : U) : S8 :=
  ⟨sT k w s.e s.f s.g s.h + sU s.a s.b s.c, s.a, s.b, s.c, s.d + sT k w s.e s.f s.g s.h, s.e, s.f, s.g⟩
def S8.rnds (s : S8) (k w : Nat → U) : Nat → S8
  | 0 => s
  | n + 1 => (s.rnds k w n).rnd (k n) (w n)
def S8.add (s t : S8) : S8 := ⟨s.a + t.a, s.b + t.b, s.c + t.c, s.d + t.d, s.e + t.e, s.f + t.f, s.g + t.g, s.h + t.h⟩

/-- a block's bytes, as numbers; its words -/
def byteW (b : Int) : U := BitVec.ofInt 32 b
def word4 (b : Nat → Int) (n : Nat) : U := byteW (b (4 * n)) <<< 24 ||| byteW (b (4 * n + 1)) <<< 16 ||| byteW (b (4 * n + 2)) <<< 8 ||| byteW (b (4 * n + 3))
def sig0 (x : U) : U := rotr 7 x ^^^ rotr 18 x ^^^ (x >>> 3)
def sig1 (y : U) : U := rotr 17 y ^^^ rotr 19 y ^^^ (y >>> 10)
def wnext (b : Nat → Int) (f : Nat → U) (n : Nat) : U := if n < 16 then word4 b n else f (n - 16) + sig0 (f (n - 15)) + f (n - 7) + sig1 (f (n - 2))
def wrow (b : Nat → Int) : Nat → (Nat → U)
  | 0 => fun _ => 0
  | n + 1 => upd (wrow b n) n (wnext b (wrow b n) n)

def rootsL : List Nat := [0x428a2f98, 0x71374491, 0xb5c0fbcf, 0xe9b5dba5, 0x3956c25b, 0x59f111f1, 0x923f82a4, 0xab1c5ed5,
  0xd807aa98, 0x12835b01, 0x243185be, 0x550c7dc3, 0x72be5d74, 0x80deb1fe, 0x9bdc06a7, 0xc19bf174,
  0xe49b69c1, 0xefbe4786, 0x0fc19dc6, 0x240ca1cc, 0x2de92c6f, 0x4a7484aa, 0x5cb0a9dc, 0x76f988da,
  0x983e5152, 0xa831c66d, 0xb00327c8, 0xbf597fc7, 0xc6e00bf3, 0xd5a79147, 0x06ca6351, 0x14292967,
  0x27b70a85, 0x2e1b2138, 0x4d2c6dfc, 0x53380d13, 0x650a7354, 0x766a0abb, 0x81c2c92e, 0x92722c85,
  0xa2bfe8a1, 0xa81a664b, 0xc24b8b70, 0xc76c51a3, 0xd192e819, 0xd6990624, 0xf40e3585, 0x106aa070,
  0x19a4c116, 0x1e376c08, 0x2748774c, 0x34b0bcb5, 0x391c0cb3, 0x4ed8aa4a, 0x5b9cca4f, 0x682e6ff3,
  0x748f82ee, 0x78a5636f, 0x84c87814, 0x8cc70208, 0x90befffa, 0xa4506ceb, 0xbef9a3f7, 0xc67178f2]
def rootK (i : Nat) : U := BitVec.ofNat 32 (rootsL.getD i 0)
def S8.start : S8 := ⟨0x6a09e667, 0xbb67ae85, 0x3c6ef372, 0xa54ff53a, 0x510e527f, 0x9b05688c, 0x1f83d9ab, 0x5be0cd19⟩

/-- a block into a state; so many blocks -/
def S8.block (s : S8) (b : Nat → Int) : S8 := (s.rnds rootK (wrow b 64) 64).add s
def S8.blocks (s : S8) (b : Nat → Int) : Nat → S8
  | 0 => s
  | n + 1 => (s.blocks b n).block (fun i => b (64 * n + i))

theorem word4_congr {b c : Nat → Int} {n : Nat} (h0 : b (4 * n) = c (4 * n)) (h1 : b (4 * n + 1) = c (4 * n + 1)) (h2 : b (4 * n + 2) = c (4 * n + 2)) (h3 : b (4 * n + 3) = c (4 * n + 3)) : word4 b n = word4 c n := by
  unfold word4
  rw [h0, h1, h2, h3]
theorem wnext_congr {b c : Nat → Int} (h : ∀ i, i < 64 → b i = c i) (f : Nat → U) (n : Nat) : wnext b f n = wnext c f n := by
  unfold wnext
  by_cases hn : n < 16
  · rw [if_pos hn, if_pos hn]
    exact word4_congr (h (4 * n) (by omega)) (h (4 * n + 1) (by omega)) (h (4 * n + 2) (by omega)) (h (4 * n + 3) (by omega))
  · rw [if_neg hn, if_neg hn]
theorem wrow_succ (b : Nat → Int) (n : Nat) : wrow b (n + 1) = upd (wrow b n) n (wnext b (wrow b n) n) := rfl
theorem wrow_congr {b c : Nat → Int} (h : ∀ i, i < 64 → b i = c i) : ∀ n, wrow b n = wrow c n
  | 0 => rfl
  | n + 1 => by rw [wrow_succ, wrow_succ, wrow_congr h n, wnext_congr h]
theorem S8.block_congr (s : S8) {b c : Nat → Int} (h : ∀ i, i < 64 → b i = c i) : s.block b = s.block c := by
  unfold S8.block
  rw [wrow_congr h 64]
theorem S8.blocks_congr (s : S8) {b c : Nat → Int} : ∀ n, (∀ i, i < 64 * n → b i = c i) → s.blocks b n = s.blocks c n
  | 0, _ => rfl
  | n + 1, h => by
      simp only [S8.blocks]
      rw [S8.blocks_congr s n (fun i hi => h i (by omega))]
      exact S8.block_congr _ (fun i hi => h _ (by omega))
theorem S8.blocks_add (s : S8) (b : Nat → Int) (m : Nat) : ∀ n, s.blocks b (m + n) = (s.blocks b m).blocks (fun i => b (64 * m + i)) n
  | 0 => rfl
  | n + 1 => by
      rw [← Nat.add_assoc]
      simp only [S8.blocks]
      rw [S8.blocks_add s b m n]
      congr 1
      funext i
      congr 1
      omega

/-- the text, 128, zeros, how many bits: 64 bytes a block -/
def padN (n : Nat) : Nat := (n + 72) / 64
def padded (b : Nat → Int) (n : Nat) (i : Nat) : Int :=
  if i < n then b i else if i = n then 128 else if i < 64 * padN n - 8 then 0 else ((8 * n / 2 ^ (56 - 8 * (i - (64 * padN n - 8)))) % 256 : Nat)
def shaS (b : Nat → Int) (n : Nat) : S8 := S8.start.blocks (padded b n) (padN n)
def shaB (b : Nat → Int) (n : Nat) (i : Nat) : Int := (((shaS b n).get (i / 4) >>> (24 - 8 * (i % 4))).toNat % 256 : Nat)

end Go.Proofs.Ytokbloddaoakgaa
