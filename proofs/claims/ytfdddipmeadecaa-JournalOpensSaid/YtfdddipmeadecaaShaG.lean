/-
  sha: the words' laws, and the sum as plain mathematics (no program in sight).
-/
import Derived.Test.YtfdddipmeadecaaR
import Derived.Deep.LoopGhost
import Derived.Deep.Cut
set_option linter.unusedVariables false
set_option linter.unusedSimpArgs false
namespace Go.Proofs.Ytfdddipmeadecaa
open Go.RowKit

abbrev U := BitVec 32

/-- a word as a number, and as a value -/
def un (a : U) : Int := (a.toNat : Int)
abbrev wv (a : U) : Value := .int .u32 (un a)

namespace U32
theorem ofInt_un (a : U) : BitVec.ofInt 32 (un a) = a := by
  unfold un
  apply BitVec.eq_of_toNat_eq
  rw [BitVec.toNat_ofInt]
  have := a.isLt
  omega
theorem wrapNat (x : Int) : IntKind.u32.wrap x = un (BitVec.ofInt 32 x) := by
  unfold un
  rw [IntKind.wrap_u32, BitVec.toNat_ofInt]
  omega
@[go_sem] theorem wrap_un (a : U) : IntKind.u32.wrap (un a) = un a := by
  rw [wrapNat, ofInt_un]
theorem wrap_self (a : U) : IntKind.u32.wrap (a.toNat : Int) = un a := wrap_un a
theorem add (a b : U) : IntKind.u32.wrap (un a + un b) = un (a + b) := by
  rw [wrapNat, BitVec.ofInt_add, ofInt_un, ofInt_un]
theorem shl (a : U) (n : Nat) : IntKind.u32.wrap (un a * 2 ^ n) = un (a <<< n) := by
  rw [wrapNat]
  unfold un
  congr 1
  rw [BitVec.toNat_ofInt, BitVec.toNat_shiftLeft, Nat.shiftLeft_eq]
  have : ((a.toNat : Int) * 2 ^ n) = ((a.toNat * 2 ^ n : Nat) : Int) := by push_cast; rfl
  rw [this]
  omega
theorem shr (a : U) (n : Nat) : (un a).fdiv (2 ^ n) = un (a >>> n) := by
  unfold un
  rw [BitVec.toNat_ushiftRight, Nat.shiftRight_eq_div_pow, Int.fdiv_eq_ediv_of_nonneg _ (by exact_mod_cast Nat.zero_le _)]
  push_cast
  rfl
end U32

/-- turned right by n places -/
def rotr (n : Nat) (a : U) : U := (a >>> n) ||| (a <<< (32 - n))

theorem ch_or (e f g : U) : (e &&& f) ||| (~~~e &&& g) = (e &&& f) ^^^ (~~~e &&& g) := by
  ext i hi
  simp only [BitVec.getElem_or, BitVec.getElem_and, BitVec.getElem_xor, BitVec.getElem_not]
  cases e[i] <;> cases f[i] <;> cases g[i] <;> rfl
theorem maj_or (a b c : U) : (a &&& b) ||| (a &&& c) ||| (b &&& c) = (a &&& b) ^^^ (a &&& c) ^^^ (b &&& c) := by
  ext i hi
  simp only [BitVec.getElem_or, BitVec.getElem_and, BitVec.getElem_xor]
  cases a[i] <;> cases b[i] <;> cases c[i] <;> rfl


/-- one round -/
def sT (k w e f g h : U) : U := h + (rotr 6 e ^^^ rotr 11 e ^^^ rotr 25 e) + ((e &&& f) ^^^ (~~~e &&& g)) + k + w
def sU (a b c : U) : U := (rotr 2 a ^^^ rotr 13 a ^^^ rotr 22 a) + ((a &&& b) ^^^ (a &&& c) ^^^ (b &&& c))
structure S8 where
  (a b c d e f g h : U)
def S8.get (s : S8) : Nat → U
  | 0 => s.a | 1 => s.b | 2 => s.c | 3 => s.d | 4 => s.e | 5 => s.f | 6 => s.g | _ => s.h
def S8.rnd (s : S8) (k w : U) : S8 :=
  ⟨sT k w s.e s.f s.g s.h + sU s.a s.b s.c, s.a, s.b, s.c, s.d + sT k w s.e s.f s.g s.h, s.e, s.f, s.g⟩
def S8.rnds (s : S8) (k w : Nat → U) : Nat → S8
  | 0 => s
  | n + 1 => (s.rnds k w n).rnd (k n) (w n)
def S8.add (s t : S8) : S8 := ⟨s.a + t.a, s.b + t.b, s.c + t.c, s.d + t.d, s.e + t.e, s.f + t.f, s.g + t.g, s.h + t.h⟩

/-- a block's bytes, as numbers; its words -/
def byteW (b : Int) : U := BitVec.ofInt 32 b
def word4 (b : Nat → Int) (n : Nat) : U := byteW (b (4 * n)) <<< 24 ||| byteW (b (4 * n + 1)) <<< 16 ||| byteW (b (4 * n + 2)) <<< 8 ||| byteW (b (4 * n + 3))
def sig0 (x : U) : U := rotr 7 x ^^^ rotr 18 x ^^^ (x >>> 3)
def sig1 (y : U) : U := rotr 17 y ^^^ rotr 19 y ^^^ (y >>> 10)
def wnext (b : Nat → Int) (f : Nat → U) (n : Nat) : U := if n < 16 then word4 b n else f (n - 16) + sig0 (f (n - 15)) + f (n - 7) + sig1 (f (n - 2))
def wrow (b : Nat → Int) : Nat → (Nat → U)
  | 0 => fun _ => 0
  | n + 1 => upd (wrow b n) n (wnext b (wrow b n) n)

def rootsL : List Nat := [0x428a2f98, 0x71374491, 0xb5c0fbcf, 0xe9b5dba5, 0x3956c25b, 0x59f111f1, 0x923f82a4, 0xab1c5ed5,
  0xd807aa98, 0x12835b01, 0x243185be, 0x550c7dc3, 0x72be5d74, 0x80deb1fe, 0x9bdc06a7, 0xc19bf174,
  0xe49b69c1, 0xefbe4786, 0x0fc19dc6, 0x240ca1cc, 0x2de92c6f, 0x4a7484aa, 0x5cb0a9dc, 0x76f988da,
  0x983e5152, 0xa831c66d, 0xb00327c8, 0xbf597fc7, 0xc6e00bf3, 0xd5a79147, 0x06ca6351, 0x14292967,
  0x27b70a85, 0x2e1b2138, 0x4d2c6dfc, 0x53380d13, 0x650a7354, 0x766a0abb, 0x81c2c92e, 0x92722c85,
  0xa2bfe8a1, 0xa81a664b, 0xc24b8b70, 0xc76c51a3, 0xd192e819, 0xd6990624, 0xf40e3585, 0x106aa070,
  0x19a4c116, 0x1e376c08, 0x2748774c, 0x34b0bcb5, 0x391c0cb3, 0x4ed8aa4a, 0x5b9cca4f, 0x682e6ff3,
  0x748f82ee, 0x78a5636f, 0x84c87814, 0x8cc70208, 0x90befffa, 0xa4506ceb, 0xbef9a3f7, 0xc67178f2]
def rootK (i : Nat) : U := BitVec.ofNat 32 (rootsL.getD i 0)
def S8.start : S8 := ⟨0x6a09e667, 0xbb67ae85, 0x3c6ef372, 0xa54ff53a, 0x510e527f, 0x9b05688c, 0x1f83d9ab, 0x5be0cd19⟩

/-- a block into a state; so many blocks -/
def S8.block (s : S8) (b : Nat → Int) : S8 := (s.rnds rootK (wrow b 64) 64).add s
def S8.blocks (s : S8) (b : Nat → Int) : Nat → S8
  | 0 => s
  | n + 1 => (s.blocks b n).block (fun i => b (64 * n + i))

theorem word4_congr {b c : Nat → Int} {n : Nat} (h0 : b (4 * n) = c (4 * n)) (h1 : b (4 * n + 1) = c (4 * n + 1)) (h2 : b (4 * n + 2) = c (4 * n + 2)) (h3 : b (4 * n + 3) = c (4 * n + 3)) : word4 b n = word4 c n := by
  unfold word4
  rw [h0, h1, h2, h3]
theorem wnext_congr {b c : Nat → Int} (h : ∀ i, i < 64 → b i = c i) (f : Nat → U) (n : Nat) : wnext b f n = wnext c f n := by
  unfold wnext
  by_cases hn : n < 16
  · rw [if_pos hn, if_pos hn]
    exact word4_congr (h (4 * n) (by omega)) (h (4 * n + 1) (by omega)) (h (4 * n + 2) (by omega)) (h (4 * n + 3) (by omega))
  · rw [if_neg hn, if_neg hn]
theorem wrow_succ (b : Nat → Int) (n : Nat) : wrow b (n + 1) = upd (wrow b n) n (wnext b (wrow b n) n) := rfl
theorem wrow_congr {b c : Nat → Int} (h : ∀ i, i < 64 → b i = c i) : ∀ n, wrow b n = wrow c n
  | 0 => rfl
  | n + 1 => by rw [wrow_succ, wrow_succ, wrow_congr h n, wnext_congr h]
theorem S8.block_congr (s : S8) {b c : Nat → Int} (h : ∀ i, i < 64 → b i = c i) : s.block b = s.block c := by
  unfold S8.block
  rw [wrow_congr h 64]
theorem S8.blocks_congr (s : S8) {b c : Nat → Int} : ∀ n, (∀ i, i < 64 * n → b i = c i) → s.blocks b n = s.blocks c n
  | 0, _ => rfl
  | n + 1, h => by
      simp only [S8.blocks]
      rw [S8.blocks_congr s n (fun i hi => h i (by omega))]
      exact S8.block_congr _ (fun i hi => h _ (by omega))
theorem S8.blocks_add (s : S8) (b : Nat → Int) (m : Nat) : ∀ n, s.blocks b (m + n) = (s.blocks b m).blocks (fun i => b (64 * m + i)) n
  | 0 => rfl
  | n + 1 => by
      rw [← Nat.add_assoc]
      simp only [S8.blocks]
      rw [S8.blocks_add s b m n]
      congr 1
      funext i
      congr 1
      omega

/-- the text, 128, zeros, how many bits: 64 bytes a block -/
def padN (n : Nat) : Nat := (n + 72) / 64
def padded (b : Nat → Int) (n : Nat) (i : Nat) : Int :=
  if i < n then b i else if i = n then 128 else if i < 64 * padN n - 8 then 0 else ((8 * n / 2 ^ (56 - 8 * (i - (64 * padN n - 8)))) % 256 : Nat)
def shaS (b : Nat → Int) (n : Nat) : S8 := S8.start.blocks (padded b n) (padN n)
def shaB (b : Nat → Int) (n : Nat) (i : Nat) : Int := (((shaS b n).get (i / 4) >>> (24 - 8 * (i % 4))).toNat % 256 : Nat)

end Go.Proofs.Ytfdddipmeadecaa

/-
  sha: what an operation on words comes to; RotateLeft32.
-/
set_option linter.unusedVariables false
set_option linter.unusedSimpArgs false
namespace Go.Proofs.Ytfdddipmeadecaa
open Go.RowKit
section
variable {P : Program} {o : Oper} {a : Act} {W : World} {T T' : TypeId} {x y : Operand} {p q : U}
theorem kr_add32 (ho : o.op = .binOp .add T x y T') (hx : a.eval x = wv p) (hy : a.eval y = wv q) : (execOp a.eval o).run P W = .ok (.value (wv (p + q))) W := by
  unfold execOp
  simp only [ho, hx, hy]
  have e := U32.add p q
  simp [eqGuard, binOp, Op.intArith, Sem.run_bind, e]
theorem kr_xor32 (ho : o.op = .binOp .xor T x y T') (hx : a.eval x = wv p) (hy : a.eval y = wv q) : (execOp a.eval o).run P W = .ok (.value (wv (p ^^^ q))) W := by
  unfold execOp
  simp only [ho, hx, hy]
  have e : IntKind.u32.wrap (((BitVec.ofInt IntKind.u32.bits (un p)) ^^^ (BitVec.ofInt IntKind.u32.bits (un q))).toNat : Int) = un (p ^^^ q) := by
    rw [show IntKind.u32.bits = 32 from rfl, U32.ofInt_un, U32.ofInt_un, U32.wrap_self]
  simp only [eqGuard, binOp, Op.intBits, Sem.run_bind, e]
  simp [Sem.run_bind]
theorem kr_and32 (ho : o.op = .binOp .and T x y T') (hx : a.eval x = wv p) (hy : a.eval y = wv q) : (execOp a.eval o).run P W = .ok (.value (wv (p &&& q))) W := by
  unfold execOp
  simp only [ho, hx, hy]
  have e : IntKind.u32.wrap (((BitVec.ofInt IntKind.u32.bits (un p)) &&& (BitVec.ofInt IntKind.u32.bits (un q))).toNat : Int) = un (p &&& q) := by
    rw [show IntKind.u32.bits = 32 from rfl, U32.ofInt_un, U32.ofInt_un, U32.wrap_self]
  simp only [eqGuard, binOp, Op.intBits, Sem.run_bind, e]
  simp [Sem.run_bind]
theorem kr_or32 (ho : o.op = .binOp .or T x y T') (hx : a.eval x = wv p) (hy : a.eval y = wv q) : (execOp a.eval o).run P W = .ok (.value (wv (p ||| q))) W := by
  unfold execOp
  simp only [ho, hx, hy]
  have e : IntKind.u32.wrap (((BitVec.ofInt IntKind.u32.bits (un p)) ||| (BitVec.ofInt IntKind.u32.bits (un q))).toNat : Int) = un (p ||| q) := by
    rw [show IntKind.u32.bits = 32 from rfl, U32.ofInt_un, U32.ofInt_un, U32.wrap_self]
  simp only [eqGuard, binOp, Op.intBits, Sem.run_bind, e]
  simp [Sem.run_bind]
theorem kr_not32 (ho : o.op = .unOp .xor T x) (hx : a.eval x = wv p) : (execOp a.eval o).run P W = .ok (.value (wv (~~~p))) W := by
  unfold execOp
  simp only [ho, hx]
  have e : IntKind.u32.wrap (((BitVec.ofInt IntKind.u32.bits (IntKind.u32.max)) ^^^ (BitVec.ofInt IntKind.u32.bits (un p))).toNat : Int) = un (~~~p) := by
    rw [show IntKind.u32.bits = 32 from rfl, U32.ofInt_un, show IntKind.u32.max = 4294967295 from by kernel_rfl, show BitVec.ofInt 32 4294967295 = BitVec.allOnes 32 by decide, BitVec.allOnes_xor, U32.wrap_self]
  have s : IntKind.u32.signed = false := rfl
  simp only [Op.unary, Op.intBits, s, Bool.false_eq_true, if_false, e]
  simp [Sem.run_bind]
theorem kr_shl32 {k : IntKind} (n : Nat) (hn : n ≤ 32) (ho : o.op = .binOp .shl T x y T') (hx : a.eval x = wv p) (hy : a.eval y = .int k n) : (execOp a.eval o).run P W = .ok (.value (wv (p <<< n))) W := by
  unfold execOp
  simp only [ho, hx, hy]
  have e := U32.shl p n
  have h0 : ¬ ((n : Int) < 0) := by omega
  have h1 : min n 32 = n := by omega
  simp [eqGuard, binOp, Op.shift, Sem.run_bind, h0, show IntKind.u32.bits = 32 from rfl, h1, e]
theorem kr_shr32 {k : IntKind} (n : Nat) (hn : n ≤ 32) (ho : o.op = .binOp .shr T x y T') (hx : a.eval x = wv p) (hy : a.eval y = .int k n) : (execOp a.eval o).run P W = .ok (.value (wv (p >>> n))) W := by
  unfold execOp
  simp only [ho, hx, hy]
  have e := U32.shr p n
  have h0 : ¬ ((n : Int) < 0) := by omega
  have h1 : min n 32 = n := by omega
  simp only [eqGuard, binOp, Op.shift, Sem.run_bind, h0, show IntKind.u32.bits = 32 from rfl, if_false, Int.toNat_natCast, h1, e]
  simp [Sem.run_bind]
end
/- words keep their form in a walk -/
namespace U32
@[go_sem] theorem bxor (p q : U) : bits BinOp.xor IntKind.u32 (un p) (un q) = un (p ^^^ q) := by
  have e : IntKind.u32.wrap (((BitVec.ofInt 32 (un p)) ^^^ (BitVec.ofInt 32 (un q))).toNat : Int) = un (p ^^^ q) := by
    rw [ofInt_un, ofInt_un, wrap_self]
  exact e
@[go_sem] theorem band (p q : U) : bits BinOp.and IntKind.u32 (un p) (un q) = un (p &&& q) := by
  have e : IntKind.u32.wrap (((BitVec.ofInt 32 (un p)) &&& (BitVec.ofInt 32 (un q))).toNat : Int) = un (p &&& q) := by
    rw [ofInt_un, ofInt_un, wrap_self]
  exact e
@[go_sem] theorem bor (p q : U) : bits BinOp.or IntKind.u32 (un p) (un q) = un (p ||| q) := by
  have e : IntKind.u32.wrap (((BitVec.ofInt 32 (un p)) ||| (BitVec.ofInt 32 (un q))).toNat : Int) = un (p ||| q) := by
    rw [ofInt_un, ofInt_un, wrap_self]
  exact e
@[go_sem] theorem bnot (p : U) : bits BinOp.xor IntKind.u32 4294967295 (un p) = un (~~~p) := by
  have e : IntKind.u32.wrap (((BitVec.ofInt 32 4294967295) ^^^ (BitVec.ofInt 32 (un p))).toNat : Int) = un (~~~p) := by
    rw [ofInt_un, show BitVec.ofInt 32 4294967295 = BitVec.allOnes 32 by decide, BitVec.allOnes_xor, wrap_self]
  exact e
@[go_sem] theorem bnotm (p : U) : bits BinOp.xor IntKind.u32 IntKind.u32.max (un p) = un (~~~p) := bnot p
@[go_sem] theorem badd (p q : U) : ((un p) + (un q)) % (4294967296 : Int) = un (p + q) := by
  have e := add p q
  rwa [IntKind.wrap_u32] at e
@[go_sem] theorem bshl7 (p : U) : (un p) * (128 : Int) % (4294967296 : Int) = un (p <<< 7) := by
  have e := shl p 7
  rwa [IntKind.wrap_u32] at e
@[go_sem] theorem bshl8 (p : U) : (un p) * (256 : Int) % (4294967296 : Int) = un (p <<< 8) := by
  have e := shl p 8
  rwa [IntKind.wrap_u32] at e
@[go_sem] theorem bshl10 (p : U) : (un p) * (1024 : Int) % (4294967296 : Int) = un (p <<< 10) := by
  have e := shl p 10
  rwa [IntKind.wrap_u32] at e
@[go_sem] theorem bshl13 (p : U) : (un p) * (8192 : Int) % (4294967296 : Int) = un (p <<< 13) := by
  have e := shl p 13
  rwa [IntKind.wrap_u32] at e
@[go_sem] theorem bshl14 (p : U) : (un p) * (16384 : Int) % (4294967296 : Int) = un (p <<< 14) := by
  have e := shl p 14
  rwa [IntKind.wrap_u32] at e
@[go_sem] theorem bshl15 (p : U) : (un p) * (32768 : Int) % (4294967296 : Int) = un (p <<< 15) := by
  have e := shl p 15
  rwa [IntKind.wrap_u32] at e
@[go_sem] theorem bshl16 (p : U) : (un p) * (65536 : Int) % (4294967296 : Int) = un (p <<< 16) := by
  have e := shl p 16
  rwa [IntKind.wrap_u32] at e
@[go_sem] theorem bshl19 (p : U) : (un p) * (524288 : Int) % (4294967296 : Int) = un (p <<< 19) := by
  have e := shl p 19
  rwa [IntKind.wrap_u32] at e
@[go_sem] theorem bshl21 (p : U) : (un p) * (2097152 : Int) % (4294967296 : Int) = un (p <<< 21) := by
  have e := shl p 21
  rwa [IntKind.wrap_u32] at e
@[go_sem] theorem bshl24 (p : U) : (un p) * (16777216 : Int) % (4294967296 : Int) = un (p <<< 24) := by
  have e := shl p 24
  rwa [IntKind.wrap_u32] at e
@[go_sem] theorem bshl25 (p : U) : (un p) * (33554432 : Int) % (4294967296 : Int) = un (p <<< 25) := by
  have e := shl p 25
  rwa [IntKind.wrap_u32] at e
@[go_sem] theorem bshl26 (p : U) : (un p) * (67108864 : Int) % (4294967296 : Int) = un (p <<< 26) := by
  have e := shl p 26
  rwa [IntKind.wrap_u32] at e
@[go_sem] theorem bshl30 (p : U) : (un p) * (1073741824 : Int) % (4294967296 : Int) = un (p <<< 30) := by
  have e := shl p 30
  rwa [IntKind.wrap_u32] at e

@[go_sem] theorem bshr2 (p : U) : (un p) / (4 : Int) = un (p >>> 2) := by
  have e := shr p 2
  rwa [Int.fdiv_eq_ediv_of_nonneg _ (by decide)] at e
@[go_sem] theorem bshr3 (p : U) : (un p) / (8 : Int) = un (p >>> 3) := by
  have e := shr p 3
  rwa [Int.fdiv_eq_ediv_of_nonneg _ (by decide)] at e
@[go_sem] theorem bshr6 (p : U) : (un p) / (64 : Int) = un (p >>> 6) := by
  have e := shr p 6
  rwa [Int.fdiv_eq_ediv_of_nonneg _ (by decide)] at e
@[go_sem] theorem bshr7 (p : U) : (un p) / (128 : Int) = un (p >>> 7) := by
  have e := shr p 7
  rwa [Int.fdiv_eq_ediv_of_nonneg _ (by decide)] at e
@[go_sem] theorem bshr10 (p : U) : (un p) / (1024 : Int) = un (p >>> 10) := by
  have e := shr p 10
  rwa [Int.fdiv_eq_ediv_of_nonneg _ (by decide)] at e
@[go_sem] theorem bshr11 (p : U) : (un p) / (2048 : Int) = un (p >>> 11) := by
  have e := shr p 11
  rwa [Int.fdiv_eq_ediv_of_nonneg _ (by decide)] at e
@[go_sem] theorem bshr13 (p : U) : (un p) / (8192 : Int) = un (p >>> 13) := by
  have e := shr p 13
  rwa [Int.fdiv_eq_ediv_of_nonneg _ (by decide)] at e
@[go_sem] theorem bshr17 (p : U) : (un p) / (131072 : Int) = un (p >>> 17) := by
  have e := shr p 17
  rwa [Int.fdiv_eq_ediv_of_nonneg _ (by decide)] at e
@[go_sem] theorem bshr18 (p : U) : (un p) / (262144 : Int) = un (p >>> 18) := by
  have e := shr p 18
  rwa [Int.fdiv_eq_ediv_of_nonneg _ (by decide)] at e
@[go_sem] theorem bshr19 (p : U) : (un p) / (524288 : Int) = un (p >>> 19) := by
  have e := shr p 19
  rwa [Int.fdiv_eq_ediv_of_nonneg _ (by decide)] at e
@[go_sem] theorem bshr22 (p : U) : (un p) / (4194304 : Int) = un (p >>> 22) := by
  have e := shr p 22
  rwa [Int.fdiv_eq_ediv_of_nonneg _ (by decide)] at e
@[go_sem] theorem bshr25 (p : U) : (un p) / (33554432 : Int) = un (p >>> 25) := by
  have e := shr p 25
  rwa [Int.fdiv_eq_ediv_of_nonneg _ (by decide)] at e

@[go_sem] theorem wadd (p q : U) : IntKind.u32.wrap (un p + un q) = un (p + q) := add p q
@[go_sem] theorem wshl7 (p : U) : IntKind.u32.wrap (un p * (128 : Int)) = un (p <<< 7) := shl p 7
@[go_sem] theorem wshl8 (p : U) : IntKind.u32.wrap (un p * (256 : Int)) = un (p <<< 8) := shl p 8
@[go_sem] theorem wshl10 (p : U) : IntKind.u32.wrap (un p * (1024 : Int)) = un (p <<< 10) := shl p 10
@[go_sem] theorem wshl13 (p : U) : IntKind.u32.wrap (un p * (8192 : Int)) = un (p <<< 13) := shl p 13
@[go_sem] theorem wshl14 (p : U) : IntKind.u32.wrap (un p * (16384 : Int)) = un (p <<< 14) := shl p 14
@[go_sem] theorem wshl15 (p : U) : IntKind.u32.wrap (un p * (32768 : Int)) = un (p <<< 15) := shl p 15
@[go_sem] theorem wshl16 (p : U) : IntKind.u32.wrap (un p * (65536 : Int)) = un (p <<< 16) := shl p 16
@[go_sem] theorem wshl19 (p : U) : IntKind.u32.wrap (un p * (524288 : Int)) = un (p <<< 19) := shl p 19
@[go_sem] theorem wshl21 (p : U) : IntKind.u32.wrap (un p * (2097152 : Int)) = un (p <<< 21) := shl p 21
@[go_sem] theorem wshl24 (p : U) : IntKind.u32.wrap (un p * (16777216 : Int)) = un (p <<< 24) := shl p 24
@[go_sem] theorem wshl25 (p : U) : IntKind.u32.wrap (un p * (33554432 : Int)) = un (p <<< 25) := shl p 25
@[go_sem] theorem wshl26 (p : U) : IntKind.u32.wrap (un p * (67108864 : Int)) = un (p <<< 26) := shl p 26
@[go_sem] theorem wshl30 (p : U) : IntKind.u32.wrap (un p * (1073741824 : Int)) = un (p <<< 30) := shl p 30

@[go_sem] theorem fshr2 (p : U) : (un p).fdiv (4 : Int) = un (p >>> 2) := shr p 2
@[go_sem] theorem fshr3 (p : U) : (un p).fdiv (8 : Int) = un (p >>> 3) := shr p 3
@[go_sem] theorem fshr6 (p : U) : (un p).fdiv (64 : Int) = un (p >>> 6) := shr p 6
@[go_sem] theorem fshr7 (p : U) : (un p).fdiv (128 : Int) = un (p >>> 7) := shr p 7
@[go_sem] theorem fshr10 (p : U) : (un p).fdiv (1024 : Int) = un (p >>> 10) := shr p 10
@[go_sem] theorem fshr11 (p : U) : (un p).fdiv (2048 : Int) = un (p >>> 11) := shr p 11
@[go_sem] theorem fshr13 (p : U) : (un p).fdiv (8192 : Int) = un (p >>> 13) := shr p 13
@[go_sem] theorem fshr17 (p : U) : (un p).fdiv (131072 : Int) = un (p >>> 17) := shr p 17
@[go_sem] theorem fshr18 (p : U) : (un p).fdiv (262144 : Int) = un (p >>> 18) := shr p 18
@[go_sem] theorem fshr19 (p : U) : (un p).fdiv (524288 : Int) = un (p >>> 19) := shr p 19
@[go_sem] theorem fshr22 (p : U) : (un p).fdiv (4194304 : Int) = un (p >>> 22) := shr p 22
@[go_sem] theorem fshr25 (p : U) : (un p).fdiv (33554432 : Int) = un (p >>> 25) := shr p 25

end U32



theorem rot2 (a : U) (w : World) : Calls Try.prog 85 #[wv a, .int .i64 (-2)] w fun e w' => e = .returned (wv (rotr 2 a)) ∧ w = w' := by
  have c1 : IntKind.u64.wrap (-2) = 18446744073709551614 := by kernel_rfl
  have c2 : bits BinOp.and IntKind.u64 18446744073709551614 31 = 30 := by kernel_rfl
  go_enter Try.func85, Try.ntmps85
  go_wp2_with (first | ((with_reducible refine at_bin (b := .shl) (t := 123) rfl ?_); refine wpList_reads (by rfl) (kr_shl32 30 (by omega) (by rfl) (by rfl) (by rfl)) ?_) | ((with_reducible refine at_bin (b := .shr) (t := 123) rfl ?_); refine wpList_reads (by rfl) (kr_shr32 2 (by omega) (by rfl) (by rfl) (by rfl)) ?_) | ((with_reducible refine at_bin (b := .or) (t := 123) rfl ?_); refine wpList_reads (by rfl) (kr_or32 (by rfl) (by rfl) (by rfl)) ?_))
  go_ret
  exact ⟨by rw [BitVec.or_comm]; rfl, rfl⟩

theorem rot6 (a : U) (w : World) : Calls Try.prog 85 #[wv a, .int .i64 (-6)] w fun e w' => e = .returned (wv (rotr 6 a)) ∧ w = w' := by
  have c1 : IntKind.u64.wrap (-6) = 18446744073709551610 := by kernel_rfl
  have c2 : bits BinOp.and IntKind.u64 18446744073709551610 31 = 26 := by kernel_rfl
  go_enter Try.func85, Try.ntmps85
  go_wp2_with (first | ((with_reducible refine at_bin (b := .shl) (t := 123) rfl ?_); refine wpList_reads (by rfl) (kr_shl32 26 (by omega) (by rfl) (by rfl) (by rfl)) ?_) | ((with_reducible refine at_bin (b := .shr) (t := 123) rfl ?_); refine wpList_reads (by rfl) (kr_shr32 6 (by omega) (by rfl) (by rfl) (by rfl)) ?_) | ((with_reducible refine at_bin (b := .or) (t := 123) rfl ?_); refine wpList_reads (by rfl) (kr_or32 (by rfl) (by rfl) (by rfl)) ?_))
  go_ret
  exact ⟨by rw [BitVec.or_comm]; rfl, rfl⟩

theorem rot7 (a : U) (w : World) : Calls Try.prog 85 #[wv a, .int .i64 (-7)] w fun e w' => e = .returned (wv (rotr 7 a)) ∧ w = w' := by
  have c1 : IntKind.u64.wrap (-7) = 18446744073709551609 := by kernel_rfl
  have c2 : bits BinOp.and IntKind.u64 18446744073709551609 31 = 25 := by kernel_rfl
  go_enter Try.func85, Try.ntmps85
  go_wp2_with (first | ((with_reducible refine at_bin (b := .shl) (t := 123) rfl ?_); refine wpList_reads (by rfl) (kr_shl32 25 (by omega) (by rfl) (by rfl) (by rfl)) ?_) | ((with_reducible refine at_bin (b := .shr) (t := 123) rfl ?_); refine wpList_reads (by rfl) (kr_shr32 7 (by omega) (by rfl) (by rfl) (by rfl)) ?_) | ((with_reducible refine at_bin (b := .or) (t := 123) rfl ?_); refine wpList_reads (by rfl) (kr_or32 (by rfl) (by rfl) (by rfl)) ?_))
  go_ret
  exact ⟨by rw [BitVec.or_comm]; rfl, rfl⟩

theorem rot11 (a : U) (w : World) : Calls Try.prog 85 #[wv a, .int .i64 (-11)] w fun e w' => e = .returned (wv (rotr 11 a)) ∧ w = w' := by
  have c1 : IntKind.u64.wrap (-11) = 18446744073709551605 := by kernel_rfl
  have c2 : bits BinOp.and IntKind.u64 18446744073709551605 31 = 21 := by kernel_rfl
  go_enter Try.func85, Try.ntmps85
  go_wp2_with (first | ((with_reducible refine at_bin (b := .shl) (t := 123) rfl ?_); refine wpList_reads (by rfl) (kr_shl32 21 (by omega) (by rfl) (by rfl) (by rfl)) ?_) | ((with_reducible refine at_bin (b := .shr) (t := 123) rfl ?_); refine wpList_reads (by rfl) (kr_shr32 11 (by omega) (by rfl) (by rfl) (by rfl)) ?_) | ((with_reducible refine at_bin (b := .or) (t := 123) rfl ?_); refine wpList_reads (by rfl) (kr_or32 (by rfl) (by rfl) (by rfl)) ?_))
  go_ret
  exact ⟨by rw [BitVec.or_comm]; rfl, rfl⟩

theorem rot13 (a : U) (w : World) : Calls Try.prog 85 #[wv a, .int .i64 (-13)] w fun e w' => e = .returned (wv (rotr 13 a)) ∧ w = w' := by
  have c1 : IntKind.u64.wrap (-13) = 18446744073709551603 := by kernel_rfl
  have c2 : bits BinOp.and IntKind.u64 18446744073709551603 31 = 19 := by kernel_rfl
  go_enter Try.func85, Try.ntmps85
  go_wp2_with (first | ((with_reducible refine at_bin (b := .shl) (t := 123) rfl ?_); refine wpList_reads (by rfl) (kr_shl32 19 (by omega) (by rfl) (by rfl) (by rfl)) ?_) | ((with_reducible refine at_bin (b := .shr) (t := 123) rfl ?_); refine wpList_reads (by rfl) (kr_shr32 13 (by omega) (by rfl) (by rfl) (by rfl)) ?_) | ((with_reducible refine at_bin (b := .or) (t := 123) rfl ?_); refine wpList_reads (by rfl) (kr_or32 (by rfl) (by rfl) (by rfl)) ?_))
  go_ret
  exact ⟨by rw [BitVec.or_comm]; rfl, rfl⟩

theorem rot17 (a : U) (w : World) : Calls Try.prog 85 #[wv a, .int .i64 (-17)] w fun e w' => e = .returned (wv (rotr 17 a)) ∧ w = w' := by
  have c1 : IntKind.u64.wrap (-17) = 18446744073709551599 := by kernel_rfl
  have c2 : bits BinOp.and IntKind.u64 18446744073709551599 31 = 15 := by kernel_rfl
  go_enter Try.func85, Try.ntmps85
  go_wp2_with (first | ((with_reducible refine at_bin (b := .shl) (t := 123) rfl ?_); refine wpList_reads (by rfl) (kr_shl32 15 (by omega) (by rfl) (by rfl) (by rfl)) ?_) | ((with_reducible refine at_bin (b := .shr) (t := 123) rfl ?_); refine wpList_reads (by rfl) (kr_shr32 17 (by omega) (by rfl) (by rfl) (by rfl)) ?_) | ((with_reducible refine at_bin (b := .or) (t := 123) rfl ?_); refine wpList_reads (by rfl) (kr_or32 (by rfl) (by rfl) (by rfl)) ?_))
  go_ret
  exact ⟨by rw [BitVec.or_comm]; rfl, rfl⟩

theorem rot18 (a : U) (w : World) : Calls Try.prog 85 #[wv a, .int .i64 (-18)] w fun e w' => e = .returned (wv (rotr 18 a)) ∧ w = w' := by
  have c1 : IntKind.u64.wrap (-18) = 18446744073709551598 := by kernel_rfl
  have c2 : bits BinOp.and IntKind.u64 18446744073709551598 31 = 14 := by kernel_rfl
  go_enter Try.func85, Try.ntmps85
  go_wp2_with (first | ((with_reducible refine at_bin (b := .shl) (t := 123) rfl ?_); refine wpList_reads (by rfl) (kr_shl32 14 (by omega) (by rfl) (by rfl) (by rfl)) ?_) | ((with_reducible refine at_bin (b := .shr) (t := 123) rfl ?_); refine wpList_reads (by rfl) (kr_shr32 18 (by omega) (by rfl) (by rfl) (by rfl)) ?_) | ((with_reducible refine at_bin (b := .or) (t := 123) rfl ?_); refine wpList_reads (by rfl) (kr_or32 (by rfl) (by rfl) (by rfl)) ?_))
  go_ret
  exact ⟨by rw [BitVec.or_comm]; rfl, rfl⟩

theorem rot19 (a : U) (w : World) : Calls Try.prog 85 #[wv a, .int .i64 (-19)] w fun e w' => e = .returned (wv (rotr 19 a)) ∧ w = w' := by
  have c1 : IntKind.u64.wrap (-19) = 18446744073709551597 := by kernel_rfl
  have c2 : bits BinOp.and IntKind.u64 18446744073709551597 31 = 13 := by kernel_rfl
  go_enter Try.func85, Try.ntmps85
  go_wp2_with (first | ((with_reducible refine at_bin (b := .shl) (t := 123) rfl ?_); refine wpList_reads (by rfl) (kr_shl32 13 (by omega) (by rfl) (by rfl) (by rfl)) ?_) | ((with_reducible refine at_bin (b := .shr) (t := 123) rfl ?_); refine wpList_reads (by rfl) (kr_shr32 19 (by omega) (by rfl) (by rfl) (by rfl)) ?_) | ((with_reducible refine at_bin (b := .or) (t := 123) rfl ?_); refine wpList_reads (by rfl) (kr_or32 (by rfl) (by rfl) (by rfl)) ?_))
  go_ret
  exact ⟨by rw [BitVec.or_comm]; rfl, rfl⟩

theorem rot22 (a : U) (w : World) : Calls Try.prog 85 #[wv a, .int .i64 (-22)] w fun e w' => e = .returned (wv (rotr 22 a)) ∧ w = w' := by
  have c1 : IntKind.u64.wrap (-22) = 18446744073709551594 := by kernel_rfl
  have c2 : bits BinOp.and IntKind.u64 18446744073709551594 31 = 10 := by kernel_rfl
  go_enter Try.func85, Try.ntmps85
  go_wp2_with (first | ((with_reducible refine at_bin (b := .shl) (t := 123) rfl ?_); refine wpList_reads (by rfl) (kr_shl32 10 (by omega) (by rfl) (by rfl) (by rfl)) ?_) | ((with_reducible refine at_bin (b := .shr) (t := 123) rfl ?_); refine wpList_reads (by rfl) (kr_shr32 22 (by omega) (by rfl) (by rfl) (by rfl)) ?_) | ((with_reducible refine at_bin (b := .or) (t := 123) rfl ?_); refine wpList_reads (by rfl) (kr_or32 (by rfl) (by rfl) (by rfl)) ?_))
  go_ret
  exact ⟨by rw [BitVec.or_comm]; rfl, rfl⟩

theorem rot25 (a : U) (w : World) : Calls Try.prog 85 #[wv a, .int .i64 (-25)] w fun e w' => e = .returned (wv (rotr 25 a)) ∧ w = w' := by
  have c1 : IntKind.u64.wrap (-25) = 18446744073709551591 := by kernel_rfl
  have c2 : bits BinOp.and IntKind.u64 18446744073709551591 31 = 7 := by kernel_rfl
  go_enter Try.func85, Try.ntmps85
  go_wp2_with (first | ((with_reducible refine at_bin (b := .shl) (t := 123) rfl ?_); refine wpList_reads (by rfl) (kr_shl32 7 (by omega) (by rfl) (by rfl) (by rfl)) ?_) | ((with_reducible refine at_bin (b := .shr) (t := 123) rfl ?_); refine wpList_reads (by rfl) (kr_shr32 25 (by omega) (by rfl) (by rfl) (by rfl)) ?_) | ((with_reducible refine at_bin (b := .or) (t := 123) rfl ?_); refine wpList_reads (by rfl) (kr_or32 (by rfl) (by rfl) (by rfl)) ?_))
  go_ret
  exact ⟨by rw [BitVec.or_comm]; rfl, rfl⟩

end Go.Proofs.Ytfdddipmeadecaa

/-
  sha: words (contract).
-/
set_option linter.unusedVariables false
set_option linter.unusedSimpArgs false
namespace Go.Proofs.Ytfdddipmeadecaa
open Go.RowKit

theorem un_byteW {v : Int} (h : 0 ≤ v ∧ v ≤ 255) : v = un (byteW v) := by
  unfold un byteW
  rw [BitVec.toNat_ofInt]
  omega
abbrev wcells (f : Nat → U) (n : Nat) : Array Value := fcells n (fun j => wv (f j))
theorem wcells_set {f : Nat → U} {n i : Nat} (v : U) (h : i < n) : (wcells f n).set! i (wv v) = wcells (upd f i v) n := by
  rw [fcells_set _ _ h]
  apply fcells_congr
  intro j hj
  unfold upd
  by_cases e : j = i
  · simp [e]
  · simp [e]
theorem wcells_at {f : Nat → U} {n i : Nat} (j : Nat) (h : i = j) (hj : j < n) : (wcells f n)[i]? = some (wv (f j)) := by
  subst h
  exact fcells_get _ hj
theorem wcells_one (f : Nat → U) (n : Nat) : (wcells f n).all (·.oneCell') = true := by
  simp [fcells, Value.oneCell']
theorem wcells_zero : (Array.replicate 64 (Value.int .u32 0)) = wcells (fun _ => 0) 64 := by kernel_rfl

/-- the one result is a struct or an array that stands in a block -/
theorem bodyPost_cellK {w0 w : World} {L : List Ent} {P : Program} {fn : Func} {R : Ending → World → Prop} {a : Act} {s g : Nat} {T t : TypeId} {cs : Array Value} (K : Known w0 w L) (hr : fn.results = #[.cell s T]) (ha : a.tmps.getD s undef = .pointer (some ⟨g, 0, none⟩))
    (hb : Has (row g cs t) L) (hu : aggB P T = true) (hi : sizeIs P T cs.size = true) (hd : a.defers = []) (hR : R (.returned (.agg cs)) w) : bodyPost P fn R .ret a w := by
  refine bodyPost_ret ?_ hd hR
  have hl := run_loadMid (P := P) (i := 0) (X := cs) (K.blk hb) hu hi (by simp) (by omega)
  have ha' : a.tmps[s]?.getD undef = .pointer (some ⟨g, 0, none⟩) := by rw [← ha]; simp
  simp [results, hr, ha', asAddr, Sem.run_bind, hl]



section
variable {w0 w : World} {L : List Ent} {A : Option Addr} {n c : Nat} {xs : List Int}
set_option maxRecDepth 100000 in
theorem words_any (K : Known w0 w L) (R : RdS w0 L .u8 A n xs) (hn : 64 ≤ n) (hc : n ≤ c) (hm : c ≤ 9223372036854775807) (hb : ∀ b ∈ xs, 0 ≤ b ∧ b ≤ 255) :
    Calls Try.prog 84 #[.slice A n c] w fun e w' => e = .returned (.agg (wcells (wrow (fun i => xs.getD i 0) 64) 64)) ∧ Known w0 w' L := by
  obtain ⟨b, off, rfl⟩ := R.form K (by omega)
  have HB : ∀ j, j < n → 0 ≤ xs.getD j 0 ∧ xs.getD j 0 ≤ 255 := fun j hj => by
    have : j < xs.length := by rw [R.len]; exact hj
    rw [List.getD_eq_getElem?_getD, List.getElem?_eq_getElem this]
    exact hb _ (List.getElem_mem this)
  replace HB := Lib.hid HB
  clear hb
  go_enter Try.func84, Try.ntmps84
  go_upto_region 3 with ((first | ((with_reducible refine at_slot (N := 2) rfl ?_); (with_reducible refine at_alloc rfl ?_); refine wpList_does rfl (kd_alloc (z := (.agg (wcells (fun _ => 0) 64))) K _ rfl (by kernel_rfl)) ?_; clear K; rintro _ w1 ⟨gr, rfl, K⟩; (try dsimp only [Value.cells] at K)) | ((with_reducible refine at_slot (N := 3) rfl ?_); (with_reducible refine at_alloc rfl ?_); refine wpList_does rfl (kd_alloc (z := (.agg (wcells (fun _ => 0) 64))) K _ rfl (by kernel_rfl)) ?_; clear K; rintro _ w1 ⟨gw, rfl, K⟩; (try dsimp only [Value.cells] at K)) | ((with_reducible refine at_eqnil rfl ?_); refine wpList_reads rfl (kr_eqnil rfl rfl (by kernel_rfl)) ?_) | ((with_reducible refine at_box rfl ?_); refine wpList_does rfl (kd_box K _ _ rfl (by conv => lhs; whnf)) ?_; clear K; rintro _ w1 ⟨g, rfl, K⟩; (try dsimp only [Value.cells] at K)) | ((with_reducible refine at_alloc rfl ?_); refine wpList_does rfl (kd_alloc K _ rfl rfl) ?_; clear K; rintro _ w1 ⟨g, rfl, K⟩; (try dsimp only [Value.cells] at K)) | ((with_reducible refine at_buildSlice rfl ?_); refine wpList_does rfl (kd_lits (cs := _) K _ _ _ rfl (by first | rfl | (go_simp; done) | (go_simp; rfl)) (by first | rfl | (go_simp; done) | (go_simp; rfl))) ?_; clear K; rintro _ w1 ⟨g, rfl, K⟩) | ((with_reducible refine at_load rfl ?_); first | (refine wpList_reads (by rfl) (kr_load_cell K _ _ (by rfl) (by rfl) Has.auto (by decide +kernel) (by (try simp only [List.getElem?_toArray, List.getElem?_cons_succ, List.getElem?_cons_zero]); exact rfl)) ?_) | (refine wpList_reads (by rfl) (kr_load_row K _ _ (by rfl) (by rfl) Has.auto (by decide +kernel) (by kernel_rfl)) ?_)) | ((with_reducible refine at_store rfl ?_); (first | (refine wpList_does rfl (kd_store_cell K _ _ _ rfl rfl (by conv => lhs; whnf) Repl.auto rfl rfl (by kernel_rfl) (by kernel_rfl) (by first | (simp only [List.setIfInBounds_toArray, List.set_cons_succ, List.set_cons_zero]; rfl) | rfl)) ?_) | (refine wpList_does rfl (kd_store_row K _ _ _ rfl rfl rfl Repl.auto (by kernel_rfl) (by kernel_rfl) (by kernel_rfl)) ?_)); clear K; intro _ w1 K; (try simp only [Act.put]))))
  go_loopg [10] 16 (fun d s wr => ∃ k : Nat, s = .int .i64 k ∧ k + d = 16 ∧ Known w0 wr (row gw (wcells (wrow (fun i => xs.getD i 0) k) 64) 125 :: row gr (wcells (fun _ => 0) 64) 125 :: L))
  case atStart => exact ⟨0, by go_num, by omega, K⟩
  case round =>
    clear K
    obtain ⟨k, rfl, hd, K⟩ := hrel
    by_cases hk : k < 16
    · obtain ⟨q0, h0⟩ : ∃ q, q = byteW (xs.getD (4 * k) 0) := ⟨_, rfl⟩
      obtain ⟨q1, h1⟩ : ∃ q, q = byteW (xs.getD (4 * k + 1) 0) := ⟨_, rfl⟩
      obtain ⟨q2, h2⟩ : ∃ q, q = byteW (xs.getD (4 * k + 2) 0) := ⟨_, rfl⟩
      obtain ⟨q3, h3⟩ : ∃ q, q = byteW (xs.getD (4 * k + 3) 0) := ⟨_, rfl⟩
      have H0 := Lib.hid (h0 ▸ un_byteW (HB.out (4 * k) (by omega)) : xs.getD (4 * k) 0 = un q0)
      have H1 := Lib.hid (h1 ▸ un_byteW (HB.out (4 * k + 1) (by omega)) : xs.getD (4 * k + 1) 0 = un q1)
      have H2 := Lib.hid (h2 ▸ un_byteW (HB.out (4 * k + 2) (by omega)) : xs.getD (4 * k + 2) 0 = un q2)
      have H3 := Lib.hid (h3 ▸ un_byteW (HB.out (4 * k + 3) (by omega)) : xs.getD (4 * k + 3) 0 = un q3)
      have HN := Lib.hid (show wnext (fun i => xs.getD i 0) (wrow (fun i => xs.getD i 0) k) k = q0 <<< 24 ||| q1 <<< 16 ||| q2 <<< 8 ||| q3 by
        rw [wnext, if_pos hk, word4, h0, h1, h2, h3])
      clear h0 h1 h2 h3
      have x0 : (0 : Int) ≤ 4 * (k : Int) ∧ 4 * (k : Int) < (n : Int) := by omega
      have x1 : (0 : Int) ≤ 4 * (k : Int) + 1 ∧ 4 * (k : Int) + 1 < (n : Int) := by omega
      have x2 : (0 : Int) ≤ 4 * (k : Int) + 2 ∧ 4 * (k : Int) + 2 < (n : Int) := by omega
      have x3 : (0 : Int) ≤ 4 * (k : Int) + 3 ∧ 4 * (k : Int) + 3 < (n : Int) := by omega
      have x4 : (0 : Int) ≤ (k : Int) ∧ (k : Int) < 64 := by omega
      have k4 := IntWalk.i64_in (4 * (k : Int)) (by omega)
      have k41 := IntWalk.i64_in (4 * (k : Int) + 1) (by omega)
      have k42 := IntWalk.i64_in (4 * (k : Int) + 2) (by omega)
      have k43 := IntWalk.i64_in (4 * (k : Int) + 3) (by omega)
      go_upto_region 5 with (fail)
      refine wp_region_GK K (Cov.all _) (by kernel_rfl) (by kernel_rfl) (by kernel_rfl) (fun K hHeld => ?_)
      refine wpG_takeA 0 (v := ?_) ?_ hHeld ?_
      rotate_left
      · (intro w hS; (clear hS; go_simp); try with_reducible rfl)
      try simp only [Act.put, List.setIfInBounds_toArray, List.set_cons_zero, List.set_cons_succ]
      refine wpG_takeA 1 (v := ?_) ?_ hHeld ?_
      rotate_left
      · (intro w hS; (clear hS; go_simp); try with_reducible rfl)
      try simp only [Act.put, List.setIfInBounds_toArray, List.set_cons_zero, List.set_cons_succ]
      refine wpG_takeA 2 (v := ?_) ?_ hHeld ?_
      rotate_left
      · (intro w hS; (clear hS; go_simp); try with_reducible rfl)
      try simp only [Act.put, List.setIfInBounds_toArray, List.set_cons_zero, List.set_cons_succ]
      refine wpG_takeA 3 (v := ?_) ?_ hHeld ?_
      rotate_left
      · (intro w hS; (clear hS; go_simp); try with_reducible rfl)
      try simp only [Act.put, List.setIfInBounds_toArray, List.set_cons_zero, List.set_cons_succ]
      refine wpG_takeA 4 (v := ?_) ?_ hHeld ?_
      rotate_left
      · (intro w hS; (clear hS; go_simp); try with_reducible rfl)
      try simp only [Act.put, List.setIfInBounds_toArray, List.set_cons_zero, List.set_cons_succ]
      refine wpG_takeA 5 (v := .int .u8 (un q0)) ?_ hHeld ?_
      · (intro w hS; first | exact kr_load_fact _ _ (by rfl) (by rfl) (R.cell (hS.cov Cov.auto) (by omega) H0.out (by omega)) (by kernel_rfl))
      try simp only [Act.put, List.setIfInBounds_toArray, List.set_cons_zero, List.set_cons_succ]
      refine wpG_takeA 6 (v := ?_) ?_ hHeld ?_
      rotate_left
      · (intro w hS; (clear hS; go_simp); try with_reducible rfl)
      try simp only [Act.put, List.setIfInBounds_toArray, List.set_cons_zero, List.set_cons_succ]
      refine wpG_takeA 7 (v := ?_) ?_ hHeld ?_
      rotate_left
      · (intro w hS; (clear hS; go_simp); try with_reducible rfl)
      try simp only [Act.put, List.setIfInBounds_toArray, List.set_cons_zero, List.set_cons_succ]
      refine wpG_takeA 8 (v := ?_) ?_ hHeld ?_
      rotate_left
      · (intro w hS; (clear hS; go_simp); try with_reducible rfl)
      try simp only [Act.put, List.setIfInBounds_toArray, List.set_cons_zero, List.set_cons_succ]
      refine wpG_takeA 9 (v := ?_) ?_ hHeld ?_
      rotate_left
      · (intro w hS; (clear hS; go_simp); try with_reducible rfl)
      try simp only [Act.put, List.setIfInBounds_toArray, List.set_cons_zero, List.set_cons_succ]
      refine wpG_takeA 10 (v := ?_) ?_ hHeld ?_
      rotate_left
      · (intro w hS; (clear hS; go_simp); try with_reducible rfl)
      try simp only [Act.put, List.setIfInBounds_toArray, List.set_cons_zero, List.set_cons_succ]
      refine wpG_takeA 11 (v := ?_) ?_ hHeld ?_
      rotate_left
      · (intro w hS; (clear hS; go_simp); try with_reducible rfl)
      try simp only [Act.put, List.setIfInBounds_toArray, List.set_cons_zero, List.set_cons_succ]
      refine wpG_takeA 12 (v := ?_) ?_ hHeld ?_
      rotate_left
      · (intro w hS; (clear hS; go_simp); try with_reducible rfl)
      try simp only [Act.put, List.setIfInBounds_toArray, List.set_cons_zero, List.set_cons_succ]
      refine wpG_takeA 13 (v := .int .u8 (un q1)) ?_ hHeld ?_
      · (intro w hS; first | exact kr_load_fact _ _ (by rfl) (by rfl) (R.cell (hS.cov Cov.auto) (by omega) H1.out (by omega)) (by kernel_rfl))
      try simp only [Act.put, List.setIfInBounds_toArray, List.set_cons_zero, List.set_cons_succ]
      refine wpG_takeA 14 (v := ?_) ?_ hHeld ?_
      rotate_left
      · (intro w hS; (clear hS; go_simp); try with_reducible rfl)
      try simp only [Act.put, List.setIfInBounds_toArray, List.set_cons_zero, List.set_cons_succ]
      refine wpG_takeA 15 (v := ?_) ?_ hHeld ?_
      rotate_left
      · (intro w hS; (clear hS; go_simp); try with_reducible rfl)
      try simp only [Act.put, List.setIfInBounds_toArray, List.set_cons_zero, List.set_cons_succ]
      refine wpG_takeA 16 (v := ?_) ?_ hHeld ?_
      rotate_left
      · (intro w hS; (clear hS; go_simp); try with_reducible rfl)
      try simp only [Act.put, List.setIfInBounds_toArray, List.set_cons_zero, List.set_cons_succ]
      refine wpG_takeA 17 (v := ?_) ?_ hHeld ?_
      rotate_left
      · (intro w hS; (clear hS; go_simp); try with_reducible rfl)
      try simp only [Act.put, List.setIfInBounds_toArray, List.set_cons_zero, List.set_cons_succ]
      refine wpG_takeA 18 (v := ?_) ?_ hHeld ?_
      rotate_left
      · (intro w hS; (clear hS; go_simp); try with_reducible rfl)
      try simp only [Act.put, List.setIfInBounds_toArray, List.set_cons_zero, List.set_cons_succ]
      refine wpG_takeA 19 (v := ?_) ?_ hHeld ?_
      rotate_left
      · (intro w hS; (clear hS; go_simp); try with_reducible rfl)
      try simp only [Act.put, List.setIfInBounds_toArray, List.set_cons_zero, List.set_cons_succ]
      refine wpG_takeA 20 (v := ?_) ?_ hHeld ?_
      rotate_left
      · (intro w hS; (clear hS; go_simp); try with_reducible rfl)
      try simp only [Act.put, List.setIfInBounds_toArray, List.set_cons_zero, List.set_cons_succ]
      refine wpG_takeA 21 (v := ?_) ?_ hHeld ?_
      rotate_left
      · (intro w hS; (clear hS; go_simp); try with_reducible rfl)
      try simp only [Act.put, List.setIfInBounds_toArray, List.set_cons_zero, List.set_cons_succ]
      refine wpG_takeA 22 (v := .int .u8 (un q2)) ?_ hHeld ?_
      · (intro w hS; first | exact kr_load_fact _ _ (by rfl) (by rfl) (R.cell (hS.cov Cov.auto) (by omega) H2.out (by omega)) (by kernel_rfl))
      try simp only [Act.put, List.setIfInBounds_toArray, List.set_cons_zero, List.set_cons_succ]
      refine wpG_takeA 23 (v := ?_) ?_ hHeld ?_
      rotate_left
      · (intro w hS; (clear hS; go_simp); try with_reducible rfl)
      try simp only [Act.put, List.setIfInBounds_toArray, List.set_cons_zero, List.set_cons_succ]
      refine wpG_takeA 24 (v := ?_) ?_ hHeld ?_
      rotate_left
      · (intro w hS; (clear hS; go_simp); try with_reducible rfl)
      try simp only [Act.put, List.setIfInBounds_toArray, List.set_cons_zero, List.set_cons_succ]
      refine wpG_takeA 25 (v := ?_) ?_ hHeld ?_
      rotate_left
      · (intro w hS; (clear hS; go_simp); try with_reducible rfl)
      try simp only [Act.put, List.setIfInBounds_toArray, List.set_cons_zero, List.set_cons_succ]
      refine wpG_takeA 26 (v := ?_) ?_ hHeld ?_
      rotate_left
      · (intro w hS; (clear hS; go_simp); try with_reducible rfl)
      try simp only [Act.put, List.setIfInBounds_toArray, List.set_cons_zero, List.set_cons_succ]
      refine wpG_takeA 27 (v := ?_) ?_ hHeld ?_
      rotate_left
      · (intro w hS; (clear hS; go_simp); try with_reducible rfl)
      try simp only [Act.put, List.setIfInBounds_toArray, List.set_cons_zero, List.set_cons_succ]
      refine wpG_takeA 28 (v := ?_) ?_ hHeld ?_
      rotate_left
      · (intro w hS; (clear hS; go_simp); try with_reducible rfl)
      try simp only [Act.put, List.setIfInBounds_toArray, List.set_cons_zero, List.set_cons_succ]
      refine wpG_takeA 29 (v := ?_) ?_ hHeld ?_
      rotate_left
      · (intro w hS; (clear hS; go_simp); try with_reducible rfl)
      try simp only [Act.put, List.setIfInBounds_toArray, List.set_cons_zero, List.set_cons_succ]
      refine wpG_takeA 30 (v := ?_) ?_ hHeld ?_
      rotate_left
      · (intro w hS; (clear hS; go_simp); try with_reducible rfl)
      try simp only [Act.put, List.setIfInBounds_toArray, List.set_cons_zero, List.set_cons_succ]
      refine wpG_takeA 31 (v := .int .u8 (un q3)) ?_ hHeld ?_
      · (intro w hS; first | exact kr_load_fact _ _ (by rfl) (by rfl) (R.cell (hS.cov Cov.auto) (by omega) H3.out (by omega)) (by kernel_rfl))
      try simp only [Act.put, List.setIfInBounds_toArray, List.set_cons_zero, List.set_cons_succ]
      refine wpG_takeA 32 (v := ?_) ?_ hHeld ?_
      rotate_left
      · (intro w hS; (clear hS; go_simp); try with_reducible rfl)
      try simp only [Act.put, List.setIfInBounds_toArray, List.set_cons_zero, List.set_cons_succ]
      refine wpG_takeA 33 (v := ?_) ?_ hHeld ?_
      rotate_left
      · (intro w hS; (clear hS; go_simp); try with_reducible rfl)
      try simp only [Act.put, List.setIfInBounds_toArray, List.set_cons_zero, List.set_cons_succ]
      refine wpG_takeA 34 (v := ?_) ?_ hHeld ?_
      rotate_left
      · (intro w hS; (clear hS; go_simp); try with_reducible rfl)
      try simp only [Act.put, List.setIfInBounds_toArray, List.set_cons_zero, List.set_cons_succ]
      refine wpG_lastA 35 (fun K9 hK => ?_)
      refine st_does (by rfl) (kd_store_cell K _ _ _ (by rfl) (by rfl) (by conv => lhs; whnf) Repl.auto (by rfl) (by rfl) (by kernel_rfl) (by simp only [fcells_size, decide_eq_true_eq]; omega) (wcells_set _ (by omega))) ?_
      clear K; intro _ w1 K
      refine hK.out _ _ ?_
      clear hK K9
      try simp only [Act.put, List.setIfInBounds_toArray, List.set_cons_zero, List.set_cons_succ]
      skip
      go_wp2
      go_roundg (gk - 1)
      case measure => omega
      case rel => exact ⟨k + 1, by go_num, by omega, by rw [wrow_succ, HN.out]; exact K⟩
    · obtain rfl : k = 16 := by omega
      go_wp2_with (first | ((with_reducible refine at_eqnil rfl ?_); refine wpList_reads rfl (kr_eqnil rfl rfl (by kernel_rfl)) ?_) | ((with_reducible refine at_box rfl ?_); refine wpList_does rfl (kd_box K _ _ rfl (by conv => lhs; whnf)) ?_; clear K; rintro _ w1 ⟨g, rfl, K⟩; (try dsimp only [Value.cells] at K)) | ((with_reducible refine at_alloc rfl ?_); refine wpList_does rfl (kd_alloc K _ rfl rfl) ?_; clear K; rintro _ w1 ⟨g, rfl, K⟩; (try dsimp only [Value.cells] at K)) | ((with_reducible refine at_buildSlice rfl ?_); refine wpList_does rfl (kd_lits (cs := _) K _ _ _ rfl (by first | rfl | (go_simp; done) | (go_simp; rfl)) (by first | rfl | (go_simp; done) | (go_simp; rfl))) ?_; clear K; rintro _ w1 ⟨g, rfl, K⟩) | ((with_reducible refine at_load rfl ?_); first | (refine wpList_reads (by rfl) (kr_load_cell K _ _ (by rfl) (by rfl) Has.auto (by decide +kernel) (by (try simp only [List.getElem?_toArray, List.getElem?_cons_succ, List.getElem?_cons_zero]); exact rfl)) ?_) | (refine wpList_reads (by rfl) (kr_load_row K _ _ (by rfl) (by rfl) Has.auto (by decide +kernel) (by kernel_rfl)) ?_)) | ((with_reducible refine at_store rfl ?_); (first | (refine wpList_does rfl (kd_store_cell K _ _ _ rfl rfl (by conv => lhs; whnf) Repl.auto rfl rfl (by kernel_rfl) (by kernel_rfl) (by first | (simp only [List.setIfInBounds_toArray, List.set_cons_succ, List.set_cons_zero]; rfl) | rfl)) ?_) | (refine wpList_does rfl (kd_store_row K _ _ _ rfl rfl rfl Repl.auto (by kernel_rfl) (by kernel_rfl) (by kernel_rfl)) ?_)); clear K; intro _ w1 K; (try simp only [Act.put])))
      go_loopg [5] 48 (fun d s wr => ∃ k : Nat, s = .int .i64 k ∧ k + d = 64 ∧ 16 ≤ k ∧ Known w0 wr (row gw (wcells (wrow (fun i => xs.getD i 0) k) 64) 125 :: row gr (wcells (fun _ => 0) 64) 125 :: L))
      case atStart => exact ⟨16, by go_num, by omega, by omega, K⟩
      case round =>
        clear K
        obtain ⟨k, rfl, hd, hk0, K⟩ := hrel
        by_cases hk : k < 64
        · obtain ⟨f, hf⟩ : ∃ f, f = wrow (fun i => xs.getD i 0) k := ⟨_, rfl⟩
          have HN := Lib.hid (show wrow (fun i => xs.getD i 0) (k + 1) = upd f k (f (k - 16) + sig0 (f (k - 15)) + f (k - 7) + sig1 (f (k - 2))) by
            rw [wrow_succ, ← hf, wnext, if_neg (by omega)])
          rw [← hf] at K
          clear hf
          have x0 : (0 : Int) ≤ (k : Int) - 15 ∧ (k : Int) - 15 < 64 := by omega
          have x1 : (0 : Int) ≤ (k : Int) - 2 ∧ (k : Int) - 2 < 64 := by omega
          have x2 : (0 : Int) ≤ (k : Int) - 16 ∧ (k : Int) - 16 < 64 := by omega
          have x3 : (0 : Int) ≤ (k : Int) - 7 ∧ (k : Int) - 7 < 64 := by omega
          have x4 : (0 : Int) ≤ (k : Int) ∧ (k : Int) < 64 := by omega
          have y15 : (15 : Int) ≤ (k : Int) := by omega
          have y2 : (2 : Int) ≤ (k : Int) := by omega
          have y16 : (16 : Int) ≤ (k : Int) := by omega
          have y7 : (7 : Int) ≤ (k : Int) := by omega
          have k1 := IntWalk.i64_in ((k : Int) - 15) (by omega)
          have k2 := IntWalk.i64_in ((k : Int) - 2) (by omega)
          have k3 := IntWalk.i64_in ((k : Int) - 16) (by omega)
          have k4 := IntWalk.i64_in ((k : Int) - 7) (by omega)
          go_upto_region 10 with (fail)
          refine wp_region_GK K (Cov.all _) (by kernel_rfl) (by kernel_rfl) (by kernel_rfl) (fun K hHeld => ?_)
          refine wpG_takeA 0 (v := ?_) ?_ hHeld ?_
          rotate_left
          · (intro w hS; (clear hS; go_simp); try with_reducible rfl)
          try simp only [Act.put, List.setIfInBounds_toArray, List.set_cons_zero, List.set_cons_succ]
          refine wpG_takeA 1 (v := ?_) ?_ hHeld ?_
          rotate_left
          · (intro w hS; (clear hS; go_simp); try with_reducible rfl)
          try simp only [Act.put, List.setIfInBounds_toArray, List.set_cons_zero, List.set_cons_succ]
          refine wpG_takeA 2 (v := ?_) ?_ hHeld ?_
          rotate_left
          · (intro w hS; (clear hS; go_simp); try with_reducible rfl)
          try simp only [Act.put, List.setIfInBounds_toArray, List.set_cons_zero, List.set_cons_succ]
          refine wpG_takeA 3 (v := wv (f (k - 15))) ?_ hHeld ?_
          · (intro w hS; first | exact kr_load_cell hS _ _ (by rfl) (by rfl) Has.auto (by kernel_rfl) (wcells_at (k - 15) (by omega) (by omega)))
          try simp only [Act.put, List.setIfInBounds_toArray, List.set_cons_zero, List.set_cons_succ]
          refine wpG_takeA 4 (v := ?_) ?_ hHeld ?_
          rotate_left
          · (intro w hS; (clear hS; go_simp); try with_reducible rfl)
          try simp only [Act.put, List.setIfInBounds_toArray, List.set_cons_zero, List.set_cons_succ]
          refine wpG_takeA 5 (v := ?_) ?_ hHeld ?_
          rotate_left
          · (intro w hS; (clear hS; go_simp); try with_reducible rfl)
          try simp only [Act.put, List.setIfInBounds_toArray, List.set_cons_zero, List.set_cons_succ]
          refine wpG_takeA 6 (v := ?_) ?_ hHeld ?_
          rotate_left
          · (intro w hS; (clear hS; go_simp); try with_reducible rfl)
          try simp only [Act.put, List.setIfInBounds_toArray, List.set_cons_zero, List.set_cons_succ]
          refine wpG_takeA 7 (v := wv (f (k - 2))) ?_ hHeld ?_
          · (intro w hS; first | exact kr_load_cell hS _ _ (by rfl) (by rfl) Has.auto (by kernel_rfl) (wcells_at (k - 2) (by omega) (by omega)))
          try simp only [Act.put, List.setIfInBounds_toArray, List.set_cons_zero, List.set_cons_succ]
          refine wpG_takeA 8 (v := ?_) ?_ hHeld ?_
          rotate_left
          · (intro w hS; (clear hS; go_simp); try with_reducible rfl)
          try simp only [Act.put, List.setIfInBounds_toArray, List.set_cons_zero, List.set_cons_succ]
          refine wpG_takeA 9 (v := ?_) ?_ hHeld ?_
          rotate_left
          · (intro w hS; (clear hS; go_simp); try with_reducible rfl)
          try simp only [Act.put, List.setIfInBounds_toArray, List.set_cons_zero, List.set_cons_succ]
          refine wpG_done (by kernel_rfl) ?_
          skip
          go_upto_region 13 with ((first | (go_at_call 85; (with_reducible refine (rot7 _ _).mono ?_); rintro e w' ⟨rfl, rfl⟩) | (go_at_call 85; (with_reducible refine (rot18 _ _).mono ?_); rintro e w' ⟨rfl, rfl⟩) | (go_at_call 85; (with_reducible refine (rot17 _ _).mono ?_); rintro e w' ⟨rfl, rfl⟩) | (go_at_call 85; (with_reducible refine (rot19 _ _).mono ?_); rintro e w' ⟨rfl, rfl⟩)))
          refine wp_region_GK K (Cov.all _) (by kernel_rfl) (by kernel_rfl) (by kernel_rfl) (fun K hHeld => ?_)
          refine wpG_takeA 0 (v := ?_) ?_ hHeld ?_
          rotate_left
          · (intro w hS; (clear hS; go_simp); try with_reducible rfl)
          try simp only [Act.put, List.setIfInBounds_toArray, List.set_cons_zero, List.set_cons_succ]
          refine wpG_takeA 1 (v := ?_) ?_ hHeld ?_
          rotate_left
          · (intro w hS; (clear hS; go_simp); try with_reducible rfl)
          try simp only [Act.put, List.setIfInBounds_toArray, List.set_cons_zero, List.set_cons_succ]
          refine wpG_takeA 2 (v := ?_) ?_ hHeld ?_
          rotate_left
          · (intro w hS; (clear hS; go_simp); try with_reducible rfl)
          try simp only [Act.put, List.setIfInBounds_toArray, List.set_cons_zero, List.set_cons_succ]
          refine wpG_takeA 3 (v := ?_) ?_ hHeld ?_
          rotate_left
          · (intro w hS; (clear hS; go_simp); try with_reducible rfl)
          try simp only [Act.put, List.setIfInBounds_toArray, List.set_cons_zero, List.set_cons_succ]
          refine wpG_takeA 4 (v := wv (f (k - 16))) ?_ hHeld ?_
          · (intro w hS; first | exact kr_load_cell hS _ _ (by rfl) (by rfl) Has.auto (by kernel_rfl) (wcells_at (k - 16) (by omega) (by omega)))
          try simp only [Act.put, List.setIfInBounds_toArray, List.set_cons_zero, List.set_cons_succ]
          refine wpG_takeA 5 (v := ?_) ?_ hHeld ?_
          rotate_left
          · (intro w hS; (clear hS; go_simp); try with_reducible rfl)
          try simp only [Act.put, List.setIfInBounds_toArray, List.set_cons_zero, List.set_cons_succ]
          refine wpG_takeA 6 (v := ?_) ?_ hHeld ?_
          rotate_left
          · (intro w hS; (clear hS; go_simp); try with_reducible rfl)
          try simp only [Act.put, List.setIfInBounds_toArray, List.set_cons_zero, List.set_cons_succ]
          refine wpG_takeA 7 (v := ?_) ?_ hHeld ?_
          rotate_left
          · (intro w hS; (clear hS; go_simp); try with_reducible rfl)
          try simp only [Act.put, List.setIfInBounds_toArray, List.set_cons_zero, List.set_cons_succ]
          refine wpG_takeA 8 (v := ?_) ?_ hHeld ?_
          rotate_left
          · (intro w hS; (clear hS; go_simp); try with_reducible rfl)
          try simp only [Act.put, List.setIfInBounds_toArray, List.set_cons_zero, List.set_cons_succ]
          refine wpG_takeA 9 (v := ?_) ?_ hHeld ?_
          rotate_left
          · (intro w hS; (clear hS; go_simp); try with_reducible rfl)
          try simp only [Act.put, List.setIfInBounds_toArray, List.set_cons_zero, List.set_cons_succ]
          refine wpG_takeA 10 (v := wv (f (k - 7))) ?_ hHeld ?_
          · (intro w hS; first | exact kr_load_cell hS _ _ (by rfl) (by rfl) Has.auto (by kernel_rfl) (wcells_at (k - 7) (by omega) (by omega)))
          try simp only [Act.put, List.setIfInBounds_toArray, List.set_cons_zero, List.set_cons_succ]
          refine wpG_takeA 11 (v := ?_) ?_ hHeld ?_
          rotate_left
          · (intro w hS; (clear hS; go_simp); try with_reducible rfl)
          try simp only [Act.put, List.setIfInBounds_toArray, List.set_cons_zero, List.set_cons_succ]
          refine wpG_takeA 12 (v := ?_) ?_ hHeld ?_
          rotate_left
          · (intro w hS; (clear hS; go_simp); try with_reducible rfl)
          try simp only [Act.put, List.setIfInBounds_toArray, List.set_cons_zero, List.set_cons_succ]
          refine wpG_takeA 13 (v := ?_) ?_ hHeld ?_
          rotate_left
          · (intro w hS; (clear hS; go_simp); try with_reducible rfl)
          try simp only [Act.put, List.setIfInBounds_toArray, List.set_cons_zero, List.set_cons_succ]
          refine wpG_takeA 14 (v := ?_) ?_ hHeld ?_
          rotate_left
          · (intro w hS; (clear hS; go_simp); try with_reducible rfl)
          try simp only [Act.put, List.setIfInBounds_toArray, List.set_cons_zero, List.set_cons_succ]
          refine wpG_lastA 15 (fun K9 hK => ?_)
          refine st_does (by rfl) (kd_store_cell K _ _ _ (by rfl) (by rfl) (by conv => lhs; whnf) Repl.auto (by rfl) (by rfl) (by kernel_rfl) (by simp only [fcells_size, decide_eq_true_eq]; omega) (wcells_set _ (by omega))) ?_
          clear K; intro _ w1 K
          refine hK.out _ _ ?_
          clear hK K9
          try simp only [Act.put, List.setIfInBounds_toArray, List.set_cons_zero, List.set_cons_succ]
          skip
          go_wp2
          go_roundg (gk - 1)
          case measure => omega
          case rel => exact ⟨k + 1, by go_num, by omega, by omega, by rw [HN.out]; exact K⟩
        · obtain rfl : k = 64 := by omega
          go_wp2_with (first | ((with_reducible refine at_load rfl ?_); refine wpList_reads (by rfl) (kr_load_row K _ _ (by rfl) (by rfl) Has.auto (by kernel_rfl) (by rw [fcells_size]; kernel_rfl)) ?_) | ((with_reducible refine at_store rfl ?_); refine wpList_does (by rfl) (kd_store_row K _ _ _ (by rfl) (by rfl) (by rfl) Repl.auto (by rw [fcells_size]; kernel_rfl) (by rw [fcells_size, fcells_size]; rfl) (wcells_one _ _)) ?_; clear K; intro _ w1 K; (try simp only [Act.put])) | ((with_reducible refine at_eqnil rfl ?_); refine wpList_reads rfl (kr_eqnil rfl rfl (by kernel_rfl)) ?_) | ((with_reducible refine at_box rfl ?_); refine wpList_does rfl (kd_box K _ _ rfl (by conv => lhs; whnf)) ?_; clear K; rintro _ w1 ⟨g, rfl, K⟩; (try dsimp only [Value.cells] at K)) | ((with_reducible refine at_alloc rfl ?_); refine wpList_does rfl (kd_alloc K _ rfl rfl) ?_; clear K; rintro _ w1 ⟨g, rfl, K⟩; (try dsimp only [Value.cells] at K)) | ((with_reducible refine at_buildSlice rfl ?_); refine wpList_does rfl (kd_lits (cs := _) K _ _ _ rfl (by first | rfl | (go_simp; done) | (go_simp; rfl)) (by first | rfl | (go_simp; done) | (go_simp; rfl))) ?_; clear K; rintro _ w1 ⟨g, rfl, K⟩) | ((with_reducible refine at_load rfl ?_); first | (refine wpList_reads (by rfl) (kr_load_cell K _ _ (by rfl) (by rfl) Has.auto (by decide +kernel) (by (try simp only [List.getElem?_toArray, List.getElem?_cons_succ, List.getElem?_cons_zero]); exact rfl)) ?_) | (refine wpList_reads (by rfl) (kr_load_row K _ _ (by rfl) (by rfl) Has.auto (by decide +kernel) (by kernel_rfl)) ?_)) | ((with_reducible refine at_store rfl ?_); (first | (refine wpList_does rfl (kd_store_cell K _ _ _ rfl rfl (by conv => lhs; whnf) Repl.auto rfl rfl (by kernel_rfl) (by kernel_rfl) (by first | (simp only [List.setIfInBounds_toArray, List.set_cons_succ, List.set_cons_zero]; rfl) | rfl)) ?_) | (refine wpList_does rfl (kd_store_row K _ _ _ rfl rfl rfl Repl.auto (by kernel_rfl) (by kernel_rfl) (by kernel_rfl)) ?_)); clear K; intro _ w1 K; (try simp only [Act.put])))
          exact bodyPost_cellK K (by rfl) (by rfl) Has.auto (by kernel_rfl) (by rw [fcells_size]; kernel_rfl) rfl ⟨rfl, K.cov Cov.auto⟩
end
end Go.Proofs.Ytfdddipmeadecaa

/-
  sha: takes (contract): a block into the state.
-/
set_option linter.unusedVariables false
set_option linter.unusedSimpArgs false
namespace Go.Proofs.Ytfdddipmeadecaa
open Go.RowKit

/-- a Hash's cells: its state, what is left over, how many of it, of all -/
def hcell (s : S8) (r : Nat → Int) (many all : Int) (i : Nat) : Value :=
  if i < 8 then wv (s.get i) else if i < 72 then .int .u8 (r (i - 8)) else if i = 72 then .int .i64 many else .int .u64 all
abbrev hcells (s : S8) (r : Nat → Int) (many all : Int) : Array Value := fcells 74 (hcell s r many all)
theorem rootK_cells : #[Value.int .u32 1116352408, Value.int .u32 1899447441, Value.int .u32 3049323471, Value.int .u32 3921009573, Value.int .u32 961987163, Value.int .u32 1508970993, Value.int .u32 2453635748, Value.int .u32 2870763221, Value.int .u32 3624381080, Value.int .u32 310598401, Value.int .u32 607225278, Value.int .u32 1426881987, Value.int .u32 1925078388, Value.int .u32 2162078206, Value.int .u32 2614888103, Value.int .u32 3248222580, Value.int .u32 3835390401, Value.int .u32 4022224774, Value.int .u32 264347078, Value.int .u32 604807628, Value.int .u32 770255983, Value.int .u32 1249150122, Value.int .u32 1555081692, Value.int .u32 1996064986, Value.int .u32 2554220882, Value.int .u32 2821834349, Value.int .u32 2952996808, Value.int .u32 3210313671, Value.int .u32 3336571891, Value.int .u32 3584528711, Value.int .u32 113926993, Value.int .u32 338241895, Value.int .u32 666307205, Value.int .u32 773529912, Value.int .u32 1294757372, Value.int .u32 1396182291, Value.int .u32 1695183700, Value.int .u32 1986661051, Value.int .u32 2177026350, Value.int .u32 2456956037, Value.int .u32 2730485921, Value.int .u32 2820302411, Value.int .u32 3259730800, Value.int .u32 3345764771, Value.int .u32 3516065817, Value.int .u32 3600352804, Value.int .u32 4094571909, Value.int .u32 275423344, Value.int .u32 430227734, Value.int .u32 506948616, Value.int .u32 659060556, Value.int .u32 883997877, Value.int .u32 958139571, Value.int .u32 1322822218, Value.int .u32 1537002063, Value.int .u32 1747873779, Value.int .u32 1955562222, Value.int .u32 2024104815, Value.int .u32 2227730452, Value.int .u32 2361852424, Value.int .u32 2428436474, Value.int .u32 2756734187, Value.int .u32 3204031479, Value.int .u32 3329325298] = wcells rootK 64 := by kernel_rfl





theorem rootK_build (w : World) : (Instr.build 125 #[(0, Value.int .u32 1116352408), (1, Value.int .u32 1899447441), (2, Value.int .u32 3049323471), (3, Value.int .u32 3921009573), (4, Value.int .u32 961987163), (5, Value.int .u32 1508970993), (6, Value.int .u32 2453635748), (7, Value.int .u32 2870763221), (8, Value.int .u32 3624381080), (9, Value.int .u32 310598401), (10, Value.int .u32 607225278), (11, Value.int .u32 1426881987), (12, Value.int .u32 1925078388), (13, Value.int .u32 2162078206), (14, Value.int .u32 2614888103), (15, Value.int .u32 3248222580), (16, Value.int .u32 3835390401), (17, Value.int .u32 4022224774), (18, Value.int .u32 264347078), (19, Value.int .u32 604807628), (20, Value.int .u32 770255983), (21, Value.int .u32 1249150122), (22, Value.int .u32 1555081692), (23, Value.int .u32 1996064986), (24, Value.int .u32 2554220882), (25, Value.int .u32 2821834349), (26, Value.int .u32 2952996808), (27, Value.int .u32 3210313671), (28, Value.int .u32 3336571891), (29, Value.int .u32 3584528711), (30, Value.int .u32 113926993), (31, Value.int .u32 338241895), (32, Value.int .u32 666307205), (33, Value.int .u32 773529912), (34, Value.int .u32 1294757372), (35, Value.int .u32 1396182291), (36, Value.int .u32 1695183700), (37, Value.int .u32 1986661051), (38, Value.int .u32 2177026350), (39, Value.int .u32 2456956037), (40, Value.int .u32 2730485921), (41, Value.int .u32 2820302411), (42, Value.int .u32 3259730800), (43, Value.int .u32 3345764771), (44, Value.int .u32 3516065817), (45, Value.int .u32 3600352804), (46, Value.int .u32 4094571909), (47, Value.int .u32 275423344), (48, Value.int .u32 430227734), (49, Value.int .u32 506948616), (50, Value.int .u32 659060556), (51, Value.int .u32 883997877), (52, Value.int .u32 958139571), (53, Value.int .u32 1322822218), (54, Value.int .u32 1537002063), (55, Value.int .u32 1747873779), (56, Value.int .u32 1955562222), (57, Value.int .u32 2024104815), (58, Value.int .u32 2227730452), (59, Value.int .u32 2361852424), (60, Value.int .u32 2428436474), (61, Value.int .u32 2756734187), (62, Value.int .u32 3204031479), (63, Value.int .u32 3329325298)]).run Try.prog w = .ok (.agg (wcells rootK 64)) w := by kernel_rfl
/-- the state's first k words are added to -/
def addTo (s t : S8) (k : Nat) (i : Nat) : U := if i < k then t.get i + s.get i else s.get i
def hcell2 (f : Nat → U) (r : Nat → Int) (many all : Int) (i : Nat) : Value :=
  if i < 8 then wv (f i) else if i < 72 then .int .u8 (r (i - 8)) else if i = 72 then .int .i64 many else .int .u64 all
theorem hcell2_set (f : Nat → U) (r : Nat → Int) (many all : Int) {k : Nat} (x : U) (hk : k < 8) : (fcells 74 (hcell2 f r many all)).set! k (wv x) = fcells 74 (hcell2 (upd f k x) r many all) := by
  rw [fcells_set _ _ (by omega)]
  apply fcells_congr
  intro i _
  unfold upd hcell2
  by_cases e : i = k
  · subst e; simp [hk]
  · simp [e]
theorem hcell2_at (f : Nat → U) (r : Nat → Int) (many all : Int) {k i : Nat} (h : i = k) (hk : k < 8) : (fcells 74 (hcell2 f r many all))[i]? = some (wv (f k)) := by
  subst h
  rw [fcells_get _ (by omega)]
  simp [hcell2, hk]
theorem addTo_zero (s t : S8) (r : Nat → Int) (many all : Int) : hcells s r many all = fcells 74 (hcell2 (addTo s t 0) r many all) := by
  apply fcells_congr
  intro i _
  unfold hcell hcell2 addTo
  simp
theorem addTo_succ (s t : S8) (k : Nat) : upd (addTo s t k) k (s.get k + t.get k) = addTo s t (k + 1) := by
  funext i
  unfold upd addTo
  by_cases e : i = k
  · subst e; simp [BitVec.add_comm]
  · by_cases h : i < k
    · simp [e, h, show i < k + 1 by omega]
    · simp [e, h, show ¬ i < k + 1 by omega]
theorem addTo_at (s t : S8) (k : Nat) : addTo s t k k = s.get k := by simp [addTo]
theorem get_add (s t : S8) : ∀ i, i < 8 → (S8.add t s).get i = t.get i + s.get i := by
  intro i hi
  match i, hi with
  | 0, _ => rfl
  | 1, _ => rfl
  | 2, _ => rfl
  | 3, _ => rfl
  | 4, _ => rfl
  | 5, _ => rfl
  | 6, _ => rfl
  | 7, _ => rfl
theorem addTo_full (s t : S8) (r : Nat → Int) (many all : Int) : fcells 74 (hcell2 (addTo s t 8) r many all) = hcells (S8.add t s) r many all := by
  apply fcells_congr
  intro i _
  unfold hcell hcell2 addTo
  by_cases h : i < 8
  · simp [h, get_add s t i h]
  · simp [h]
theorem S8.rnds_succ (s : S8) (k w : Nat → U) (n : Nat) : s.rnds k w (n + 1) = (s.rnds k w n).rnd (k n) (w n) := rfl

section
variable {w0 w : World} {L : List Ent} {A : Option Addr} {n c g : Nat} {xs : List Int} {s : S8} {r : Nat → Int} {many all : Int}
theorem words_at {bf : Nat → Int} (hbf : bf = fun i => xs.getD i 0) (K : Known w0 w L) (R : RdS w0 L .u8 A n xs) (hn : 64 ≤ n) (hc : n ≤ c) (hm : c ≤ 9223372036854775807) (hb : ∀ b ∈ xs, 0 ≤ b ∧ b ≤ 255) :
    Calls Try.prog 84 #[.slice A n c] w fun e w' => e = .returned (.agg (wcells (wrow bf 64) 64)) ∧ Known w0 w' L := by
  subst hbf
  exact words_any K R hn hc hm hb
set_option maxHeartbeats 1600000 in
set_option maxRecDepth 100000 in
theorem takes_any (K : Known w0 w (row g (hcells s r many all) 132 :: L)) (R : RdS w0 (row g (hcells s r many all) 132 :: L) .u8 A n xs) (hn : 64 ≤ n) (hc : n ≤ c) (hm : c ≤ 9223372036854775807) (hb : ∀ b ∈ xs, 0 ≤ b ∧ b ≤ 255) :
    Calls Try.prog 68 #[.pointer (some ⟨g, 0, none⟩), .slice A n c] w fun e w' => e = .returned (.tuple #[]) ∧ Known w0 w' (row g (hcells (s.block (fun i => xs.getD i 0)) r many all) 132 :: L) := by
  obtain ⟨bf, hbf⟩ : ∃ bf : Nat → Int, bf = fun i => xs.getD i 0 := ⟨_, rfl⟩
  rw [← hbf]
  obtain ⟨wf, hwf⟩ : ∃ wf, wf = wrow bf 64 := ⟨_, rfl⟩
  have HB := Lib.hid (show s.block bf = (s.rnds rootK wf 64).add s by rw [hwf]; rfl)
  have HWF := Lib.hid hwf
  have HBF := Lib.hid hbf
  clear hwf hbf
  go_enter Try.func68, Try.ntmps68
  go_upto_region 1 with ((first | ((with_reducible refine at_build (t := 125) rfl ?_); refine ev_build rfl 125 rfl (vals := #[(0, Value.int .u32 1116352408), (1, Value.int .u32 1899447441), (2, Value.int .u32 3049323471), (3, Value.int .u32 3921009573), (4, Value.int .u32 961987163), (5, Value.int .u32 1508970993), (6, Value.int .u32 2453635748), (7, Value.int .u32 2870763221), (8, Value.int .u32 3624381080), (9, Value.int .u32 310598401), (10, Value.int .u32 607225278), (11, Value.int .u32 1426881987), (12, Value.int .u32 1925078388), (13, Value.int .u32 2162078206), (14, Value.int .u32 2614888103), (15, Value.int .u32 3248222580), (16, Value.int .u32 3835390401), (17, Value.int .u32 4022224774), (18, Value.int .u32 264347078), (19, Value.int .u32 604807628), (20, Value.int .u32 770255983), (21, Value.int .u32 1249150122), (22, Value.int .u32 1555081692), (23, Value.int .u32 1996064986), (24, Value.int .u32 2554220882), (25, Value.int .u32 2821834349), (26, Value.int .u32 2952996808), (27, Value.int .u32 3210313671), (28, Value.int .u32 3336571891), (29, Value.int .u32 3584528711), (30, Value.int .u32 113926993), (31, Value.int .u32 338241895), (32, Value.int .u32 666307205), (33, Value.int .u32 773529912), (34, Value.int .u32 1294757372), (35, Value.int .u32 1396182291), (36, Value.int .u32 1695183700), (37, Value.int .u32 1986661051), (38, Value.int .u32 2177026350), (39, Value.int .u32 2456956037), (40, Value.int .u32 2730485921), (41, Value.int .u32 2820302411), (42, Value.int .u32 3259730800), (43, Value.int .u32 3345764771), (44, Value.int .u32 3516065817), (45, Value.int .u32 3600352804), (46, Value.int .u32 4094571909), (47, Value.int .u32 275423344), (48, Value.int .u32 430227734), (49, Value.int .u32 506948616), (50, Value.int .u32 659060556), (51, Value.int .u32 883997877), (52, Value.int .u32 958139571), (53, Value.int .u32 1322822218), (54, Value.int .u32 1537002063), (55, Value.int .u32 1747873779), (56, Value.int .u32 1955562222), (57, Value.int .u32 2024104815), (58, Value.int .u32 2227730452), (59, Value.int .u32 2361852424), (60, Value.int .u32 2428436474), (61, Value.int .u32 2756734187), (62, Value.int .u32 3204031479), (63, Value.int .u32 3329325298)]) (by kernel_rfl) (rootK_build _) ?_) | ((with_reducible refine at_slot (N := 4) rfl ?_); (with_reducible refine at_alloc rfl ?_); refine wpList_does rfl (kd_alloc (z := (.agg (wcells (fun _ => 0) 64))) K _ rfl (by kernel_rfl)) ?_; clear K; rintro _ w1 ⟨gq, rfl, K⟩; (try dsimp only [Value.cells] at K)) | ((with_reducible refine at_store rfl ?_); refine wpList_does (by rfl) (kd_store_row K _ _ _ (by rfl) (by rfl) (by rfl) Repl.auto (by rw [fcells_size]; kernel_rfl) (by rw [fcells_size, fcells_size]; rfl) (wcells_one _ _)) ?_; clear K; intro _ w1 K; (try simp only [Act.put]))))
  go_upto_region 2 with ((first | (go_at_call 84; (with_reducible refine (words_at HBF.out K (R.cov Cov.auto) hn hc hm hb).mono ?_); clear K; rintro e w1 ⟨rfl, K⟩; rw [← HWF.out]) | ((with_reducible refine at_slot (N := 5) rfl ?_); (with_reducible refine at_alloc rfl ?_); refine wpList_does rfl (kd_alloc (z := (.agg (wcells (fun _ => 0) 64))) K _ rfl (by kernel_rfl)) ?_; clear K; rintro _ w1 ⟨gw, rfl, K⟩; (try dsimp only [Value.cells] at K)) | ((with_reducible refine at_store rfl ?_); refine wpList_does (by rfl) (kd_store_row K _ _ _ (by rfl) (by rfl) (by rfl) Repl.auto (by rw [fcells_size]; kernel_rfl) (by rw [fcells_size, fcells_size]; rfl) (wcells_one _ _)) ?_; clear K; intro _ w1 K; (try simp only [Act.put]))))
  refine wp_region_GK K (Cov.all _) (by kernel_rfl) (by kernel_rfl) (by kernel_rfl) (fun K hHeld => ?_)
  refine wpG_takeA 0 (v := ?_) ?_ hHeld ?_
  rotate_left
  · (intro w hS; (clear hS; go_simp); try with_reducible rfl)
  try simp only [Act.put, List.setIfInBounds_toArray, List.set_cons_zero, List.set_cons_succ]
  refine wpG_takeA 1 (v := ?_) ?_ hHeld ?_
  rotate_left
  · (intro w hS; (clear hS; go_simp); try with_reducible rfl)
  try simp only [Act.put, List.setIfInBounds_toArray, List.set_cons_zero, List.set_cons_succ]
  refine wpG_takeA 2 (v := ?_) ?_ hHeld ?_
  rotate_left
  · (intro w hS; (clear hS; go_simp); try with_reducible rfl)
  try simp only [Act.put, List.setIfInBounds_toArray, List.set_cons_zero, List.set_cons_succ]
  refine wpG_takeA 3 (v := ?_) ?_ hHeld ?_
  rotate_left
  · (intro w hS; (clear hS; go_simp); try with_reducible rfl)
  try simp only [Act.put, List.setIfInBounds_toArray, List.set_cons_zero, List.set_cons_succ]
  refine wpG_takeA 4 (v := wv (s.get 0)) ?_ hHeld ?_
  · (intro w hS; first | exact kr_load_cell hS _ _ (by rfl) (by rfl) Has.auto (by kernel_rfl) (by rw [fcells_get _ (by omega)]; rfl))
  try simp only [Act.put, List.setIfInBounds_toArray, List.set_cons_zero, List.set_cons_succ]
  refine wpG_takeA 5 (v := ?_) ?_ hHeld ?_
  rotate_left
  · (intro w hS; (clear hS; go_simp); try with_reducible rfl)
  try simp only [Act.put, List.setIfInBounds_toArray, List.set_cons_zero, List.set_cons_succ]
  refine wpG_takeA 6 (v := ?_) ?_ hHeld ?_
  rotate_left
  · (intro w hS; (clear hS; go_simp); try with_reducible rfl)
  try simp only [Act.put, List.setIfInBounds_toArray, List.set_cons_zero, List.set_cons_succ]
  refine wpG_takeA 7 (v := ?_) ?_ hHeld ?_
  rotate_left
  · (intro w hS; (clear hS; go_simp); try with_reducible rfl)
  try simp only [Act.put, List.setIfInBounds_toArray, List.set_cons_zero, List.set_cons_succ]
  refine wpG_takeA 8 (v := ?_) ?_ hHeld ?_
  rotate_left
  · (intro w hS; (clear hS; go_simp); try with_reducible rfl)
  try simp only [Act.put, List.setIfInBounds_toArray, List.set_cons_zero, List.set_cons_succ]
  refine wpG_takeA 9 (v := wv (s.get 1)) ?_ hHeld ?_
  · (intro w hS; first | exact kr_load_cell hS _ _ (by rfl) (by rfl) Has.auto (by kernel_rfl) (by rw [fcells_get _ (by omega)]; rfl))
  try simp only [Act.put, List.setIfInBounds_toArray, List.set_cons_zero, List.set_cons_succ]
  refine wpG_takeA 10 (v := ?_) ?_ hHeld ?_
  rotate_left
  · (intro w hS; (clear hS; go_simp); try with_reducible rfl)
  try simp only [Act.put, List.setIfInBounds_toArray, List.set_cons_zero, List.set_cons_succ]
  refine wpG_takeA 11 (v := ?_) ?_ hHeld ?_
  rotate_left
  · (intro w hS; (clear hS; go_simp); try with_reducible rfl)
  try simp only [Act.put, List.setIfInBounds_toArray, List.set_cons_zero, List.set_cons_succ]
  refine wpG_takeA 12 (v := ?_) ?_ hHeld ?_
  rotate_left
  · (intro w hS; (clear hS; go_simp); try with_reducible rfl)
  try simp only [Act.put, List.setIfInBounds_toArray, List.set_cons_zero, List.set_cons_succ]
  refine wpG_takeA 13 (v := ?_) ?_ hHeld ?_
  rotate_left
  · (intro w hS; (clear hS; go_simp); try with_reducible rfl)
  try simp only [Act.put, List.setIfInBounds_toArray, List.set_cons_zero, List.set_cons_succ]
  refine wpG_takeA 14 (v := wv (s.get 2)) ?_ hHeld ?_
  · (intro w hS; first | exact kr_load_cell hS _ _ (by rfl) (by rfl) Has.auto (by kernel_rfl) (by rw [fcells_get _ (by omega)]; rfl))
  try simp only [Act.put, List.setIfInBounds_toArray, List.set_cons_zero, List.set_cons_succ]
  refine wpG_takeA 15 (v := ?_) ?_ hHeld ?_
  rotate_left
  · (intro w hS; (clear hS; go_simp); try with_reducible rfl)
  try simp only [Act.put, List.setIfInBounds_toArray, List.set_cons_zero, List.set_cons_succ]
  refine wpG_takeA 16 (v := ?_) ?_ hHeld ?_
  rotate_left
  · (intro w hS; (clear hS; go_simp); try with_reducible rfl)
  try simp only [Act.put, List.setIfInBounds_toArray, List.set_cons_zero, List.set_cons_succ]
  refine wpG_takeA 17 (v := ?_) ?_ hHeld ?_
  rotate_left
  · (intro w hS; (clear hS; go_simp); try with_reducible rfl)
  try simp only [Act.put, List.setIfInBounds_toArray, List.set_cons_zero, List.set_cons_succ]
  refine wpG_takeA 18 (v := ?_) ?_ hHeld ?_
  rotate_left
  · (intro w hS; (clear hS; go_simp); try with_reducible rfl)
  try simp only [Act.put, List.setIfInBounds_toArray, List.set_cons_zero, List.set_cons_succ]
  refine wpG_takeA 19 (v := wv (s.get 3)) ?_ hHeld ?_
  · (intro w hS; first | exact kr_load_cell hS _ _ (by rfl) (by rfl) Has.auto (by kernel_rfl) (by rw [fcells_get _ (by omega)]; rfl))
  try simp only [Act.put, List.setIfInBounds_toArray, List.set_cons_zero, List.set_cons_succ]
  refine wpG_takeA 20 (v := ?_) ?_ hHeld ?_
  rotate_left
  · (intro w hS; (clear hS; go_simp); try with_reducible rfl)
  try simp only [Act.put, List.setIfInBounds_toArray, List.set_cons_zero, List.set_cons_succ]
  refine wpG_takeA 21 (v := ?_) ?_ hHeld ?_
  rotate_left
  · (intro w hS; (clear hS; go_simp); try with_reducible rfl)
  try simp only [Act.put, List.setIfInBounds_toArray, List.set_cons_zero, List.set_cons_succ]
  refine wpG_takeA 22 (v := ?_) ?_ hHeld ?_
  rotate_left
  · (intro w hS; (clear hS; go_simp); try with_reducible rfl)
  try simp only [Act.put, List.setIfInBounds_toArray, List.set_cons_zero, List.set_cons_succ]
  refine wpG_takeA 23 (v := ?_) ?_ hHeld ?_
  rotate_left
  · (intro w hS; (clear hS; go_simp); try with_reducible rfl)
  try simp only [Act.put, List.setIfInBounds_toArray, List.set_cons_zero, List.set_cons_succ]
  refine wpG_takeA 24 (v := wv (s.get 4)) ?_ hHeld ?_
  · (intro w hS; first | exact kr_load_cell hS _ _ (by rfl) (by rfl) Has.auto (by kernel_rfl) (by rw [fcells_get _ (by omega)]; rfl))
  try simp only [Act.put, List.setIfInBounds_toArray, List.set_cons_zero, List.set_cons_succ]
  refine wpG_takeA 25 (v := ?_) ?_ hHeld ?_
  rotate_left
  · (intro w hS; (clear hS; go_simp); try with_reducible rfl)
  try simp only [Act.put, List.setIfInBounds_toArray, List.set_cons_zero, List.set_cons_succ]
  refine wpG_takeA 26 (v := ?_) ?_ hHeld ?_
  rotate_left
  · (intro w hS; (clear hS; go_simp); try with_reducible rfl)
  try simp only [Act.put, List.setIfInBounds_toArray, List.set_cons_zero, List.set_cons_succ]
  refine wpG_takeA 27 (v := ?_) ?_ hHeld ?_
  rotate_left
  · (intro w hS; (clear hS; go_simp); try with_reducible rfl)
  try simp only [Act.put, List.setIfInBounds_toArray, List.set_cons_zero, List.set_cons_succ]
  refine wpG_takeA 28 (v := ?_) ?_ hHeld ?_
  rotate_left
  · (intro w hS; (clear hS; go_simp); try with_reducible rfl)
  try simp only [Act.put, List.setIfInBounds_toArray, List.set_cons_zero, List.set_cons_succ]
  refine wpG_takeA 29 (v := wv (s.get 5)) ?_ hHeld ?_
  · (intro w hS; first | exact kr_load_cell hS _ _ (by rfl) (by rfl) Has.auto (by kernel_rfl) (by rw [fcells_get _ (by omega)]; rfl))
  try simp only [Act.put, List.setIfInBounds_toArray, List.set_cons_zero, List.set_cons_succ]
  refine wpG_takeA 30 (v := ?_) ?_ hHeld ?_
  rotate_left
  · (intro w hS; (clear hS; go_simp); try with_reducible rfl)
  try simp only [Act.put, List.setIfInBounds_toArray, List.set_cons_zero, List.set_cons_succ]
  refine wpG_takeA 31 (v := ?_) ?_ hHeld ?_
  rotate_left
  · (intro w hS; (clear hS; go_simp); try with_reducible rfl)
  try simp only [Act.put, List.setIfInBounds_toArray, List.set_cons_zero, List.set_cons_succ]
  refine wpG_takeA 32 (v := ?_) ?_ hHeld ?_
  rotate_left
  · (intro w hS; (clear hS; go_simp); try with_reducible rfl)
  try simp only [Act.put, List.setIfInBounds_toArray, List.set_cons_zero, List.set_cons_succ]
  refine wpG_takeA 33 (v := ?_) ?_ hHeld ?_
  rotate_left
  · (intro w hS; (clear hS; go_simp); try with_reducible rfl)
  try simp only [Act.put, List.setIfInBounds_toArray, List.set_cons_zero, List.set_cons_succ]
  refine wpG_takeA 34 (v := wv (s.get 6)) ?_ hHeld ?_
  · (intro w hS; first | exact kr_load_cell hS _ _ (by rfl) (by rfl) Has.auto (by kernel_rfl) (by rw [fcells_get _ (by omega)]; rfl))
  try simp only [Act.put, List.setIfInBounds_toArray, List.set_cons_zero, List.set_cons_succ]
  refine wpG_takeA 35 (v := ?_) ?_ hHeld ?_
  rotate_left
  · (intro w hS; (clear hS; go_simp); try with_reducible rfl)
  try simp only [Act.put, List.setIfInBounds_toArray, List.set_cons_zero, List.set_cons_succ]
  refine wpG_takeA 36 (v := ?_) ?_ hHeld ?_
  rotate_left
  · (intro w hS; (clear hS; go_simp); try with_reducible rfl)
  try simp only [Act.put, List.setIfInBounds_toArray, List.set_cons_zero, List.set_cons_succ]
  refine wpG_takeA 37 (v := ?_) ?_ hHeld ?_
  rotate_left
  · (intro w hS; (clear hS; go_simp); try with_reducible rfl)
  try simp only [Act.put, List.setIfInBounds_toArray, List.set_cons_zero, List.set_cons_succ]
  refine wpG_takeA 38 (v := ?_) ?_ hHeld ?_
  rotate_left
  · (intro w hS; (clear hS; go_simp); try with_reducible rfl)
  try simp only [Act.put, List.setIfInBounds_toArray, List.set_cons_zero, List.set_cons_succ]
  refine wpG_takeA 39 (v := wv (s.get 7)) ?_ hHeld ?_
  · (intro w hS; first | exact kr_load_cell hS _ _ (by rfl) (by rfl) Has.auto (by kernel_rfl) (by rw [fcells_get _ (by omega)]; rfl))
  try simp only [Act.put, List.setIfInBounds_toArray, List.set_cons_zero, List.set_cons_succ]
  refine wpG_takeA 40 (v := ?_) ?_ hHeld ?_
  rotate_left
  · (intro w hS; (clear hS; go_simp); try with_reducible rfl)
  try simp only [Act.put, List.setIfInBounds_toArray, List.set_cons_zero, List.set_cons_succ]
  refine wpG_takeA 41 (v := ?_) ?_ hHeld ?_
  rotate_left
  · (intro w hS; (clear hS; go_simp); try with_reducible rfl)
  try simp only [Act.put, List.setIfInBounds_toArray, List.set_cons_zero, List.set_cons_succ]
  refine wpG_takeA 42 (v := ?_) ?_ hHeld ?_
  rotate_left
  · (intro w hS; (clear hS; go_simp); try with_reducible rfl)
  try simp only [Act.put, List.setIfInBounds_toArray, List.set_cons_zero, List.set_cons_succ]
  refine wpG_takeA 43 (v := ?_) ?_ hHeld ?_
  rotate_left
  · (intro w hS; (clear hS; go_simp); try with_reducible rfl)
  try simp only [Act.put, List.setIfInBounds_toArray, List.set_cons_zero, List.set_cons_succ]
  refine wpG_takeA 44 (v := ?_) ?_ hHeld ?_
  rotate_left
  · (intro w hS; (clear hS; go_simp); try with_reducible rfl)
  try simp only [Act.put, List.setIfInBounds_toArray, List.set_cons_zero, List.set_cons_succ]
  refine wpG_takeA 45 (v := ?_) ?_ hHeld ?_
  rotate_left
  · (intro w hS; (clear hS; go_simp); try with_reducible rfl)
  try simp only [Act.put, List.setIfInBounds_toArray, List.set_cons_zero, List.set_cons_succ]
  refine wpG_takeA 46 (v := ?_) ?_ hHeld ?_
  rotate_left
  · (intro w hS; (clear hS; go_simp); try with_reducible rfl)
  try simp only [Act.put, List.setIfInBounds_toArray, List.set_cons_zero, List.set_cons_succ]
  refine wpG_takeA 47 (v := ?_) ?_ hHeld ?_
  rotate_left
  · (intro w hS; (clear hS; go_simp); try with_reducible rfl)
  try simp only [Act.put, List.setIfInBounds_toArray, List.set_cons_zero, List.set_cons_succ]
  refine wpG_done (by kernel_rfl) ?_
  skip
  go_wp2
  go_loopg [6, 7, 8, 9, 10, 11, 12, 13, 62] 64 (fun d va vb vc vd ve vf vg vh i wr => ∃ (k : Nat) (t : S8), i = .int .i64 k ∧ k + d = 64 ∧ t = s.rnds rootK wf k ∧ va = wv t.a ∧ vb = wv t.b ∧ vc = wv t.c ∧ vd = wv t.d ∧ ve = wv t.e ∧ vf = wv t.f ∧ vg = wv t.g ∧ vh = wv t.h ∧ Known w0 wr (row gw (wcells wf 64) 125 :: row gq (wcells rootK 64) 125 :: row g (hcells s r many all) 132 :: L))
  case atStart => exact ⟨0, s, by go_num, by omega, rfl, rfl, rfl, rfl, rfl, rfl, rfl, rfl, rfl, K⟩
  case round =>
    clear K hHeld hb
    obtain ⟨k, t, rfl, hd, ht, rfl, rfl, rfl, rfl, rfl, rfl, rfl, rfl, K⟩ := hrel
    by_cases hk : k < 64
    · have HT := Lib.hid (show s.rnds rootK wf (k + 1) = t.rnd (rootK k) (wf k) by rw [ht]; rfl)
      clear ht
      have x4 : (0 : Int) ≤ (k : Int) ∧ (k : Int) < 64 := by omega
      go_upto_region 6 with (fail)
      refine wp_region_GK K (Cov.all _) (by kernel_rfl) (by kernel_rfl) (by kernel_rfl) (fun K hHeld => ?_)
      refine wpG_takeA 0 (v := ?_) ?_ hHeld ?_
      rotate_left
      · (intro w hS; (clear hS; go_simp); try with_reducible rfl)
      try simp only [Act.put, List.setIfInBounds_toArray, List.set_cons_zero, List.set_cons_succ]
      refine wpG_takeA 1 (v := ?_) ?_ hHeld ?_
      rotate_left
      · (intro w hS; (clear hS; go_simp); try with_reducible rfl)
      try simp only [Act.put, List.setIfInBounds_toArray, List.set_cons_zero, List.set_cons_succ]
      refine wpG_takeC (i := 2) (x := { dst := some 67, op := Op.call { callee := Callee.value (Operand.func 85), args := #[Operand.tmp 66, Operand.const (Value.int IntKind.i64 (-6))], argTypes := #[123, 3] }, type := 123, pos := "sha.go:58", after := #[{ on := 1, ground := Ground.data }], guard := none }) (v := wv (rotr 6 t.e)) (f := 85) (args := ?_) rfl (by kernel_rfl) (fun _ _ _ h => h) (by rfl) ?_ ?_ hHeld ?_
      rotate_left
      · (intro w; go_simp; try with_reducible rfl)
      · (intro w hS; exact (rot6 _ _))
      try simp only [Act.put, List.setIfInBounds_toArray, List.set_cons_zero, List.set_cons_succ]
      refine wpG_takeA 3 (v := ?_) ?_ hHeld ?_
      rotate_left
      · (intro w hS; (clear hS; go_simp); try with_reducible rfl)
      try simp only [Act.put, List.setIfInBounds_toArray, List.set_cons_zero, List.set_cons_succ]
      refine wpG_takeC (i := 4) (x := { dst := some 69, op := Op.call { callee := Callee.value (Operand.func 85), args := #[Operand.tmp 68, Operand.const (Value.int IntKind.i64 (-11))], argTypes := #[123, 3] }, type := 123, pos := "sha.go:58", after := #[{ on := 3, ground := Ground.data }, { on := 2, ground := Ground.chain }], guard := none }) (v := wv (rotr 11 t.e)) (f := 85) (args := ?_) rfl (by kernel_rfl) (fun _ _ _ h => h) (by rfl) ?_ ?_ hHeld ?_
      rotate_left
      · (intro w; go_simp; try with_reducible rfl)
      · (intro w hS; exact (rot11 _ _))
      try simp only [Act.put, List.setIfInBounds_toArray, List.set_cons_zero, List.set_cons_succ]
      refine wpG_takeA 5 (v := ?_) ?_ hHeld ?_
      rotate_left
      · (intro w hS; (clear hS; go_simp); try with_reducible rfl)
      try simp only [Act.put, List.setIfInBounds_toArray, List.set_cons_zero, List.set_cons_succ]
      refine wpG_takeA 6 (v := ?_) ?_ hHeld ?_
      rotate_left
      · (intro w hS; (clear hS; go_simp); try with_reducible rfl)
      try simp only [Act.put, List.setIfInBounds_toArray, List.set_cons_zero, List.set_cons_succ]
      refine wpG_takeC (i := 7) (x := { dst := some 72, op := Op.call { callee := Callee.value (Operand.func 85), args := #[Operand.tmp 71, Operand.const (Value.int IntKind.i64 (-25))], argTypes := #[123, 3] }, type := 123, pos := "sha.go:58", after := #[{ on := 6, ground := Ground.data }, { on := 4, ground := Ground.chain }], guard := none }) (v := wv (rotr 25 t.e)) (f := 85) (args := ?_) rfl (by kernel_rfl) (fun _ _ _ h => h) (by rfl) ?_ ?_ hHeld ?_
      rotate_left
      · (intro w; go_simp; try with_reducible rfl)
      · (intro w hS; exact (rot25 _ _))
      try simp only [Act.put, List.setIfInBounds_toArray, List.set_cons_zero, List.set_cons_succ]
      refine wpG_takeA 8 (v := ?_) ?_ hHeld ?_
      rotate_left
      · (intro w hS; (clear hS; go_simp); try with_reducible rfl)
      try simp only [Act.put, List.setIfInBounds_toArray, List.set_cons_zero, List.set_cons_succ]
      refine wpG_takeA 9 (v := ?_) ?_ hHeld ?_
      rotate_left
      · (intro w hS; (clear hS; go_simp); try with_reducible rfl)
      try simp only [Act.put, List.setIfInBounds_toArray, List.set_cons_zero, List.set_cons_succ]
      refine wpG_takeA 10 (v := ?_) ?_ hHeld ?_
      rotate_left
      · (intro w hS; (clear hS; go_simp); try with_reducible rfl)
      try simp only [Act.put, List.setIfInBounds_toArray, List.set_cons_zero, List.set_cons_succ]
      refine wpG_takeA 11 (v := ?_) ?_ hHeld ?_
      rotate_left
      · (intro w hS; (clear hS; go_simp); try with_reducible rfl)
      try simp only [Act.put, List.setIfInBounds_toArray, List.set_cons_zero, List.set_cons_succ]
      refine wpG_takeA 12 (v := ?_) ?_ hHeld ?_
      rotate_left
      · (intro w hS; (clear hS; go_simp); try with_reducible rfl)
      try simp only [Act.put, List.setIfInBounds_toArray, List.set_cons_zero, List.set_cons_succ]
      refine wpG_takeA 13 (v := ?_) ?_ hHeld ?_
      rotate_left
      · (intro w hS; (clear hS; go_simp); try with_reducible rfl)
      try simp only [Act.put, List.setIfInBounds_toArray, List.set_cons_zero, List.set_cons_succ]
      refine wpG_takeA 14 (v := ?_) ?_ hHeld ?_
      rotate_left
      · (intro w hS; (clear hS; go_simp); try with_reducible rfl)
      try simp only [Act.put, List.setIfInBounds_toArray, List.set_cons_zero, List.set_cons_succ]
      refine wpG_takeA 15 (v := ?_) ?_ hHeld ?_
      rotate_left
      · (intro w hS; (clear hS; go_simp); try with_reducible rfl)
      try simp only [Act.put, List.setIfInBounds_toArray, List.set_cons_zero, List.set_cons_succ]
      refine wpG_takeA 16 (v := ?_) ?_ hHeld ?_
      rotate_left
      · (intro w hS; (clear hS; go_simp); try with_reducible rfl)
      try simp only [Act.put, List.setIfInBounds_toArray, List.set_cons_zero, List.set_cons_succ]
      refine wpG_takeA 17 (v := ?_) ?_ hHeld ?_
      rotate_left
      · (intro w hS; (clear hS; go_simp); try with_reducible rfl)
      try simp only [Act.put, List.setIfInBounds_toArray, List.set_cons_zero, List.set_cons_succ]
      refine wpG_takeA 18 (v := ?_) ?_ hHeld ?_
      rotate_left
      · (intro w hS; (clear hS; go_simp); try with_reducible rfl)
      try simp only [Act.put, List.setIfInBounds_toArray, List.set_cons_zero, List.set_cons_succ]
      refine wpG_takeA 19 (v := ?_) ?_ hHeld ?_
      rotate_left
      · (intro w hS; (clear hS; go_simp); try with_reducible rfl)
      try simp only [Act.put, List.setIfInBounds_toArray, List.set_cons_zero, List.set_cons_succ]
      refine wpG_takeA 20 (v := ?_) ?_ hHeld ?_
      rotate_left
      · (intro w hS; (clear hS; go_simp); try with_reducible rfl)
      try simp only [Act.put, List.setIfInBounds_toArray, List.set_cons_zero, List.set_cons_succ]
      refine wpG_takeA 21 (v := wv (rootK k)) ?_ hHeld ?_
      · (intro w hS; first | exact kr_load_cell hS _ _ (by rfl) (by rfl) Has.auto (by kernel_rfl) (wcells_at (k) (by omega) (by omega)))
      try simp only [Act.put, List.setIfInBounds_toArray, List.set_cons_zero, List.set_cons_succ]
      refine wpG_takeA 22 (v := ?_) ?_ hHeld ?_
      rotate_left
      · (intro w hS; (clear hS; go_simp); try with_reducible rfl)
      try simp only [Act.put, List.setIfInBounds_toArray, List.set_cons_zero, List.set_cons_succ]
      refine wpG_takeA 23 (v := ?_) ?_ hHeld ?_
      rotate_left
      · (intro w hS; (clear hS; go_simp); try with_reducible rfl)
      try simp only [Act.put, List.setIfInBounds_toArray, List.set_cons_zero, List.set_cons_succ]
      refine wpG_takeA 24 (v := ?_) ?_ hHeld ?_
      rotate_left
      · (intro w hS; (clear hS; go_simp); try with_reducible rfl)
      try simp only [Act.put, List.setIfInBounds_toArray, List.set_cons_zero, List.set_cons_succ]
      refine wpG_takeA 25 (v := wv (wf k)) ?_ hHeld ?_
      · (intro w hS; first | exact kr_load_cell hS _ _ (by rfl) (by rfl) Has.auto (by kernel_rfl) (wcells_at (k) (by omega) (by omega)))
      try simp only [Act.put, List.setIfInBounds_toArray, List.set_cons_zero, List.set_cons_succ]
      refine wpG_takeA 26 (v := ?_) ?_ hHeld ?_
      rotate_left
      · (intro w hS; (clear hS; go_simp); try with_reducible rfl)
      try simp only [Act.put, List.setIfInBounds_toArray, List.set_cons_zero, List.set_cons_succ]
      refine wpG_takeA 27 (v := ?_) ?_ hHeld ?_
      rotate_left
      · (intro w hS; (clear hS; go_simp); try with_reducible rfl)
      try simp only [Act.put, List.setIfInBounds_toArray, List.set_cons_zero, List.set_cons_succ]
      refine wpG_done (by kernel_rfl) ?_
      skip
      go_wp2_with (first | (go_at_call 85; (with_reducible refine (rot2 _ _).mono ?_); rintro e w' ⟨rfl, rfl⟩) | (go_at_call 85; (with_reducible refine (rot13 _ _).mono ?_); rintro e w' ⟨rfl, rfl⟩) | (go_at_call 85; (with_reducible refine (rot22 _ _).mono ?_); rintro e w' ⟨rfl, rfl⟩))
      go_roundg (gk - 1)
      case measure => omega
      case rel => exact ⟨k + 1, _, by go_num, by omega, HT.out.symm, rfl, rfl, rfl, rfl, rfl, rfl, rfl, rfl, K⟩
    · obtain rfl : k = 64 := by omega
      have HB := Lib.hid (show s.block bf = t.add s by rw [HB.out, ht])
      rw [addTo_zero s t] at K
      clear ht
      go_wp2
      go_loopg [134] 8 (fun d i wr => ∃ (k : Nat), i = .int .i64 k ∧ k + d = 8 ∧ Known w0 wr (row gw (wcells wf 64) 125 :: row gq (wcells rootK 64) 125 :: row g (fcells 74 (hcell2 (addTo s t k) r many all)) 132 :: L))
      case atStart => exact ⟨0, by go_num, by omega, K⟩
      case round =>
        clear K
        obtain ⟨k, rfl, hd, K⟩ := hrel
        by_cases hk : k < 8
        · have x4 : (0 : Int) ≤ (k : Int) ∧ (k : Int) < 8 := by omega
          have HX := Lib.hid (show (#[wv t.a, wv t.b, wv t.c, wv t.d, wv t.e, wv t.f, wv t.g, wv t.h] : Array Value)[k]? = some (wv (t.get k)) by
            rcases (show k = 0 ∨ k = 1 ∨ k = 2 ∨ k = 3 ∨ k = 4 ∨ k = 5 ∨ k = 6 ∨ k = 7 by omega) with rfl | rfl | rfl | rfl | rfl | rfl | rfl | rfl <;> rfl)
          go_upto_region 13 with ((first | ((with_reducible refine at_index (t := 124) rfl ?_); refine wpList_reads rfl (kr_index rfl rfl rfl Try.underlying124 (by omega) (by kernel_rfl) (by kernel_rfl) HX.out) ?_)))
          refine wp_region_GK K (Cov.all _) (by kernel_rfl) (by kernel_rfl) (by kernel_rfl) (fun K hHeld => ?_)
          refine wpG_takeA 0 (v := ?_) ?_ hHeld ?_
          rotate_left
          · (intro w hS; (clear hS; go_simp); try with_reducible rfl)
          try simp only [Act.put, List.setIfInBounds_toArray, List.set_cons_zero, List.set_cons_succ]
          refine wpG_takeA 1 (v := ?_) ?_ hHeld ?_
          rotate_left
          · (intro w hS; (clear hS; go_simp); try with_reducible rfl)
          try simp only [Act.put, List.setIfInBounds_toArray, List.set_cons_zero, List.set_cons_succ]
          refine wpG_takeA 2 (v := ?_) ?_ hHeld ?_
          rotate_left
          · (intro w hS; (clear hS; go_simp); try with_reducible rfl)
          try simp only [Act.put, List.setIfInBounds_toArray, List.set_cons_zero, List.set_cons_succ]
          refine wpG_takeA 3 (v := ?_) ?_ hHeld ?_
          rotate_left
          · (intro w hS; (clear hS; go_simp); try with_reducible rfl)
          try simp only [Act.put, List.setIfInBounds_toArray, List.set_cons_zero, List.set_cons_succ]
          refine wpG_takeA 4 (v := ?_) ?_ hHeld ?_
          rotate_left
          · (intro w hS; (clear hS; go_simp); try with_reducible rfl)
          try simp only [Act.put, List.setIfInBounds_toArray, List.set_cons_zero, List.set_cons_succ]
          refine wpG_takeA 5 (v := wv (addTo s t k k)) ?_ hHeld ?_
          · (intro w hS; first | exact kr_load_cell hS _ _ (by rfl) (by rfl) Has.auto (by kernel_rfl) (hcell2_at _ _ _ _ rfl (by omega)))
          try simp only [Act.put, List.setIfInBounds_toArray, List.set_cons_zero, List.set_cons_succ]
          refine wpG_takeA 6 (v := ?_) ?_ hHeld ?_
          rotate_left
          · (intro w hS; (clear hS; go_simp); try with_reducible rfl)
          try simp only [Act.put, List.setIfInBounds_toArray, List.set_cons_zero, List.set_cons_succ]
          refine wpG_takeA 7 (v := ?_) ?_ hHeld ?_
          rotate_left
          · (intro w hS; (clear hS; go_simp); try with_reducible rfl)
          try simp only [Act.put, List.setIfInBounds_toArray, List.set_cons_zero, List.set_cons_succ]
          refine wpG_takeA 8 (v := ?_) ?_ hHeld ?_
          rotate_left
          · (intro w hS; (clear hS; go_simp); try with_reducible rfl)
          try simp only [Act.put, List.setIfInBounds_toArray, List.set_cons_zero, List.set_cons_succ]
          refine wpG_takeA 9 (v := ?_) ?_ hHeld ?_
          rotate_left
          · (intro w hS; (clear hS; go_simp); try with_reducible rfl)
          try simp only [Act.put, List.setIfInBounds_toArray, List.set_cons_zero, List.set_cons_succ]
          refine wpG_takeA 10 (v := ?_) ?_ hHeld ?_
          rotate_left
          · (intro w hS; (clear hS; go_simp); try with_reducible rfl)
          try simp only [Act.put, List.setIfInBounds_toArray, List.set_cons_zero, List.set_cons_succ]
          refine wpG_lastA 11 (fun K9 hK => ?_)
          refine st_does (by rfl) (kd_store_cell K _ _ _ (by rfl) (by rfl) (by conv => lhs; whnf) Repl.auto (by rfl) (by rfl) (by kernel_rfl) (by simp only [fcells_size, decide_eq_true_eq]; omega) (hcell2_set _ _ _ _ _ (by omega))) ?_
          clear K; intro _ w1 K
          refine hK.out _ _ ?_
          clear hK K9
          try simp only [Act.put, List.setIfInBounds_toArray, List.set_cons_zero, List.set_cons_succ]
          skip
          rw [addTo_at, addTo_succ] at K
          go_wp2
          go_roundg (gk - 1)
          case measure => omega
          case rel => exact ⟨k + 1, by go_num, by omega, K⟩
        · obtain rfl : k = 8 := by omega
          rw [addTo_full, ← HB.out] at K
          go_wp2
          go_end0
          exact ⟨rfl, K.cov Cov.auto⟩
end
end Go.Proofs.Ytfdddipmeadecaa

/-
  sha: Write (contract).
-/
set_option linter.unusedVariables false
set_option linter.unusedSimpArgs false
namespace Go.Proofs.Ytfdddipmeadecaa
open Go.RowKit

theorem hcells_many (s : S8) (r : Nat → Int) (m a v : Int) : (hcells s r m a).set! 72 (.int .i64 v) = hcells s r v a := by
  rw [fcells_set _ _ (by omega)]
  apply fcells_congr
  intro i hi
  unfold upd hcell
  by_cases e : i = 72
  · simp [e]
  · simp [e]
theorem hcells_all (s : S8) (r : Nat → Int) (m a v : Int) : (hcells s r m a).set! 73 (.int .u64 v) = hcells s r m v := by
  rw [fcells_set _ _ (by omega)]
  apply fcells_congr
  intro i hi
  unfold upd hcell
  by_cases e : i = 73
  · simp [e]
  · have h1 : ¬ (72 < i) := by omega
    by_cases h2 : i = 72
    · simp [h2]
    · simp [e, h2, show i < 72 by omega]
theorem hcells_rest (s : S8) (r : Nat → Int) (m a : Int) (off : Nat) (ys : List Int) (h : off + ys.length ≤ 64) : splice (hcells s r m a) (8 + off) (ys.map (Value.int .u8)) = hcells s (fun i => if off ≤ i ∧ i < off + ys.length then ys.getD (i - off) 0 else r i) m a := by
  rw [splice_fcells _ _ (by simp; omega)]
  apply fcells_congr
  intro i hi
  simp only [List.length_map]
  by_cases h1 : 8 + off ≤ i ∧ i < 8 + off + ys.length
  · have h3 : off ≤ i - 8 ∧ i - 8 < off + ys.length := by omega
    rw [if_pos h1]
    unfold hcell
    rw [if_neg (by omega), if_pos (by omega)]
    show _ = Value.int .u8 (if off ≤ i - 8 ∧ i - 8 < off + ys.length then ys.getD (i - 8 - off) 0 else r (i - 8))
    rw [if_pos h3, show i - (8 + off) = i - 8 - off by omega]
    simp [List.getD, show i - 8 - off < ys.length by omega]
  · rw [if_neg h1]
    unfold hcell
    by_cases h2 : i < 8
    · simp [h2]
    · rw [if_neg h2, if_neg h2]
      by_cases h4 : i < 72
      · rw [if_pos h4, if_pos h4]
        show _ = Value.int .u8 (if off ≤ i - 8 ∧ i - 8 < off + ys.length then ys.getD (i - 8 - off) 0 else r (i - 8))
        rw [if_neg (by omega)]
      · rw [if_neg h4, if_neg h4]
theorem hcells_rest0 (s : S8) (r : Nat → Int) (m a : Int) (ys : List Int) (h : ys.length ≤ 64) : splice (hcells s r m a) 8 (ys.map (Value.int .u8)) = hcells s (fun i => if 0 ≤ i ∧ i < 0 + ys.length then ys.getD (i - 0) 0 else r i) m a := hcells_rest s r m a 0 ys (by omega)
theorem hcells_72 (s : S8) (r : Nat → Int) (m a : Int) : (hcells s r m a)[72]? = some (.int .i64 m) := by rw [fcells_get _ (by omega)]; rfl
theorem hcells_73 (s : S8) (r : Nat → Int) (m a : Int) : (hcells s r m a)[73]? = some (.int .u64 a) := by rw [fcells_get _ (by omega)]; rfl
theorem hcells_rd {w0 : World} {L : List Ent} (s : S8) (r : Nat → Int) (m a : Int) {g : Nat} {t : TypeId} (h : Has (row g (hcells s r m a) t) L) : RdS w0 L .u8 (some ⟨g, 8, none⟩) 64 ((List.range 64).map r) :=
  RdS.ofRow h (by simp) (by
    apply List.ext_getElem?
    intro i
    by_cases hi : i < 64
    · rw [List.getElem?_take_of_lt hi, List.getElem?_drop, Array.getElem?_toList, fcells_get _ (by omega)]
      simp only [hcell, List.getElem?_map, List.getElem?_range hi]
      simp [show ¬ (8 + i < 8) by omega, show 8 + i < 72 by omega]
    · rw [List.getElem?_eq_none (by simp; omega), List.getElem?_eq_none (by simp; omega)])

def atL (bs : List Int) : Nat → Int := fun i => bs.getD i 0
theorem atL_app_left {bs xs : List Int} {i : Nat} (h : i < bs.length) : atL (bs ++ xs) i = atL bs i := by
  unfold atL
  simp [List.getD, List.getElem?_append_left h]
theorem atL_app_right {bs xs : List Int} {i : Nat} (h : bs.length ≤ i) : atL (bs ++ xs) i = atL xs (i - bs.length) := by
  unfold atL
  simp [List.getD, List.getElem?_append_right h]
/-- a Hash that took bs -/
structure HashIs (bs : List Int) (cs : Array Value) : Prop where mk ::
  (out : ∃ r : Nat → Int, cs = hcells (S8.start.blocks (atL bs) (bs.length / 64)) r ((bs.length % 64 : Nat) : Int) ((bs.length : Nat) : Int) ∧ (∀ i, 0 ≤ r i ∧ r i ≤ 255) ∧ ∀ i, i < bs.length % 64 → r i = atL bs (64 * (bs.length / 64) + i))
  (lt : bs.length ≤ 1000000000000)
theorem blocks_app (bs xs : List Int) {n : Nat} (h : 64 * n ≤ bs.length) : S8.start.blocks (atL (bs ++ xs)) n = S8.start.blocks (atL bs) n :=
  S8.blocks_congr _ n (fun i hi => atL_app_left (by omega))
theorem hash_block (bs xs : List Int) (p : Nat) (h : (bs.length + p) % 64 = 0) (hp : p + 64 ≤ xs.length) : (S8.start.blocks (atL (bs ++ xs)) ((bs.length + p) / 64)).block (fun i => ((xs.drop p).take 64).getD i 0) = S8.start.blocks (atL (bs ++ xs)) ((bs.length + (p + 64)) / 64) := by
  rw [show (bs.length + (p + 64)) / 64 = (bs.length + p) / 64 + 1 by omega]
  simp only [S8.blocks]
  apply S8.block_congr
  intro i hi
  rw [atL_app_right (by omega)]
  unfold atL
  rw [show 64 * ((bs.length + p) / 64) + i - bs.length = p + i by omega]
  simp [List.getD, List.getElem?_take_of_lt hi]
theorem hash_end (bs xs : List Int) (p : Nat) (r : Nat → Int) (hr : ∀ i, 0 ≤ r i ∧ r i ≤ 255) (hb : ∀ b ∈ xs, 0 ≤ b ∧ b ≤ 255) (h : (bs.length + p) % 64 = 0) (hp : p ≤ xs.length) (hq : xs.length - p < 64) (hl : bs.length + xs.length ≤ 1000000000000) :
    HashIs (bs ++ xs) (hcells (S8.start.blocks (atL (bs ++ xs)) ((bs.length + p) / 64)) (fun i => if 0 ≤ i ∧ i < 0 + (xs.drop p).length then (xs.drop p).getD (i - 0) 0 else r i) ((xs.length - p : Nat) : Int) ((bs.length : Int) + (xs.length : Int))) := by
  have e1 : (bs ++ xs).length / 64 = (bs.length + p) / 64 := by rw [List.length_append]; omega
  have e2 : (bs ++ xs).length % 64 = xs.length - p := by rw [List.length_append]; omega
  refine ⟨⟨_, by rw [e1, e2, List.length_append, Int.natCast_add], fun i => ?_, fun i hi => ?_⟩, by rw [List.length_append]; omega⟩
  · split
    · next hc =>
      have hlt : i < (xs.drop p).length := by omega
      rw [Nat.sub_zero, List.getD_eq_getElem?_getD, List.getElem?_eq_getElem hlt]
      exact hb _ (List.mem_of_mem_drop (List.getElem_mem hlt))
    · exact hr i
  · rw [e2] at hi
    rw [if_pos (by simp; omega), e1, atL_app_right (by omega)]
    unfold atL
    rw [show 64 * ((bs.length + p) / 64) + i - bs.length = p + i by omega]
    simp [List.getD]
theorem hash_short (bs xs : List Int) (r : Nat → Int) (hr : ∀ i, 0 ≤ r i ∧ r i ≤ 255) (hrb : ∀ i, i < bs.length % 64 → r i = atL bs (64 * (bs.length / 64) + i)) (hb : ∀ b ∈ xs, 0 ≤ b ∧ b ≤ 255) (hq : bs.length % 64 + xs.length < 64) (hl : bs.length + xs.length ≤ 1000000000000) :
    HashIs (bs ++ xs) (hcells (S8.start.blocks (atL bs) (bs.length / 64)) (fun i => if bs.length % 64 ≤ i ∧ i < bs.length % 64 + xs.length then xs.getD (i - bs.length % 64) 0 else r i) ((bs.length % 64 + xs.length : Nat) : Int) ((bs.length : Int) + (xs.length : Int))) := by
  have e1 : (bs ++ xs).length / 64 = bs.length / 64 := by rw [List.length_append]; omega
  have e2 : (bs ++ xs).length % 64 = bs.length % 64 + xs.length := by rw [List.length_append]; omega
  refine ⟨⟨_, by rw [e1, e2, List.length_append, Int.natCast_add (bs.length) xs.length, blocks_app bs xs (by omega)], fun i => ?_, fun i hi => ?_⟩, by rw [List.length_append]; omega⟩
  · split
    · next hc =>
      rw [List.getD_eq_getElem?_getD, List.getElem?_eq_getElem (by omega)]
      exact hb _ (List.getElem_mem _)
    · exact hr i
  · rw [e2] at hi
    rw [e1]
    by_cases h : i < bs.length % 64
    · rw [if_neg (by omega), atL_app_left (by omega)]
      exact hrb i h
    · rw [if_pos (by omega), atL_app_right (by omega)]
      unfold atL
      rw [show 64 * (bs.length / 64) + i - bs.length = i - bs.length % 64 by omega]
theorem hash_fill (bs xs : List Int) (r : Nat → Int) (hrb : ∀ i, i < bs.length % 64 → r i = atL bs (64 * (bs.length / 64) + i)) (hq : 64 ≤ bs.length % 64 + xs.length) (h0 : 0 < bs.length % 64) :
    (S8.start.blocks (atL bs) (bs.length / 64)).block (fun i => ((List.range 64).map (fun i => if bs.length % 64 ≤ i ∧ i < bs.length % 64 + (64 - bs.length % 64) then (xs.take (64 - bs.length % 64)).getD (i - bs.length % 64) 0 else r i)).getD i 0) = S8.start.blocks (atL (bs ++ xs)) ((bs.length + (64 - bs.length % 64)) / 64) := by
  rw [show (bs.length + (64 - bs.length % 64)) / 64 = bs.length / 64 + 1 by omega, ← blocks_app bs xs (by omega)]
  simp only [S8.blocks]
  apply S8.block_congr
  intro i hi
  have e : ∀ f : Nat → Int, ((List.range 64).map f).getD i 0 = f i := fun f => by simp [List.getD, List.getElem?_range hi]
  rw [e]
  by_cases h : i < bs.length % 64
  · rw [if_neg (by omega), atL_app_left (by omega)]
    exact hrb i h
  · rw [if_pos (by omega), atL_app_right (by omega)]
    unfold atL
    rw [show 64 * (bs.length / 64) + i - bs.length = i - bs.length % 64 by omega]
    simp [List.getD, List.getElem?_take_of_lt (show i - bs.length % 64 < 64 - bs.length % 64 by omega)]


section
variable {w0 w : World} {L : List Ent} {A : Option Addr} {n c g : Nat} {xs bs : List Int} {cs : Array Value}
set_option maxHeartbeats 1600000 in
set_option maxRecDepth 100000 in
theorem hwrite_any (K : Known w0 w (row g cs 132 :: L)) (hH : HashIs bs cs) (R : RdS w0 L .u8 A n xs) (hc : n ≤ c) (hm : c ≤ 9223372036854775807) (hb : ∀ b ∈ xs, 0 ≤ b ∧ b ≤ 255) (hl : bs.length + n ≤ 1000000000000) :
    Calls Try.prog 56 #[.pointer (some ⟨g, 0, none⟩), .slice A n c] w fun e w' => e = .returned (.tuple #[]) ∧ ∃ cs', HashIs (bs ++ xs) cs' ∧ Known w0 w' (row g cs' 132 :: L) := by
  have HH := Lib.hid hH
  obtain ⟨r, e0, hr, hrb⟩ := hH.out
  have hxl := R.len
  obtain ⟨s0, hs0⟩ : ∃ s0, s0 = S8.start.blocks (atL bs) (bs.length / 64) := ⟨_, rfl⟩
  obtain ⟨m, hmm⟩ : ∃ m, m = bs.length := ⟨_, rfl⟩
  obtain ⟨k, hk⟩ : ∃ k, k = m % 64 := ⟨_, rfl⟩
  rw [e0, ← hs0, ← hmm, ← hk] at K
  rw [← hmm] at hl hrb hs0
  rw [← hk] at hrb
  have HMM := Lib.hid hmm
  have HK := Lib.hid hk
  have HS0 := Lib.hid hs0
  have HR := Lib.hid hr
  have HRB := Lib.hid hrb
  have HB := Lib.hid hb
  have HXL := Lib.hid hxl
  have hk6 : k < 64 := by omega
  clear hH e0 hmm hk hs0 hr hrb hb hxl
  have i1 := IntWalk.u64_in (n : Int) (by omega)
  have i2 := IntWalk.u64_in ((m : Int) + (n : Int)) (by omega)
  by_cases hk0 : k = 0
  · subst hk0
    go_enter Try.func56, Try.ntmps56
    go_upto_region 9 with ((first | ((with_reducible refine at_load rfl ?_); refine wpList_reads (by rfl) (kr_load_cell K _ _ (by rfl) (by rfl) Has.auto (by kernel_rfl) (hcells_73 _ _ _ _)) ?_) | ((with_reducible refine at_load rfl ?_); refine wpList_reads (by rfl) (kr_load_cell K _ _ (by rfl) (by rfl) Has.auto (by kernel_rfl) (hcells_72 _ _ _ _)) ?_) | ((with_reducible refine at_store rfl ?_); refine wpList_does rfl (kd_store_cell K _ _ _ rfl rfl (by conv => lhs; whnf) Repl.auto rfl rfl (by kernel_rfl) (by simp only [fcells_size, decide_eq_true_eq]; omega) (hcells_all _ _ _ _ _)) ?_; clear K; intro _ w1 K; (try simp only [Act.put])) | ((with_reducible refine at_store rfl ?_); refine wpList_does rfl (kd_store_cell K _ _ _ rfl rfl (by conv => lhs; whnf) Repl.auto rfl rfl (by kernel_rfl) (by simp only [fcells_size, decide_eq_true_eq]; omega) (hcells_many _ _ _ _ _)) ?_; clear K; intro _ w1 K; (try simp only [Act.put]))))
    have HP0 : Hid ((m + 0) % 64 = 0) := Lib.hid (by have := HK.out; omega)
    obtain ⟨r1, hr1⟩ : ∃ r1, r1 = r := ⟨_, rfl⟩
    rw [← hr1] at K HR
    rw [HS0.out, HMM.out, ← blocks_app bs xs (by omega), ← HMM.out] at K
    go_wp2
    go_loopg [1] (n) (fun d v wr => ∃ (p q : Nat) (A' : Option Addr) (c' : Nat), v = .slice A' q c' ∧ q ≤ c' ∧ c' ≤ 9223372036854775807 ∧ Hid ((m + p) % 64 = 0) ∧ p + q = n ∧ q ≤ d ∧ RdS w0 L .u8 A' q (xs.drop p) ∧ Known w0 wr (row g (hcells (S8.start.blocks (atL (bs ++ xs)) ((m + p) / 64)) r1 0 ((m : Int) + (n : Int))) 132 :: L))
    case atStart => exact ⟨0, n, A, c, rfl, by omega, by omega, HP0, by omega, by omega, R, K⟩
    case round =>
      clear K
      obtain ⟨p, q, A', c', rfl, hc', hm', HP, hpq, hd, R', K⟩ := hrel
      by_cases hq : 64 ≤ q
      · have hq' : (64 : Int) ≤ (q : Int) := by omega
        have HT := Lib.hid (hash_block bs xs p (by rw [← HMM.out]; exact HP.out) (by rw [HXL.out]; omega))
        rw [← HMM.out] at HT
        have HB2 := Lib.hid (show ∀ b ∈ (xs.drop p).take 64, 0 ≤ b ∧ b ≤ 255 from fun b h => HB.out b (List.mem_of_mem_drop (List.mem_of_mem_take h)))
        go_wp2_with (first | ((with_reducible refine at_slice (l := none) (h := some _) rfl ?_); refine wpList_does rfl (kd_slice K rfl rfl (0) (64) (.inl ⟨rfl, rfl⟩) (.inr rfl) (R') (by omega) (by omega) (by omega) Try.underlying46 (by kernel_rfl)) ?_; rintro _ w1 ⟨rfl, B1, rfl, R1⟩; (try simp only [Nat.sub_zero, List.drop_zero] at R1)) | ((with_reducible refine at_slice (l := some _) (h := none) rfl ?_); refine wpList_does rfl (kd_slice K rfl rfl (64) (q) (.inr rfl) (.inl ⟨rfl, rfl⟩) (R') (by omega) (by omega) (by omega) Try.underlying46 (by kernel_rfl)) ?_; rintro _ w1 ⟨rfl, B2, rfl, R2⟩; (try simp only [Nat.sub_zero, List.drop_zero] at R2)) | (go_at_call 68; (with_reducible refine (takes_any K (R1.cov Cov.auto) (by omega) (by omega) (by omega) HB2.out).mono ?_); clear K; rintro e w1 ⟨rfl, K⟩))
        rw [HT.out] at K
        go_roundg (gk - 64)
        case measure => omega
        case rel => exact ⟨p + 64, q - 64, _, _, rfl, by omega, by omega, Lib.hid (by have := HP.out; omega), by omega, by omega, (by rw [List.take_of_length_le (by simp [HXL.out]; omega), List.drop_drop] at R2; exact R2), K⟩
      · have hq' : ¬ ((64 : Int) ≤ (q : Int)) := by omega
        have HE := Lib.hid (hash_end bs xs p r1 HR.out HB.out (by rw [← HMM.out]; exact HP.out) (by rw [HXL.out]; omega) (by rw [HXL.out]; omega) (by rw [HXL.out, ← HMM.out]; omega))
        rw [← HMM.out, HXL.out] at HE
        go_wp2_with (first | ((with_reducible refine at_slice (l := none) (h := none) rfl ?_); refine wpList_reads rfl (kr_slice_arr rfl rfl (0) (64) (.inl ⟨rfl, rfl⟩) (.inl ⟨rfl, rfl⟩) (by omega) (by omega) Try.underlying130 (by kernel_rfl)) ?_) | ((with_reducible refine at_copy rfl ?_); refine wpList_does rfl (kd_copy K rfl rfl rfl (R'.at_ _ (K.cov Cov.auto)) Try.underlying46 (by kernel_rfl) Repl.auto (by simp only [fcells_size]; omega)) ?_; clear K; rintro _ w1 ⟨rfl, K⟩; rw [List.take_of_length_le (by simp [HXL.out]; omega), hcells_rest0 _ _ _ _ _ (by simp [HXL.out]; omega)] at K) | ((with_reducible refine at_store rfl ?_); refine wpList_does rfl (kd_store_cell K _ _ _ rfl rfl (by conv => lhs; whnf) Repl.auto rfl rfl (by kernel_rfl) (by simp only [fcells_size, decide_eq_true_eq]; omega) (hcells_many _ _ _ _ _)) ?_; clear K; intro _ w1 K; (try simp only [Act.put])))
        go_end0
        exact ⟨rfl, _, HE.out, by rw [show min 64 q = n - p by omega] at K; exact K⟩
  · have hk1 : (0 : Int) < (k : Int) := by omega
    go_enter Try.func56, Try.ntmps56
    go_upto_region 3 with ((first | ((with_reducible refine at_load rfl ?_); refine wpList_reads (by rfl) (kr_load_cell K _ _ (by rfl) (by rfl) Has.auto (by kernel_rfl) (hcells_73 _ _ _ _)) ?_) | ((with_reducible refine at_load rfl ?_); refine wpList_reads (by rfl) (kr_load_cell K _ _ (by rfl) (by rfl) Has.auto (by kernel_rfl) (hcells_72 _ _ _ _)) ?_) | ((with_reducible refine at_store rfl ?_); refine wpList_does rfl (kd_store_cell K _ _ _ rfl rfl (by conv => lhs; whnf) Repl.auto rfl rfl (by kernel_rfl) (by simp only [fcells_size, decide_eq_true_eq]; omega) (hcells_all _ _ _ _ _)) ?_; clear K; intro _ w1 K; (try simp only [Act.put]))))
    replace K := K.drew
    refine wp_region_G (S := (fun w' => ∃ r', Known w0 w' (row g (hcells s0 r' (k : Int) ((m : Int) + (n : Int))) 132 :: L))) (by kernel_rfl) (by kernel_rfl) (by kernel_rfl) (⟨_, by first | exact K | (rw [hcells_rest _ _ _ _ k _ (by simp [HXL.out]; omega)] at K; exact K)⟩) (fun hHeld => ?_)
    refine wpG_takeA 0 (v := ?_) ?_ hHeld ?_
    rotate_left
    · (intro w hS; (clear hS; go_simp); try with_reducible rfl)
    try simp only [Act.put, List.setIfInBounds_toArray, List.set_cons_zero, List.set_cons_succ]
    refine wpG_takeA 1 (v := ?_) ?_ hHeld ?_
    rotate_left
    · (intro w hS; (clear hS; go_simp); try with_reducible rfl)
    try simp only [Act.put, List.setIfInBounds_toArray, List.set_cons_zero, List.set_cons_succ]
    refine wpG_takeA 2 (v := ?_) ?_ hHeld ?_
    rotate_left
    · (intro w hS; (clear hS; go_simp); try with_reducible rfl)
    try simp only [Act.put, List.setIfInBounds_toArray, List.set_cons_zero, List.set_cons_succ]
    refine wpG_takeA 3 (v := ?_) ?_ hHeld ?_
    rotate_left
    · (intro w hS; (clear hS; go_simp); try with_reducible rfl)
    try simp only [Act.put, List.setIfInBounds_toArray, List.set_cons_zero, List.set_cons_succ]
    refine wpG_takeA 4 (v := ?_) ?_ hHeld ?_
    rotate_left
    · (intro w hS; (clear hS; go_simp); try with_reducible rfl)
    try simp only [Act.put, List.setIfInBounds_toArray, List.set_cons_zero, List.set_cons_succ]
    refine wpG_takeA 5 (v := ?_) ?_ hHeld ?_
    rotate_left
    · (intro w hS; (clear hS; go_simp); try with_reducible rfl)
    try simp only [Act.put, List.setIfInBounds_toArray, List.set_cons_zero, List.set_cons_succ]
    refine wpG_takeA 6 (v := .int .i64 (k : Int)) ?_ hHeld ?_
    · (intro w hS; obtain ⟨_, hS⟩ := hS; first | exact kr_load_cell hS _ _ (by rfl) (by rfl) Has.auto (by kernel_rfl) (hcells_72 _ _ _ _))
    try simp only [Act.put, List.setIfInBounds_toArray, List.set_cons_zero, List.set_cons_succ]
    refine wpG_takeA 7 (v := .slice (some ⟨g, 8 + k, none⟩) (64 - k) (64 - k)) ?_ hHeld ?_
    · (intro w hS; obtain ⟨_, hS⟩ := hS; first | exact kr_slice_arr_lt (by rfl) (by rfl) k 64 (.inr rfl) (.inl ⟨rfl, rfl⟩) (by omega) (by omega) (by omega) Try.underlying130 (by kernel_rfl))
    try simp only [Act.put, List.setIfInBounds_toArray, List.set_cons_zero, List.set_cons_succ]
    refine wpG_takeA 8 (v := ?_) ?_ hHeld ?_
    rotate_left
    · (intro w hS; (clear hS; go_simp); try with_reducible rfl)
    try simp only [Act.put, List.setIfInBounds_toArray, List.set_cons_zero, List.set_cons_succ]
    refine wpG_oneA 9 (fun K9 hK => ?_)
    refine st_does (by rfl) (kd_copy K (by rfl) (by rfl) (by rfl) (R.at_ _ (K.cov Cov.auto)) Try.underlying46 (by kernel_rfl) Repl.auto (by simp only [fcells_size]; omega)) ?_
    clear K; rintro _ w1 ⟨rfl, K⟩
    refine hK.out _ _ (⟨_, by first | exact K | (rw [hcells_rest _ _ _ _ k _ (by simp [HXL.out]; omega)] at K; exact K)⟩) (fun hHeld => ?_)
    clear hK K9
    try simp only [Act.put, List.setIfInBounds_toArray, List.set_cons_zero, List.set_cons_succ]
    refine wpG_takeA 10 (v := ?_) ?_ hHeld ?_
    rotate_left
    · (intro w hS; (clear hS; go_simp); try with_reducible rfl)
    try simp only [Act.put, List.setIfInBounds_toArray, List.set_cons_zero, List.set_cons_succ]
    refine wpG_done (by kernel_rfl) ?_
    skip
    rw [hcells_rest _ _ _ _ k _ (by simp [HXL.out]; omega)] at K
    by_cases hs : n < 64 - k
    · have e1 : ((min (64 - k) n : Nat) : Int) = (n : Int) := by omega
      rw [e1]
      have hs' : (k : Int) + (n : Int) < 64 := by omega
      go_wp2_with (first | ((with_reducible refine at_load rfl ?_); refine wpList_reads (by rfl) (kr_load_cell K _ _ (by rfl) (by rfl) Has.auto (by kernel_rfl) (hcells_72 _ _ _ _)) ?_) | ((with_reducible refine at_store rfl ?_); refine wpList_does rfl (kd_store_cell K _ _ _ rfl rfl (by conv => lhs; whnf) Repl.auto rfl rfl (by kernel_rfl) (by simp only [fcells_size, decide_eq_true_eq]; omega) (hcells_many _ _ _ _ _)) ?_; clear K; intro _ w1 K; (try simp only [Act.put])) | ((with_reducible refine at_slice (l := some _) (h := none) rfl ?_); refine wpList_does rfl (kd_slice K rfl rfl (n) (n) (.inr rfl) (.inl ⟨rfl, rfl⟩) (R) (by omega) (by omega) (by omega) Try.underlying46 (by kernel_rfl)) ?_; rintro _ w1 ⟨rfl, B1, rfl, R1⟩; (try simp only [Nat.sub_zero, List.drop_zero] at R1)))
      have HE := Lib.hid (hash_short bs xs r HR.out (by rw [← HMM.out, ← HK.out]; exact HRB.out) HB.out (by rw [← HMM.out, ← HK.out, HXL.out]; omega) (by rw [← HMM.out, HXL.out]; omega))
      rw [← HMM.out, ← HK.out, HXL.out, ← HS0.out] at HE
      rw [List.take_of_length_le (by rw [HXL.out]; omega), HXL.out] at K
      refine bodyPost_ret (results_none rfl _ _ _) rfl ?_
      exact ⟨rfl, _, HE.out, by rw [Int.natCast_add]; exact K⟩
    · have e1 : ((min (64 - k) n : Nat) : Int) = ((64 - k : Nat) : Int) := by omega
      rw [e1]
      have hs' : ¬ ((k : Int) + ((64 - k : Nat) : Int) < 64) := by omega
      have HF := Lib.hid (hash_fill bs xs r (by rw [← HMM.out, ← HK.out]; exact HRB.out) (by rw [← HMM.out, ← HK.out, HXL.out]; omega) (by rw [← HMM.out, ← HK.out]; omega))
      rw [← HMM.out, ← HK.out, ← HS0.out] at HF
      rw [show (xs.take (64 - k)).length = 64 - k by simp [HXL.out]; omega] at K
      obtain ⟨r1, hr1⟩ : ∃ r1 : Nat → Int, r1 = fun i => if k ≤ i ∧ i < k + (64 - k) then (xs.take (64 - k)).getD (i - k) 0 else r i := ⟨_, rfl⟩
      have HR1 : Hid (∀ i, 0 ≤ r1 i ∧ r1 i ≤ 255) := Lib.hid (fun i => by
        rw [hr1]
        dsimp only
        split
        · rw [List.getD_eq_getElem?_getD, List.getElem?_eq_getElem (by simp [HXL.out]; omega)]
          exact HB.out _ (List.mem_of_mem_take (List.getElem_mem _))
        · exact HR.out i)
      replace HR := HR1
      rw [← hr1] at K HF
      have HB3 := Lib.hid (show ∀ b ∈ (List.range 64).map r1, 0 ≤ b ∧ b ≤ 255 by
        intro b hb
        obtain ⟨i, _, rfl⟩ := List.mem_map.1 hb
        exact HR1.out i)
      clear hr1
      go_upto_region 9 with ((first | ((with_reducible refine at_load rfl ?_); refine wpList_reads (by rfl) (kr_load_cell K _ _ (by rfl) (by rfl) Has.auto (by kernel_rfl) (hcells_72 _ _ _ _)) ?_) | ((with_reducible refine at_store rfl ?_); refine wpList_does rfl (kd_store_cell K _ _ _ rfl rfl (by conv => lhs; whnf) Repl.auto rfl rfl (by kernel_rfl) (by simp only [fcells_size, decide_eq_true_eq]; omega) (hcells_many _ _ _ _ _)) ?_; clear K; intro _ w1 K; (try simp only [Act.put])) | ((with_reducible refine at_slice (l := some _) (h := none) rfl ?_); refine wpList_does rfl (kd_slice K rfl rfl (64 - k) (n) (.inr rfl) (.inl ⟨rfl, rfl⟩) (R) (by omega) (by omega) (by omega) Try.underlying46 (by kernel_rfl)) ?_; rintro _ w1 ⟨rfl, B1, rfl, R1⟩; (try simp only [Nat.sub_zero, List.drop_zero] at R1)) | ((with_reducible refine at_slice (l := none) (h := none) rfl ?_); refine wpList_reads rfl (kr_slice_arr rfl rfl (0) (64) (.inl ⟨rfl, rfl⟩) (.inl ⟨rfl, rfl⟩) (by omega) (by omega) Try.underlying130 (by kernel_rfl)) ?_) | (go_at_call 68; (with_reducible refine (takes_any K (hcells_rd _ _ _ _ (Has.hd _ _)) (by omega) (by omega) (by omega) HB3.out).mono ?_); clear K; rintro e w1 ⟨rfl, K⟩; rw [HF.out] at K)))
      have HP0 : Hid ((m + (64 - k)) % 64 = 0) := Lib.hid (by have := HK.out; omega)
      have R2 : RdS w0 L .u8 B1 (n - (64 - k)) (xs.drop (64 - k)) := by
        rw [List.take_of_length_le (by simp [HXL.out])] at R1
        exact R1
      go_wp2
      go_loopg [1] (n - (64 - k)) (fun d v wr => ∃ (p q : Nat) (A' : Option Addr) (c' : Nat), v = .slice A' q c' ∧ q ≤ c' ∧ c' ≤ 9223372036854775807 ∧ Hid ((m + p) % 64 = 0) ∧ p + q = n ∧ q ≤ d ∧ RdS w0 L .u8 A' q (xs.drop p) ∧ Known w0 wr (row g (hcells (S8.start.blocks (atL (bs ++ xs)) ((m + p) / 64)) r1 0 ((m : Int) + (n : Int))) 132 :: L))
      case atStart => exact ⟨64 - k, n - (64 - k), B1, c - (64 - k), rfl, by omega, by omega, HP0, by omega, by omega, R2, K⟩
      case round =>
        clear K
        obtain ⟨p, q, A', c', rfl, hc', hm', HP, hpq, hd, R', K⟩ := hrel
        by_cases hq : 64 ≤ q
        · have hq' : (64 : Int) ≤ (q : Int) := by omega
          have HT := Lib.hid (hash_block bs xs p (by rw [← HMM.out]; exact HP.out) (by rw [HXL.out]; omega))
          rw [← HMM.out] at HT
          have HB2 := Lib.hid (show ∀ b ∈ (xs.drop p).take 64, 0 ≤ b ∧ b ≤ 255 from fun b h => HB.out b (List.mem_of_mem_drop (List.mem_of_mem_take h)))
          go_wp2_with (first | ((with_reducible refine at_slice (l := none) (h := some _) rfl ?_); refine wpList_does rfl (kd_slice K rfl rfl (0) (64) (.inl ⟨rfl, rfl⟩) (.inr rfl) (R') (by omega) (by omega) (by omega) Try.underlying46 (by kernel_rfl)) ?_; rintro _ w1 ⟨rfl, B1, rfl, R1⟩; (try simp only [Nat.sub_zero, List.drop_zero] at R1)) | ((with_reducible refine at_slice (l := some _) (h := none) rfl ?_); refine wpList_does rfl (kd_slice K rfl rfl (64) (q) (.inr rfl) (.inl ⟨rfl, rfl⟩) (R') (by omega) (by omega) (by omega) Try.underlying46 (by kernel_rfl)) ?_; rintro _ w1 ⟨rfl, B2, rfl, R2⟩; (try simp only [Nat.sub_zero, List.drop_zero] at R2)) | (go_at_call 68; (with_reducible refine (takes_any K (R1.cov Cov.auto) (by omega) (by omega) (by omega) HB2.out).mono ?_); clear K; rintro e w1 ⟨rfl, K⟩))
          rw [HT.out] at K
          go_roundg (gk - 64)
          case measure => omega
          case rel => exact ⟨p + 64, q - 64, _, _, rfl, by omega, by omega, Lib.hid (by have := HP.out; omega), by omega, by omega, (by rw [List.take_of_length_le (by simp [HXL.out]; omega), List.drop_drop] at R2; exact R2), K⟩
        · have hq' : ¬ ((64 : Int) ≤ (q : Int)) := by omega
          have HE := Lib.hid (hash_end bs xs p r1 HR.out HB.out (by rw [← HMM.out]; exact HP.out) (by rw [HXL.out]; omega) (by rw [HXL.out]; omega) (by rw [HXL.out, ← HMM.out]; omega))
          rw [← HMM.out, HXL.out] at HE
          go_wp2_with (first | ((with_reducible refine at_slice (l := none) (h := none) rfl ?_); refine wpList_reads rfl (kr_slice_arr rfl rfl (0) (64) (.inl ⟨rfl, rfl⟩) (.inl ⟨rfl, rfl⟩) (by omega) (by omega) Try.underlying130 (by kernel_rfl)) ?_) | ((with_reducible refine at_copy rfl ?_); refine wpList_does rfl (kd_copy K rfl rfl rfl (R'.at_ _ (K.cov Cov.auto)) Try.underlying46 (by kernel_rfl) Repl.auto (by simp only [fcells_size]; omega)) ?_; clear K; rintro _ w1 ⟨rfl, K⟩; rw [List.take_of_length_le (by simp [HXL.out]; omega), hcells_rest0 _ _ _ _ _ (by simp [HXL.out]; omega)] at K) | ((with_reducible refine at_store rfl ?_); refine wpList_does rfl (kd_store_cell K _ _ _ rfl rfl (by conv => lhs; whnf) Repl.auto rfl rfl (by kernel_rfl) (by simp only [fcells_size, decide_eq_true_eq]; omega) (hcells_many _ _ _ _ _)) ?_; clear K; intro _ w1 K; (try simp only [Act.put])))
          go_end0
          exact ⟨rfl, _, HE.out, by rw [show min 64 q = n - p by omega] at K; exact K⟩
end
end Go.Proofs.Ytfdddipmeadecaa

/-
  sha: New, Hash.Sum, Sum (contracts).
-/
set_option linter.unusedVariables false
set_option linter.unusedSimpArgs false
namespace Go.Proofs.Ytfdddipmeadecaa
open Go.RowKit

/-- the sum of bytes -/
def shaL (bs : List Int) : List Int := (List.range 32).map (shaB (atL bs) bs.length)
theorem shaL_len (bs : List Int) : (shaL bs).length = 32 := by simp [shaL]
/-- what is put behind the bytes: 128 and zeros; how many bits -/
def padA (z : Nat) : List Int := (List.range (1 + z)).map fun j => if j = 0 then 128 else 0
def padL (n : Nat) : List Int := (List.range 8).map fun j => ((8 * n / 2 ^ (56 - 8 * j) % 256 : Nat) : Int)
def zerosN (n : Nat) : Nat := (119 - n % 64) % 64
theorem padA_len (z : Nat) : (padA z).length = 1 + z := by simp [padA]
theorem padL_len (n : Nat) : (padL n).length = 8 := by simp [padL]
theorem pad_total (n : Nat) : n + (1 + zerosN n) + 8 = 64 * padN n := by
  unfold zerosN padN
  omega
theorem padded_eq (bs : List Int) (i : Nat) (hi : i < 64 * padN bs.length) : atL (bs ++ padA (zerosN bs.length) ++ padL bs.length) i = padded (atL bs) bs.length i := by
  have ht := pad_total bs.length
  unfold padded
  by_cases h1 : i < bs.length
  · rw [if_pos h1, List.append_assoc, atL_app_left h1]
  · rw [if_neg h1]
    by_cases h2 : i < bs.length + (1 + zerosN bs.length)
    · rw [atL_app_left (by rw [List.length_append, padA_len]; exact h2), atL_app_right (by omega)]
      have hr : atL (padA (zerosN bs.length)) (i - bs.length) = if i - bs.length = 0 then 128 else 0 := by
        unfold atL padA
        simp [List.getD, show i - bs.length < 1 + zerosN bs.length by omega]
      rw [hr]
      by_cases h3 : i = bs.length
      · rw [if_pos (by omega), if_pos h3]
      · rw [if_neg (by omega), if_neg h3, if_pos (by omega)]
    · rw [atL_app_right (by rw [List.length_append, padA_len]; omega), List.length_append, padA_len, if_neg (by omega), if_neg (by omega)]
      unfold atL padL
      rw [show 64 * padN bs.length - 8 = bs.length + (1 + zerosN bs.length) by omega]
      have hlt : i - (bs.length + (1 + zerosN bs.length)) < 8 := by omega
      simp [List.getD, List.getElem?_range hlt]
theorem sha_state (bs : List Int) : S8.start.blocks (atL (bs ++ padA (zerosN bs.length) ++ padL bs.length)) (padN bs.length) = shaS (atL bs) bs.length :=
  S8.blocks_congr _ _ (fun i hi => padded_eq bs i hi)
theorem padA_cell (z : Nat) : ∀ j, j < 1 + z → upd (fun _ => Value.int .u8 0) 0 (Value.int .u8 128) (0 + j) = .int .u8 ((padA z).getD j 0) := by
  intro j hj
  unfold upd padA
  by_cases h : j = 0
  · subst h; simp [List.getD, List.getElem?_range hj]
  · simp [h, List.getD, List.getElem?_range hj]
/-- the bits' first j bytes are written -/
def padC (n j : Nat) (i : Nat) : Value := if i < j then .int .u8 ((8 * n / 2 ^ (56 - 8 * i) % 256 : Nat) : Int) else upd (fun _ => Value.int .u8 0) 0 (Value.int .u8 128) i
theorem padC_succ (n j : Nat) : upd (padC n j) j (.int .u8 (8 * (n : Int) / 2 ^ (56 - 8 * j) % 256)) = padC n (j + 1) := by
  have e0 : 8 * (n : Int) / 2 ^ (56 - 8 * j) % 256 = ((8 * n / 2 ^ (56 - 8 * j) % 256 : Nat) : Int) := by rw [Int.natCast_emod, Int.natCast_ediv, Int.natCast_mul, Int.natCast_pow]; rfl
  rw [e0]
  funext i
  unfold padC upd
  by_cases e : i = j
  · subst e; simp
  · by_cases h : i < j
    · simp [e, h, show i < j + 1 by omega]
    · simp [e, h, show ¬ i < j + 1 by omega]
theorem u8s_one (xs : List Int) : (u8s xs).all (·.oneCell') = true := by simp [u8s, Value.oneCell']
theorem padC_rd (n : Nat) : ∀ j, j < 8 → padC n 8 (0 + j) = .int .u8 ((padL n).getD j 0) := by
  intro j hj
  unfold padC padL
  rw [Nat.zero_add, if_pos hj]
  simp [List.getD, List.getElem?_range hj]
theorem padC_zero (n : Nat) : upd (fun _ => Value.int .u8 0) 0 (Value.int .u8 128) = padC n 0 := by
  funext i
  simp [padC]
/-- the sum's first j bytes are written -/
def outC (s : S8) (j : Nat) (i : Nat) : Value := if i < j then .int .u8 (((s.get (i / 4) >>> (24 - 8 * (i % 4))).toNat % 256 : Nat) : Int) else .int .u8 0
theorem outC_succ (s : S8) (j : Nat) : upd (outC s j) j (.int .u8 (un (s.get (j / 4)) / 2 ^ (24 - 8 * (j % 4)) % 256)) = outC s (j + 1) := by
  have e0 : un (s.get (j / 4)) / 2 ^ (24 - 8 * (j % 4)) % 256 = (((s.get (j / 4) >>> (24 - 8 * (j % 4))).toNat % 256 : Nat) : Int) := by
    rw [BitVec.toNat_ushiftRight, Nat.shiftRight_eq_div_pow, Int.natCast_emod, Int.natCast_ediv, Int.natCast_pow]
    rfl
  rw [e0]
  funext i
  unfold outC upd
  by_cases e : i = j
  · subst e; simp
  · by_cases h : i < j
    · simp [e, h, show i < j + 1 by omega]
    · simp [e, h, show ¬ i < j + 1 by omega]
theorem outC_full (bs : List Int) : fcells 32 (outC (shaS (atL bs) bs.length) 32) = u8s (shaL bs) := by
  rw [shaL, ← fcells_u8s]
  apply fcells_congr
  intro i hi
  unfold outC shaB
  rw [if_pos hi]
theorem hcells_state (s : S8) (r : Nat → Int) (m a : Int) {i : Nat} (h : i < 8) : (hcells s r m a)[i]? = some (wv (s.get i)) := by
  rw [fcells_get _ (by omega)]
  simp [hcell, h]
theorem padA_byte (z : Nat) : ∀ b ∈ padA z, 0 ≤ b ∧ b ≤ 255 := by
  intro b hb
  obtain ⟨j, _, rfl⟩ := List.mem_map.1 hb
  split <;> omega
theorem padL_byte (n : Nat) : ∀ b ∈ padL n, 0 ≤ b ∧ b ≤ 255 := by
  intro b hb
  obtain ⟨j, _, rfl⟩ := List.mem_map.1 hb
  omega
theorem hnew_build (w : World) : (Instr.build 132 #[(0, .agg #[.int .u32 1779033703, .int .u32 3144134277, .int .u32 1013904242, .int .u32 2773480762, .int .u32 1359893119, .int .u32 2600822924, .int .u32 528734635, .int .u32 1541459225])]).run Try.prog w = .ok (.agg (hcells S8.start (fun _ => 0) 0 0)) w := by kernel_rfl
theorem hashIs_nil : HashIs [] (hcells S8.start (fun _ => 0) 0 0) := ⟨⟨fun _ => 0, rfl, fun _ => ⟨Int.le_refl 0, by show (0 : Int) ≤ 255; decide⟩, by intro i hi; simp at hi⟩, by simp⟩
section
variable {w0 w : World} {L : List Ent} {g : Nat} {bs : List Int} {cs : Array Value}
set_option maxRecDepth 100000 in
theorem hnew_any (K : Known w0 w L) : Calls Try.prog 55 #[] w fun e w' => ∃ g, e = .returned (.pointer (some ⟨g, 0, none⟩)) ∧ Known w0 w' (row g (hcells S8.start (fun _ => 0) 0 0) 132 :: L) := by
  go_enter Try.func55, Try.ntmps55
  go_wp2_with (first | ((with_reducible refine at_build (t := 132) rfl ?_); refine ev_build rfl 132 rfl (vals := #[(0, .agg #[.int .u32 1779033703, .int .u32 3144134277, .int .u32 1013904242, .int .u32 2773480762, .int .u32 1359893119, .int .u32 2600822924, .int .u32 528734635, .int .u32 1541459225])]) (by first | rfl | (go_simp; done) | (go_simp; rfl)) (hnew_build _) ?_) | ((with_reducible refine at_box rfl ?_); refine wpList_does rfl (kd_box K _ _ rfl (by conv => lhs; whnf)) ?_; clear K; rintro _ w1 ⟨g, rfl, K⟩; (try dsimp only [Value.cells] at K)))
  go_ret
  exact ⟨g, rfl, K⟩


theorem hcells_one (s : S8) (r : Nat → Int) (m a : Int) : (hcells s r m a).all (·.oneCell') = true := by
  simp only [fcells, List.all_toArray, List.all_map, List.all_eq_true]
  intro i hi
  simp only [Function.comp, hcell]
  repeat' split
  all_goals rfl
set_option maxHeartbeats 1600000 in
set_option maxRecDepth 100000 in
theorem hsum_any (K : Known w0 w (row g cs 132 :: L)) (hH : HashIs bs cs) (hb : ∀ b ∈ bs, 0 ≤ b ∧ b ≤ 255) (hl : bs.length ≤ 100000000000) :
    Calls Try.prog 57 #[.pointer (some ⟨g, 0, none⟩)] w fun e w' => e = .returned (.agg (u8s (shaL bs))) ∧ Known w0 w' (row g cs 132 :: L) := by
  have HH := Lib.hid hH
  obtain ⟨r, e0, hr, hrb⟩ := hH.out
  obtain ⟨s0, hs0⟩ : ∃ s0, s0 = S8.start.blocks (atL bs) (bs.length / 64) := ⟨_, rfl⟩
  obtain ⟨m, hmm⟩ : ∃ m, m = bs.length := ⟨_, rfl⟩
  obtain ⟨k, hk⟩ : ∃ k, k = m % 64 := ⟨_, rfl⟩
  rw [← hs0, ← hmm, ← hk] at e0
  subst e0
  have HMM := Lib.hid hmm
  have hk6 : k < 64 := by omega
  have hm9 : m ≤ 100000000000 := by omega
  have HZ := Lib.hid (show (119 - k) % 64 = zerosN bs.length by rw [zerosN, ← hmm, hk])
  have HB := Lib.hid hb
  clear hH hr hrb hs0 hk hmm hb hl
  have i1 := IntWalk.i64_in (119 - (k : Int)) (by omega)
  have i2 := IntWalk.u64_in (8 * (m : Int)) (by omega)
  go_enter Try.func57, Try.ntmps57
  go_upto_region 8 with ((first | ((with_reducible refine at_slot (N := 2) rfl ?_); (with_reducible refine at_alloc rfl ?_); refine wpList_does rfl (kd_alloc (z := (.agg (u8s (List.replicate 32 0)))) K _ rfl (by kernel_rfl)) ?_; clear K; rintro _ w1 ⟨gd, rfl, K⟩; (try dsimp only [Value.cells] at K)) | ((with_reducible refine at_load rfl ?_); refine wpList_reads (by rfl) (kr_load_row K _ _ (by rfl) (by rfl) Has.auto (by kernel_rfl) (by rw [fcells_size]; kernel_rfl)) ?_) | ((with_reducible refine at_slot (N := 3) rfl ?_); (with_reducible refine at_alloc rfl ?_); refine wpList_does rfl (kd_alloc (z := (.agg (hcells ⟨0,0,0,0,0,0,0,0⟩ (fun _ => 0) 0 0))) K _ rfl (by kernel_rfl)) ?_; clear K; rintro _ w1 ⟨gx, rfl, K⟩; (try dsimp only [Value.cells] at K)) | ((with_reducible refine at_store rfl ?_); refine wpList_does (by rfl) (kd_store_row K _ _ _ (by rfl) (by rfl) (by rfl) Repl.auto (by rw [fcells_size]; kernel_rfl) (by rw [fcells_size, fcells_size]; rfl) (hcells_one _ _ _ _)) ?_; clear K; intro _ w1 K; (try simp only [Act.put])) | ((with_reducible refine at_load rfl ?_); refine wpList_reads (by rfl) (kr_load_cell K _ _ (by rfl) (by rfl) Has.auto (by kernel_rfl) (hcells_73 _ _ _ _)) ?_) | ((with_reducible refine at_load rfl ?_); refine wpList_reads (by rfl) (kr_load_cell K _ _ (by rfl) (by rfl) Has.auto (by kernel_rfl) (hcells_72 _ _ _ _)) ?_) | ((with_reducible refine at_slot (N := 5) rfl ?_); (with_reducible refine at_alloc rfl ?_); refine wpList_does rfl (kd_alloc (z := (.agg (fcells 72 (fun _ => .int .u8 0)))) K _ rfl (by kernel_rfl)) ?_; clear K; rintro _ w1 ⟨ge, rfl, K⟩; (try dsimp only [Value.cells] at K)) | ((with_reducible refine at_store rfl ?_); refine wpList_does rfl (kd_store_cell K _ _ _ rfl rfl (by conv => lhs; whnf) Repl.auto rfl rfl (by kernel_rfl) (by simp only [fcells_size, decide_eq_true_eq]; omega) (fcells_set _ _ (by omega))) ?_; clear K; intro _ w1 K; (try simp only [Act.put]))))
  obtain ⟨z, hz⟩ : ∃ z, (119 - k) % 64 = z := ⟨_, rfl⟩
  have hz6 : z < 64 := by omega
  rw [show (119 - (k : Int)) % 64 = (z : Int) by omega]
  have HZ2 := Lib.hid (show z = zerosN bs.length by rw [← hz]; exact HZ.out)
  clear hz i1
  go_upto_region 9 with ((first | ((with_reducible refine at_slice (l := none) (h := some _) rfl ?_); refine wpList_reads rfl (kr_slice_arr rfl rfl (0) (1 + z) (.inl ⟨rfl, rfl⟩) (.inr rfl) (by omega) (by omega) Try.underlying133 (by kernel_rfl)) ?_) | (go_at_call 56; (with_reducible refine (hwrite_any (show Known w0 _ (row gx _ _ :: row ge _ _ :: row gd _ _ :: row g _ _ :: L) from K.cov Cov.auto) HH.out (xs := padA z) (fcells_rd (Has.hd _ _) (padA_len z) (by omega) (padA_cell z)) (by omega) (by omega) (padA_byte z) (by rw [← HMM.out]; omega)).mono ?_); clear K; rintro e w1 ⟨rfl, cs1, H1, K⟩)))
  go_wp2
  go_loopg [28] 8 (fun d i wr => ∃ (j : Nat), i = .int .i64 j ∧ j + d = 8 ∧ Known w0 wr (row gx cs1 132 :: row ge (fcells 72 (padC m j)) 133 :: row gd (u8s (List.replicate 32 0)) 39 :: row g (hcells s0 r (k : Int) (m : Int)) 132 :: L))
  case atStart => exact ⟨0, by go_num, by omega, by rw [← padC_zero]; exact K⟩
  case round =>
    clear K
    obtain ⟨j, rfl, hd, K⟩ := hrel
    by_cases hj : j < 8
    · have hj1 : (0 : Int) ≤ (j : Int) ∧ (j : Int) < 72 := by omega
      have j1 := IntWalk.i64_in (8 * (j : Int)) (by omega)
      have j2 := IntWalk.i64_in (56 - 8 * (j : Int)) (by omega)
      have hj8 : (j : Int) < 8 := by omega
      go_wp2_with (first | ((with_reducible refine at_bin (b := .shr) rfl ?_); refine wpList_reads rfl (kr_shrU (56 - 8 * j) rfl rfl (by first | rfl | omega | (simp; omega)) (by omega) (by show _ ≤ _; simp [IntKind.bits]; omega)) ?_) | ((with_reducible refine at_store rfl ?_); refine wpList_does rfl (kd_store_cell K _ _ _ rfl rfl (by conv => lhs; whnf) Repl.auto rfl rfl (by kernel_rfl) (by simp only [fcells_size, decide_eq_true_eq]; omega) (fcells_set _ _ (by omega))) ?_; clear K; intro _ w1 K; (try simp only [Act.put])))
      go_roundg (gk - 1)
      case measure => omega
      case rel => exact ⟨j + 1, by go_num, by omega, by rw [← padC_succ]; exact K⟩
    · obtain rfl : j = 8 := by omega
      go_upto_region 15 with ((first | ((with_reducible refine at_slice (l := none) (h := some _) rfl ?_); refine wpList_reads rfl (kr_slice_arr rfl rfl (0) (8) (.inl ⟨rfl, rfl⟩) (.inr rfl) (by omega) (by omega) Try.underlying133 (by kernel_rfl)) ?_) | (go_at_call 56; (with_reducible refine (hwrite_any (show Known w0 _ (row gx _ _ :: row ge _ _ :: row gd _ _ :: row g _ _ :: L) from K.cov Cov.auto) H1 (xs := padL m) (fcells_rd (Has.hd _ _) (padL_len m) (by omega) (padC_rd m)) (by omega) (by omega) (padL_byte m) (by rw [List.length_append, ← HMM.out, padA_len]; omega)).mono ?_); clear K; rintro e w1 ⟨rfl, cs2, H2, K⟩)))
      have HT := Lib.hid (pad_total bs.length)
      obtain ⟨r2, e2, _, _⟩ := H2.out
      have hlen : (bs ++ padA z ++ padL m).length / 64 = padN bs.length := by
        rw [List.length_append, List.length_append, padA_len, padL_len, HZ2.out, pad_total]
        omega
      rw [hlen] at e2
      obtain ⟨st, hst⟩ : ∃ st, st = shaS (atL bs) bs.length := ⟨_, rfl⟩
      rw [HZ2.out, HMM.out, sha_state, ← hst] at e2
      obtain ⟨q1, hq1⟩ : ∃ q : Int, q = (((bs ++ padA (zerosN bs.length) ++ padL bs.length).length % 64 : Nat) : Int) := ⟨_, rfl⟩
      obtain ⟨q2, hq2⟩ : ∃ q : Int, q = ((bs ++ padA (zerosN bs.length) ++ padL bs.length).length : Int) := ⟨_, rfl⟩
      rw [← hq1, ← hq2] at e2
      subst e2
      have HST := Lib.hid hst
      clear hst hq1 hq2 H1 H2 hlen HT
      go_wp2_with (first | ((with_reducible refine at_slot (N := 8) rfl ?_); (with_reducible refine at_alloc rfl ?_); refine wpList_does rfl (kd_alloc (z := (.agg (fcells 32 (outC st 0)))) K _ rfl (by kernel_rfl)) ?_; clear K; rintro _ w1 ⟨go, rfl, K⟩; (try dsimp only [Value.cells] at K)))
      go_loopg [43] 32 (fun d i wr => ∃ (j : Nat), i = .int .i64 j ∧ j + d = 32 ∧ Known w0 wr (row go (fcells 32 (outC st j)) 39 :: row gx (hcells st r2 q1 q2) 132 :: row gd (u8s (List.replicate 32 0)) 39 :: row g (hcells s0 r (k : Int) (m : Int)) 132 :: L))
      case atStart => exact ⟨0, by go_num, by omega, K.cov Cov.auto⟩
      case round =>
        clear K
        obtain ⟨j, rfl, hd, K⟩ := hrel
        by_cases hj : j < 32
        · have hj8 : (j : Int) < 32 := by omega
          have hj1 : (0 : Int) ≤ (j : Int) ∧ (j : Int) < 32 := by omega
          have hj2 : (0 : Int) ≤ (j : Int) / 4 ∧ (j : Int) / 4 < 8 := by omega
          have j1 := IntWalk.i64_in (8 * ((j : Int) % 4)) (by omega)
          have j2 := IntWalk.i64_in (24 - 8 * ((j : Int) % 4)) (by omega)
          go_wp2_with (first | ((with_reducible refine at_load rfl ?_); refine wpList_reads (by rfl) (kr_load_cell K _ _ (by rfl) (by rfl) Has.auto (by kernel_rfl) ((hcells_state _ _ _ _ (i := j / 4) (by omega)))) ?_) | ((with_reducible refine at_bin (b := .shr) rfl ?_); refine wpList_reads rfl (kr_shrU (24 - 8 * (j % 4)) rfl rfl (by first | rfl | omega | (simp; omega)) (by unfold un; omega) (by show _ ≤ _; simp [IntKind.bits]; omega)) ?_) | ((with_reducible refine at_store rfl ?_); refine wpList_does rfl (kd_store_cell K _ _ _ rfl rfl (by conv => lhs; whnf) Repl.auto rfl rfl (by kernel_rfl) (by simp only [fcells_size, decide_eq_true_eq]; omega) (fcells_set _ _ (by omega))) ?_; clear K; intro _ w1 K; (try simp only [Act.put])))
          go_roundg (gk - 1)
          case measure => omega
          case rel => exact ⟨j + 1, by go_num, by omega, by rw [← outC_succ]; exact K⟩
        · obtain rfl : j = 32 := by omega
          rw [HST.out, outC_full] at K
          go_wp2_with (first | ((with_reducible refine at_load rfl ?_); refine wpList_reads (by rfl) (kr_load_row K _ _ (by rfl) (by rfl) Has.auto (by kernel_rfl) (by rw [u8s_size, shaL_len]; kernel_rfl)) ?_) | ((with_reducible refine at_store rfl ?_); refine wpList_does (by rfl) (kd_store_row K _ _ _ (by rfl) (by rfl) (by rfl) Repl.auto (by rw [u8s_size, shaL_len]; kernel_rfl) (by rw [u8s_size, u8s_size, shaL_len]; rfl) (u8s_one _)) ?_; clear K; intro _ w1 K; (try simp only [Act.put])))
          exact bodyPost_cellK K (by rfl) (by rfl) Has.auto (by kernel_rfl) (by rw [u8s_size, shaL_len]; kernel_rfl) rfl ⟨rfl, K.cov Cov.auto⟩
set_option maxRecDepth 100000 in
theorem sum_any {A : Option Addr} {n c : Nat} {xs : List Int} (K : Known w0 w L) (R : RdS w0 L .u8 A n xs) (hc : n ≤ c) (hm : c ≤ 9223372036854775807) (hb : ∀ b ∈ xs, 0 ≤ b ∧ b ≤ 255) (hn : n ≤ 100000000000) :
    Calls Try.prog 43 #[.slice A n c] w fun e w' => e = .returned (.agg (u8s (shaL xs))) ∧ Known w0 w' L := by
  have hl := R.len
  have HB := Lib.hid hb
  clear hb
  go_enter Try.func43, Try.ntmps43
  go_wp2_with (first | ((with_reducible refine at_slot (N := 2) rfl ?_); (with_reducible refine at_alloc rfl ?_); refine wpList_does rfl (kd_alloc (z := (.agg (u8s (List.replicate 32 0)))) K _ rfl (by kernel_rfl)) ?_; clear K; rintro _ w1 ⟨gd, rfl, K⟩; (try dsimp only [Value.cells] at K)) | (go_at_call 55; (with_reducible refine (hnew_any K).mono ?_); clear K; rintro e w1 ⟨gh, rfl, K⟩) | (go_at_call 56; (with_reducible refine (hwrite_any K hashIs_nil (R.cov Cov.auto) hc hm HB.out (by simp; omega)).mono ?_); clear K; rintro e w1 ⟨rfl, cs, H, K⟩; rw [List.nil_append] at H) | (go_at_call 57; (with_reducible refine (hsum_any K H HB.out (by omega)).mono ?_); clear K; rintro e w1 ⟨rfl, K⟩) | ((with_reducible refine at_store rfl ?_); refine wpList_does (by rfl) (kd_store_row K _ _ _ (by rfl) (by rfl) (by rfl) Repl.auto (by rw [u8s_size, shaL_len]; kernel_rfl) (by rw [u8s_size, u8s_size, shaL_len]; rfl) (u8s_one _)) ?_; clear K; intro _ w1 K; (try simp only [Act.put])))
  exact bodyPost_cellK K (by rfl) (by rfl) Has.auto (by kernel_rfl) (by rw [u8s_size, shaL_len]; kernel_rfl) rfl ⟨rfl, K.cov Cov.auto⟩
end
end Go.Proofs.Ytfdddipmeadecaa

/-
  sha: the reference's sum (contracts).
-/
set_option linter.unusedVariables false
set_option linter.unusedSimpArgs false
namespace Go.Proofs.Ytfdddipmeadecaa
open Go.RowKit
section
variable {w0 w : World} {L : List Ent}
theorem rturn_any (K : Known w0 w L) (p : U) (n : Nat) (hn : n ≤ 32) : Calls Try.prog 83 #[wv p, .int .i64 (n : Int)] w fun e w' => e = .returned (wv (rotr n p)) ∧ Known w0 w' L := by
  have i1 := IntWalk.i64_in ((32 - n : Nat) : Int) (by omega)
  have e1 : (32 - (n : Int)) = ((32 - n : Nat) : Int) := by omega
  go_enter Try.func83, Try.ntmps83
  go_upto_region 1 with (fail)
  refine wp_region_QLK K (by kernel_rfl) (by kernel_rfl) ?_
  clear K
  refine wpQL_A (k := 0) (v := ?_) ?_ ?_
  rotate_left
  · (intro w hS; (clear hS; go_simp); try with_reducible rfl)
  try simp only [Act.put, List.setIfInBounds_toArray, List.set_cons_zero, List.set_cons_succ]
  refine wpQL_A (k := 1) (v := ?_) ?_ ?_
  rotate_left
  · (intro w hS; (clear hS; go_simp); try with_reducible rfl)
  try simp only [Act.put, List.setIfInBounds_toArray, List.set_cons_zero, List.set_cons_succ]
  refine wpQL_A (k := 2) (v := wv (p >>> n)) ?_ ?_
  · (intro w hS; exact kr_shr32 n (by omega) (by rfl) (by rfl) (by rfl))
  try simp only [Act.put, List.setIfInBounds_toArray, List.set_cons_zero, List.set_cons_succ]
  refine wpQL_A (k := 3) (v := ?_) ?_ ?_
  rotate_left
  · (intro w hS; (clear hS; go_simp); try with_reducible rfl)
  try simp only [Act.put, List.setIfInBounds_toArray, List.set_cons_zero, List.set_cons_succ]
  refine wpQL_A (k := 4) (v := ?_) ?_ ?_
  rotate_left
  · (intro w hS; (clear hS; go_simp); try with_reducible rfl)
  try simp only [Act.put, List.setIfInBounds_toArray, List.set_cons_zero, List.set_cons_succ]
  refine wpQL_A (k := 5) (v := ?_) ?_ ?_
  rotate_left
  · (intro w hS; (clear hS; go_simp); try with_reducible rfl)
  try simp only [Act.put, List.setIfInBounds_toArray, List.set_cons_zero, List.set_cons_succ]
  refine wpQL_A (k := 6) (v := wv (p <<< (32 - n))) ?_ ?_
  · (intro w hS; exact kr_shl32 (32 - n) (by omega) (by rfl) (by rfl) (by rfl))
  try simp only [Act.put, List.setIfInBounds_toArray, List.set_cons_zero, List.set_cons_succ]
  refine wpQL_A (k := 7) (v := ?_) ?_ ?_
  rotate_left
  · (intro w hS; (clear hS; go_simp); try with_reducible rfl)
  try simp only [Act.put, List.setIfInBounds_toArray, List.set_cons_zero, List.set_cons_succ]
  refine wpQL_endA (k := 8) (fun w1 K K9 hK => ?_)
  refine st_reads (v := ?_) (by rfl) ?_ ?_
  rotate_left
  · (go_simp; try with_reducible rfl)
  refine hK.out _ _ ?_
  clear hK K9
  try simp only [Act.put, List.setIfInBounds_toArray, List.set_cons_zero, List.set_cons_succ]
  skip
  go_wp2
  go_ret
  exact ⟨rfl, K⟩


theorem build_w64 (w : World) : (Instr.build 125 #[]).run Try.prog w = .ok (.agg (wcells (fun _ => 0#32) 64)) w := by kernel_rfl
theorem rnd_cells (t : S8) (x y : U) : wcells (t.rnd x y).get 8 = #[wv (t.get 7 + (rotr 6 (t.get 4) ^^^ rotr 11 (t.get 4) ^^^ rotr 25 (t.get 4)) + (t.get 4 &&& t.get 5 ||| ~~~t.get 4 &&& t.get 6) + x + y + ((rotr 2 (t.get 0) ^^^ rotr 13 (t.get 0) ^^^ rotr 22 (t.get 0)) + (t.get 0 &&& t.get 1 ||| t.get 0 &&& t.get 2 ||| t.get 1 &&& t.get 2))), wv (t.get 0), wv (t.get 1), wv (t.get 2), wv (t.get 3 + (t.get 7 + (rotr 6 (t.get 4) ^^^ rotr 11 (t.get 4) ^^^ rotr 25 (t.get 4)) + (t.get 4 &&& t.get 5 ||| ~~~t.get 4 &&& t.get 6) + x + y)), wv (t.get 4), wv (t.get 5), wv (t.get 6)] := by
  rw [ch_or, maj_or]
  rfl
def addR (s t : S8) (k : Nat) (i : Nat) : U := if i < k then t.get i + s.get i else t.get i
theorem addR_at (s t : S8) (k : Nat) : addR s t k k = t.get k := by simp [addR]
theorem addR_zero (s t : S8) : t.get = addR s t 0 := by funext i; simp [addR]
theorem addR_succ (s t : S8) (k : Nat) : upd (addR s t k) k (t.get k + s.get k) = addR s t (k + 1) := by
  funext i
  unfold upd addR
  by_cases e : i = k
  · subst e; simp
  · by_cases h : i < k
    · simp [e, h, show i < k + 1 by omega]
    · simp [e, h, show ¬ i < k + 1 by omega]
theorem addR_full (s t : S8) : wcells (addR s t 8) 8 = wcells (S8.add t s).get 8 := by
  apply fcells_congr
  intro i hi
  rw [addR, if_pos hi, get_add s t i hi]
set_option maxHeartbeats 3200000 in
set_option maxRecDepth 100000 in
theorem rone_any {A : Option Addr} {n c : Nat} {xs : List Int} {s : S8} {bf : Nat → Int} (hbf : bf = fun i => xs.getD i 0) (K : Known w0 w L) (R : RdS w0 L .u8 A n xs) (hn : 64 ≤ n) (hc : n ≤ c) (hb : ∀ b ∈ xs, 0 ≤ b ∧ b ≤ 255) :
    Calls Try.prog 66 #[.agg (wcells s.get 8), .slice A n c, .agg (wcells rootK 64)] w fun e w' => e = .returned (.agg (wcells (s.block bf).get 8)) ∧ Known w0 w' L := by
  obtain ⟨b, off, rfl⟩ := R.form K (by omega)
  have HB : ∀ j, j < n → 0 ≤ xs.getD j 0 ∧ xs.getD j 0 ≤ 255 := fun j hj => by
    have : j < xs.length := by rw [R.len]; exact hj
    rw [List.getD_eq_getElem?_getD, List.getElem?_eq_getElem this]
    exact hb _ (List.getElem_mem this)
  replace HB := Lib.hid HB
  have HBF := Lib.hid hbf
  have HSB := Lib.hid (show s.block bf = (s.rnds rootK (wrow bf 64) 64).add s from rfl)
  clear hb hbf
  go_enter Try.func66, Try.ntmps66
  go_upto_region 3 with ((first | ((with_reducible refine at_slot (N := 3) rfl ?_); (with_reducible refine at_box rfl ?_); refine wpList_does rfl (kd_box K _ _ rfl (by conv => lhs; whnf)) ?_; clear K; rintro _ w1 ⟨gs, rfl, K⟩; (try dsimp only [Value.cells] at K)) | ((with_reducible refine at_slot (N := 5) rfl ?_); (with_reducible refine at_box rfl ?_); refine wpList_does rfl (kd_box K _ _ rfl (by conv => lhs; whnf)) ?_; clear K; rintro _ w1 ⟨gq, rfl, K⟩; (try dsimp only [Value.cells] at K)) | ((with_reducible refine at_slot (N := 6) rfl ?_); (with_reducible refine at_alloc rfl ?_); refine wpList_does rfl (kd_alloc (z := (.agg (wcells (fun _ => 0#32) 8))) K _ rfl (by kernel_rfl)) ?_; clear K; rintro _ w1 ⟨gr, rfl, K⟩; (try dsimp only [Value.cells] at K)) | ((with_reducible refine at_build (t := 125) rfl ?_); refine ev_build0 rfl 125 rfl (build_w64 _) ?_) | ((with_reducible refine at_slot (N := 7) rfl ?_); (with_reducible refine at_alloc rfl ?_); refine wpList_does rfl (kd_alloc (z := (.agg (wcells (fun _ => 0#32) 64))) K _ rfl (by kernel_rfl)) ?_; clear K; rintro _ w1 ⟨gw, rfl, K⟩; (try dsimp only [Value.cells] at K)) | ((with_reducible refine at_store rfl ?_); refine wpList_does (by rfl) (kd_store_row K _ _ _ (by rfl) (by rfl) (by rfl) Repl.auto (by rw [fcells_size]; kernel_rfl) (by first | (rw [fcells_size, fcells_size]; rfl) | (rw [fcells_size]; rfl) | (simp only [fcells_size, u8s_size]; done) | (simp only [fcells_size, u8s_size]; rfl)) (wcells_one _ _)) ?_; clear K; intro _ w1 K; (try simp only [Act.put]))))
  go_loopg [8] 64 (fun d i wr => ∃ k : Nat, i = .int .i64 k ∧ k + d = 64 ∧ Known w0 wr (row gw (wcells (wrow bf k) 64) 125 :: row gr (wcells (fun _ => 0#32) 8) 124 :: row gq (wcells rootK 64) 125 :: row gs (wcells s.get 8) 124 :: L))
  case atStart => exact ⟨0, by go_num, by omega, K⟩
  case round =>
    clear K
    obtain ⟨k, rfl, hd, K⟩ := hrel
    by_cases hk : k < 64
    · have x4 : (0 : Int) ≤ (k : Int) ∧ (k : Int) < 64 := by omega
      by_cases hk16 : k < 16
      · have hk16' : (k : Int) < 16 := by omega
        obtain ⟨q0, h0⟩ : ∃ q, q = byteW (xs.getD (4 * k) 0) := ⟨_, rfl⟩
        obtain ⟨q1, h1⟩ : ∃ q, q = byteW (xs.getD (4 * k + 1) 0) := ⟨_, rfl⟩
        obtain ⟨q2, h2⟩ : ∃ q, q = byteW (xs.getD (4 * k + 2) 0) := ⟨_, rfl⟩
        obtain ⟨q3, h3⟩ : ∃ q, q = byteW (xs.getD (4 * k + 3) 0) := ⟨_, rfl⟩
        have H0 := Lib.hid (h0 ▸ un_byteW (HB.out (4 * k) (by omega)) : xs.getD (4 * k) 0 = un q0)
        have H1 := Lib.hid (h1 ▸ un_byteW (HB.out (4 * k + 1) (by omega)) : xs.getD (4 * k + 1) 0 = un q1)
        have H2 := Lib.hid (h2 ▸ un_byteW (HB.out (4 * k + 2) (by omega)) : xs.getD (4 * k + 2) 0 = un q2)
        have H3 := Lib.hid (h3 ▸ un_byteW (HB.out (4 * k + 3) (by omega)) : xs.getD (4 * k + 3) 0 = un q3)
        have HN := Lib.hid (show wrow bf (k + 1) = upd (wrow bf k) k (q0 <<< 24 ||| q1 <<< 16 ||| q2 <<< 8 ||| q3) by
          rw [wrow_succ, wnext, if_pos hk16, word4, h0, h1, h2, h3, HBF.out])
        clear h0 h1 h2 h3
        have x0 : (0 : Int) ≤ 4 * (k : Int) ∧ 4 * (k : Int) < (n : Int) := by omega
        have x1 : (0 : Int) ≤ 4 * (k : Int) + 1 ∧ 4 * (k : Int) + 1 < (n : Int) := by omega
        have x2 : (0 : Int) ≤ 4 * (k : Int) + 2 ∧ 4 * (k : Int) + 2 < (n : Int) := by omega
        have x3 : (0 : Int) ≤ 4 * (k : Int) + 3 ∧ 4 * (k : Int) + 3 < (n : Int) := by omega
        have k4 := IntWalk.i64_in (4 * (k : Int)) (by omega)
        have k41 := IntWalk.i64_in (4 * (k : Int) + 1) (by omega)
        have k42 := IntWalk.i64_in (4 * (k : Int) + 2) (by omega)
        have k43 := IntWalk.i64_in (4 * (k : Int) + 3) (by omega)
        go_upto_region 6 with (fail)
        refine wp_region_QLK K (by kernel_rfl) (by kernel_rfl) ?_
        clear K
        refine wpQL_A (k := 0) (v := ?_) ?_ ?_
        rotate_left
        · (intro w hS; (clear hS; go_simp); try with_reducible rfl)
        try simp only [Act.put, List.setIfInBounds_toArray, List.set_cons_zero, List.set_cons_succ]
        refine wpQL_A (k := 1) (v := ?_) ?_ ?_
        rotate_left
        · (intro w hS; (clear hS; go_simp); try with_reducible rfl)
        try simp only [Act.put, List.setIfInBounds_toArray, List.set_cons_zero, List.set_cons_succ]
        refine wpQL_A (k := 2) (v := ?_) ?_ ?_
        rotate_left
        · (intro w hS; (clear hS; go_simp); try with_reducible rfl)
        try simp only [Act.put, List.setIfInBounds_toArray, List.set_cons_zero, List.set_cons_succ]
        refine wpQL_A (k := 3) (v := ?_) ?_ ?_
        rotate_left
        · (intro w hS; (clear hS; go_simp); try with_reducible rfl)
        try simp only [Act.put, List.setIfInBounds_toArray, List.set_cons_zero, List.set_cons_succ]
        refine wpQL_A (k := 4) (v := ?_) ?_ ?_
        rotate_left
        · (intro w hS; (clear hS; go_simp); try with_reducible rfl)
        try simp only [Act.put, List.setIfInBounds_toArray, List.set_cons_zero, List.set_cons_succ]
        refine wpQL_A (k := 5) (v := .int .u8 (un q0)) ?_ ?_
        · (intro w hS; exact kr_load_fact _ _ (by rfl) (by rfl) (R.cell (hS.cov Cov.auto) (by omega) H0.out (by omega)) (by kernel_rfl))
        try simp only [Act.put, List.setIfInBounds_toArray, List.set_cons_zero, List.set_cons_succ]
        refine wpQL_A (k := 6) (v := ?_) ?_ ?_
        rotate_left
        · (intro w hS; (clear hS; go_simp); try with_reducible rfl)
        try simp only [Act.put, List.setIfInBounds_toArray, List.set_cons_zero, List.set_cons_succ]
        refine wpQL_A (k := 7) (v := ?_) ?_ ?_
        rotate_left
        · (intro w hS; (clear hS; go_simp); try with_reducible rfl)
        try simp only [Act.put, List.setIfInBounds_toArray, List.set_cons_zero, List.set_cons_succ]
        refine wpQL_A (k := 8) (v := ?_) ?_ ?_
        rotate_left
        · (intro w hS; (clear hS; go_simp); try with_reducible rfl)
        try simp only [Act.put, List.setIfInBounds_toArray, List.set_cons_zero, List.set_cons_succ]
        refine wpQL_A (k := 9) (v := ?_) ?_ ?_
        rotate_left
        · (intro w hS; (clear hS; go_simp); try with_reducible rfl)
        try simp only [Act.put, List.setIfInBounds_toArray, List.set_cons_zero, List.set_cons_succ]
        refine wpQL_A (k := 10) (v := ?_) ?_ ?_
        rotate_left
        · (intro w hS; (clear hS; go_simp); try with_reducible rfl)
        try simp only [Act.put, List.setIfInBounds_toArray, List.set_cons_zero, List.set_cons_succ]
        refine wpQL_A (k := 11) (v := ?_) ?_ ?_
        rotate_left
        · (intro w hS; (clear hS; go_simp); try with_reducible rfl)
        try simp only [Act.put, List.setIfInBounds_toArray, List.set_cons_zero, List.set_cons_succ]
        refine wpQL_A (k := 12) (v := ?_) ?_ ?_
        rotate_left
        · (intro w hS; (clear hS; go_simp); try with_reducible rfl)
        try simp only [Act.put, List.setIfInBounds_toArray, List.set_cons_zero, List.set_cons_succ]
        refine wpQL_A (k := 13) (v := .int .u8 (un q1)) ?_ ?_
        · (intro w hS; exact kr_load_fact _ _ (by rfl) (by rfl) (R.cell (hS.cov Cov.auto) (by omega) H1.out (by omega)) (by kernel_rfl))
        try simp only [Act.put, List.setIfInBounds_toArray, List.set_cons_zero, List.set_cons_succ]
        refine wpQL_A (k := 14) (v := ?_) ?_ ?_
        rotate_left
        · (intro w hS; (clear hS; go_simp); try with_reducible rfl)
        try simp only [Act.put, List.setIfInBounds_toArray, List.set_cons_zero, List.set_cons_succ]
        refine wpQL_A (k := 15) (v := ?_) ?_ ?_
        rotate_left
        · (intro w hS; (clear hS; go_simp); try with_reducible rfl)
        try simp only [Act.put, List.setIfInBounds_toArray, List.set_cons_zero, List.set_cons_succ]
        refine wpQL_A (k := 16) (v := ?_) ?_ ?_
        rotate_left
        · (intro w hS; (clear hS; go_simp); try with_reducible rfl)
        try simp only [Act.put, List.setIfInBounds_toArray, List.set_cons_zero, List.set_cons_succ]
        refine wpQL_A (k := 17) (v := ?_) ?_ ?_
        rotate_left
        · (intro w hS; (clear hS; go_simp); try with_reducible rfl)
        try simp only [Act.put, List.setIfInBounds_toArray, List.set_cons_zero, List.set_cons_succ]
        refine wpQL_A (k := 18) (v := ?_) ?_ ?_
        rotate_left
        · (intro w hS; (clear hS; go_simp); try with_reducible rfl)
        try simp only [Act.put, List.setIfInBounds_toArray, List.set_cons_zero, List.set_cons_succ]
        refine wpQL_A (k := 19) (v := ?_) ?_ ?_
        rotate_left
        · (intro w hS; (clear hS; go_simp); try with_reducible rfl)
        try simp only [Act.put, List.setIfInBounds_toArray, List.set_cons_zero, List.set_cons_succ]
        refine wpQL_A (k := 20) (v := ?_) ?_ ?_
        rotate_left
        · (intro w hS; (clear hS; go_simp); try with_reducible rfl)
        try simp only [Act.put, List.setIfInBounds_toArray, List.set_cons_zero, List.set_cons_succ]
        refine wpQL_A (k := 21) (v := ?_) ?_ ?_
        rotate_left
        · (intro w hS; (clear hS; go_simp); try with_reducible rfl)
        try simp only [Act.put, List.setIfInBounds_toArray, List.set_cons_zero, List.set_cons_succ]
        refine wpQL_A (k := 22) (v := .int .u8 (un q2)) ?_ ?_
        · (intro w hS; exact kr_load_fact _ _ (by rfl) (by rfl) (R.cell (hS.cov Cov.auto) (by omega) H2.out (by omega)) (by kernel_rfl))
        try simp only [Act.put, List.setIfInBounds_toArray, List.set_cons_zero, List.set_cons_succ]
        refine wpQL_A (k := 23) (v := ?_) ?_ ?_
        rotate_left
        · (intro w hS; (clear hS; go_simp); try with_reducible rfl)
        try simp only [Act.put, List.setIfInBounds_toArray, List.set_cons_zero, List.set_cons_succ]
        refine wpQL_A (k := 24) (v := ?_) ?_ ?_
        rotate_left
        · (intro w hS; (clear hS; go_simp); try with_reducible rfl)
        try simp only [Act.put, List.setIfInBounds_toArray, List.set_cons_zero, List.set_cons_succ]
        refine wpQL_A (k := 25) (v := ?_) ?_ ?_
        rotate_left
        · (intro w hS; (clear hS; go_simp); try with_reducible rfl)
        try simp only [Act.put, List.setIfInBounds_toArray, List.set_cons_zero, List.set_cons_succ]
        refine wpQL_A (k := 26) (v := ?_) ?_ ?_
        rotate_left
        · (intro w hS; (clear hS; go_simp); try with_reducible rfl)
        try simp only [Act.put, List.setIfInBounds_toArray, List.set_cons_zero, List.set_cons_succ]
        refine wpQL_A (k := 27) (v := ?_) ?_ ?_
        rotate_left
        · (intro w hS; (clear hS; go_simp); try with_reducible rfl)
        try simp only [Act.put, List.setIfInBounds_toArray, List.set_cons_zero, List.set_cons_succ]
        refine wpQL_A (k := 28) (v := ?_) ?_ ?_
        rotate_left
        · (intro w hS; (clear hS; go_simp); try with_reducible rfl)
        try simp only [Act.put, List.setIfInBounds_toArray, List.set_cons_zero, List.set_cons_succ]
        refine wpQL_A (k := 29) (v := ?_) ?_ ?_
        rotate_left
        · (intro w hS; (clear hS; go_simp); try with_reducible rfl)
        try simp only [Act.put, List.setIfInBounds_toArray, List.set_cons_zero, List.set_cons_succ]
        refine wpQL_A (k := 30) (v := ?_) ?_ ?_
        rotate_left
        · (intro w hS; (clear hS; go_simp); try with_reducible rfl)
        try simp only [Act.put, List.setIfInBounds_toArray, List.set_cons_zero, List.set_cons_succ]
        refine wpQL_A (k := 31) (v := .int .u8 (un q3)) ?_ ?_
        · (intro w hS; exact kr_load_fact _ _ (by rfl) (by rfl) (R.cell (hS.cov Cov.auto) (by omega) H3.out (by omega)) (by kernel_rfl))
        try simp only [Act.put, List.setIfInBounds_toArray, List.set_cons_zero, List.set_cons_succ]
        refine wpQL_A (k := 32) (v := ?_) ?_ ?_
        rotate_left
        · (intro w hS; (clear hS; go_simp); try with_reducible rfl)
        try simp only [Act.put, List.setIfInBounds_toArray, List.set_cons_zero, List.set_cons_succ]
        refine wpQL_A (k := 33) (v := ?_) ?_ ?_
        rotate_left
        · (intro w hS; (clear hS; go_simp); try with_reducible rfl)
        try simp only [Act.put, List.setIfInBounds_toArray, List.set_cons_zero, List.set_cons_succ]
        refine wpQL_A (k := 34) (v := ?_) ?_ ?_
        rotate_left
        · (intro w hS; (clear hS; go_simp); try with_reducible rfl)
        try simp only [Act.put, List.setIfInBounds_toArray, List.set_cons_zero, List.set_cons_succ]
        refine wpQL_endA (k := 35) (fun w1 K K9 hK => ?_)
        refine st_does (by rfl) (kd_store_cell K _ _ _ (by rfl) (by rfl) (by conv => lhs; whnf) Repl.auto (by rfl) (by rfl) (by kernel_rfl) (by simp only [fcells_size, decide_eq_true_eq]; omega) (wcells_set _ (by omega))) ?_
        clear K; intro _ w1 K
        refine hK.out _ _ ?_
        clear hK K9
        try simp only [Act.put, List.setIfInBounds_toArray, List.set_cons_zero, List.set_cons_succ]
        skip
        go_wp2
        go_roundg (gk - 1)
        case measure => omega
        case rel => exact ⟨k + 1, by go_num, by omega, by rw [HN.out]; exact K⟩
      · have hk16' : ¬ ((k : Int) < 16) := by omega
        obtain ⟨f, hf⟩ : ∃ f, f = wrow bf k := ⟨_, rfl⟩
        have HN := Lib.hid (show wrow bf (k + 1) = upd f k (f (k - 16) + sig0 (f (k - 15)) + f (k - 7) + sig1 (f (k - 2))) by
          rw [wrow_succ, ← hf, wnext, if_neg (by omega)])
        rw [← hf] at K
        clear hf
        have x0 : (0 : Int) ≤ (k : Int) - 15 ∧ (k : Int) - 15 < 64 := by omega
        have x1 : (0 : Int) ≤ (k : Int) - 2 ∧ (k : Int) - 2 < 64 := by omega
        have x2 : (0 : Int) ≤ (k : Int) - 16 ∧ (k : Int) - 16 < 64 := by omega
        have x3 : (0 : Int) ≤ (k : Int) - 7 ∧ (k : Int) - 7 < 64 := by omega
        have y15 : (15 : Int) ≤ (k : Int) := by omega
        have y2 : (2 : Int) ≤ (k : Int) := by omega
        have y16 : (16 : Int) ≤ (k : Int) := by omega
        have y7 : (7 : Int) ≤ (k : Int) := by omega
        have k1 := IntWalk.i64_in ((k : Int) - 15) (by omega)
        have k2 := IntWalk.i64_in ((k : Int) - 2) (by omega)
        have k3 := IntWalk.i64_in ((k : Int) - 16) (by omega)
        have k4 := IntWalk.i64_in ((k : Int) - 7) (by omega)
        go_upto_region 9 with ((first | ((with_reducible refine at_load rfl ?_); refine wpList_reads (by rfl) (kr_load_cell K _ _ (by rfl) (by rfl) Has.auto (by kernel_rfl) (wcells_at (k - 15) (by omega) (by omega))) ?_) | ((with_reducible refine at_load rfl ?_); refine wpList_reads (by rfl) (kr_load_cell K _ _ (by rfl) (by rfl) Has.auto (by kernel_rfl) (wcells_at (k - 2) (by omega) (by omega))) ?_)))
        refine wp_region_QLK K (by kernel_rfl) (by kernel_rfl) ?_
        clear K
        refine wpQL_A (k := 0) (v := ?_) ?_ ?_
        rotate_left
        · (intro w hS; (clear hS; go_simp); try with_reducible rfl)
        try simp only [Act.put, List.setIfInBounds_toArray, List.set_cons_zero, List.set_cons_succ]
        refine wpQL_A (k := 1) (v := ?_) ?_ ?_
        rotate_left
        · (intro w hS; (clear hS; go_simp); try with_reducible rfl)
        try simp only [Act.put, List.setIfInBounds_toArray, List.set_cons_zero, List.set_cons_succ]
        refine wpQL_A (k := 2) (v := ?_) ?_ ?_
        rotate_left
        · (intro w hS; (clear hS; go_simp); try with_reducible rfl)
        try simp only [Act.put, List.setIfInBounds_toArray, List.set_cons_zero, List.set_cons_succ]
        refine wpQL_A (k := 3) (v := ?_) ?_ ?_
        rotate_left
        · (intro w hS; (clear hS; go_simp); try with_reducible rfl)
        try simp only [Act.put, List.setIfInBounds_toArray, List.set_cons_zero, List.set_cons_succ]
        refine wpQL_A (k := 4) (v := wv (f (k - 16))) ?_ ?_
        · (intro w hS; exact kr_load_cell hS _ _ (by rfl) (by rfl) Has.auto (by kernel_rfl) (wcells_at (k - 16) (by omega) (by omega)))
        try simp only [Act.put, List.setIfInBounds_toArray, List.set_cons_zero, List.set_cons_succ]
        refine wpQL_A (k := 5) (v := ?_) ?_ ?_
        rotate_left
        · (intro w hS; (clear hS; go_simp); try with_reducible rfl)
        try simp only [Act.put, List.setIfInBounds_toArray, List.set_cons_zero, List.set_cons_succ]
        refine wpQL_step (k := 6) (x := { dst := some 74, op := Op.call { callee := Callee.value (Operand.func 83), args := #[Operand.tmp 73, Operand.const (Value.int IntKind.i64 7)], argTypes := #[123, 3] }, type := 123, pos := "ref.go:39", after := #[{ on := 5, ground := Ground.data }], guard := none }) (v := wv (rotr 7 (f (k - 15)))) rfl (by kernel_rfl) (by rfl) ?_ ?_
        · intro w hS
          refine quiet_call (f := 83) (args := ?_) ?_ ?_
          rotate_left
          · (go_simp; try with_reducible rfl)
          · exact (rturn_any hS _ 7 (by omega))
        try simp only [Act.put, List.setIfInBounds_toArray, List.set_cons_zero, List.set_cons_succ]
        refine wpQL_A (k := 7) (v := ?_) ?_ ?_
        rotate_left
        · (intro w hS; (clear hS; go_simp); try with_reducible rfl)
        try simp only [Act.put, List.setIfInBounds_toArray, List.set_cons_zero, List.set_cons_succ]
        refine wpQL_step (k := 8) (x := { dst := some 76, op := Op.call { callee := Callee.value (Operand.func 83), args := #[Operand.tmp 75, Operand.const (Value.int IntKind.i64 18)], argTypes := #[123, 3] }, type := 123, pos := "ref.go:39", after := #[{ on := 7, ground := Ground.data }, { on := 6, ground := Ground.chain }], guard := none }) (v := wv (rotr 18 (f (k - 15)))) rfl (by kernel_rfl) (by rfl) ?_ ?_
        · intro w hS
          refine quiet_call (f := 83) (args := ?_) ?_ ?_
          rotate_left
          · (go_simp; try with_reducible rfl)
          · exact (rturn_any hS _ 18 (by omega))
        try simp only [Act.put, List.setIfInBounds_toArray, List.set_cons_zero, List.set_cons_succ]
        refine wpQL_A (k := 9) (v := ?_) ?_ ?_
        rotate_left
        · (intro w hS; (clear hS; go_simp); try with_reducible rfl)
        try simp only [Act.put, List.setIfInBounds_toArray, List.set_cons_zero, List.set_cons_succ]
        refine wpQL_A (k := 10) (v := ?_) ?_ ?_
        rotate_left
        · (intro w hS; (clear hS; go_simp); try with_reducible rfl)
        try simp only [Act.put, List.setIfInBounds_toArray, List.set_cons_zero, List.set_cons_succ]
        refine wpQL_A (k := 11) (v := ?_) ?_ ?_
        rotate_left
        · (intro w hS; (clear hS; go_simp); try with_reducible rfl)
        try simp only [Act.put, List.setIfInBounds_toArray, List.set_cons_zero, List.set_cons_succ]
        refine wpQL_A (k := 12) (v := ?_) ?_ ?_
        rotate_left
        · (intro w hS; (clear hS; go_simp); try with_reducible rfl)
        try simp only [Act.put, List.setIfInBounds_toArray, List.set_cons_zero, List.set_cons_succ]
        refine wpQL_A (k := 13) (v := ?_) ?_ ?_
        rotate_left
        · (intro w hS; (clear hS; go_simp); try with_reducible rfl)
        try simp only [Act.put, List.setIfInBounds_toArray, List.set_cons_zero, List.set_cons_succ]
        refine wpQL_A (k := 14) (v := ?_) ?_ ?_
        rotate_left
        · (intro w hS; (clear hS; go_simp); try with_reducible rfl)
        try simp only [Act.put, List.setIfInBounds_toArray, List.set_cons_zero, List.set_cons_succ]
        refine wpQL_A (k := 15) (v := ?_) ?_ ?_
        rotate_left
        · (intro w hS; (clear hS; go_simp); try with_reducible rfl)
        try simp only [Act.put, List.setIfInBounds_toArray, List.set_cons_zero, List.set_cons_succ]
        refine wpQL_A (k := 16) (v := ?_) ?_ ?_
        rotate_left
        · (intro w hS; (clear hS; go_simp); try with_reducible rfl)
        try simp only [Act.put, List.setIfInBounds_toArray, List.set_cons_zero, List.set_cons_succ]
        refine wpQL_A (k := 17) (v := wv (f (k - 7))) ?_ ?_
        · (intro w hS; exact kr_load_cell hS _ _ (by rfl) (by rfl) Has.auto (by kernel_rfl) (wcells_at (k - 7) (by omega) (by omega)))
        try simp only [Act.put, List.setIfInBounds_toArray, List.set_cons_zero, List.set_cons_succ]
        refine wpQL_A (k := 18) (v := ?_) ?_ ?_
        rotate_left
        · (intro w hS; (clear hS; go_simp); try with_reducible rfl)
        try simp only [Act.put, List.setIfInBounds_toArray, List.set_cons_zero, List.set_cons_succ]
        refine wpQL_A (k := 19) (v := ?_) ?_ ?_
        rotate_left
        · (intro w hS; (clear hS; go_simp); try with_reducible rfl)
        try simp only [Act.put, List.setIfInBounds_toArray, List.set_cons_zero, List.set_cons_succ]
        refine wpQL_step (k := 20) (x := { dst := some 88, op := Op.call { callee := Callee.value (Operand.func 83), args := #[Operand.tmp 87, Operand.const (Value.int IntKind.i64 17)], argTypes := #[123, 3] }, type := 123, pos := "ref.go:39", after := #[{ on := 19, ground := Ground.data }, { on := 8, ground := Ground.chain }], guard := none }) (v := wv (rotr 17 (f (k - 2)))) rfl (by kernel_rfl) (by rfl) ?_ ?_
        · intro w hS
          refine quiet_call (f := 83) (args := ?_) ?_ ?_
          rotate_left
          · (go_simp; try with_reducible rfl)
          · exact (rturn_any hS _ 17 (by omega))
        try simp only [Act.put, List.setIfInBounds_toArray, List.set_cons_zero, List.set_cons_succ]
        refine wpQL_A (k := 21) (v := ?_) ?_ ?_
        rotate_left
        · (intro w hS; (clear hS; go_simp); try with_reducible rfl)
        try simp only [Act.put, List.setIfInBounds_toArray, List.set_cons_zero, List.set_cons_succ]
        refine wpQL_step (k := 22) (x := { dst := some 90, op := Op.call { callee := Callee.value (Operand.func 83), args := #[Operand.tmp 89, Operand.const (Value.int IntKind.i64 19)], argTypes := #[123, 3] }, type := 123, pos := "ref.go:39", after := #[{ on := 21, ground := Ground.data }, { on := 20, ground := Ground.chain }], guard := none }) (v := wv (rotr 19 (f (k - 2)))) rfl (by kernel_rfl) (by rfl) ?_ ?_
        · intro w hS
          refine quiet_call (f := 83) (args := ?_) ?_ ?_
          rotate_left
          · (go_simp; try with_reducible rfl)
          · exact (rturn_any hS _ 19 (by omega))
        try simp only [Act.put, List.setIfInBounds_toArray, List.set_cons_zero, List.set_cons_succ]
        refine wpQL_A (k := 23) (v := ?_) ?_ ?_
        rotate_left
        · (intro w hS; (clear hS; go_simp); try with_reducible rfl)
        try simp only [Act.put, List.setIfInBounds_toArray, List.set_cons_zero, List.set_cons_succ]
        refine wpQL_A (k := 24) (v := ?_) ?_ ?_
        rotate_left
        · (intro w hS; (clear hS; go_simp); try with_reducible rfl)
        try simp only [Act.put, List.setIfInBounds_toArray, List.set_cons_zero, List.set_cons_succ]
        refine wpQL_A (k := 25) (v := ?_) ?_ ?_
        rotate_left
        · (intro w hS; (clear hS; go_simp); try with_reducible rfl)
        try simp only [Act.put, List.setIfInBounds_toArray, List.set_cons_zero, List.set_cons_succ]
        refine wpQL_A (k := 26) (v := ?_) ?_ ?_
        rotate_left
        · (intro w hS; (clear hS; go_simp); try with_reducible rfl)
        try simp only [Act.put, List.setIfInBounds_toArray, List.set_cons_zero, List.set_cons_succ]
        refine wpQL_A (k := 27) (v := ?_) ?_ ?_
        rotate_left
        · (intro w hS; (clear hS; go_simp); try with_reducible rfl)
        try simp only [Act.put, List.setIfInBounds_toArray, List.set_cons_zero, List.set_cons_succ]
        refine wpQL_A (k := 28) (v := ?_) ?_ ?_
        rotate_left
        · (intro w hS; (clear hS; go_simp); try with_reducible rfl)
        try simp only [Act.put, List.setIfInBounds_toArray, List.set_cons_zero, List.set_cons_succ]
        refine wpQL_endA (k := 29) (fun w1 K K9 hK => ?_)
        refine st_does (by rfl) (kd_store_cell K _ _ _ (by rfl) (by rfl) (by conv => lhs; whnf) Repl.auto (by rfl) (by rfl) (by kernel_rfl) (by simp only [fcells_size, decide_eq_true_eq]; omega) (wcells_set _ (by omega))) ?_
        clear K; intro _ w1 K
        refine hK.out _ _ ?_
        clear hK K9
        try simp only [Act.put, List.setIfInBounds_toArray, List.set_cons_zero, List.set_cons_succ]
        skip
        go_wp2
        go_roundg (gk - 1)
        case measure => omega
        case rel => exact ⟨k + 1, by go_num, by omega, by rw [HN.out]; exact K⟩
    · obtain rfl : k = 64 := by omega
      obtain ⟨wf, hwf⟩ : ∃ wf, wf = wrow bf 64 := ⟨_, rfl⟩
      rw [← hwf] at K HSB
      clear hwf HB
      go_upto_region 12 with ((first | ((with_reducible refine at_load rfl ?_); refine wpList_reads (by rfl) (kr_load_row K _ _ (by rfl) (by rfl) Has.auto (by kernel_rfl) (by rw [fcells_size]; kernel_rfl)) ?_) | ((with_reducible refine at_slot (N := 11) rfl ?_); (with_reducible refine at_alloc rfl ?_); refine wpList_does rfl (kd_alloc (z := (.agg (wcells (fun _ => 0#32) 8))) K _ rfl (by kernel_rfl)) ?_; clear K; rintro _ w1 ⟨gv, rfl, K⟩; (try dsimp only [Value.cells] at K)) | ((with_reducible refine at_store rfl ?_); refine wpList_does (by rfl) (kd_store_row K _ _ _ (by rfl) (by rfl) (by rfl) Repl.auto (by rw [fcells_size]; kernel_rfl) (by first | (rw [fcells_size, fcells_size]; rfl) | (rw [fcells_size]; rfl) | (simp only [fcells_size, u8s_size]; done) | (simp only [fcells_size, u8s_size]; rfl)) (wcells_one _ _)) ?_; clear K; intro _ w1 K; (try simp only [Act.put]))))
      go_loopg [12] 64 (fun d i wr => ∃ (k : Nat) (t : S8), i = .int .i64 k ∧ k + d = 64 ∧ Hid (t = s.rnds rootK wf k) ∧ Known w0 wr (row gv (wcells t.get 8) 124 :: row gw (wcells wf 64) 125 :: row gr (wcells (fun _ => 0#32) 8) 124 :: row gq (wcells rootK 64) 125 :: row gs (wcells s.get 8) 124 :: L))
      case atStart => exact ⟨0, s, by go_num, by omega, Lib.hid rfl, K⟩
      case round =>
        clear K
        obtain ⟨k, t, rfl, hd, HT, K⟩ := hrel
        by_cases hk : k < 64
        · have HT2 := Lib.hid (show t.rnd (rootK k) (wf k) = s.rnds rootK wf (k + 1) by rw [HT.out]; rfl)
          clear HT
          have x4 : (0 : Int) ≤ (k : Int) ∧ (k : Int) < 64 := by omega
          have hk' : (k : Int) < 64 := by omega
          go_upto_region 16 with ((first | ((with_reducible refine at_load rfl ?_); refine wpList_reads (by rfl) (kr_load_cell K _ _ (by rfl) (by rfl) Has.auto (by kernel_rfl) (wcells_at 0 rfl (by omega))) ?_) | ((with_reducible refine at_load rfl ?_); refine wpList_reads (by rfl) (kr_load_cell K _ _ (by rfl) (by rfl) Has.auto (by kernel_rfl) (wcells_at 4 rfl (by omega))) ?_)))
          refine wp_region_QLK K (by kernel_rfl) (by kernel_rfl) ?_
          clear K
          refine wpQL_A (k := 0) (v := ?_) ?_ ?_
          rotate_left
          · (intro w hS; (clear hS; go_simp); try with_reducible rfl)
          try simp only [Act.put, List.setIfInBounds_toArray, List.set_cons_zero, List.set_cons_succ]
          refine wpQL_A (k := 1) (v := wv (t.get 7)) ?_ ?_
          · (intro w hS; exact kr_load_cell hS _ _ (by rfl) (by rfl) Has.auto (by kernel_rfl) (wcells_at 7 rfl (by omega)))
          try simp only [Act.put, List.setIfInBounds_toArray, List.set_cons_zero, List.set_cons_succ]
          refine wpQL_A (k := 2) (v := ?_) ?_ ?_
          rotate_left
          · (intro w hS; (clear hS; go_simp); try with_reducible rfl)
          try simp only [Act.put, List.setIfInBounds_toArray, List.set_cons_zero, List.set_cons_succ]
          refine wpQL_step (k := 3) (x := { dst := some 109, op := Op.call { callee := Callee.value (Operand.func 83), args := #[Operand.tmp 108, Operand.const (Value.int IntKind.i64 6)], argTypes := #[123, 3] }, type := 123, pos := "ref.go:45", after := #[{ on := 2, ground := Ground.data }], guard := none }) (v := wv (rotr 6 (t.get 4))) rfl (by kernel_rfl) (by rfl) ?_ ?_
          · intro w hS
            refine quiet_call (f := 83) (args := ?_) ?_ ?_
            rotate_left
            · (go_simp; try with_reducible rfl)
            · exact (rturn_any hS _ 6 (by omega))
          try simp only [Act.put, List.setIfInBounds_toArray, List.set_cons_zero, List.set_cons_succ]
          refine wpQL_A (k := 4) (v := ?_) ?_ ?_
          rotate_left
          · (intro w hS; (clear hS; go_simp); try with_reducible rfl)
          try simp only [Act.put, List.setIfInBounds_toArray, List.set_cons_zero, List.set_cons_succ]
          refine wpQL_step (k := 5) (x := { dst := some 111, op := Op.call { callee := Callee.value (Operand.func 83), args := #[Operand.tmp 110, Operand.const (Value.int IntKind.i64 11)], argTypes := #[123, 3] }, type := 123, pos := "ref.go:45", after := #[{ on := 4, ground := Ground.data }, { on := 3, ground := Ground.chain }], guard := none }) (v := wv (rotr 11 (t.get 4))) rfl (by kernel_rfl) (by rfl) ?_ ?_
          · intro w hS
            refine quiet_call (f := 83) (args := ?_) ?_ ?_
            rotate_left
            · (go_simp; try with_reducible rfl)
            · exact (rturn_any hS _ 11 (by omega))
          try simp only [Act.put, List.setIfInBounds_toArray, List.set_cons_zero, List.set_cons_succ]
          refine wpQL_A (k := 6) (v := ?_) ?_ ?_
          rotate_left
          · (intro w hS; (clear hS; go_simp); try with_reducible rfl)
          try simp only [Act.put, List.setIfInBounds_toArray, List.set_cons_zero, List.set_cons_succ]
          refine wpQL_A (k := 7) (v := ?_) ?_ ?_
          rotate_left
          · (intro w hS; (clear hS; go_simp); try with_reducible rfl)
          try simp only [Act.put, List.setIfInBounds_toArray, List.set_cons_zero, List.set_cons_succ]
          refine wpQL_step (k := 8) (x := { dst := some 114, op := Op.call { callee := Callee.value (Operand.func 83), args := #[Operand.tmp 113, Operand.const (Value.int IntKind.i64 25)], argTypes := #[123, 3] }, type := 123, pos := "ref.go:45", after := #[{ on := 7, ground := Ground.data }, { on := 5, ground := Ground.chain }], guard := none }) (v := wv (rotr 25 (t.get 4))) rfl (by kernel_rfl) (by rfl) ?_ ?_
          · intro w hS
            refine quiet_call (f := 83) (args := ?_) ?_ ?_
            rotate_left
            · (go_simp; try with_reducible rfl)
            · exact (rturn_any hS _ 25 (by omega))
          try simp only [Act.put, List.setIfInBounds_toArray, List.set_cons_zero, List.set_cons_succ]
          refine wpQL_A (k := 9) (v := ?_) ?_ ?_
          rotate_left
          · (intro w hS; (clear hS; go_simp); try with_reducible rfl)
          try simp only [Act.put, List.setIfInBounds_toArray, List.set_cons_zero, List.set_cons_succ]
          refine wpQL_A (k := 10) (v := ?_) ?_ ?_
          rotate_left
          · (intro w hS; (clear hS; go_simp); try with_reducible rfl)
          try simp only [Act.put, List.setIfInBounds_toArray, List.set_cons_zero, List.set_cons_succ]
          refine wpQL_A (k := 11) (v := ?_) ?_ ?_
          rotate_left
          · (intro w hS; (clear hS; go_simp); try with_reducible rfl)
          try simp only [Act.put, List.setIfInBounds_toArray, List.set_cons_zero, List.set_cons_succ]
          refine wpQL_A (k := 12) (v := ?_) ?_ ?_
          rotate_left
          · (intro w hS; (clear hS; go_simp); try with_reducible rfl)
          try simp only [Act.put, List.setIfInBounds_toArray, List.set_cons_zero, List.set_cons_succ]
          refine wpQL_A (k := 13) (v := wv (t.get 5)) ?_ ?_
          · (intro w hS; exact kr_load_cell hS _ _ (by rfl) (by rfl) Has.auto (by kernel_rfl) (wcells_at 5 rfl (by omega)))
          try simp only [Act.put, List.setIfInBounds_toArray, List.set_cons_zero, List.set_cons_succ]
          refine wpQL_A (k := 14) (v := ?_) ?_ ?_
          rotate_left
          · (intro w hS; (clear hS; go_simp); try with_reducible rfl)
          try simp only [Act.put, List.setIfInBounds_toArray, List.set_cons_zero, List.set_cons_succ]
          refine wpQL_A (k := 15) (v := ?_) ?_ ?_
          rotate_left
          · (intro w hS; (clear hS; go_simp); try with_reducible rfl)
          try simp only [Act.put, List.setIfInBounds_toArray, List.set_cons_zero, List.set_cons_succ]
          refine wpQL_A (k := 16) (v := wv (~~~t.get 4)) ?_ ?_
          · (intro w hS; exact kr_not32 (by rfl) (by rfl))
          try simp only [Act.put, List.setIfInBounds_toArray, List.set_cons_zero, List.set_cons_succ]
          refine wpQL_A (k := 17) (v := ?_) ?_ ?_
          rotate_left
          · (intro w hS; (clear hS; go_simp); try with_reducible rfl)
          try simp only [Act.put, List.setIfInBounds_toArray, List.set_cons_zero, List.set_cons_succ]
          refine wpQL_A (k := 18) (v := wv (t.get 6)) ?_ ?_
          · (intro w hS; exact kr_load_cell hS _ _ (by rfl) (by rfl) Has.auto (by kernel_rfl) (wcells_at 6 rfl (by omega)))
          try simp only [Act.put, List.setIfInBounds_toArray, List.set_cons_zero, List.set_cons_succ]
          refine wpQL_A (k := 19) (v := ?_) ?_ ?_
          rotate_left
          · (intro w hS; (clear hS; go_simp); try with_reducible rfl)
          try simp only [Act.put, List.setIfInBounds_toArray, List.set_cons_zero, List.set_cons_succ]
          refine wpQL_A (k := 20) (v := ?_) ?_ ?_
          rotate_left
          · (intro w hS; (clear hS; go_simp); try with_reducible rfl)
          try simp only [Act.put, List.setIfInBounds_toArray, List.set_cons_zero, List.set_cons_succ]
          refine wpQL_A (k := 21) (v := ?_) ?_ ?_
          rotate_left
          · (intro w hS; (clear hS; go_simp); try with_reducible rfl)
          try simp only [Act.put, List.setIfInBounds_toArray, List.set_cons_zero, List.set_cons_succ]
          refine wpQL_A (k := 22) (v := ?_) ?_ ?_
          rotate_left
          · (intro w hS; (clear hS; go_simp); try with_reducible rfl)
          try simp only [Act.put, List.setIfInBounds_toArray, List.set_cons_zero, List.set_cons_succ]
          refine wpQL_A (k := 23) (v := ?_) ?_ ?_
          rotate_left
          · (intro w hS; (clear hS; go_simp); try with_reducible rfl)
          try simp only [Act.put, List.setIfInBounds_toArray, List.set_cons_zero, List.set_cons_succ]
          refine wpQL_A (k := 24) (v := wv (rootK k)) ?_ ?_
          · (intro w hS; exact kr_load_cell hS _ _ (by rfl) (by rfl) Has.auto (by kernel_rfl) (wcells_at (k) (by omega) (by omega)))
          try simp only [Act.put, List.setIfInBounds_toArray, List.set_cons_zero, List.set_cons_succ]
          refine wpQL_A (k := 25) (v := ?_) ?_ ?_
          rotate_left
          · (intro w hS; (clear hS; go_simp); try with_reducible rfl)
          try simp only [Act.put, List.setIfInBounds_toArray, List.set_cons_zero, List.set_cons_succ]
          refine wpQL_A (k := 26) (v := ?_) ?_ ?_
          rotate_left
          · (intro w hS; (clear hS; go_simp); try with_reducible rfl)
          try simp only [Act.put, List.setIfInBounds_toArray, List.set_cons_zero, List.set_cons_succ]
          refine wpQL_A (k := 27) (v := ?_) ?_ ?_
          rotate_left
          · (intro w hS; (clear hS; go_simp); try with_reducible rfl)
          try simp only [Act.put, List.setIfInBounds_toArray, List.set_cons_zero, List.set_cons_succ]
          refine wpQL_A (k := 28) (v := wv (wf k)) ?_ ?_
          · (intro w hS; exact kr_load_cell hS _ _ (by rfl) (by rfl) Has.auto (by kernel_rfl) (wcells_at (k) (by omega) (by omega)))
          try simp only [Act.put, List.setIfInBounds_toArray, List.set_cons_zero, List.set_cons_succ]
          refine wpQL_A (k := 29) (v := ?_) ?_ ?_
          rotate_left
          · (intro w hS; (clear hS; go_simp); try with_reducible rfl)
          try simp only [Act.put, List.setIfInBounds_toArray, List.set_cons_zero, List.set_cons_succ]
          refine wpQL_endA (k := 30) (fun w1 K K9 hK => ?_)
          refine st_reads (v := ?_) (by rfl) ?_ ?_
          rotate_left
          · (go_simp; try with_reducible rfl)
          refine hK.out _ _ ?_
          clear hK K9
          try simp only [Act.put, List.setIfInBounds_toArray, List.set_cons_zero, List.set_cons_succ]
          skip
          go_upto_region 17 with (fail)
          refine wp_region_QLK K (by kernel_rfl) (by kernel_rfl) ?_
          clear K
          refine wpQL_A (k := 0) (v := ?_) ?_ ?_
          rotate_left
          · (intro w hS; (clear hS; go_simp); try with_reducible rfl)
          try simp only [Act.put, List.setIfInBounds_toArray, List.set_cons_zero, List.set_cons_succ]
          refine wpQL_step (k := 1) (x := { dst := some 137, op := Op.call { callee := Callee.value (Operand.func 83), args := #[Operand.tmp 136, Operand.const (Value.int IntKind.i64 2)], argTypes := #[123, 3] }, type := 123, pos := "ref.go:46", after := #[{ on := 0, ground := Ground.data }], guard := none }) (v := wv (rotr 2 (t.get 0))) rfl (by kernel_rfl) (by rfl) ?_ ?_
          · intro w hS
            refine quiet_call (f := 83) (args := ?_) ?_ ?_
            rotate_left
            · (go_simp; try with_reducible rfl)
            · exact (rturn_any hS _ 2 (by omega))
          try simp only [Act.put, List.setIfInBounds_toArray, List.set_cons_zero, List.set_cons_succ]
          refine wpQL_A (k := 2) (v := ?_) ?_ ?_
          rotate_left
          · (intro w hS; (clear hS; go_simp); try with_reducible rfl)
          try simp only [Act.put, List.setIfInBounds_toArray, List.set_cons_zero, List.set_cons_succ]
          refine wpQL_step (k := 3) (x := { dst := some 139, op := Op.call { callee := Callee.value (Operand.func 83), args := #[Operand.tmp 138, Operand.const (Value.int IntKind.i64 13)], argTypes := #[123, 3] }, type := 123, pos := "ref.go:46", after := #[{ on := 2, ground := Ground.data }, { on := 1, ground := Ground.chain }], guard := none }) (v := wv (rotr 13 (t.get 0))) rfl (by kernel_rfl) (by rfl) ?_ ?_
          · intro w hS
            refine quiet_call (f := 83) (args := ?_) ?_ ?_
            rotate_left
            · (go_simp; try with_reducible rfl)
            · exact (rturn_any hS _ 13 (by omega))
          try simp only [Act.put, List.setIfInBounds_toArray, List.set_cons_zero, List.set_cons_succ]
          refine wpQL_A (k := 4) (v := ?_) ?_ ?_
          rotate_left
          · (intro w hS; (clear hS; go_simp); try with_reducible rfl)
          try simp only [Act.put, List.setIfInBounds_toArray, List.set_cons_zero, List.set_cons_succ]
          refine wpQL_A (k := 5) (v := ?_) ?_ ?_
          rotate_left
          · (intro w hS; (clear hS; go_simp); try with_reducible rfl)
          try simp only [Act.put, List.setIfInBounds_toArray, List.set_cons_zero, List.set_cons_succ]
          refine wpQL_step (k := 6) (x := { dst := some 142, op := Op.call { callee := Callee.value (Operand.func 83), args := #[Operand.tmp 141, Operand.const (Value.int IntKind.i64 22)], argTypes := #[123, 3] }, type := 123, pos := "ref.go:46", after := #[{ on := 5, ground := Ground.data }, { on := 3, ground := Ground.chain }], guard := none }) (v := wv (rotr 22 (t.get 0))) rfl (by kernel_rfl) (by rfl) ?_ ?_
          · intro w hS
            refine quiet_call (f := 83) (args := ?_) ?_ ?_
            rotate_left
            · (go_simp; try with_reducible rfl)
            · exact (rturn_any hS _ 22 (by omega))
          try simp only [Act.put, List.setIfInBounds_toArray, List.set_cons_zero, List.set_cons_succ]
          refine wpQL_A (k := 7) (v := ?_) ?_ ?_
          rotate_left
          · (intro w hS; (clear hS; go_simp); try with_reducible rfl)
          try simp only [Act.put, List.setIfInBounds_toArray, List.set_cons_zero, List.set_cons_succ]
          refine wpQL_A (k := 8) (v := ?_) ?_ ?_
          rotate_left
          · (intro w hS; (clear hS; go_simp); try with_reducible rfl)
          try simp only [Act.put, List.setIfInBounds_toArray, List.set_cons_zero, List.set_cons_succ]
          refine wpQL_A (k := 9) (v := ?_) ?_ ?_
          rotate_left
          · (intro w hS; (clear hS; go_simp); try with_reducible rfl)
          try simp only [Act.put, List.setIfInBounds_toArray, List.set_cons_zero, List.set_cons_succ]
          refine wpQL_A (k := 10) (v := wv (t.get 1)) ?_ ?_
          · (intro w hS; exact kr_load_cell hS _ _ (by rfl) (by rfl) Has.auto (by kernel_rfl) (wcells_at 1 rfl (by omega)))
          try simp only [Act.put, List.setIfInBounds_toArray, List.set_cons_zero, List.set_cons_succ]
          refine wpQL_A (k := 11) (v := ?_) ?_ ?_
          rotate_left
          · (intro w hS; (clear hS; go_simp); try with_reducible rfl)
          try simp only [Act.put, List.setIfInBounds_toArray, List.set_cons_zero, List.set_cons_succ]
          refine wpQL_A (k := 12) (v := ?_) ?_ ?_
          rotate_left
          · (intro w hS; (clear hS; go_simp); try with_reducible rfl)
          try simp only [Act.put, List.setIfInBounds_toArray, List.set_cons_zero, List.set_cons_succ]
          refine wpQL_A (k := 13) (v := ?_) ?_ ?_
          rotate_left
          · (intro w hS; (clear hS; go_simp); try with_reducible rfl)
          try simp only [Act.put, List.setIfInBounds_toArray, List.set_cons_zero, List.set_cons_succ]
          refine wpQL_A (k := 14) (v := wv (t.get 2)) ?_ ?_
          · (intro w hS; exact kr_load_cell hS _ _ (by rfl) (by rfl) Has.auto (by kernel_rfl) (wcells_at 2 rfl (by omega)))
          try simp only [Act.put, List.setIfInBounds_toArray, List.set_cons_zero, List.set_cons_succ]
          refine wpQL_A (k := 15) (v := ?_) ?_ ?_
          rotate_left
          · (intro w hS; (clear hS; go_simp); try with_reducible rfl)
          try simp only [Act.put, List.setIfInBounds_toArray, List.set_cons_zero, List.set_cons_succ]
          refine wpQL_A (k := 16) (v := ?_) ?_ ?_
          rotate_left
          · (intro w hS; (clear hS; go_simp); try with_reducible rfl)
          try simp only [Act.put, List.setIfInBounds_toArray, List.set_cons_zero, List.set_cons_succ]
          refine wpQL_A (k := 17) (v := ?_) ?_ ?_
          rotate_left
          · (intro w hS; (clear hS; go_simp); try with_reducible rfl)
          try simp only [Act.put, List.setIfInBounds_toArray, List.set_cons_zero, List.set_cons_succ]
          refine wpQL_A (k := 18) (v := wv (t.get 1)) ?_ ?_
          · (intro w hS; exact kr_load_cell hS _ _ (by rfl) (by rfl) Has.auto (by kernel_rfl) (wcells_at 1 rfl (by omega)))
          try simp only [Act.put, List.setIfInBounds_toArray, List.set_cons_zero, List.set_cons_succ]
          refine wpQL_A (k := 19) (v := ?_) ?_ ?_
          rotate_left
          · (intro w hS; (clear hS; go_simp); try with_reducible rfl)
          try simp only [Act.put, List.setIfInBounds_toArray, List.set_cons_zero, List.set_cons_succ]
          refine wpQL_A (k := 20) (v := wv (t.get 2)) ?_ ?_
          · (intro w hS; exact kr_load_cell hS _ _ (by rfl) (by rfl) Has.auto (by kernel_rfl) (wcells_at 2 rfl (by omega)))
          try simp only [Act.put, List.setIfInBounds_toArray, List.set_cons_zero, List.set_cons_succ]
          refine wpQL_A (k := 21) (v := ?_) ?_ ?_
          rotate_left
          · (intro w hS; (clear hS; go_simp); try with_reducible rfl)
          try simp only [Act.put, List.setIfInBounds_toArray, List.set_cons_zero, List.set_cons_succ]
          refine wpQL_A (k := 22) (v := ?_) ?_ ?_
          rotate_left
          · (intro w hS; (clear hS; go_simp); try with_reducible rfl)
          try simp only [Act.put, List.setIfInBounds_toArray, List.set_cons_zero, List.set_cons_succ]
          refine wpQL_A (k := 23) (v := ?_) ?_ ?_
          rotate_left
          · (intro w hS; (clear hS; go_simp); try with_reducible rfl)
          try simp only [Act.put, List.setIfInBounds_toArray, List.set_cons_zero, List.set_cons_succ]
          refine wpQL_endA (k := 24) (fun w1 K K9 hK => ?_)
          refine st_reads (v := ?_) (by rfl) ?_ ?_
          rotate_left
          · (go_simp; try with_reducible rfl)
          refine hK.out _ _ ?_
          clear hK K9
          try simp only [Act.put, List.setIfInBounds_toArray, List.set_cons_zero, List.set_cons_succ]
          skip
          go_wp2_with (first | ((with_reducible refine at_load rfl ?_); refine wpList_reads (by rfl) (kr_load_cell K _ _ (by rfl) (by rfl) Has.auto (by kernel_rfl) (wcells_at 0 rfl (by omega))) ?_) | ((with_reducible refine at_load rfl ?_); refine wpList_reads (by rfl) (kr_load_cell K _ _ (by rfl) (by rfl) Has.auto (by kernel_rfl) (wcells_at 1 rfl (by omega))) ?_) | ((with_reducible refine at_load rfl ?_); refine wpList_reads (by rfl) (kr_load_cell K _ _ (by rfl) (by rfl) Has.auto (by kernel_rfl) (wcells_at 2 rfl (by omega))) ?_) | ((with_reducible refine at_load rfl ?_); refine wpList_reads (by rfl) (kr_load_cell K _ _ (by rfl) (by rfl) Has.auto (by kernel_rfl) (wcells_at 3 rfl (by omega))) ?_) | ((with_reducible refine at_load rfl ?_); refine wpList_reads (by rfl) (kr_load_cell K _ _ (by rfl) (by rfl) Has.auto (by kernel_rfl) (wcells_at 4 rfl (by omega))) ?_) | ((with_reducible refine at_load rfl ?_); refine wpList_reads (by rfl) (kr_load_cell K _ _ (by rfl) (by rfl) Has.auto (by kernel_rfl) (wcells_at 5 rfl (by omega))) ?_) | ((with_reducible refine at_load rfl ?_); refine wpList_reads (by rfl) (kr_load_cell K _ _ (by rfl) (by rfl) Has.auto (by kernel_rfl) (wcells_at 6 rfl (by omega))) ?_) | ((with_reducible refine at_store rfl ?_); refine wpList_does (by rfl) (kd_store_row K _ _ _ (by rfl) (by rfl) (by rfl) Repl.auto (by kernel_rfl) (by rw [fcells_size]; rfl) (by kernel_rfl)) ?_; clear K; intro _ w1 K; (try simp only [Act.put])))
          rw [← rnd_cells] at K
          go_roundg (gk - 1)
          case measure => omega
          case rel => exact ⟨k + 1, _, by go_num, by omega, HT2, K⟩
        · obtain rfl : k = 64 := by omega
          have HSB := Lib.hid (show s.block bf = t.add s by rw [HSB.out, HT.out])
          rw [addR_zero s t] at K
          clear HT
          go_upto_region 20 with (fail)
          go_loopg [17] 8 (fun d i wr => ∃ (k : Nat), i = .int .i64 k ∧ k + d = 8 ∧ Known w0 wr (row gv (wcells (addR s t k) 8) 124 :: row gw (wcells wf 64) 125 :: row gr (wcells (fun _ => 0#32) 8) 124 :: row gq (wcells rootK 64) 125 :: row gs (wcells s.get 8) 124 :: L))
          case atStart => exact ⟨0, by go_num, by omega, K⟩
          case round =>
            clear K
            obtain ⟨k, rfl, hd, K⟩ := hrel
            by_cases hk : k < 8
            · have x4 : (0 : Int) ≤ (k : Int) ∧ (k : Int) < 8 := by omega
              have hk' : (k : Int) < 8 := by omega
              go_upto_region 22 with (fail)
              refine wp_region_QLK K (by kernel_rfl) (by kernel_rfl) ?_
              clear K
              refine wpQL_A (k := 0) (v := ?_) ?_ ?_
              rotate_left
              · (intro w hS; (clear hS; go_simp); try with_reducible rfl)
              try simp only [Act.put, List.setIfInBounds_toArray, List.set_cons_zero, List.set_cons_succ]
              refine wpQL_A (k := 1) (v := ?_) ?_ ?_
              rotate_left
              · (intro w hS; (clear hS; go_simp); try with_reducible rfl)
              try simp only [Act.put, List.setIfInBounds_toArray, List.set_cons_zero, List.set_cons_succ]
              refine wpQL_A (k := 2) (v := ?_) ?_ ?_
              rotate_left
              · (intro w hS; (clear hS; go_simp); try with_reducible rfl)
              try simp only [Act.put, List.setIfInBounds_toArray, List.set_cons_zero, List.set_cons_succ]
              refine wpQL_A (k := 3) (v := wv (addR s t k k)) ?_ ?_
              · (intro w hS; exact kr_load_cell hS _ _ (by rfl) (by rfl) Has.auto (by kernel_rfl) (wcells_at (k) (by omega) (by omega)))
              try simp only [Act.put, List.setIfInBounds_toArray, List.set_cons_zero, List.set_cons_succ]
              refine wpQL_A (k := 4) (v := ?_) ?_ ?_
              rotate_left
              · (intro w hS; (clear hS; go_simp); try with_reducible rfl)
              try simp only [Act.put, List.setIfInBounds_toArray, List.set_cons_zero, List.set_cons_succ]
              refine wpQL_A (k := 5) (v := ?_) ?_ ?_
              rotate_left
              · (intro w hS; (clear hS; go_simp); try with_reducible rfl)
              try simp only [Act.put, List.setIfInBounds_toArray, List.set_cons_zero, List.set_cons_succ]
              refine wpQL_A (k := 6) (v := wv (s.get k)) ?_ ?_
              · (intro w hS; exact kr_load_cell hS _ _ (by rfl) (by rfl) Has.auto (by kernel_rfl) (wcells_at (k) (by omega) (by omega)))
              try simp only [Act.put, List.setIfInBounds_toArray, List.set_cons_zero, List.set_cons_succ]
              refine wpQL_A (k := 7) (v := ?_) ?_ ?_
              rotate_left
              · (intro w hS; (clear hS; go_simp); try with_reducible rfl)
              try simp only [Act.put, List.setIfInBounds_toArray, List.set_cons_zero, List.set_cons_succ]
              refine wpQL_A (k := 8) (v := ?_) ?_ ?_
              rotate_left
              · (intro w hS; (clear hS; go_simp); try with_reducible rfl)
              try simp only [Act.put, List.setIfInBounds_toArray, List.set_cons_zero, List.set_cons_succ]
              refine wpQL_endA (k := 9) (fun w1 K K9 hK => ?_)
              refine st_does (by rfl) (kd_store_cell K _ _ _ (by rfl) (by rfl) (by conv => lhs; whnf) Repl.auto (by rfl) (by rfl) (by kernel_rfl) (by simp only [fcells_size, decide_eq_true_eq]; omega) (wcells_set _ (by omega))) ?_
              clear K; intro _ w1 K
              refine hK.out _ _ ?_
              clear hK K9
              try simp only [Act.put, List.setIfInBounds_toArray, List.set_cons_zero, List.set_cons_succ]
              skip
              rw [addR_at, addR_succ] at K
              go_wp2
              go_roundg (gk - 1)
              case measure => omega
              case rel => exact ⟨k + 1, by go_num, by omega, K⟩
            · obtain rfl : k = 8 := by omega
              rw [addR_full, ← HSB.out] at K
              go_wp2_with (first | ((with_reducible refine at_load rfl ?_); refine wpList_reads (by rfl) (kr_load_row K _ _ (by rfl) (by rfl) Has.auto (by kernel_rfl) (by rw [fcells_size]; kernel_rfl)) ?_) | ((with_reducible refine at_store rfl ?_); refine wpList_does (by rfl) (kd_store_row K _ _ _ (by rfl) (by rfl) (by rfl) Repl.auto (by rw [fcells_size]; kernel_rfl) (by first | (rw [fcells_size, fcells_size]; rfl) | (rw [fcells_size]; rfl) | (simp only [fcells_size, u8s_size]; done) | (simp only [fcells_size, u8s_size]; rfl)) (wcells_one _ _)) ?_; clear K; intro _ w1 K; (try simp only [Act.put])))
              exact bodyPost_cellK K (by rfl) (by rfl) Has.auto (by kernel_rfl) (by rw [fcells_size]; kernel_rfl) rfl ⟨rfl, K.cov Cov.auto⟩
end
end Go.Proofs.Ytfdddipmeadecaa

/-
  sha: the reference's padding and sum (contracts).
-/
set_option linter.unusedVariables false
set_option linter.unusedSimpArgs false
namespace Go.Proofs.Ytfdddipmeadecaa
open Go.RowKit
theorem padA_succ (z : Nat) : padA (z + 1) = padA z ++ [0] := by
  unfold padA
  rw [show 1 + (z + 1) = (1 + z) + 1 by omega, List.range_succ, List.map_append]
  simp
theorem padA_zero : padA 0 = [128] := rfl
def padP (n j : Nat) : List Int := (List.range j).map fun j => ((8 * n / 2 ^ (56 - 8 * j) % 256 : Nat) : Int)
theorem padP_succ (n j : Nat) : padP n (j + 1) = padP n j ++ [8 * (n : Int) / 2 ^ (56 - 8 * j) % 256] := by
  have e0 : 8 * (n : Int) / 2 ^ (56 - 8 * j) % 256 = ((8 * n / 2 ^ (56 - 8 * j) % 256 : Nat) : Int) := by rw [Int.natCast_emod, Int.natCast_ediv, Int.natCast_mul, Int.natCast_pow]; rfl
  rw [e0]
  unfold padP
  rw [List.range_succ, List.map_append]
  rfl
theorem zerosN_lt (n z : Nat) (h : z ≤ zerosN n) : (n + (1 + z)) % 64 = 56 ↔ z = zerosN n := by
  unfold zerosN at *
  omega
section
variable {w0 w : World} {L : List Ent} {A : Option Addr} {n c : Nat} {xs : List Int}
set_option maxHeartbeats 800000 in
set_option maxRecDepth 100000 in
theorem rpadded_any (K : Known w0 w L) (R : RdS w0 L .u8 A n xs) (hc : n ≤ c) (hm : c ≤ 9223372036854775807) (hn : n ≤ 1000000000) :
    Calls Try.prog 65 #[.slice A n c] w fun e w' => ∃ A' c' X, e = .returned (.slice A' (64 * padN n) c') ∧ OwnL 5 1 A' (64 * padN n) c' ((xs ++ padA (zerosN n) ++ padL n).map (Value.int .u8)) X ∧ Known w0 w' (X ++ L) := by
  have i1 := IntWalk.u64_in (n : Int) (by omega)
  have i2 := IntWalk.u64_in (8 * (n : Int)) (by omega)
  have i3 := IntWalk.u64_in ((n : Int) * 8) (by omega)
  have e3 : (n : Int) * 8 = 8 * (n : Int) := by omega
  go_enter Try.func65, Try.ntmps65
  go_wp2_with (first | ((with_reducible refine at_buildSlice (n := 0) rfl ?_); refine wpList_does rfl (kd_lit0 K _ 5 1 rfl Try.underlying46 (by kernel_rfl)) ?_; clear K; rintro _ w1 ⟨g, rfl, K⟩; have O : OwnL 5 1 (some ⟨g, 0, none⟩) 0 0 (([] : List Int).map (Value.int .u8)) [row g #[] 5] := OwnL.lit0 _ _) | (at_builtin; refine wpList_does rfl (kd_appendN K _ _ rfl rfl rfl (by with_reducible assumption) Seg.auto (R.get K Cov.auto) (by kernel_rfl) (by kernel_rfl) (by omega)) ?_; clear K; rintro _ w1 ⟨A1, c1, X1, rfl, O, K⟩; (try simp only [Nat.zero_add, List.nil_append] at O)) | (at_builtin; refine wpList_does rfl (kd_appendN K _ _ rfl rfl rfl (by with_reducible assumption) Seg.auto (Rd.ofBlk (n := 1) (xs := [_]) (K.blk Has.auto) rfl rfl) (by kernel_rfl) (by kernel_rfl) (by omega)) ?_; clear K; rintro _ w1 ⟨A2, c2, X2, rfl, O, K⟩; (try simp only [Nat.zero_add, List.nil_append] at O)) | ((with_reducible refine at_eqnil rfl ?_); refine wpList_reads rfl (kr_eqnil rfl rfl (by kernel_rfl)) ?_) | ((with_reducible refine at_box rfl ?_); refine wpList_does rfl (kd_box K _ _ rfl (by conv => lhs; whnf)) ?_; clear K; rintro _ w1 ⟨g, rfl, K⟩; (try dsimp only [Value.cells] at K)) | ((with_reducible refine at_alloc rfl ?_); refine wpList_does rfl (kd_alloc K _ rfl rfl) ?_; clear K; rintro _ w1 ⟨g, rfl, K⟩; (try dsimp only [Value.cells] at K)) | ((with_reducible refine at_buildSlice rfl ?_); refine wpList_does rfl (kd_lits (cs := _) K _ _ _ rfl (by first | rfl | (go_simp; done) | (go_simp; rfl)) (by first | rfl | (go_simp; done) | (go_simp; rfl))) ?_; clear K; rintro _ w1 ⟨g, rfl, K⟩) | ((with_reducible refine at_load rfl ?_); first | (refine wpList_reads (by rfl) (kr_load_cell K _ _ (by rfl) (by rfl) Has.auto (by decide +kernel) (by (try simp only [List.getElem?_toArray, List.getElem?_cons_succ, List.getElem?_cons_zero]); exact rfl)) ?_) | (refine wpList_reads (by rfl) (kr_load_row K _ _ (by rfl) (by rfl) Has.auto (by decide +kernel) (by kernel_rfl)) ?_)) | ((with_reducible refine at_store rfl ?_); (first | (refine wpList_does rfl (kd_store_cell K _ _ _ rfl rfl (by conv => lhs; whnf) Repl.auto rfl rfl (by kernel_rfl) (by kernel_rfl) (by first | (simp only [List.setIfInBounds_toArray, List.set_cons_succ, List.set_cons_zero]; rfl) | rfl)) ?_) | (refine wpList_does rfl (kd_store_row K _ _ _ rfl rfl rfl Repl.auto (by kernel_rfl) (by kernel_rfl) (by kernel_rfl)) ?_)); clear K; intro _ w1 K; (try simp only [Act.put])))
  rw [show xs ++ [128] = xs ++ padA 0 from rfl] at O
  go_loopg [3] (zerosN n) (fun d v wr => ∃ (z q : Nat) (A' : Option Addr) (c' : Nat) (X : List Ent), v = .slice A' q c' ∧ z + d = zerosN n ∧ Hid (q = n + (1 + z)) ∧ q ≤ 2000000000 ∧ OwnL 5 1 A' q c' ((xs ++ padA z).map (Value.int .u8)) X ∧ Known w0 wr (X ++ L))
  case atStart => exact ⟨0, n + 1, _, _, _, rfl, by omega, Lib.hid (by omega), by omega, O, K.cov Cov.auto⟩
  case round =>
    clear K O
    obtain ⟨z, q, A', c', X, rfl, hd, HQ, hq9, O, K⟩ := hrel
    have hq := HQ.out
    have hz64 : zerosN n < 64 := by unfold zerosN; omega
    have hzl := zerosN_lt n z (by omega)
    rw [← hq] at hzl
    by_cases hz : z = zerosN n
    · have h56 : (q : Int) % 64 = 56 := by have := hzl.2 hz; omega
      have hq2 : q + 8 = 64 * padN n := by have := pad_total n; omega
      subst hz
      have HQ2 := Lib.hid hq2
      clear hq hzl hq2
      go_upto_region 8 with (fail)
      clear h56
      go_loopg [3, 5] 8 (fun d v i wr => ∃ (j q' : Nat) (A' : Option Addr) (c' : Nat) (X : List Ent), i = .int .i64 j ∧ v = .slice A' q' c' ∧ j + d = 8 ∧ Hid (q' = q + j) ∧ q' ≤ 3000000000 ∧ OwnL 5 1 A' q' c' ((xs ++ padA (zerosN n) ++ padP n j).map (Value.int .u8)) X ∧ Known w0 wr (X ++ L))
      case atStart => exact ⟨0, q, _, _, _, by go_num, rfl, by omega, Lib.hid rfl, by omega, by simpa [padP] using O, K⟩
      case round =>
        clear K O
        obtain ⟨j, q', A', c', X, rfl, rfl, hd, HQ', hq9', O, K⟩ := hrel
        by_cases hj : j < 8
        · have hj8 : (j : Int) < 8 := by omega
          have j1 := IntWalk.i64_in (8 * (j : Int)) (by omega)
          have j2 := IntWalk.i64_in (56 - 8 * (j : Int)) (by omega)
          go_wp2_with (first | ((with_reducible refine at_bin (b := .shr) rfl ?_); refine wpList_reads rfl (kr_shrU (56 - 8 * j) rfl rfl (by first | rfl | omega | (simp; omega)) (by omega) (by show _ ≤ _; simp [IntKind.bits]; omega)) ?_) | (at_builtin; refine wpList_does rfl (kd_appendN K _ _ rfl rfl rfl (by with_reducible assumption) Seg.auto (Rd.ofBlk (n := 1) (xs := [_]) (K.blk Has.auto) rfl rfl) (by kernel_rfl) (by kernel_rfl) (by omega)) ?_; clear K; rintro _ w1 ⟨A1, c1, X1, rfl, O, K⟩; (try simp only [Nat.zero_add, List.nil_append] at O)) | ((with_reducible refine at_eqnil rfl ?_); refine wpList_reads rfl (kr_eqnil rfl rfl (by kernel_rfl)) ?_) | ((with_reducible refine at_box rfl ?_); refine wpList_does rfl (kd_box K _ _ rfl (by conv => lhs; whnf)) ?_; clear K; rintro _ w1 ⟨g, rfl, K⟩; (try dsimp only [Value.cells] at K)) | ((with_reducible refine at_alloc rfl ?_); refine wpList_does rfl (kd_alloc K _ rfl rfl) ?_; clear K; rintro _ w1 ⟨g, rfl, K⟩; (try dsimp only [Value.cells] at K)) | ((with_reducible refine at_buildSlice rfl ?_); refine wpList_does rfl (kd_lits (cs := _) K _ _ _ rfl (by first | rfl | (go_simp; done) | (go_simp; rfl)) (by first | rfl | (go_simp; done) | (go_simp; rfl))) ?_; clear K; rintro _ w1 ⟨g, rfl, K⟩) | ((with_reducible refine at_load rfl ?_); first | (refine wpList_reads (by rfl) (kr_load_cell K _ _ (by rfl) (by rfl) Has.auto (by decide +kernel) (by (try simp only [List.getElem?_toArray, List.getElem?_cons_succ, List.getElem?_cons_zero]); exact rfl)) ?_) | (refine wpList_reads (by rfl) (kr_load_row K _ _ (by rfl) (by rfl) Has.auto (by decide +kernel) (by kernel_rfl)) ?_)) | ((with_reducible refine at_store rfl ?_); (first | (refine wpList_does rfl (kd_store_cell K _ _ _ rfl rfl (by conv => lhs; whnf) Repl.auto rfl rfl (by kernel_rfl) (by kernel_rfl) (by first | (simp only [List.setIfInBounds_toArray, List.set_cons_succ, List.set_cons_zero]; rfl) | rfl)) ?_) | (refine wpList_does rfl (kd_store_row K _ _ _ rfl rfl rfl Repl.auto (by kernel_rfl) (by kernel_rfl) (by kernel_rfl)) ?_)); clear K; intro _ w1 K; (try simp only [Act.put])))
          go_roundg (gk - 1)
          case measure => omega
          case rel => exact ⟨j + 1, _, _, _, _, by go_num, rfl, by omega, Lib.hid (by have := HQ'.out; omega), by have := HQ'.out; omega, by rw [padP_succ, ← List.append_assoc]; exact O, K.cov Cov.auto⟩
        · obtain rfl : j = 8 := by omega
          go_wp2
          go_ret
          have e9 : q' = 64 * padN n := by have := HQ'.out; have := HQ2.out; omega
          subst e9
          exact ⟨A', c', X, rfl, O, K⟩
    · have h56 : ¬ ((q : Int) % 64 = 56) := fun h => hz (hzl.1 (by omega))
      clear hq hzl
      go_wp2_with (first | (at_builtin; refine wpList_does rfl (kd_appendN K _ _ rfl rfl rfl (by with_reducible assumption) Seg.auto (Rd.ofBlk (n := 1) (xs := [_]) (K.blk Has.auto) rfl rfl) (by kernel_rfl) (by kernel_rfl) (by omega)) ?_; clear K; rintro _ w1 ⟨A1, c1, X1, rfl, O, K⟩; (try simp only [Nat.zero_add, List.nil_append] at O)) | ((with_reducible refine at_eqnil rfl ?_); refine wpList_reads rfl (kr_eqnil rfl rfl (by kernel_rfl)) ?_) | ((with_reducible refine at_box rfl ?_); refine wpList_does rfl (kd_box K _ _ rfl (by conv => lhs; whnf)) ?_; clear K; rintro _ w1 ⟨g, rfl, K⟩; (try dsimp only [Value.cells] at K)) | ((with_reducible refine at_alloc rfl ?_); refine wpList_does rfl (kd_alloc K _ rfl rfl) ?_; clear K; rintro _ w1 ⟨g, rfl, K⟩; (try dsimp only [Value.cells] at K)) | ((with_reducible refine at_buildSlice rfl ?_); refine wpList_does rfl (kd_lits (cs := _) K _ _ _ rfl (by first | rfl | (go_simp; done) | (go_simp; rfl)) (by first | rfl | (go_simp; done) | (go_simp; rfl))) ?_; clear K; rintro _ w1 ⟨g, rfl, K⟩) | ((with_reducible refine at_load rfl ?_); first | (refine wpList_reads (by rfl) (kr_load_cell K _ _ (by rfl) (by rfl) Has.auto (by decide +kernel) (by (try simp only [List.getElem?_toArray, List.getElem?_cons_succ, List.getElem?_cons_zero]); exact rfl)) ?_) | (refine wpList_reads (by rfl) (kr_load_row K _ _ (by rfl) (by rfl) Has.auto (by decide +kernel) (by kernel_rfl)) ?_)) | ((with_reducible refine at_store rfl ?_); (first | (refine wpList_does rfl (kd_store_cell K _ _ _ rfl rfl (by conv => lhs; whnf) Repl.auto rfl rfl (by kernel_rfl) (by kernel_rfl) (by first | (simp only [List.setIfInBounds_toArray, List.set_cons_succ, List.set_cons_zero]; rfl) | rfl)) ?_) | (refine wpList_does rfl (kd_store_row K _ _ _ rfl rfl rfl Repl.auto (by kernel_rfl) (by kernel_rfl) (by kernel_rfl)) ?_)); clear K; intro _ w1 K; (try simp only [Act.put])))
      go_roundg (gk - 1)
      case measure => omega
      case rel => exact ⟨z + 1, _, _, _, _, rfl, by omega, Lib.hid (by have := HQ.out; omega), by have := HQ.out; omega, by rw [padA_succ, ← List.append_assoc]; exact O, K.cov Cov.auto⟩


set_option maxRecDepth 100000 in
theorem rroots_any (K : Known w0 w L) : Calls Try.prog 64 #[] w fun e w' => e = .returned (.agg (wcells rootK 64)) ∧ Known w0 w' L := by
  go_enter Try.func64, Try.ntmps64
  go_wp2_with (first | ((with_reducible refine at_build (t := 125) rfl ?_); refine ev_build rfl 125 rfl (vals := #[(0, Value.int .u32 1116352408), (1, Value.int .u32 1899447441), (2, Value.int .u32 3049323471), (3, Value.int .u32 3921009573), (4, Value.int .u32 961987163), (5, Value.int .u32 1508970993), (6, Value.int .u32 2453635748), (7, Value.int .u32 2870763221), (8, Value.int .u32 3624381080), (9, Value.int .u32 310598401), (10, Value.int .u32 607225278), (11, Value.int .u32 1426881987), (12, Value.int .u32 1925078388), (13, Value.int .u32 2162078206), (14, Value.int .u32 2614888103), (15, Value.int .u32 3248222580), (16, Value.int .u32 3835390401), (17, Value.int .u32 4022224774), (18, Value.int .u32 264347078), (19, Value.int .u32 604807628), (20, Value.int .u32 770255983), (21, Value.int .u32 1249150122), (22, Value.int .u32 1555081692), (23, Value.int .u32 1996064986), (24, Value.int .u32 2554220882), (25, Value.int .u32 2821834349), (26, Value.int .u32 2952996808), (27, Value.int .u32 3210313671), (28, Value.int .u32 3336571891), (29, Value.int .u32 3584528711), (30, Value.int .u32 113926993), (31, Value.int .u32 338241895), (32, Value.int .u32 666307205), (33, Value.int .u32 773529912), (34, Value.int .u32 1294757372), (35, Value.int .u32 1396182291), (36, Value.int .u32 1695183700), (37, Value.int .u32 1986661051), (38, Value.int .u32 2177026350), (39, Value.int .u32 2456956037), (40, Value.int .u32 2730485921), (41, Value.int .u32 2820302411), (42, Value.int .u32 3259730800), (43, Value.int .u32 3345764771), (44, Value.int .u32 3516065817), (45, Value.int .u32 3600352804), (46, Value.int .u32 4094571909), (47, Value.int .u32 275423344), (48, Value.int .u32 430227734), (49, Value.int .u32 506948616), (50, Value.int .u32 659060556), (51, Value.int .u32 883997877), (52, Value.int .u32 958139571), (53, Value.int .u32 1322822218), (54, Value.int .u32 1537002063), (55, Value.int .u32 1747873779), (56, Value.int .u32 1955562222), (57, Value.int .u32 2024104815), (58, Value.int .u32 2227730452), (59, Value.int .u32 2361852424), (60, Value.int .u32 2428436474), (61, Value.int .u32 2756734187), (62, Value.int .u32 3204031479), (63, Value.int .u32 3329325298)]) (by kernel_rfl) (rootK_build _) ?_) | ((with_reducible refine at_alloc rfl ?_); refine wpList_does rfl (kd_alloc (z := (.agg (wcells (fun _ => 0#32) 64))) K _ rfl (by kernel_rfl)) ?_; clear K; rintro _ w1 ⟨gr, rfl, K⟩; (try dsimp only [Value.cells] at K)) | ((with_reducible refine at_store rfl ?_); refine wpList_does (by rfl) (kd_store_row K _ _ _ (by rfl) (by rfl) (by rfl) Repl.auto (by rw [fcells_size]; kernel_rfl) (by first | (rw [fcells_size, fcells_size]; rfl) | (rw [fcells_size]; rfl) | (simp only [fcells_size, u8s_size]; done) | (simp only [fcells_size, u8s_size]; rfl)) (wcells_one _ _)) ?_; clear K; intro _ w1 K; (try simp only [Act.put])))
  exact bodyPost_cellK K (by rfl) (by rfl) Has.auto (by kernel_rfl) (by rw [fcells_size]; kernel_rfl) rfl ⟨rfl, K.cov Cov.auto⟩
theorem start_build (w : World) : (Instr.build 124 #[(0, Value.int .u32 1779033703), (1, Value.int .u32 3144134277), (2, Value.int .u32 1013904242), (3, Value.int .u32 2773480762), (4, Value.int .u32 1359893119), (5, Value.int .u32 2600822924), (6, Value.int .u32 528734635), (7, Value.int .u32 1541459225)]).run Try.prog w = .ok (.agg (wcells S8.start.get 8)) w := by kernel_rfl
theorem dig_build (w : World) : (Instr.build 38 #[]).run Try.prog w = .ok (.agg (fcells 32 (fun _ => .int .u8 0))) w := by kernel_rfl
theorem block_at (ys : List Int) (j : Nat) : (S8.start.blocks (atL ys) j).block (fun i => ((ys.drop (64 * j)).take 64).getD i 0) = S8.start.blocks (atL ys) (j + 1) := by
  simp only [S8.blocks]
  apply S8.block_congr
  intro i hi
  unfold atL
  simp [List.getD, List.getElem?_take_of_lt hi]
theorem outC_one (s : S8) (j : Nat) : ∀ v ∈ (fcells 32 (outC s j)).toList, v.oneCell' = true := by
  intro v hv
  simp only [fcells, List.mem_map] at hv
  obtain ⟨i, _, rfl⟩ := hv
  unfold outC
  split <;> rfl
set_option maxHeartbeats 1600000 in
set_option maxRecDepth 100000 in
theorem rsum_any (K : Known w0 w L) (R : RdS w0 L .u8 A n xs) (hc : n ≤ c) (hm : c ≤ 9223372036854775807) (hb : ∀ b ∈ xs, 0 ≤ b ∧ b ≤ 255) (hn : n ≤ 1000000000) :
    Calls Try.prog 53 #[.slice A n c] w fun e w' => e = .returned (.agg (u8s (shaL xs))) ∧ Known w0 w' L := by
  have hxl := R.len
  obtain ⟨ys, hys⟩ : ∃ ys, ys = xs ++ padA (zerosN n) ++ padL n := ⟨_, rfl⟩
  have HYB := Lib.hid (show ∀ b ∈ ys, 0 ≤ b ∧ b ≤ 255 by
    rw [hys]
    intro b h
    rcases List.mem_append.1 h with h | h
    · rcases List.mem_append.1 h with h | h
      · exact hb b h
      · exact padA_byte _ b h
    · exact padL_byte _ b h)
  have HYS := Lib.hid hys
  have HST := Lib.hid (show S8.start.blocks (atL ys) (padN n) = shaS (atL xs) xs.length by rw [hys, ← hxl, sha_state])
  have HPN := Lib.hid (pad_total n)
  have hpn : padN n ≤ 16000000 := by unfold padN; omega
  obtain ⟨pn, hpne⟩ : ∃ pn, pn = padN n := ⟨_, rfl⟩
  have HPE := Lib.hid hpne
  rw [← hpne] at HST hpn
  have HXL := Lib.hid hxl
  clear hb hys hxl hpne
  go_enter Try.func53, Try.ntmps53
  go_upto_region 5 with ((first | ((with_reducible refine at_slot (N := 2) rfl ?_); (with_reducible refine at_alloc rfl ?_); refine wpList_does rfl (kd_alloc (z := (.agg (u8s (List.replicate 32 0)))) K _ rfl (by kernel_rfl)) ?_; clear K; rintro _ w1 ⟨gd, rfl, K⟩; (try dsimp only [Value.cells] at K)) | ((with_reducible refine at_build (t := 124) rfl ?_); refine ev_build rfl 124 rfl (vals := #[(0, Value.int .u32 1779033703), (1, Value.int .u32 3144134277), (2, Value.int .u32 1013904242), (3, Value.int .u32 2773480762), (4, Value.int .u32 1359893119), (5, Value.int .u32 2600822924), (6, Value.int .u32 528734635), (7, Value.int .u32 1541459225)]) (by kernel_rfl) (start_build _) ?_) | ((with_reducible refine at_slot (N := 3) rfl ?_); (with_reducible refine at_alloc rfl ?_); refine wpList_does rfl (kd_alloc (z := (.agg (wcells (fun _ => 0#32) 8))) K _ rfl (by kernel_rfl)) ?_; clear K; rintro _ w1 ⟨gs, rfl, K⟩; (try dsimp only [Value.cells] at K)) | ((with_reducible refine at_slot (N := 4) rfl ?_); (with_reducible refine at_alloc rfl ?_); refine wpList_does rfl (kd_alloc (z := (.agg (wcells (fun _ => 0#32) 64))) K _ rfl (by kernel_rfl)) ?_; clear K; rintro _ w1 ⟨gq, rfl, K⟩; (try dsimp only [Value.cells] at K)) | ((with_reducible refine at_store rfl ?_); refine wpList_does (by rfl) (kd_store_row K _ _ _ (by rfl) (by rfl) (by rfl) Repl.auto (by rw [fcells_size]; kernel_rfl) (by first | (rw [fcells_size, fcells_size]; rfl) | (rw [fcells_size]; rfl) | (simp only [fcells_size, u8s_size]; done) | (simp only [fcells_size, u8s_size]; rfl)) (wcells_one _ _)) ?_; clear K; intro _ w1 K; (try simp only [Act.put])) | (go_at_call 64; (with_reducible refine (rroots_any K).mono ?_); clear K; rintro e w1 ⟨rfl, K⟩) | (go_at_call 65; (with_reducible refine (rpadded_any K (R.cov Cov.auto) hc hm hn).mono ?_); clear K; rintro e w1 ⟨A1, c1, X1, rfl, O, K⟩; rw [← HYS.out, ← HPE.out] at O; rw [← HPE.out])))
  have hcc := O.le
  have hc9 := O.cap
  go_loopg [6] pn (fun d i wr => ∃ j : Nat, i = .int .i64 (64 * (j : Int)) ∧ j + d = pn ∧ Known w0 wr (X1 ++ (row gq (wcells rootK 64) 125 :: row gs (wcells (S8.start.blocks (atL ys) j).get 8) 124 :: row gd (u8s (List.replicate 32 0)) 38 :: L)))
  case atStart => exact ⟨0, by go_num, by omega, K⟩
  case round =>
    clear K
    obtain ⟨j, rfl, hd, K⟩ := hrel
    by_cases hj : j < pn
    · have hj1 : 64 * (j : Int) < 64 * (pn : Int) := by omega
      have j1 := IntWalk.i64_in (64 * (j : Int) + 64) (by omega)
      have RC := (RdS.own (w0 := w0) (L := (X1 ++ (row gq (wcells rootK 64) 125 :: row gs (wcells (S8.start.blocks (atL ys) j).get 8) 124 :: row gd (u8s (List.replicate 32 0)) 38 :: L))) O Seg.auto).cut (64 * j) 64 (by omega) hcc
      have HYB2 := Lib.hid (show ∀ b ∈ (ys.drop (64 * j)).take 64, 0 ≤ b ∧ b ≤ 255 from fun b h => HYB.out b (List.mem_of_mem_drop (List.mem_of_mem_take h)))
      have HBA := Lib.hid (block_at ys j)
      obtain ⟨bf, hbf⟩ : ∃ bf : Nat → Int, bf = fun i => ((ys.drop (64 * j)).take 64).getD i 0 := ⟨_, rfl⟩
      rw [← hbf] at HBA
      obtain ⟨st, hst⟩ : ∃ st, st = S8.start.blocks (atL ys) j := ⟨_, rfl⟩
      rw [← hst] at K HBA RC
      have HBF := Lib.hid hbf
      clear hbf hst
      go_upto_region 7 with (fail)
      refine wp_region_GK K (Cov.all _) (by kernel_rfl) (by kernel_rfl) (by kernel_rfl) (fun K hHeld => ?_)
      refine wpG_takeA 0 (v := .agg (wcells st.get 8)) ?_ hHeld ?_
      · (intro w hS; first | exact kr_load_row hS _ _ (by rfl) (by rfl) Has.auto (by kernel_rfl) (by rw [fcells_size]; kernel_rfl))
      try simp only [Act.put, List.setIfInBounds_toArray, List.set_cons_zero, List.set_cons_succ]
      refine wpG_takeA 1 (v := ?_) ?_ hHeld ?_
      rotate_left
      · (intro w hS; (clear hS; go_simp); try with_reducible rfl)
      try simp only [Act.put, List.setIfInBounds_toArray, List.set_cons_zero, List.set_cons_succ]
      refine wpG_takeA 2 (v := ?_) ?_ hHeld ?_
      rotate_left
      · (intro w hS; (clear hS; go_simp); try with_reducible rfl)
      try simp only [Act.put, List.setIfInBounds_toArray, List.set_cons_zero, List.set_cons_succ]
      refine wpG_takeA 3 (v := ?_) ?_ hHeld ?_
      rotate_left
      · (intro w hS; (clear hS; go_simp); try with_reducible rfl)
      try simp only [Act.put, List.setIfInBounds_toArray, List.set_cons_zero, List.set_cons_succ]
      refine wpG_takeA 4 (v := ?_) ?_ hHeld ?_
      rotate_left
      · (intro w hS; (clear hS; go_simp); try with_reducible rfl)
      try simp only [Act.put, List.setIfInBounds_toArray, List.set_cons_zero, List.set_cons_succ]
      refine wpG_takeA 5 (v := .slice (cutA (A1) (c1) (64 * j)) (64) (c1 - (64 * j))) ?_ hHeld ?_
      · (intro w hS; first | exact kr_cut (by rfl) (by rfl) (64 * j) (64) (.inr ⟨_, _, by rfl, by rfl, by omega⟩) (.inr ⟨_, _, by rfl, by rfl, by omega⟩) (by omega) (by omega) Try.underlying46 (by kernel_rfl))
      try simp only [Act.put, List.setIfInBounds_toArray, List.set_cons_zero, List.set_cons_succ]
      refine wpG_takeA 6 (v := .agg (wcells rootK 64)) ?_ hHeld ?_
      · (intro w hS; first | exact kr_load_row hS _ _ (by rfl) (by rfl) Has.auto (by kernel_rfl) (by rw [fcells_size]; kernel_rfl))
      try simp only [Act.put, List.setIfInBounds_toArray, List.set_cons_zero, List.set_cons_succ]
      refine wpG_oneA 7 (fun K9 hK => ?_)
      go_simp
      (go_at_call 66; (with_reducible refine (rone_any HBF.out K RC (by omega) (by omega) HYB2.out).mono ?_); clear K; rintro e w1 ⟨rfl, K⟩)
      refine hK.out _ _ (K.cov Cov.auto) (fun hHeld => ?_)
      clear hK K9
      try simp only [Act.put, List.setIfInBounds_toArray, List.set_cons_zero, List.set_cons_succ]
      refine wpG_lastA 8 (fun K9 hK => ?_)
      refine st_does (by rfl) (kd_store_row K _ _ _ (by rfl) (by rfl) (by rfl) Repl.auto (by rw [fcells_size]; kernel_rfl) (by first | (rw [fcells_size, fcells_size]; rfl) | (rw [fcells_size]; rfl) | (simp only [fcells_size, u8s_size]; done) | (simp only [fcells_size, u8s_size]; rfl)) (wcells_one _ _)) ?_
      clear K; intro _ w1 K
      refine hK.out _ _ ?_
      clear hK K9
      try simp only [Act.put, List.setIfInBounds_toArray, List.set_cons_zero, List.set_cons_succ]
      skip
      rw [HBA.out] at K
      go_wp2
      go_roundg (gk - 1)
      case measure => omega
      case rel => exact ⟨j + 1, by go_num, by omega, K⟩
    · obtain rfl : j = pn := by omega
      obtain ⟨st, hst⟩ : ∃ st, st = S8.start.blocks (atL ys) j := ⟨_, rfl⟩
      rw [← hst] at K HST
      clear hst
      go_upto_region 10 with ((first | ((with_reducible refine at_build (t := 38) rfl ?_); refine ev_build0 rfl 38 rfl (dig_build _) ?_) | ((with_reducible refine at_slot (N := 7) rfl ?_); (with_reducible refine at_alloc rfl ?_); refine wpList_does rfl (kd_alloc (z := (.agg (fcells 32 (fun _ => .int .u8 0)))) K _ rfl (by kernel_rfl)) ?_; clear K; rintro _ w1 ⟨go, rfl, K⟩; (try dsimp only [Value.cells] at K)) | ((with_reducible refine at_store rfl ?_); refine wpList_does (by rfl) (kd_store_row K _ _ _ (by rfl) (by rfl) (by rfl) Repl.auto (by rw [fcells_size]; kernel_rfl) (by first | (rw [fcells_size, fcells_size]; rfl) | (rw [fcells_size]; rfl) | (simp only [fcells_size, u8s_size]; done) | (simp only [fcells_size, u8s_size]; rfl)) (by kernel_rfl)) ?_; clear K; intro _ w1 K; (try simp only [Act.put]))))
      rw [show (fcells 32 fun x => Value.int IntKind.u8 0) = fcells 32 (outC st 0) from fcells_congr (fun i _ => by simp [outC])] at K
      go_loopg [8] 32 (fun d i wr => ∃ (q : Nat), i = .int .i64 q ∧ q + d = 32 ∧ Known w0 wr (row go (fcells 32 (outC st q)) 38 :: (X1 ++ (row gq (wcells rootK 64) 125 :: row gs (wcells st.get 8) 124 :: row gd (u8s (List.replicate 32 0)) 38 :: L))))
      case atStart => exact ⟨0, by go_num, by omega, K⟩
      case round =>
        clear K
        obtain ⟨q, rfl, hd, K⟩ := hrel
        by_cases hq : q < 32
        · have hj8 : (q : Int) < 32 := by omega
          have hj1 : (0 : Int) ≤ (q : Int) ∧ (q : Int) < 32 := by omega
          have hj2 : (0 : Int) ≤ (q : Int) / 4 ∧ (q : Int) / 4 < 8 := by omega
          have j1 := IntWalk.i64_in (8 * ((q : Int) % 4)) (by omega)
          have j2 := IntWalk.i64_in (24 - 8 * ((q : Int) % 4)) (by omega)
          go_wp2_with (first | ((with_reducible refine at_load rfl ?_); refine wpList_reads (by rfl) (kr_load_cell K _ _ (by rfl) (by rfl) Has.auto (by kernel_rfl) ((wcells_at (q / 4) (by omega) (by omega)))) ?_) | ((with_reducible refine at_bin (b := .shr) rfl ?_); refine wpList_reads rfl (kr_shrU (24 - 8 * (q % 4)) rfl rfl (by first | rfl | omega | (simp; omega)) (by unfold un; omega) (by show _ ≤ _; simp [IntKind.bits]; omega)) ?_) | ((with_reducible refine at_store rfl ?_); refine wpList_does rfl (kd_store_cell K _ _ _ rfl rfl (by conv => lhs; whnf) Repl.auto rfl rfl (by kernel_rfl) (by simp only [fcells_size, decide_eq_true_eq]; omega) (fcells_set _ _ (by omega))) ?_; clear K; intro _ w1 K; (try simp only [Act.put])))
          go_roundg (gk - 1)
          case measure => omega
          case rel => exact ⟨q + 1, by go_num, by omega, by rw [← outC_succ]; exact K⟩
        · obtain rfl : q = 32 := by omega
          rw [HST.out, outC_full] at K
          go_wp2_with (first | ((with_reducible refine at_load rfl ?_); refine wpList_reads (by rfl) (kr_load_row K _ _ (by rfl) (by rfl) Has.auto (by kernel_rfl) (by rw [u8s_size, shaL_len]; kernel_rfl)) ?_) | ((with_reducible refine at_store rfl ?_); refine wpList_does (by rfl) (kd_store_row K _ _ _ (by rfl) (by rfl) (by rfl) Repl.auto (by rw [u8s_size, shaL_len]; kernel_rfl) (by rw [u8s_size, u8s_size, shaL_len]; rfl) (u8s_one _)) ?_; clear K; intro _ w1 K; (try simp only [Act.put])))
          exact bodyPost_cellK K (by rfl) (by rfl) Has.auto (by kernel_rfl) (by rw [u8s_size, shaL_len]; kernel_rfl) rfl ⟨rfl, K.cov Cov.auto⟩
end
end Go.Proofs.Ytfdddipmeadecaa
