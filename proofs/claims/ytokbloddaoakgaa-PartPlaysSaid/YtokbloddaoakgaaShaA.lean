/-
  sha: what an operation on words comes to; RotateLeft32.
-/
import Derived.Test.YtokbloddaoakgaaShaM
import Derived.Test.YtokbloddaoakgaaG
set_option linter.unusedVariables false
set_option linter.unusedSimpArgs false
namespace Go.Proofs.Ytokbloddaoakgaa
open Go.RowKit
section
variable {P : Program} {o : Oper} {a : Act} {W : World} {T T' : TypeId} {x y : Operand} {p q : U}
theorem kr_add32 (ho : o.op = .binOp .add T x y T') (hx : a.eval x = wv p) (hy : a.eval y = wv q) : (execOp a.eval o).run P W = .ok (.value (wv (p + q))) W := by
  unfold execOp
  simp only [ho, hx, hy]
  have e := U32.add p q
  simp [eqGuard, binOp, Op.intArith, Sem.run_bind, e]
theorem kr_xor32 (ho : o.op = .binOp .xor T x y T') (hx : a.eval x = wv p) (hy : a.eval y = wv q) : (execOp a.eval o).run P W = .ok (.value (wv (p ^^^ q))) W := by
  unfold execOp
  simp only [ho, hx, hy]
  have e : IntKind.u32.wrap (((BitVec.ofInt IntKind.u32.bits (un p)) ^^^ (BitVec.ofInt IntKind.u32.bits (un q))).toNat : Int) = un (p ^^^ q) := by
    rw [show IntKind.u32.bits = 32 from rfl, U32.ofInt_un, U32.ofInt_un, U32.wrap_self]
  simp only [eqGuard, binOp, Op.intBits, Sem.run_bind, e]
  simp [Sem.run_bind]
theorem kr_and32 (ho : o.op = .binOp .and T x y T') (hx : a.eval x = wv p) (hy : a.eval y = wv q) : (execOp a.eval o).run P W = .ok (.value (wv (p &&& q))) W := by
  unfold execOp
  simp only [ho, hx, hy]
  have e : IntKind.u32.wrap (((BitVec.ofInt IntKind.u32.bits (un p)) &&& (BitVec.ofInt IntKind.u32.bits (un q))).toNat : Int) = un (p &&& q) := by
    rw [show IntKind.u32.bits = 32 from rfl, U32.ofInt_un, U32.ofInt_un, U32.wrap_self]
  simp only [eqGuard, binOp, Op.intBits, Sem.run_bind, e]
  simp [Sem.run_bind]
theorem kr_or32 (ho : o.op = .binOp .or T x y T') (hx : a.eval x = wv p) (hy : a.eval y = wv q) : (execOp a.eval o).run P W = .ok (.value (wv (p ||| q))) W := by
  unfold execOp
  simp only [ho, hx, hy]
  have e : IntKind.u32.wrap (((BitVec.ofInt IntKind.u32.bits (un p)) ||| (BitVec.ofInt IntKind.u32.bits (un q))).toNat : Int) = un (p ||| q) := by
    rw [show IntKind.u32.bits = 32 from rfl, U32.ofInt_un, U32.ofInt_un, U32.wrap_self]
  simp only [eqGuard, binOp, Op.intBits, Sem.run_bind, e]
  simp [Sem.run_bind]
theorem kr_not32 (ho : o.op = .unOp .xor T x) (hx : a.eval x = wv p) : (execOp a.eval o).run P W = .ok (.value (wv (~~~p))) W := by
  unfold execOp
  simp only [ho, hx]
  have e : IntKind.u32.wrap (((BitVec.ofInt IntKind.u32.bits (IntKind.u32.max)) ^^^ (BitVec.ofInt IntKind.u32.bits (un p))).toNat : Int) = un (~~~p) := by
    rw [show IntKind.u32.bits = 32 from rfl, U32.ofInt_un, show IntKind.u32.max = 4294967295 from by kernel_rfl, show BitVec.ofInt 32 4294967295 = BitVec.allOnes 32 by decide, BitVec.allOnes_xor, U32.wrap_self]
  have s : IntKind.u32.signed = false := rfl
  simp only [Op.unary, Op.intBits, s, Bool.false_eq_true, if_false, e]
  simp [Sem.run_bind]
theorem kr_shl32 {k : IntKind} (n : Nat) (hn : n ≤ 32) (ho : o.op = .binOp .shl T x y T') (hx : a.eval x = wv p) (hy : a.eval y = .int k n) : (execOp a.eval o).run P W = .ok (.value (wv (p <<< n))) W := by
  unfold execOp
  simp only [ho, hx, hy]
  have e := U32.shl p n
  have h0 : ¬ ((n : Int) < 0) := by omega
  have h1 : min n 32 = n := by omega
  simp [eqGuard, binOp, Op.shift, Sem.run_bind, h0, show IntKind.u32.bits = 32 from rfl, h1, e]
theorem kr_shr32 {k : IntKind} (n : Nat) (hn : n ≤ 32) (ho : o.op = .binOp .shr T x y T') (hx : a.eval x = wv p) (hy : a.eval y = .int k n) : (execOp a.eval o).run P W = .ok (.value (wv (p >>> n))) W := by
  unfold execOp
  simp only [ho, hx, hy]
  have e := U32.shr p n
  have h0 : ¬ ((n : Int) < 0) := by omega
  have h1 : min n 32 = n := by omega
  simp only [eqGuard, binOp, Op.shift, Sem.run_bind, h0, show IntKind.u32.bits = 32 from rfl, if_false, Int.toNat_natCast, h1, e]
  simp [Sem.run_bind]
end
/- words keep their form in a walk -/
namespace U32
@[go_sem] theorem bxor (p q : U) : bits BinOp.xor IntKind.u32 (un p) (un q) = un (p ^^^ q) := by
  have e : IntKind.u32.wrap (((BitVec.ofInt 32 (un p)) ^^^ (BitVec.ofInt 32 (un q))).toNat : Int) = un (p ^^^ q) := by
    rw [ofInt_un, ofInt_un, wrap_self]
  exact e
@[go_sem] theorem band (p q : U) : bits BinOp.and IntKind.u32 (un p) (un q) = un (p &&& q) := by
  have e : IntKind.u32.wrap (((BitVec.ofInt 32 (un p)) &&& (BitVec.ofInt 32 (un q))).toNat : Int) = un (p &&& q) := by
    rw [ofInt_un, ofInt_un, wrap_self]
  exact e
@[go_sem] theorem bor (p q : U) : bits BinOp.or IntKind.u32 (un p) (un q) = un (p ||| q) := by
  have e : IntKind.u32.wrap (((BitVec.ofInt 32 (un p)) ||| (BitVec.ofInt 32 (un q))).toNat : Int) = un (p ||| q) := by
    rw [ofInt_un, ofInt_un, wrap_self]
  exact e
@[go_sem] theorem bnot (p : U) : bits BinOp.xor IntKind.u32 4294967295 (un p) = un (~~~p) := by
  have e : IntKind.u32.wrap (((BitVec.ofInt 32 4294967295) ^^^ (BitVec.ofInt 32 (un p))).toNat : Int) = un (~~~p) := by
    rw [ofInt_un, show BitVec.ofInt 32 4294967295 = BitVec.allOnes 32 by decide, BitVec.allOnes_xor, wrap_self]
  exact e
@[go_sem] theorem bnotm (p : U) : bits BinOp.xor IntKind.u32 IntKind.u32.max (un p) = un (~~~p) := bnot p
@[go_sem] theorem badd (p q : U) : ((un p) + (un q)) % (4294967296 : Int) = un (p + q) := by
  have e := add p q
  rwa [IntKind.wrap_u32] at e
@[go_sem] theorem bshl7 (p : U) : (un p) * (128 : Int) % (4294967296 : Int) = un (p <<< 7) := by
  have e := shl p 7
  rwa [IntKind.wrap_u32] at e
@[go_sem] theorem bshl8 (p : U) : (un p) * (256 : Int) % (4294967296 : Int) = un (p <<< 8) := by
  have e := shl p 8
  rwa [IntKind.wrap_u32] at e
@[go_sem] theorem bshl10 (p : U) : (un p) * (1024 : Int) % (4294967296 : Int) = un (p <<< 10) := by
  have e := shl p 10
  rwa [IntKind.wrap_u32] at e
@[go_sem] theorem bshl13 (p : U) : (un p) * (8192 : Int) % (4294967296 : Int) = un (p <<< 13) := by
  have e := shl p 13
  rwa [IntKind.wrap_u32] at e
@[go_sem] theorem bshl14 (p : U) : (un p) * (16384 : Int) % (4294967296 : Int) = un (p <<< 14) := by
  have e := shl p 14
  rwa [IntKind.wrap_u32] at e
@[go_sem] theorem bshl15 (p : U) : (un p) * (32768 : Int) % (4294967296 : Int) = un (p <<< 15) := by
  have e := shl p 15
  rwa [IntKind.wrap_u32] at e
@[go_sem] theorem bshl16 (p : U) : (un p) * (65536 : Int) % (4294967296 : Int) = un (p <<< 16) := by
  have e := shl p 16
  rwa [IntKind.wrap_u32] at e
@[go_sem] theorem bshl19 (p : U) : (un p) * (524288 : Int) % (4294967296 : Int) = un (p <<< 19) := by
  have e := shl p 19
  rwa [IntKind.wrap_u32] at e
@[go_sem] theorem bshl21 (p : U) : (un p) * (2097152 : Int) % (4294967296 : Int) = un (p <<< 21) := by
  have e := shl p 21
  rwa [IntKind.wrap_u32] at e
@[go_sem] theorem bshl24 (p : U) : (un p) * (16777216 : Int) % (4294967296 : Int) = un (p <<< 24) := by
  have e := shl p 24
  rwa [IntKind.wrap_u32] at e
@[go_sem] theorem bshl25 (p : U) : (un p) * (33554432 : Int) % (4294967296 : Int) = un (p <<< 25) := by
  have e := shl p 25
  rwa [IntKind.wrap_u32] at e
@[go_sem] theorem bshl26 (p : U) : (un p) * (67108864 : Int) % (4294967296 : Int) = un (p <<< 26) := by
  have e := shl p 26
  rwa [IntKind.wrap_u32] at e
@[go_sem] theorem bshl30 (p : U) : (un p) * (1073741824 : Int) % (4294967296 : Int) = un (p <<< 30) := by
  have e := shl p 30
  rwa [IntKind.wrap_u32] at e

@[go_sem] theorem bshr2 (p : U) : (un p) / (4 : Int) = un (p >>> 2) := by
  have e := shr p 2
  rwa [Int.fdiv_eq_ediv_of_nonneg _ (by decide)] at e
@[go_sem] theorem bshr3 (p : U) : (un p) / (8 : Int) = un (p >>> 3) := by
  have e := shr p 3
  rwa [Int.fdiv_eq_ediv_of_nonneg _ (by decide)] at e
@[go_sem] theorem bshr6 (p : U) : (un p) / (64 : Int) = un (p >>> 6) := by
  have e := shr p 6
  rwa [Int.fdiv_eq_ediv_of_nonneg _ (by decide)] at e
@[go_sem] theorem bshr7 (p : U) : (un p) / (128 : Int) = un (p >>> 7) := by
  have e := shr p 7
  rwa [Int.fdiv_eq_ediv_of_nonneg _ (by decide)] at e
@[go_sem] theorem bshr10 (p : U) : (un p) / (1024 : Int) = un (p >>> 10) := by
  have e := shr p 10
  rwa [Int.fdiv_eq_ediv_of_nonneg _ (by decide)] at e
@[go_sem] theorem bshr11 (p : U) : (un p) / (2048 : Int) = un (p >>> 11) := by
  have e := shr p 11
  rwa [Int.fdiv_eq_ediv_of_nonneg _ (by decide)] at e
@[go_sem] theorem bshr13 (p : U) : (un p) / (8192 : Int) = un (p >>> 13) := by
  have e := shr p 13
  rwa [Int.fdiv_eq_ediv_of_nonneg _ (by decide)] at e
@[go_sem] theorem bshr17 (p : U) : (un p) / (131072 : Int) = un (p >>> 17) := by
  have e := shr p 17
  rwa [Int.fdiv_eq_ediv_of_nonneg _ (by decide)] at e
@[go_sem] theorem bshr18 (p : U) : (un p) / (262144 : Int) = un (p >>> 18) := by
  have e := shr p 18
  rwa [Int.fdiv_eq_ediv_of_nonneg _ (by decide)] at e
@[go_sem] theorem bshr19 (p : U) : (un p) / (524288 : Int) = un (p >>> 19) := by
  have e := shr p 19
  rwa [Int.fdiv_eq_ediv_of_nonneg _ (by decide)] at e
@[go_sem] theorem bshr22 (p : U) : (un p) / (4194304 : Int) = un (p >>> 22) := by
  have e := shr p 22
  rwa [Int.fdiv_eq_ediv_of_nonneg _ (by decide)] at e
@[go_sem] theorem bshr25 (p : U) : (un p) / (33554432 : Int) = un (p >>> 25) := by
  have e := shr p 25
  rwa [Int.fdiv_eq_ediv_of_nonneg _ (by decide)] at e

@[go_sem] theorem wadd (p q : U) : IntKind.u32.wrap (un p + un q) = un (p + q) := add p q
@[go_sem] theorem wshl7 (p : U) : IntKind.u32.wrap (un p * (128 : Int)) = un (p <<< 7) := shl p 7
@[go_sem] theorem wshl8 (p : U) : IntKind.u32.wrap (un p * (256 : Int)) = un (p <<< 8) := shl p 8
@[go_sem] theorem wshl10 (p : U) : IntKind.u32.wrap (un p * (1024 : Int)) = un (p <<< 10) := shl p 10
@[go_sem] theorem wshl13 (p : U) : IntKind.u32.wrap (un p * (8192 : Int)) = un (p <<< 13) := shl p 13
@[go_sem] theorem wshl14 (p : U) : IntKind.u32.wrap (un p * (16384 : Int)) = un (p <<< 14) := shl p 14
@[go_sem] theorem wshl15 (p : U) : IntKind.u32.wrap (un p * (32768 : Int)) = un (p <<< 15) := shl p 15
@[go_sem] theorem wshl16 (p : U) : IntKind.u32.wrap (un p * (65536 : Int)) = un (p <<< 16) := shl p 16
@[go_sem] theorem wshl19 (p : U) : IntKind.u32.wrap (un p * (524288 : Int)) = un (p <<< 19) := shl p 19
@[go_sem] theorem wshl21 (p : U) : IntKind.u32.wrap (un p * (2097152 : Int)) = un (p <<< 21) := shl p 21
@[go_sem] theorem wshl24 (p : U) : IntKind.u32.wrap (un p * (16777216 : Int)) = un (p <<< 24) := shl p 24
@[go_sem] theorem wshl25 (p : U) : IntKind.u32.wrap (un p * (33554432 : Int)) = un (p <<< 25) := shl p 25
@[go_sem] theorem wshl26 (p : U) : IntKind.u32.wrap (un p * (67108864 : Int)) = un (p <<< 26) := shl p 26
@[go_sem] theorem wshl30 (p : U) : IntKind.u32.wrap (un p * (1073741824 : Int)) = un (p <<< 30) := shl p 30

@[go_sem] theorem fshr2 (p : U) : (un p).fdiv (4 : Int) = un (p >>> 2) := shr p 2
@[go_sem] theorem fshr3 (p : U) : (un p).fdiv (8 : Int) = un (p >>> 3) := shr p 3
@[go_sem] theorem fshr6 (p : U) : (un p).fdiv (64 : Int) = un (p >>> 6) := shr p 6
@[go_sem] theorem fshr7 (p : U) : (un p).fdiv (128 : Int) = un (p >>> 7) := shr p 7
@[go_sem] theorem fshr10 (p : U) : (un p).fdiv (1024 : Int) = un (p >>> 10) := shr p 10
@[go_sem] theorem fshr11 (p : U) : (un p).fdiv (2048 : Int) = un (p >>> 11) := shr p 11
@[go_sem] theorem fshr13 (p : U) : (un p).fdiv (8192 : Int) = un (p >>> 13) := shr p 13
@[go_sem] theorem fshr17 (p : U) : (un p).fdiv (131072 : Int) = un (p >>> 17) := shr p 17
@[go_sem] theorem fshr18 (p : U) : (un p).fdiv (262144 : Int) = un (p >>> 18) := shr p 18
@[go_sem] theorem fshr19 (p : U) : (un p).fdiv (524288 : Int) = un (p >>> 19) := shr p 19
@[go_sem] theorem fshr22 (p : U) : (un p).fdiv (4194304 : Int) = un (p >>> 22) := shr p 22
@[go_sem] theorem fshr25 (p : U) : (un p).fdiv (33554432 : Int) = un (p >>> 25) := shr p 25

end U32


theorem rot2 (a : U) (w : World) : Calls Try.prog 105 #[wv a, .int .i64 (-2)] w fun e w' => e = .returned (wv (rotr 2 a)) ∧ w = w' := by
  have c1 : IntKind.u64.wrap (-2) = 18446744073709551614 := by kernel_rfl
  have c2 : bits BinOp.and IntKind.u64 18446744073709551614 31 = 30 := by kernel_rfl
  go_enter Try.func105, Try.ntmps105
  go_wp2_with (first | ((with_reducible refine at_bin (b := .shl) (t := 147) rfl ?_); refine wpList_reads (by rfl) (kr_shl32 30 (by omega) (by rfl) (by rfl) (by rfl)) ?_) | ((with_reducible refine at_bin (b := .shr) (t := 147) rfl ?_); refine wpList_reads (by rfl) (kr_shr32 2 (by omega) (by rfl) (by rfl) (by rfl)) ?_) | ((with_reducible refine at_bin (b := .or) (t := 147) rfl ?_); refine wpList_reads (by rfl) (kr_or32 (by rfl) (by rfl) (by rfl)) ?_))
  go_ret
  exact ⟨by rw [BitVec.or_comm]; rfl, rfl⟩

theorem rot6 (a : U) (w : World) : Calls Try.prog 105 #[wv a, .int .i64 (-6)] w fun e w' => e = .returned (wv (rotr 6 a)) ∧ w = w' := by
  have c1 : IntKind.u64.wrap (-6) = 18446744073709551610 := by kernel_rfl
  have c2 : bits BinOp.and IntKind.u64 18446744073709551610 31 = 26 := by kernel_rfl
  go_enter Try.func105, Try.ntmps105
  go_wp2_with (first | ((with_reducible refine at_bin (b := .shl) (t := 147) rfl ?_); refine wpList_reads (by rfl) (kr_shl32 26 (by omega) (by rfl) (by rfl) (by rfl)) ?_) | ((with_reducible refine at_bin (b := .shr) (t := 147) rfl ?_); refine wpList_reads (by rfl) (kr_shr32 6 (by omega) (by rfl) (by rfl) (by rfl)) ?_) | ((with_reducible refine at_bin (b := .or) (t := 147) rfl ?_); refine wpList_reads (by rfl) (kr_or32 (by rfl) (by rfl) (by rfl)) ?_))
  go_ret
  exact ⟨by rw [BitVec.or_comm]; rfl, rfl⟩

theorem rot7 (a : U) (w : World) : Calls Try.prog 105 #[wv a, .int .i64 (-7)] w fun e w' => e = .returned (wv (rotr 7 a)) ∧ w = w' := by
  have c1 : IntKind.u64.wrap (-7) = 18446744073709551609 := by kernel_rfl
  have c2 : bits BinOp.and IntKind.u64 18446744073709551609 31 = 25 := by kernel_rfl
  go_enter Try.func105, Try.ntmps105
  go_wp2_with (first | ((with_reducible refine at_bin (b := .shl) (t := 147) rfl ?_); refine wpList_reads (by rfl) (kr_shl32 25 (by omega) (by rfl) (by rfl) (by rfl)) ?_) | ((with_reducible refine at_bin (b := .shr) (t := 147) rfl ?_); refine wpList_reads (by rfl) (kr_shr32 7 (by omega) (by rfl) (by rfl) (by rfl)) ?_) | ((with_reducible refine at_bin (b := .or) (t := 147) rfl ?_); refine wpList_reads (by rfl) (kr_or32 (by rfl) (by rfl) (by rfl)) ?_))
  go_ret
  exact ⟨by rw [BitVec.or_comm]; rfl, rfl⟩

theorem rot11 (a : U) (w : World) : Calls Try.prog 105 #[wv a, .int .i64 (-11)] w fun e w' => e = .returned (wv (rotr 11 a)) ∧ w = w' := by
  have c1 : IntKind.u64.wrap (-11) = 18446744073709551605 := by kernel_rfl
  have c2 : bits BinOp.and IntKind.u64 18446744073709551605 31 = 21 := by kernel_rfl
  go_enter Try.func105, Try.ntmps105
  go_wp2_with (first | ((with_reducible refine at_bin (b := .shl) (t := 147) rfl ?_); refine wpList_reads (by rfl) (kr_shl32 21 (by omega) (by rfl) (by rfl) (by rfl)) ?_) | ((with_reducible refine at_bin (b := .shr) (t := 147) rfl ?_); refine wpList_reads (by rfl) (kr_shr32 11 (by omega) (by rfl) (by rfl) (by rfl)) ?_) | ((with_reducible refine at_bin (b := .or) (t := 147) rfl ?_); refine wpList_reads (by rfl) (kr_or32 (by rfl) (by rfl) (by rfl)) ?_))
  go_ret
  exact ⟨by rw [BitVec.or_comm]; rfl, rfl⟩

theorem rot13 (a : U) (w : World) : Calls Try.prog 105 #[wv a, .int .i64 (-13)] w fun e w' => e = .returned (wv (rotr 13 a)) ∧ w = w' := by
  have c1 : IntKind.u64.wrap (-13) = 18446744073709551603 := by kernel_rfl
  have c2 : bits BinOp.and IntKind.u64 18446744073709551603 31 = 19 := by kernel_rfl
  go_enter Try.func105, Try.ntmps105
  go_wp2_with (first | ((with_reducible refine at_bin (b := .shl) (t := 147) rfl ?_); refine wpList_reads (by rfl) (kr_shl32 19 (by omega) (by rfl) (by rfl) (by rfl)) ?_) | ((with_reducible refine at_bin (b := .shr) (t := 147) rfl ?_); refine wpList_reads (by rfl) (kr_shr32 13 (by omega) (by rfl) (by rfl) (by rfl)) ?_) | ((with_reducible refine at_bin (b := .or) (t := 147) rfl ?_); refine wpList_reads (by rfl) (kr_or32 (by rfl) (by rfl) (by rfl)) ?_))
  go_ret
  exact ⟨by rw [BitVec.or_comm]; rfl, rfl⟩

theorem rot17 (a : U) (w : World) : Calls Try.prog 105 #[wv a, .int .i64 (-17)] w fun e w' => e = .returned (wv (rotr 17 a)) ∧ w = w' := by
  have c1 : IntKind.u64.wrap (-17) = 18446744073709551599 := by kernel_rfl
  have c2 : bits BinOp.and IntKind.u64 18446744073709551599 31 = 15 := by kernel_rfl
  go_enter Try.func105, Try.ntmps105
  go_wp2_with (first | ((with_reducible refine at_bin (b := .shl) (t := 147) rfl ?_); refine wpList_reads (by rfl) (kr_shl32 15 (by omega) (by rfl) (by rfl) (by rfl)) ?_) | ((with_reducible refine at_bin (b := .shr) (t := 147) rfl ?_); refine wpList_reads (by rfl) (kr_shr32 17 (by omega) (by rfl) (by rfl) (by rfl)) ?_) | ((with_reducible refine at_bin (b := .or) (t := 147) rfl ?_); refine wpList_reads (by rfl) (kr_or32 (by rfl) (by rfl) (by rfl)) ?_))
  go_ret
  exact ⟨by rw [BitVec.or_comm]; rfl, rfl⟩

theorem rot18 (a : U) (w : World) : Calls Try.prog 105 #[wv a, .int .i64 (-18)] w fun e w' => e = .returned (wv (rotr 18 a)) ∧ w = w' := by
  have c1 : IntKind.u64.wrap (-18) = 18446744073709551598 := by kernel_rfl
  have c2 : bits BinOp.and IntKind.u64 18446744073709551598 31 = 14 := by kernel_rfl
  go_enter Try.func105, Try.ntmps105
  go_wp2_with (first | ((with_reducible refine at_bin (b := .shl) (t := 147) rfl ?_); refine wpList_reads (by rfl) (kr_shl32 14 (by omega) (by rfl) (by rfl) (by rfl)) ?_) | ((with_reducible refine at_bin (b := .shr) (t := 147) rfl ?_); refine wpList_reads (by rfl) (kr_shr32 18 (by omega) (by rfl) (by rfl) (by rfl)) ?_) | ((with_reducible refine at_bin (b := .or) (t := 147) rfl ?_); refine wpList_reads (by rfl) (kr_or32 (by rfl) (by rfl) (by rfl)) ?_))
  go_ret
  exact ⟨by rw [BitVec.or_comm]; rfl, rfl⟩

theorem rot19 (a : U) (w : World) : Calls Try.prog 105 #[wv a, .int .i64 (-19)] w fun e w' => e = .returned (wv (rotr 19 a)) ∧ w = w' := by
  have c1 : IntKind.u64.wrap (-19) = 18446744073709551597 := by kernel_rfl
  have c2 : bits BinOp.and IntKind.u64 18446744073709551597 31 = 13 := by kernel_rfl
  go_enter Try.func105, Try.ntmps105
  go_wp2_with (first | ((with_reducible refine at_bin (b := .shl) (t := 147) rfl ?_); refine wpList_reads (by rfl) (kr_shl32 13 (by omega) (by rfl) (by rfl) (by rfl)) ?_) | ((with_reducible refine at_bin (b := .shr) (t := 147) rfl ?_); refine wpList_reads (by rfl) (kr_shr32 19 (by omega) (by rfl) (by rfl) (by rfl)) ?_) | ((with_reducible refine at_bin (b := .or) (t := 147) rfl ?_); refine wpList_reads (by rfl) (kr_or32 (by rfl) (by rfl) (by rfl)) ?_))
  go_ret
  exact ⟨by rw [BitVec.or_comm]; rfl, rfl⟩

theorem rot22 (a : U) (w : World) : Calls Try.prog 105 #[wv a, .int .i64 (-22)] w fun e w' => e = .returned (wv (rotr 22 a)) ∧ w = w' := by
  have c1 : IntKind.u64.wrap (-22) = 18446744073709551594 := by kernel_rfl
  have c2 : bits BinOp.and IntKind.u64 18446744073709551594 31 = 10 := by kernel_rfl
  go_enter Try.func105, Try.ntmps105
  go_wp2_with (first | ((with_reducible refine at_bin (b := .shl) (t := 147) rfl ?_); refine wpList_reads (by rfl) (kr_shl32 10 (by omega) (by rfl) (by rfl) (by rfl)) ?_) | ((with_reducible refine at_bin (b := .shr) (t := 147) rfl ?_); refine wpList_reads (by rfl) (kr_shr32 22 (by omega) (by rfl) (by rfl) (by rfl)) ?_) | ((with_reducible refine at_bin (b := .or) (t := 147) rfl ?_); refine wpList_reads (by rfl) (kr_or32 (by rfl) (by rfl) (by rfl)) ?_))
  go_ret
  exact ⟨by rw [BitVec.or_comm]; rfl, rfl⟩

theorem rot25 (a : U) (w : World) : Calls Try.prog 105 #[wv a, .int .i64 (-25)] w fun e w' => e = .returned (wv (rotr 25 a)) ∧ w = w' := by
  have c1 : IntKind.u64.wrap (-25) = 18446744073709551591 := by kernel_rfl
  have c2 : bits BinOp.and IntKind.u64 18446744073709551591 31 = 7 := by kernel_rfl
  go_enter Try.func105, Try.ntmps105
  go_wp2_with (first | ((with_reducible refine at_bin (b := .shl) (t := 147) rfl ?_); refine wpList_reads (by rfl) (kr_shl32 7 (by omega) (by rfl) (by rfl) (by rfl)) ?_) | ((with_reducible refine at_bin (b := .shr) (t := 147) rfl ?_); refine wpList_reads (by rfl) (kr_shr32 25 (by omega) (by rfl) (by rfl) (by rfl)) ?_) | ((with_reducible refine at_bin (b := .or) (t := 147) rfl ?_); refine wpList_reads (by rfl) (kr_or32 (by rfl) (by rfl) (by rfl)) ?_))
  go_ret
  exact ⟨by rw [BitVec.or_comm]; rfl, rfl⟩

end Go.Proofs.Ytokbloddaoakgaa
