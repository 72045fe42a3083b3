/-
  The document's parts: Read and Write as plain mathematics; strings cut and joined.
-/
import Derived.Test.YtokbloddaoakgaaPrtC
import Derived.Laws.Strings2
set_option linter.unusedVariables false
set_option linter.unusedSimpArgs false
namespace Go.Proofs.Ytokbloddaoakgaa
open Go.RowKit
/-- the document's loop over a region's sectors -/
def rrl (D : Dev) (first at_ n : Int) : Nat → Nat → List Int → List Int × Int
  | 0, _, s => (s, 0)
  | k + 1, i, s =>
    if min (at_ + n) (((i + 1 : Nat) : Int) * D.size) ≤ max at_ ((i : Int) * D.size) then rrl D first at_ n k (i + 1) s
    else if (dread D (first + i)).2 ≠ 0 then ([], (dread D (first + i)).2)
    else rrl D first at_ n k (i + 1) (s ++ (((dread D (first + i)).1.drop (max at_ ((i : Int) * D.size) - (i : Int) * D.size).toNat).take (min (at_ + n) (((i + 1 : Nat) : Int) * D.size) - max at_ ((i : Int) * D.size)).toNat))
theorem prl_zero (k : Nat) (D : Dev) (f a : Int) (s : List Int) : prl k D f a 0 s = (s, 0) := by
  cases k with
  | zero => rfl
  | succ k => rw [prl, if_pos rfl]
theorem rrl_prl {D : Dev} (hok : DevOk D) {first at_ n : Int} (hat : 0 ≤ at_) (hn : 0 ≤ n) : ∀ (k i : Nat) (s : List Int) (fuel : Nat), at_ + n ≤ ((i + k : Nat) : Int) * D.size → (at_ + n - max at_ ((i : Int) * D.size)).toNat ≤ fuel →
    rrl D first at_ n k i s = if at_ + n ≤ max at_ ((i : Int) * D.size) then (s, 0) else prl fuel D first (max at_ ((i : Int) * D.size)) (at_ + n - max at_ ((i : Int) * D.size)).toNat s := by
  have hz : (128 : Int) ≤ D.size := by have := hok.size; omega
  intro k
  induction k with
  | zero =>
    intro i s fuel h _
    rw [rrl, if_pos (by rw [Nat.add_zero] at h; omega)]
  | succ k ih =>
    intro i s fuel h hf
    have e1 : (((i + 1 : Nat) : Int)) * D.size = (i : Int) * D.size + D.size := by
      rw [show ((i + 1 : Nat) : Int) = (i : Int) + 1 from rfl, Int.add_mul, Int.one_mul]
    have h' : at_ + n ≤ (((i + 1) + k : Nat) : Int) * D.size := by rw [show i + 1 + k = i + (k + 1) by omega]; exact h
    have hS0 : 0 ≤ (i : Int) * D.size := Int.mul_nonneg (by omega) (by omega)
    obtain ⟨S, hS⟩ : ∃ S, S = (i : Int) * D.size := ⟨_, rfl⟩
    obtain ⟨Z, hZ⟩ : ∃ Z : Int, Z = D.size := ⟨_, rfl⟩
    rw [← hS] at hS0 hf
    rw [← hZ] at hz
    rw [rrl, e1, ← hS, ← hZ]
    have ih1 := fun s f => ih (i + 1) s f h'
    rw [e1, ← hS, ← hZ] at ih1
    by_cases c1 : at_ + n ≤ max at_ S
    · rw [if_pos c1, if_pos (by omega), ih1 s fuel (by omega), if_pos (by omega)]
    · rw [if_neg c1]
      by_cases c2 : S + Z ≤ at_
      · rw [if_pos (by omega), ih1 s fuel (by omega), if_neg (by omega)]
        rw [show max at_ (S + Z) = max at_ S by omega]
      · rw [if_neg (by omega)]
        obtain ⟨f, rfl⟩ : ∃ f, fuel = f + 1 := ⟨fuel - 1, by omega⟩
        have hdiv : max at_ S / (D.size : Int) = (i : Int) := by
          rw [← hZ]
          have hx : max at_ S = (max at_ S - S) + (i : Int) * Z := by rw [hS, ← hZ]; omega
          rw [hx, Int.add_mul_ediv_right _ _ (by omega), Int.ediv_eq_zero_of_lt (by omega) (by omega)]
          omega
        have hmod : max at_ S % (D.size : Int) = max at_ S - S := by
          rw [← hZ]
          have hx : max at_ S = (max at_ S - S) + (i : Int) * Z := by rw [hS, ← hZ]; omega
          rw [hx, Int.add_mul_emod_self_right, Int.emod_eq_of_lt (by omega) (by omega)]
          rw [hS, ← hZ]
          omega
        have hne : ¬ (at_ + n - max at_ S).toNat = 0 := by omega
        by_cases c3 : (dread D (first + i)).2 ≠ 0
        · rw [if_pos c3, prl, if_neg hne, hdiv, if_pos c3]
        · rw [if_neg c3, prl, if_neg hne, hdiv, hmod, if_neg c3]
          have hlen := dread_full hok (i := first + i) (Decidable.of_not_not c3)
          obtain ⟨b, hb⟩ : ∃ b, b = (dread D (first + i)).1 := ⟨_, rfl⟩
          rw [← hb] at hlen ⊢
          obtain ⟨x, hx⟩ : ∃ x, x = (max at_ S - S).toNat := ⟨_, rfl⟩
          rw [← hx]
          have hdl : (b.drop x).length = D.size - x := by rw [List.length_drop, hlen]
          have ht : (b.drop x).take (at_ + n - max at_ S).toNat = (b.drop x).take (min (at_ + n) (S + Z) - max at_ S).toNat := by
            by_cases c4 : at_ + n ≤ S + Z
            · rw [show min (at_ + n) (S + Z) = at_ + n by omega]
            · rw [List.take_of_length_le (by omega), List.take_of_length_le (by omega)]
          have hl : ((b.drop x).take (at_ + n - max at_ S).toNat).length = (min (at_ + n) (S + Z) - max at_ S).toNat := by
            rw [ht, List.length_take]
            omega
          rw [hl, ht, ih1 _ f (by omega)]
          by_cases c5 : at_ + n ≤ max at_ (S + Z)
          · rw [if_pos c5, show (at_ + n - max at_ S).toNat - (min (at_ + n) (S + Z) - max at_ S).toNat = 0 by omega, prl_zero]
          · rw [if_neg c5]
            rw [show max at_ S + (((min (at_ + n) (S + Z) - max at_ S).toNat : Nat) : Int) = max at_ (S + Z) by omega]
            rw [show (at_ + n - max at_ S).toNat - (min (at_ + n) (S + Z) - max at_ S).toNat = (at_ + n - max at_ (S + Z)).toNat by omega]
/-- the document's Read is the program's -/
theorem rrl_pread {D : Dev} (hok : DevOk D) {first count at_ n : Int} (h : fitsB (count * D.size) at_ n = true) (hc : 0 ≤ count) : rrl D first at_ n count.toNat 0 [] = pread D first count at_ n := by
  have h3 := h
  simp only [fitsB, Bool.and_eq_true, decide_eq_true_eq] at h3
  obtain ⟨f1, f2, f3, f4⟩ := h3
  rw [pread, h]
  rw [rrl_prl hok f1 f2 count.toNat 0 [] n.toNat (by rw [Nat.zero_add, Int.toNat_of_nonneg hc]; omega) (by simp; omega)]
  have e0 : max at_ (((0 : Nat) : Int) * D.size) = at_ := by simp; omega
  rw [e0]
  by_cases hn : n = 0
  · subst hn
    rw [if_pos (by omega)]
    rfl
  · rw [if_neg (by omega), show (at_ + n - at_).toNat = n.toNat by omega]
    rfl
/-- cuts and joins of strings of numbers -/
theorem strOf_cut (xs : List Int) (i j : Nat) : (strOfNums xs).extract i j = strOfNums ((xs.drop i).take (j - i)) := by
  unfold strOfNums
  rw [ByteArray.extract_mk, List.map_take, List.map_drop]
theorem strOf_app (xs ys : List Int) : strOfNums xs ++ strOfNums ys = strOfNums (xs ++ ys) := by
  apply ByteArray.ext
  simp [strOfNums, ByteArray.data_append]
section
variable {P : Program} {o : Oper} {a : Act} {W : World}
/-- s[i:j] -/
theorem kr_cutS {T : TypeId} {x l h : Operand} (ho : o.op = .slice T x (some l) (some h) none) {xs : List Int} (i j : Nat) (hx : a.eval x = .string (strOfNums xs)) (hl : a.eval l = .int .i64 i) (hh : a.eval h = .int .i64 j) (hij : i ≤ j) (hj : j ≤ xs.length) (hT : P.underlying T = some .string) :
    (execOp a.eval o).run P W = .ok (.value (.string (strOfNums ((xs.drop i).take (j - i))))) W := by
  have h1 := run_slice_string (P := P) W T (strOfNums xs) .i64 .i64 (i : Int) (j : Int) hT (by omega) (by omega) (by rw [strOfNums_size]; omega)
  rw [Int.toNat_natCast, Int.toNat_natCast, strOf_cut] at h1
  unfold execOp
  simp only [ho, hx, hl, hh, Option.map_some, Option.map_none, Instr.sliceAt, run_underlying hT, Sem.run_bind, Result.andThen_ok, h1, Sem.run_pure]
/-- s + t -/
theorem kr_addS {T U : TypeId} {x y : Operand} (ho : o.op = .binOp .add T x y U) {xs ys : List Int} {s t : ByteArray} (hx : a.eval x = .string s) (hy : a.eval y = .string t) (hs : s = strOfNums xs) (ht : t = strOfNums ys) (hb : xs.length + ys.length ≤ 1000000000000) :
    (execOp a.eval o).run P W = .ok (.value (.string (strOfNums (xs ++ ys)))) W := by
  subst hs ht
  have h1 : ((strOfNums xs).size : Int) + ((strOfNums ys).size : Int) ≤ 9223372036854775807 := by rw [strOfNums_size, strOfNums_size]; omega
  unfold execOp
  simp [ho, hx, hy, eqGuard, binOp, Op.stringOp, Sem.run_bind, strOf_app, h1]
end
end Go.Proofs.Ytokbloddaoakgaa
