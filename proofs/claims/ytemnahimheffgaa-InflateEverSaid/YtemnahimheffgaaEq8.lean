/-
  '==' of arrays of bytes; manifests in memory.
-/
import Derived.Test.YtemnahimheffgaaEqs
set_option linter.unusedVariables false
set_option linter.unusedSimpArgs false
namespace Go.Proofs.Ytemnahimheffgaa
open Go.RowKit

def u8s (xs : List Int) : Array Value := (xs.map (Value.int .u8)).toArray
theorem u8s_size (xs : List Int) : (u8s xs).size = xs.length := by simp [u8s]
theorem u8s_at (xs : List Int) (i : Nat) (h : i < xs.length) : (u8s xs)[i]? = some (.int .u8 (xs.getD i 0)) := by
  simp [u8s, List.getD, List.getElem?_eq_getElem h]
theorem all_range_int : ∀ (xs ys : List Int), xs.length = ys.length → ((List.range xs.length).all fun i => xs.getD i 0 == ys.getD i 0) = (xs == ys)
  | [], [], _ => rfl
  | x :: xs, y :: ys, h => by
    have ih := all_range_int xs ys (by simpa using h)
    rw [List.length_cons, List.range_succ_eq_map, List.all_cons, List.all_map]
    simp only [List.getD_cons_zero, Function.comp_def, List.getD_cons_succ, ih]
    simp [List.cons_beq_cons]
  | [], _ :: _, h => by simp at h
  | _ :: _, [], h => by simp at h

section
variable {P : Program} (w : World)
theorem part_u8 {e : TypeId} (he : P.underlying e = some (.int .u8)) (xs : List Int) (i : Nat) (h : i < xs.length) : (part e (u8s xs) (i * 1)).run P w = .ok (.int .u8 (xs.getD i 0)) w := by
  have hx := u8s_at xs i h
  unfold part
  simp only [Sem.run_bind, isAgg, run_underlying he, Result.andThen_ok, Nat.mul_one]
  simp [hx]
theorem eq_u8s (d : Nat) {t e : TypeId} (n : Nat) (ht : P.underlying t = some (.array n e)) (he : P.underlying e = some (.int .u8)) (hsz : (sizeOf e).run P w = .ok 1 w) (xs ys : List Int) (hx : xs.length = n) (hy : ys.length = n) :
    (Op.equalIn (d + 2) t (.agg (u8s xs)) (.agg (u8s ys))).run P w = .ok (xs == ys) w := by
  rw [← all_range_int xs ys (hx.trans hy.symm), hx]
  exact eq_array w (d + 1) ht hsz _ _ _ (fun i hi => ⟨_, _, part_u8 w he xs i (by omega), part_u8 w he ys i (by omega), eq_int w .u8 .u8 _ _ he⟩)
theorem eql_u8s {t e : TypeId} (n : Nat) (ht : P.underlying t = some (.array n e)) (he : P.underlying e = some (.int .u8)) (hsz : (sizeOf e).run P w = .ok 1 w) (xs ys : List Int) (hx : xs.length = n) (hy : ys.length = n) :
    (binOp .eql t (.agg (u8s xs)) (.agg (u8s ys))).run P w = .ok (.bool (xs == ys)) w := by
  rw [run_eql_struct, eq_u8s w 9998 n ht he hsz xs ys hx hy]
  rfl
end

/-- a manifest's cells -/
def mfc (mode ver blk ol nl : Int) (D : List Int) (o : Value) : Array Value := ([Value.int .u8 mode, .int .u64 ver, .int .i64 blk, .int .i64 ol, .int .i64 nl] ++ (D.map (Value.int .u8) ++ [o])).toArray
section
variable (mode ver blk ol nl : Int) (D : List Int) (o : Value)
theorem mfc_size (h : D.length = 96) : (mfc mode ver blk ol nl D o).size = 102 := by simp [mfc, h]
theorem mfc_0 : (mfc mode ver blk ol nl D o)[0]? = some (.int .u8 mode) := by simp [mfc]
theorem mfc_1 : (mfc mode ver blk ol nl D o)[1]? = some (.int .u64 ver) := by simp [mfc]
theorem mfc_2 : (mfc mode ver blk ol nl D o)[2]? = some (.int .i64 blk) := by simp [mfc]
theorem mfc_3 : (mfc mode ver blk ol nl D o)[3]? = some (.int .i64 ol) := by simp [mfc]
theorem mfc_4 : (mfc mode ver blk ol nl D o)[4]? = some (.int .i64 nl) := by simp [mfc]
theorem mfc_D (i : Nat) (h : i < D.length) : (mfc mode ver blk ol nl D o)[5 + i]? = some (.int .u8 (D.getD i 0)) := by
  have e : 5 + i = i + 1 + 1 + 1 + 1 + 1 := by omega
  rw [mfc, List.getElem?_toArray, e]
  simp [List.getElem?_append_left, h, List.getD]
theorem mfc_o (h : D.length = 96) : (mfc mode ver blk ol nl D o)[101]? = some o := by
  rw [mfc, List.getElem?_toArray]
  have e : (101 : Nat) = 96 + 1 + 1 + 1 + 1 + 1 := rfl
  rw [e]
  simp [List.getElem?_append_right, h]
theorem mfc_cut (i n : Nat) (h : i + n ≤ D.length) : (mfc mode ver blk ol nl D o).extract (5 + i) (5 + i + n) = u8s ((D.drop i).take n) := by
  apply Array.ext_getElem?
  intro j
  rw [Array.getElem?_extract]
  have hs : (mfc mode ver blk ol nl D o).size = D.length + 6 := by simp [mfc]
  by_cases hj : j < n
  · rw [if_pos (by omega), show 5 + i + j = 5 + (i + j) by omega, mfc_D _ _ _ _ _ _ _ _ (by omega), u8s_at _ _ (by simp; omega)]
    simp [List.getD, hj]
  · rw [if_neg (by omega)]
    simp [u8s]
    omega
end
end Go.Proofs.Ytemnahimheffgaa
