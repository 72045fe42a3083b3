/-
  Package inflate: what reads, where nothing is thrown (contracts).
-/
import Derived.Test.YtemnahimheffgaaHufF
set_option linter.unusedVariables false
set_option linter.unusedSimpArgs false
namespace Go.Proofs.Ytemnahimheffgaa
open Go.RowKit
abbrev ptr' (g : Nat) : Value := .pointer (some ⟨g, 0, none⟩)
abbrev fnI (f : FuncId) : Value := .func (.func f) #[] #[]
/-- an inflater's cells -/
structure Ifl where
  (most : Int) (O : Option Addr) (on oc : Nat) (R : Option Addr) (rn rc : Nat) (from_ : Int) (r next : Value) (last : Bool) (left : Int) (lit dist : Value) (e : Int)
def ifC (x : Ifl) : Array Value := #[.int .i64 x.most, .slice x.O x.on x.oc, .slice x.R x.rn x.rc, .int .i64 x.from_, x.r, x.next, .bool x.last, .int .i64 x.left, x.lit, x.dist, .int .i64 x.e]
theorem if_most (x : Ifl) : (ifC x)[0]? = some (.int .i64 x.most) := rfl
theorem if_out (x : Ifl) : (ifC x)[1]? = some (.slice x.O x.on x.oc) := rfl
theorem if_rest (x : Ifl) : (ifC x)[2]? = some (.slice x.R x.rn x.rc) := rfl
theorem if_from (x : Ifl) : (ifC x)[3]? = some (.int .i64 x.from_) := rfl
theorem if_r (x : Ifl) : (ifC x)[4]? = some x.r := rfl
theorem if_next (x : Ifl) : (ifC x)[5]? = some x.next := rfl
theorem if_last (x : Ifl) : (ifC x)[6]? = some (.bool x.last) := rfl
theorem if_left (x : Ifl) : (ifC x)[7]? = some (.int .i64 x.left) := rfl
theorem if_lit (x : Ifl) : (ifC x)[8]? = some x.lit := rfl
theorem if_dist (x : Ifl) : (ifC x)[9]? = some x.dist := rfl
theorem if_e (x : Ifl) : (ifC x)[10]? = some (.int .i64 x.e) := rfl


section
variable {w0 w : World} {L Xr : List Ent} {gx gr p : Nat} {x : Ifl} {bs : List Int}
theorem ibad_no (K : Known w0 w L) (e : Int) : Calls Try.prog 38 #[.bool false, .int .i64 e] w fun e' w' => e' = .returned (.tuple #[]) ∧ Known w0 w' L := by
  go_enter Try.func38, Try.ntmps38
  go_wp2
  go_end0
  exact ⟨rfl, K⟩
set_option maxRecDepth 100000 in
theorem inum_yes (K : Known w0 w (Xr ++ L)) (hx : Has (row gx (ifC x) 53) L) (hr : x.r = ptr' gr) (hR : Rdr gr bs p Xr) (n : Nat) (z : Int) (hz : z = n) (hn : n ≤ 32) (h : p + n ≤ 8 * bs.length) (v : Nat) (hv : bitsAt (ofBytes bs) p n = v) :
    Calls Try.prog 37 #[ptr' gx, .int .i64 z] w fun e w' => e = .returned (.int .i64 (v : Int)) ∧ ∃ X', Rdr gr bs (p + n) X' ∧ Known w0 w' (X' ++ L) := by
  subst hv hz
  have hlt := bitsAt_lt (ofBytes bs) p n
  have h32 : (2 : Nat) ^ n ≤ 2 ^ 32 := Nat.pow_le_pow_right (by omega) hn
  have j1 := IntWalk.i64_in ((bitsAt (ofBytes bs) p n : Nat) : Int) (by omega)
  go_enter Try.func37, Try.ntmps37
  go_wp2_with (first | ((with_reducible refine at_load rfl ?_); first | (refine wpList_reads (by rfl) (kr_load_cell K _ _ (by rfl) (by rfl) (hx.ap _) (by decide +kernel) (if_r x)) ?_)) | (go_at_call 52; (with_reducible refine (rget_yes K hR n _ rfl hn h).mono ?_); clear K; rintro e w1 ⟨rfl, X1, hR1, K⟩) | (go_at_call 38; (with_reducible refine (ibad_no K _).mono ?_); clear K; rintro e w1 ⟨rfl, K⟩))
  go_ret
  exact ⟨rfl, X1, hR1, K⟩
set_option maxRecDepth 100000 in
theorem isym_yes {Xt : List Ent} {gt : Nat} {l : List Int} (K : Known w0 w (Xt ++ (Xr ++ L))) (hx : Has (row gx (ifC x) 53) L) (hr : x.r = ptr' gr) (hT : TbIs gt l Xt) (hR : Rdr gr bs p Xr) (hl : l.length ≤ 300) (s : Int) (q : Nat) (hs : nextT l (ofBytes bs) p = (s, q, 0)) :
    Calls Try.prog 59 #[ptr' gx, ptr' gt] w fun e w' => e = .returned (.int .i64 s) ∧ ∃ X', Rdr gr bs q X' ∧ Known w0 w' (Xt ++ (X' ++ L)) := by
  have HS := Lib.hid hs
  go_enter Try.func59, Try.ntmps59
  go_wp2_with (first | ((with_reducible refine at_load rfl ?_); first | (refine wpList_reads (by rfl) (kr_load_cell K _ _ (by rfl) (by rfl) ((hx.ap _).ap _) (by decide +kernel) (if_r x)) ?_)) | (go_at_call 70; (with_reducible refine (hnext_any K hT hR hl).mono ?_); clear K; rintro e w1 ⟨rfl, X1, hR1, K⟩; rw [HS.out]; rw [HS.out] at hR1) | (go_at_call 38; (with_reducible refine (ibad_no K _).mono ?_); clear K; rintro e w1 ⟨rfl, K⟩))
  go_ret
  exact ⟨rfl, X1, hR1, K⟩
set_option maxRecDepth 100000 in
theorem iroom_yes {M : List Ent} (K : Known w0 w M) (hx : Has (row gx (ifC x) 53) M) (n : Int) (h0 : 0 ≤ x.most ∧ x.most ≤ 9223372036854775807) (ho : x.on ≤ 9223372036854775807) (hn : n ≤ x.most - x.on) :
    Calls Try.prog 40 #[ptr' gx, .int .i64 n] w fun e w' => e = .returned (.tuple #[]) ∧ Known w0 w' M := by
  have j1 := IntWalk.i64_in (x.most - (x.on : Int)) (by omega)
  have d1 : decide (x.most - (x.on : Int) < n) = false := decide_eq_false (by omega)
  go_enter Try.func40, Try.ntmps40
  refine wp_region_GK K (Cov.all _) (by kernel_rfl) (by kernel_rfl) (by kernel_rfl) (fun K hHeld => ?_)
  refine wpG_takeA 0 (v := ?_) ?_ hHeld ?_
  rotate_left
  · (intro w hS; (clear hS; go_simp); try with_reducible rfl)
  try simp only [Act.put, List.setIfInBounds_toArray, List.set_cons_zero, List.set_cons_succ]
  refine wpG_takeA 1 (v := ?_) ?_ hHeld ?_
  rotate_left
  · (intro w hS; (clear hS; go_simp); try with_reducible rfl)
  try simp only [Act.put, List.setIfInBounds_toArray, List.set_cons_zero, List.set_cons_succ]
  refine wpG_takeA 2 (v := ?_) ?_ hHeld ?_
  rotate_left
  · (intro w hS; (clear hS; go_simp); try with_reducible rfl)
  try simp only [Act.put, List.setIfInBounds_toArray, List.set_cons_zero, List.set_cons_succ]
  refine wpG_takeA 3 (v := ?_) ?_ hHeld ?_
  rotate_left
  · (intro w hS; (clear hS; go_simp); try with_reducible rfl)
  try simp only [Act.put, List.setIfInBounds_toArray, List.set_cons_zero, List.set_cons_succ]
  refine wpG_takeA 4 (v := .int .i64 x.most) ?_ hHeld ?_
  · (intro w hS; first | exact kr_load_cell hS _ _ (by rfl) (by rfl) hx (by kernel_rfl) (if_most x))
  try simp only [Act.put, List.setIfInBounds_toArray, List.set_cons_zero, List.set_cons_succ]
  refine wpG_takeA 5 (v := ?_) ?_ hHeld ?_
  rotate_left
  · (intro w hS; (clear hS; go_simp); try with_reducible rfl)
  try simp only [Act.put, List.setIfInBounds_toArray, List.set_cons_zero, List.set_cons_succ]
  refine wpG_takeA 6 (v := ?_) ?_ hHeld ?_
  rotate_left
  · (intro w hS; (clear hS; go_simp); try with_reducible rfl)
  try simp only [Act.put, List.setIfInBounds_toArray, List.set_cons_zero, List.set_cons_succ]
  refine wpG_takeA 7 (v := ?_) ?_ hHeld ?_
  rotate_left
  · (intro w hS; (clear hS; go_simp); try with_reducible rfl)
  try simp only [Act.put, List.setIfInBounds_toArray, List.set_cons_zero, List.set_cons_succ]
  refine wpG_takeA 8 (v := .slice x.O x.on x.oc) ?_ hHeld ?_
  · (intro w hS; first | exact kr_load_cell hS _ _ (by rfl) (by rfl) hx (by kernel_rfl) (if_out x))
  try simp only [Act.put, List.setIfInBounds_toArray, List.set_cons_zero, List.set_cons_succ]
  refine wpG_takeA 9 (v := ?_) ?_ hHeld ?_
  rotate_left
  · (intro w hS; (clear hS; go_simp); try with_reducible rfl)
  try simp only [Act.put, List.setIfInBounds_toArray, List.set_cons_zero, List.set_cons_succ]
  refine wpG_takeA 10 (v := ?_) ?_ hHeld ?_
  rotate_left
  · (intro w hS; (clear hS; go_simp); try with_reducible rfl)
  try simp only [Act.put, List.setIfInBounds_toArray, List.set_cons_zero, List.set_cons_succ]
  refine wpG_takeA 11 (v := ?_) ?_ hHeld ?_
  rotate_left
  · (intro w hS; (clear hS; go_simp); try with_reducible rfl)
  try simp only [Act.put, List.setIfInBounds_toArray, List.set_cons_zero, List.set_cons_succ]
  refine wpG_lastA 12 (fun K9 hK => ?_)
  go_simp
  (go_at_call 38; (with_reducible refine (ibad_no K _).mono ?_); clear K; rintro e w1 ⟨rfl, K⟩)
  refine hK.out _ _ ?_
  clear hK K9
  try simp only [Act.put, List.setIfInBounds_toArray, List.set_cons_zero, List.set_cons_succ]
  skip
  go_end0
  exact ⟨rfl, K⟩
end
end Go.Proofs.Ytemnahimheffgaa
