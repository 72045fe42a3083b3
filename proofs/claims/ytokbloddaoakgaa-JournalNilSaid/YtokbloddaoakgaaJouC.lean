/-
  journal: a record out of bytes; what may not be written (contracts).
-/
import Derived.Test.YtokbloddaoakgaaJouB
set_option linter.unusedVariables false
set_option linter.unusedSimpArgs false
namespace Go.Proofs.Ytokbloddaoakgaa
open Go.RowKit
def man0 : List Int := List.replicate 32 0
def rec0 : Rec := ⟨0, 0, 0, 0, 0, 0, man0, 0, 0, 0, 0, 0, 0⟩
theorem rec0_build (w : World) : (Instr.build 44 #[]).run Try.prog w = .ok (.agg (recC rec0)) w := by kernel_rfl
def getRec (xs : List Int) : Rec := ⟨numL ((xs.drop 4).take 8), xs.getD 12 0, numL ((xs.drop 13).take 8), numL ((xs.drop 21).take 4), xs.getD 25 0, xs.getD 26 0, (xs.drop 27).take 32, numL ((xs.drop 59).take 8), numL ((xs.drop 67).take 4), numL ((xs.drop 71).take 4), numL ((xs.drop 75).take 8), numL ((xs.drop 83).take 4), numL ((xs.drop 87).take 4)⟩
/-- the record in front of bytes; the error -/
def resG (xs : List Int) : Rec × Int :=
  if xs.length < 99 then (rec0, 2) else if xs.take 4 ≠ markL then (rec0, 3) else if (shaL (xs.take 91)).take 8 ≠ (xs.drop 91).take 8 then (rec0, 10) else if mayR (getRec xs) then (getRec xs, 0) else (rec0, 3)
theorem getRec_man (xs : List Int) (h : 99 ≤ xs.length) : (getRec xs).man.length = 32 := by
  show ((xs.drop 27).take 32).length = 32
  simp
  omega
theorem recC_set38 {a0 a1 a2 a3 a4 a5 : Int} {m : List Int} {a6 a7 a8 a9 a10 a11 : Int} (v : Int) (h : m.length = 32) : (recC ⟨a0, a1, a2, a3, a4, a5, m, a6, a7, a8, a9, a10, a11⟩).set! 38 (.int .u64 v) = recC ⟨a0, a1, a2, a3, a4, a5, m, v, a7, a8, a9, a10, a11⟩ := by
  apply Array.ext_getElem?
  intro i
  simp only [Array.set!_eq_setIfInBounds, recC, List.setIfInBounds_toArray, List.getElem?_toArray]
  rw [List.set_append_right _ _ (by simp), List.set_append_right _ _ (by simp [h])]
  simp [h]
theorem recC_set39 {a0 a1 a2 a3 a4 a5 : Int} {m : List Int} {a6 a7 a8 a9 a10 a11 : Int} (v : Int) (h : m.length = 32) : (recC ⟨a0, a1, a2, a3, a4, a5, m, a6, a7, a8, a9, a10, a11⟩).set! 39 (.int .i64 v) = recC ⟨a0, a1, a2, a3, a4, a5, m, a6, v, a8, a9, a10, a11⟩ := by
  apply Array.ext_getElem?
  intro i
  simp only [Array.set!_eq_setIfInBounds, recC, List.setIfInBounds_toArray, List.getElem?_toArray]
  rw [List.set_append_right _ _ (by simp), List.set_append_right _ _ (by simp [h])]
  simp [h]
theorem recC_set40 {a0 a1 a2 a3 a4 a5 : Int} {m : List Int} {a6 a7 a8 a9 a10 a11 : Int} (v : Int) (h : m.length = 32) : (recC ⟨a0, a1, a2, a3, a4, a5, m, a6, a7, a8, a9, a10, a11⟩).set! 40 (.int .i64 v) = recC ⟨a0, a1, a2, a3, a4, a5, m, a6, a7, v, a9, a10, a11⟩ := by
  apply Array.ext_getElem?
  intro i
  simp only [Array.set!_eq_setIfInBounds, recC, List.setIfInBounds_toArray, List.getElem?_toArray]
  rw [List.set_append_right _ _ (by simp), List.set_append_right _ _ (by simp [h])]
  simp [h]
theorem recC_set41 {a0 a1 a2 a3 a4 a5 : Int} {m : List Int} {a6 a7 a8 a9 a10 a11 : Int} (v : Int) (h : m.length = 32) : (recC ⟨a0, a1, a2, a3, a4, a5, m, a6, a7, a8, a9, a10, a11⟩).set! 41 (.int .u64 v) = recC ⟨a0, a1, a2, a3, a4, a5, m, a6, a7, a8, v, a10, a11⟩ := by
  apply Array.ext_getElem?
  intro i
  simp only [Array.set!_eq_setIfInBounds, recC, List.setIfInBounds_toArray, List.getElem?_toArray]
  rw [List.set_append_right _ _ (by simp), List.set_append_right _ _ (by simp [h])]
  simp [h]
theorem recC_set42 {a0 a1 a2 a3 a4 a5 : Int} {m : List Int} {a6 a7 a8 a9 a10 a11 : Int} (v : Int) (h : m.length = 32) : (recC ⟨a0, a1, a2, a3, a4, a5, m, a6, a7, a8, a9, a10, a11⟩).set! 42 (.int .i64 v) = recC ⟨a0, a1, a2, a3, a4, a5, m, a6, a7, a8, a9, v, a11⟩ := by
  apply Array.ext_getElem?
  intro i
  simp only [Array.set!_eq_setIfInBounds, recC, List.setIfInBounds_toArray, List.getElem?_toArray]
  rw [List.set_append_right _ _ (by simp), List.set_append_right _ _ (by simp [h])]
  simp [h]
theorem recC_set43 {a0 a1 a2 a3 a4 a5 : Int} {m : List Int} {a6 a7 a8 a9 a10 a11 : Int} (v : Int) (h : m.length = 32) : (recC ⟨a0, a1, a2, a3, a4, a5, m, a6, a7, a8, a9, a10, a11⟩).set! 43 (.int .i64 v) = recC ⟨a0, a1, a2, a3, a4, a5, m, a6, a7, a8, a9, a10, v⟩ := by
  apply Array.ext_getElem?
  intro i
  simp only [Array.set!_eq_setIfInBounds, recC, List.setIfInBounds_toArray, List.getElem?_toArray]
  rw [List.set_append_right _ _ (by simp), List.set_append_right _ _ (by simp [h])]
  simp [h]

theorem recC_lt (r : Rec) (h : r.man.length = 32) {i : Nat} (hi : i < 44) : decide (i < (recC r).size) = true := by
  rw [recC_size r h]; exact decide_eq_true hi
def recSet (r : Rec) (i : Nat) (v : Int) : Rec := if i = 38 then { r with nver := v } else if i = 39 then { r with nlen := v } else if i = 40 then { r with done := v } else if i = 41 then { r with pos := v } else if i = 42 then { r with blk := v } else { r with asz := v }
def recKind (i : Nat) : Option IntKind := if i = 38 then some .u64 else if i = 39 then some .i64 else if i = 40 then some .i64 else if i = 41 then some .u64 else if i = 42 then some .i64 else if i = 43 then some .i64 else none
theorem recC_set (r : Rec) (i : Nat) (k : IntKind) (v : Int) (hk : recKind i = some k) (h : r.man.length = 32) : (recC r).set! i (.int k v) = recC (recSet r i v) := by
  obtain ⟨a0, a1, a2, a3, a4, a5, m, a6, a7, a8, a9, a10, a11⟩ := r
  unfold recKind at hk
  by_cases h0 : i = 38
  · subst h0; rw [if_pos rfl] at hk; cases hk; exact recC_set38 v h
  rw [if_neg h0] at hk
  by_cases h1 : i = 39
  · subst h1; rw [if_pos rfl] at hk; cases hk; exact recC_set39 v h
  rw [if_neg h1] at hk
  by_cases h2 : i = 40
  · subst h2; rw [if_pos rfl] at hk; cases hk; exact recC_set40 v h
  rw [if_neg h2] at hk
  by_cases h3 : i = 41
  · subst h3; rw [if_pos rfl] at hk; cases hk; exact recC_set41 v h
  rw [if_neg h3] at hk
  by_cases h4 : i = 42
  · subst h4; rw [if_pos rfl] at hk; cases hk; exact recC_set42 v h
  rw [if_neg h4] at hk
  by_cases h5 : i = 43
  · subst h5; rw [if_pos rfl] at hk; cases hk; exact recC_set43 v h
  rw [if_neg h5] at hk
  cases hk
theorem recSet_38 {a0 a1 a2 a3 a4 a5 : Int} {m : List Int} {a6 a7 a8 a9 a10 a11 : Int} (v : Int) : recSet ⟨a0, a1, a2, a3, a4, a5, m, a6, a7, a8, a9, a10, a11⟩ 38 v = ⟨a0, a1, a2, a3, a4, a5, m, v, a7, a8, a9, a10, a11⟩ := rfl
theorem recSet_39 {a0 a1 a2 a3 a4 a5 : Int} {m : List Int} {a6 a7 a8 a9 a10 a11 : Int} (v : Int) : recSet ⟨a0, a1, a2, a3, a4, a5, m, a6, a7, a8, a9, a10, a11⟩ 39 v = ⟨a0, a1, a2, a3, a4, a5, m, a6, v, a8, a9, a10, a11⟩ := rfl
theorem recSet_40 {a0 a1 a2 a3 a4 a5 : Int} {m : List Int} {a6 a7 a8 a9 a10 a11 : Int} (v : Int) : recSet ⟨a0, a1, a2, a3, a4, a5, m, a6, a7, a8, a9, a10, a11⟩ 40 v = ⟨a0, a1, a2, a3, a4, a5, m, a6, a7, v, a9, a10, a11⟩ := rfl
theorem recSet_41 {a0 a1 a2 a3 a4 a5 : Int} {m : List Int} {a6 a7 a8 a9 a10 a11 : Int} (v : Int) : recSet ⟨a0, a1, a2, a3, a4, a5, m, a6, a7, a8, a9, a10, a11⟩ 41 v = ⟨a0, a1, a2, a3, a4, a5, m, a6, a7, a8, v, a10, a11⟩ := rfl
theorem recSet_42 {a0 a1 a2 a3 a4 a5 : Int} {m : List Int} {a6 a7 a8 a9 a10 a11 : Int} (v : Int) : recSet ⟨a0, a1, a2, a3, a4, a5, m, a6, a7, a8, a9, a10, a11⟩ 42 v = ⟨a0, a1, a2, a3, a4, a5, m, a6, a7, a8, a9, v, a11⟩ := rfl
theorem recSet_43 {a0 a1 a2 a3 a4 a5 : Int} {m : List Int} {a6 a7 a8 a9 a10 a11 : Int} (v : Int) : recSet ⟨a0, a1, a2, a3, a4, a5, m, a6, a7, a8, a9, a10, a11⟩ 43 v = ⟨a0, a1, a2, a3, a4, a5, m, a6, a7, a8, a9, a10, v⟩ := rfl

theorem recC_copy {a0 a1 a2 a3 a4 a5 : Int} {m : List Int} {a6 a7 a8 a9 a10 a11 : Int} (ys : List Int) (h : m.length = 32) (hy : ys.length = 32) : splice (recC ⟨a0, a1, a2, a3, a4, a5, m, a6, a7, a8, a9, a10, a11⟩) 6 (ys.map (Value.int .u8)) = recC ⟨a0, a1, a2, a3, a4, a5, ys, a6, a7, a8, a9, a10, a11⟩ := by
  simp [splice, recC, h, hy]
theorem build_rec (a0 a1 a2 a3 a4 a5 : Int) (w : World) : (Instr.build 44 #[(0, .int .u64 a0), (1, .int .u8 a1), (2, .int .u64 a2), (3, .int .i64 a3), (4, .int .u8 a4), (5, .int .u8 a5)]).run Try.prog w = .ok (.agg (recC ⟨a0, a1, a2, a3, a4, a5, man0, 0, 0, 0, 0, 0, 0⟩)) w := by kernel_rfl
section
variable {w0 w : World} {L : List Ent} {r : Rec}

set_option maxRecDepth 100000 in
theorem jput_no (K : Known w0 w L) (hv : mayR r = false) (hm : r.man.length = 32) :
    Calls Try.prog 22 #[.agg (recC r)] w fun e w' => e = .returned (.tuple #[.slice none 0 0, .int .i64 3]) ∧ Known w0 w' L := by
  go_enter Try.func22, Try.ntmps22
  go_wp2_with (first | ((with_reducible refine at_load (t := 44) rfl ?_); refine wpList_reads (by rfl) (kr_load_row K _ _ (by rfl) (by rfl) (by repeat (first | with_reducible exact Has.hd _ _ | with_reducible refine Has.tl _ ?_ | with_reducible refine Has.ap _ ?_)) (by kernel_rfl) (by rw [recC_size _ (by assumption)]; kernel_rfl)) ?_) | ((with_reducible refine at_box rfl ?_); refine wpList_does rfl (kd_box K _ _ rfl (by conv => lhs; whnf)) ?_; clear K; rintro _ w1 ⟨gr, rfl, K⟩; (try dsimp only [Value.cells] at K)) | (go_at_call 24; (with_reducible refine (jmay_any K false hv hm).mono ?_); clear K; rintro e w1 ⟨rfl, K⟩))
  go_ret2
  exact ⟨rfl, K.cov (by repeat (first | with_reducible exact Cov.all _ | with_reducible exact Cov.left _ _ | with_reducible exact Cov.nil _ | (with_reducible apply Cov.app; (· repeat (first | with_reducible exact Sel.nil _ | with_reducible exact Sel.ap _ _ | with_reducible exact Sel.hd _ _ | with_reducible exact Sel.all _ | with_reducible apply Sel.tl | with_reducible apply Sel.sk))) | (with_reducible apply Cov.cons; (· repeat (first | with_reducible exact Sel.nil _ | with_reducible exact Sel.ap _ _ | with_reducible exact Sel.hd _ _ | with_reducible exact Sel.all _ | with_reducible apply Sel.tl | with_reducible apply Sel.sk))) | with_reducible refine Cov.drop _ ?_ | with_reducible refine Cov.skip _ ?_))⟩
set_option maxRecDepth 100000 in
theorem rjput_no (K : Known w0 w L) (hv : mayR r = false) (hm : r.man.length = 32) :
    Calls Try.prog 23 #[.agg (recC r)] w fun e w' => ∃ A c X, e = .returned (.tuple #[.slice A 0 c, .int .i64 3]) ∧ OwnL 5 1 A 0 c (([] : List Int).map (Value.int .u8)) X ∧ Known w0 w' (X ++ L) := by
  go_enter Try.func23, Try.ntmps23
  go_wp2_with (first | ((with_reducible refine at_load (t := 44) rfl ?_); refine wpList_reads (by rfl) (kr_load_row K _ _ (by rfl) (by rfl) (by repeat (first | with_reducible exact Has.hd _ _ | with_reducible refine Has.tl _ ?_ | with_reducible refine Has.ap _ ?_)) (by kernel_rfl) (by rw [recC_size _ (by assumption)]; kernel_rfl)) ?_) | ((with_reducible refine at_box rfl ?_); refine wpList_does rfl (kd_box K _ _ rfl (by conv => lhs; whnf)) ?_; clear K; rintro _ w1 ⟨gr, rfl, K⟩; (try dsimp only [Value.cells] at K)) | (go_at_call 25; (with_reducible refine (rjmay_any K false hv hm).mono ?_); clear K; rintro e w1 ⟨rfl, K⟩) | ((with_reducible refine at_buildSlice (n := 0) rfl ?_); refine wpList_does rfl (kd_lit0 K _ 5 1 rfl Try.underlying24 (by kernel_rfl)) ?_; clear K; rintro _ w1 ⟨g, rfl, K⟩; have O : OwnL 5 1 (some ⟨g, 0, none⟩) 0 0 (([] : List Int).map (Value.int .u8)) [row g #[] 5] := OwnL.lit0 _ _))
  go_ret2
  exact ⟨_, _, _, rfl, O, K.cov (by repeat (first | with_reducible exact Cov.all _ | with_reducible exact Cov.left _ _ | with_reducible exact Cov.nil _ | (with_reducible apply Cov.app; (· repeat (first | with_reducible exact Sel.nil _ | with_reducible exact Sel.ap _ _ | with_reducible exact Sel.hd _ _ | with_reducible exact Sel.all _ | with_reducible apply Sel.tl | with_reducible apply Sel.sk))) | (with_reducible apply Cov.cons; (· repeat (first | with_reducible exact Sel.nil _ | with_reducible exact Sel.ap _ _ | with_reducible exact Sel.hd _ _ | with_reducible exact Sel.all _ | with_reducible apply Sel.tl | with_reducible apply Sel.sk))) | with_reducible refine Cov.drop _ ?_ | with_reducible refine Cov.skip _ ?_))⟩
variable {A : Option Addr} {n c : Nat} {xs : List Int}
theorem getKK (a k : Nat) (x y v : Int) (hv : numL ((xs.drop a).take k) = v) (K : Known w0 w L) (R : RdS w0 L .u8 A n xs) (hx : x = a) (hy : y = k) (h1 : 1 ≤ k) (h8 : k ≤ 8) (hak : a + k ≤ n) (hc : n ≤ c) (hm : c ≤ 9223372036854775807) (hb : ∀ b ∈ xs, 0 ≤ b ∧ b ≤ 255) :
    Calls Try.prog 90 #[.slice A n c, .int .i64 x, .int .i64 y] w fun e w' => e = .returned (.tuple #[.int .u64 v, .int .i64 0]) ∧ Known w0 w' L :=
  (getK a k x y v hv K R hx hy h1 h8 hak hc hm hb).mono (by rintro e w' ⟨h1, rfl⟩; exact ⟨h1, K⟩)
set_option maxRecDepth 100000 in
theorem number_any {L' : List Ent} {gt : Nat} {t : TypeId} (a k : Nat) (x y x' v : Int) (hv : numL ((xs.drop a).take k) = v) (K : Known w0 w L) (hr : Repl (row gt #[.slice A n c, .int .i64 x] t) (row gt #[.slice A n c, .int .i64 x'] t) L L') (R : RdS w0 L .u8 A n xs) (hx : x = a) (hy : y = k) (hx' : x' = a + k) (h1 : 1 ≤ k) (h8 : k ≤ 8) (hak : a + k ≤ n) (hc : n ≤ c) (hm : c ≤ 9223372036854775807) (hb : ∀ b ∈ xs, 0 ≤ b ∧ b ≤ 255) :
    Calls Try.prog 66 #[.pointer (some ⟨gt, 0, none⟩), .int .i64 y] w fun e w' => e = .returned (.int .u64 v) ∧ Known w0 w' L' := by
  subst hx hy hx'
  have hh : Has (row gt #[.slice A n c, .int .i64 (a : Int)] t) L := hr.has
  have e2 := IntWalk.i64_in ((a : Int) + (k : Int)) (by omega)
  go_enter Try.func66, Try.ntmps66
  go_upto_region 1 with (fail)
  refine wp_region_QLK K (by kernel_rfl) (by kernel_rfl) ?_
  clear K
  refine wpQL_step (k := 0) (x := { dst := some 8, op := Op.move (Operand.tmp 0), type := 115, pos := "journal.go:54", after := #[], guard := none }) (v := ?_) rfl (by kernel_rfl) (by rfl) ?_ ?_
  rotate_left
  · (intro w hS; refine quiet_value ?_; (clear hS; go_simp); try with_reducible rfl)
  try simp only [Act.put, List.setIfInBounds_toArray, List.set_cons_zero, List.set_cons_succ]
  refine wpQL_step (k := 1) (x := { dst := some 9, op := Op.nilCheck (Operand.tmp 8), type := 0, pos := "journal.go:54", after := #[{ on := 0, ground := Ground.data }], guard := none }) (v := ?_) rfl (by kernel_rfl) (by rfl) ?_ ?_
  rotate_left
  · (intro w hS; refine quiet_value ?_; (clear hS; go_simp); try with_reducible rfl)
  try simp only [Act.put, List.setIfInBounds_toArray, List.set_cons_zero, List.set_cons_succ]
  refine wpQL_step (k := 2) (x := { dst := some 10, op := Op.fieldAddr 117 (Operand.tmp 9) 0, type := 0, pos := "journal.go:54", after := #[{ on := 1, ground := Ground.data }], guard := none }) (v := ?_) rfl (by kernel_rfl) (by rfl) ?_ ?_
  rotate_left
  · (intro w hS; refine quiet_value ?_; (clear hS; go_simp); try with_reducible rfl)
  try simp only [Act.put, List.setIfInBounds_toArray, List.set_cons_zero, List.set_cons_succ]
  refine wpQL_step (k := 3) (x := { dst := some 11, op := Op.load 24 (Operand.tmp 10), type := 24, pos := "journal.go:54", after := #[{ on := 2, ground := Ground.data }], guard := none }) (v := .slice A n c) rfl (by kernel_rfl) (by rfl) ?_ ?_
  · (intro w hS; refine quiet_value ?_; first | exact kr_load_cell hS _ _ (by rfl) (by rfl) hh (by kernel_rfl) (by rfl))
  try simp only [Act.put, List.setIfInBounds_toArray, List.set_cons_zero, List.set_cons_succ]
  refine wpQL_step (k := 4) (x := { dst := some 12, op := Op.move (Operand.tmp 0), type := 115, pos := "journal.go:54", after := #[], guard := none }) (v := ?_) rfl (by kernel_rfl) (by rfl) ?_ ?_
  rotate_left
  · (intro w hS; refine quiet_value ?_; (clear hS; go_simp); try with_reducible rfl)
  try simp only [Act.put, List.setIfInBounds_toArray, List.set_cons_zero, List.set_cons_succ]
  refine wpQL_step (k := 5) (x := { dst := some 13, op := Op.nilCheck (Operand.tmp 12), type := 0, pos := "journal.go:54", after := #[{ on := 4, ground := Ground.data }], guard := none }) (v := ?_) rfl (by kernel_rfl) (by rfl) ?_ ?_
  rotate_left
  · (intro w hS; refine quiet_value ?_; (clear hS; go_simp); try with_reducible rfl)
  try simp only [Act.put, List.setIfInBounds_toArray, List.set_cons_zero, List.set_cons_succ]
  refine wpQL_step (k := 6) (x := { dst := some 14, op := Op.fieldAddr 117 (Operand.tmp 13) 1, type := 0, pos := "journal.go:54", after := #[{ on := 5, ground := Ground.data }], guard := none }) (v := ?_) rfl (by kernel_rfl) (by rfl) ?_ ?_
  rotate_left
  · (intro w hS; refine quiet_value ?_; (clear hS; go_simp); try with_reducible rfl)
  try simp only [Act.put, List.setIfInBounds_toArray, List.set_cons_zero, List.set_cons_succ]
  refine wpQL_step (k := 7) (x := { dst := some 15, op := Op.load 3 (Operand.tmp 14), type := 3, pos := "journal.go:54", after := #[{ on := 6, ground := Ground.data }], guard := none }) (v := .int .i64 (a : Int)) rfl (by kernel_rfl) (by rfl) ?_ ?_
  · (intro w hS; refine quiet_value ?_; first | exact kr_load_cell hS _ _ (by rfl) (by rfl) hh (by kernel_rfl) (by rfl))
  try simp only [Act.put, List.setIfInBounds_toArray, List.set_cons_zero, List.set_cons_succ]
  refine wpQL_step (k := 8) (x := { dst := some 16, op := Op.move (Operand.tmp 1), type := 3, pos := "journal.go:54", after := #[], guard := none }) (v := ?_) rfl (by kernel_rfl) (by rfl) ?_ ?_
  rotate_left
  · (intro w hS; refine quiet_value ?_; (clear hS; go_simp); try with_reducible rfl)
  try simp only [Act.put, List.setIfInBounds_toArray, List.set_cons_zero, List.set_cons_succ]
  refine wpQL_step (k := 9) (x := { dst := some 17, op := Op.call { callee := Callee.value (Operand.func 90), args := #[Operand.tmp 11, Operand.tmp 15, Operand.tmp 16], argTypes := #[24, 3, 3] }, type := 153, pos := "journal.go:54", after := #[{ on := 3, ground := Ground.data }, { on := 7, ground := Ground.data }, { on := 8, ground := Ground.data }], guard := none }) (v := .tuple #[.int .u64 v, .int .i64 0]) rfl (by kernel_rfl) (by rfl) ?_ ?_
  · intro w hS
    refine quiet_call (f := 90) (args := ?_) ?_ ?_
    rotate_left
    · (go_simp; try with_reducible rfl)
    · exact (getKK a k (a : Int) (k : Int) v hv hS R rfl rfl h1 h8 hak hc hm hb)
  try simp only [Act.put, List.setIfInBounds_toArray, List.set_cons_zero, List.set_cons_succ]
  refine wpQL_step (k := 10) (x := { dst := some 7, op := Op.move (Operand.tmp 17), type := 153, pos := "journal.go:54", after := #[{ on := 9, ground := Ground.data }], guard := none }) (v := ?_) rfl (by kernel_rfl) (by rfl) ?_ ?_
  rotate_left
  · (intro w hS; refine quiet_value ?_; (clear hS; go_simp); try with_reducible rfl)
  try simp only [Act.put, List.setIfInBounds_toArray, List.set_cons_zero, List.set_cons_succ]
  refine wpQL_step (k := 11) (x := { dst := some 18, op := Op.extract (Operand.tmp 7) 0, type := 40, pos := "journal.go:54", after := #[{ on := 10, ground := Ground.data }], guard := none }) (v := ?_) rfl (by kernel_rfl) (by rfl) ?_ ?_
  rotate_left
  · (intro w hS; refine quiet_value ?_; (clear hS; go_simp); try with_reducible rfl)
  try simp only [Act.put, List.setIfInBounds_toArray, List.set_cons_zero, List.set_cons_succ]
  refine wpQL_step (k := 12) (x := { dst := some 19, op := Op.extract (Operand.tmp 7) 1, type := 27, pos := "journal.go:54", after := #[{ on := 10, ground := Ground.data }, { on := 13, ground := Ground.gcOnly Departure.lateStores }], guard := none }) (v := ?_) rfl (by kernel_rfl) (by rfl) ?_ ?_
  rotate_left
  · (intro w hS; refine quiet_value ?_; (clear hS; go_simp); try with_reducible rfl)
  try simp only [Act.put, List.setIfInBounds_toArray, List.set_cons_zero, List.set_cons_succ]
  refine wpQL_step (k := 13) (x := { dst := some 5, op := Op.assign (Operand.tmp 18), type := 40, pos := "journal.go:54", after := #[{ on := 11, ground := Ground.data }, { on := 9, ground := Ground.chain }, { on := 0, ground := Ground.phase }, { on := 1, ground := Ground.phase }, { on := 2, ground := Ground.phase }, { on := 3, ground := Ground.phase }, { on := 4, ground := Ground.phase }, { on := 5, ground := Ground.phase }, { on := 6, ground := Ground.phase }, { on := 7, ground := Ground.phase }, { on := 8, ground := Ground.phase }, { on := 9, ground := Ground.phase }, { on := 10, ground := Ground.phase }, { on := 11, ground := Ground.phase }, { on := 12, ground := Ground.textOnly Departure.lateStores }], guard := none }) (v := ?_) rfl (by kernel_rfl) (by rfl) ?_ ?_
  rotate_left
  · (intro w hS; refine quiet_value ?_; (clear hS; go_simp); try with_reducible rfl)
  try simp only [Act.put, List.setIfInBounds_toArray, List.set_cons_zero, List.set_cons_succ]
  refine wpQL_end (k := 14) (x := { dst := some 6, op := Op.assign (Operand.tmp 19), type := 27, pos := "journal.go:54", after := #[{ on := 12, ground := Ground.data }, { on := 13, ground := Ground.chain }, { on := 0, ground := Ground.phase }, { on := 1, ground := Ground.phase }, { on := 2, ground := Ground.phase }, { on := 3, ground := Ground.phase }, { on := 4, ground := Ground.phase }, { on := 5, ground := Ground.phase }, { on := 6, ground := Ground.phase }, { on := 7, ground := Ground.phase }, { on := 8, ground := Ground.phase }, { on := 9, ground := Ground.phase }, { on := 10, ground := Ground.phase }, { on := 11, ground := Ground.phase }, { on := 12, ground := Ground.phase }, { on := 13, ground := Ground.phase }], guard := none }) rfl (by kernel_rfl) (fun w1 K K9 hK => ?_)
  refine st_reads (v := ?_) (by rfl) ?_ ?_
  rotate_left
  · (go_simp; try with_reducible rfl)
  refine hK.out _ _ ?_
  clear hK K9
  try simp only [Act.put, List.setIfInBounds_toArray, List.set_cons_zero, List.set_cons_succ]
  skip
  go_wp2_with (first | ((with_reducible refine at_load rfl ?_); refine wpList_reads (by rfl) (kr_load_cell K _ _ (by rfl) (by rfl) hh (by kernel_rfl) (by rfl)) ?_) | ((with_reducible refine at_store rfl ?_); (first | (refine wpList_does rfl (kd_store_cell K _ _ _ rfl rfl (by conv => lhs; whnf) hr rfl rfl (by kernel_rfl) (by kernel_rfl) (by first | (simp only [List.setIfInBounds_toArray, List.set_cons_succ, List.set_cons_zero]; rfl) | rfl)) ?_) | (refine wpList_does rfl (kd_store_row K _ _ _ rfl rfl rfl hr (by kernel_rfl) (by kernel_rfl) (by kernel_rfl)) ?_)); clear K; intro _ w1 K; (try simp only [Act.put])))
  go_ret
  exact ⟨rfl, K⟩
end
end Go.Proofs.Ytokbloddaoakgaa
