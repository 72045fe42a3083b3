/-
  drogherlaw13: InflateEver (walk).
-/
import Derived.Test.YtemnahimheffgaaInfU
import Derived.Test.YtemnahimheffgaaInfH
set_option linter.unusedVariables false
set_option linter.unusedSimpArgs false
namespace Go.Proofs.Ytemnahimheffgaa
open Go.RowKit

section
variable {w0 w : World} {L : List Ent} {A B : Option Addr} {n c n2 c2 : Nat} {xs ys : List Int}
set_option maxHeartbeats 1600000 in
set_option maxRecDepth 100000 in
theorem inflateEver_any (K : Known w0 w L) (R1 : RdS w0 L .u8 A n xs) (hb1 : ∀ v ∈ xs, 0 ≤ v ∧ v ≤ 255) (R2 : RdS w0 L .u8 B n2 ys) (hb2 : ∀ v ∈ ys, 0 ≤ v ∧ v ≤ 255) (most : Int) (hmo : -9223372036854775808 ≤ most) :
    Calls Try.prog 5 #[.slice A n c, .slice B n2 c2, .int .i64 most] w fun e w' => e = .returned (.bool true) ∧ Known w0 w' L := by
  have HMO := Lib.hid hmo
  have HB1 := Lib.hid hb1
  clear hmo hb1
  by_cases g1 : 500 < n
  · have d1 : decide ((500 : Int) < (n : Int)) = true := decide_eq_true (by omega)
    have d2 : decide (500 < n) = true := decide_eq_true (by omega)
    have d3 : (500 : Int) < (n : Int) := by omega
    go_enter Try.func5, Try.ntmps5
    go_wp2_with (first | (go_at_call 8; (with_reducible refine (awake13K K).mono ?_); clear K; rintro e w1 ⟨rfl, K⟩))
    go_ret
    exact ⟨rfl, K⟩
  have d1 : decide ((500 : Int) < (n : Int)) = false := decide_eq_false (by omega)
  have d2 : decide (500 < n) = false := decide_eq_false (by omega)
  have d3 : ¬ (500 : Int) < (n : Int) := by omega
  by_cases g2 : 500 < n2
  · have f1 : decide ((500 : Int) < (n2 : Int)) = true := decide_eq_true (by omega)
    have f2 : decide (500 < n2) = true := decide_eq_true (by omega)
    have f3 : (500 : Int) < (n2 : Int) := by omega
    go_enter Try.func5, Try.ntmps5
    go_wp2_with (first | (go_at_call 8; (with_reducible refine (awake13K K).mono ?_); clear K; rintro e w1 ⟨rfl, K⟩))
    go_ret
    exact ⟨rfl, K⟩
  have f1 : decide ((500 : Int) < (n2 : Int)) = false := decide_eq_false (by omega)
  have f2 : decide (500 < n2) = false := decide_eq_false (by omega)
  have f3 : ¬ (500 : Int) < (n2 : Int) := by omega
  by_cases g3 : 5000 < most
  · have e1 : decide (5000 < most) = true := decide_eq_true (by omega)
    go_enter Try.func5, Try.ntmps5
    go_wp2_with (first | (go_at_call 8; (with_reducible refine (awake13K K).mono ?_); clear K; rintro e w1 ⟨rfl, K⟩))
    go_ret
    exact ⟨rfl, K⟩
  have e1 : decide (5000 < most) = false := decide_eq_false (by omega)
  have e2 : ¬ 5000 < most := g3
  obtain ⟨⟨m1, rs1, fr1⟩, hW⟩ : ∃ r, wrM (mo0 most) [] 0 xs = r := ⟨_, rfl⟩
  obtain ⟨ev, hev⟩ : ∃ ev, m1.e = ev := ⟨_, rfl⟩
  have HW := Lib.hid hW
  have HEV := Lib.hid hev
  clear hW hev
  by_cases hz : ev = 0
  · have z1 : (ev == 0) = true := by rw [hz]; rfl
    clear hz
    go_enter Try.func5, Try.ntmps5
    go_wp2_with (first | (go_at_call 14; (with_reducible refine (ob_new K most HMO.out (by omega)).mono ?_); clear K; rintro e w1 ⟨gx, rfl, X1, hO1, K⟩) | (go_at_call 15; (with_reducible refine (ob_write K hO1 R1 HB1.out (by omega) (by simp)).mono ?_); clear K; rintro e w1 hWP; replace hWP : e = .returned (.int .i64 ev) ∧ ∃ X2, Ob gx m1 rs1 fr1 X2 ∧ Known w0 w1 (X2 ++ L) := (by rw [HW.out] at hWP; rw [← HEV.out]; exact hWP); obtain ⟨rfl, X2, hO2, K⟩ := hWP) | (go_at_call 8; (with_reducible refine (awake13K K).mono ?_); clear K; rintro e w1 ⟨rfl, K⟩))
    go_ret
    exact ⟨rfl, K.cov Cov.auto⟩
  · have z1 : (ev == 0) = false := beq_eq_false_iff_ne.2 hz
    have HEN := Lib.hid hz
    go_enter Try.func5, Try.ntmps5
    go_upto_region 8 with ((first | (go_at_call 14; (with_reducible refine (ob_new K most HMO.out (by omega)).mono ?_); clear K; rintro e w1 ⟨gx, rfl, X1, hO1, K⟩) | (go_at_call 15; (with_reducible refine (ob_write K hO1 R1 HB1.out (by omega) (by simp)).mono ?_); clear K; rintro e w1 hWP; replace hWP : e = .returned (.int .i64 ev) ∧ ∃ X2, Ob gx m1 rs1 fr1 X2 ∧ Known w0 w1 (X2 ++ L) := (by rw [HW.out] at hWP; rw [← HEV.out]; exact hWP); obtain ⟨rfl, X2, hO2, K⟩ := hWP) | (go_at_call 16; (with_reducible refine (ob_out K hO2).mono ?_); clear K; rintro e w1 ⟨A5, c5, X5, rfl, O5, K⟩)))
    obtain ⟨x, Z, XR, rfl, hI, hnx, hn3, O, hfr, hfl, hbr⟩ := hO2
    obtain ⟨hC, XO, T, hOO, hT, rfl⟩ := hI
    simp only [List.cons_append, List.append_assoc] at K
    have HXE := Lib.hid (show x.e = ev by rw [hC.e, HEV.out])
    have HXM := Lib.hid hC.e
    have HNX := Lib.hid hnx
    have HON := Lib.hid (show x.on ≤ 34000000000 by rw [hC.on]; have := hC.room; have := hC.h5; omega)
    have HDN := Lib.hid (show doneM m1 = false by rw [doneM, HEV.out, decide_eq_false hz, Bool.and_false])
    have HOO := Lib.hid hOO
    clear hnx hn3 hfr hfl hbr hOO hT O
    refine wp_region_GK (X := (row gx (ifC x) 53 :: X5)) K Cov.auto (by kernel_rfl) (by kernel_rfl) (by kernel_rfl) (fun K hHeld => ?_)
    refine wpG_takeA 0 (v := ?_) ?_ hHeld ?_
    rotate_left
    · (intro w hS; (clear hS; go_simp); try with_reducible rfl)
    try simp only [Act.put, List.setIfInBounds_toArray, List.set_cons_zero, List.set_cons_succ]
    refine wpG_takeA 1 (v := ?_) ?_ hHeld ?_
    rotate_left
    · (intro w hS; (clear hS; go_simp); try with_reducible rfl)
    try simp only [Act.put, List.setIfInBounds_toArray, List.set_cons_zero, List.set_cons_succ]
    refine wpG_takeC (i := 2) (x := { dst := some 35, op := Op.call { callee := Callee.value (Operand.func 15), args := #[Operand.tmp 33, Operand.tmp 34], argTypes := #[33, 22] }, type := 24, pos := "law.go:88", after := #[{ on := 0, ground := Ground.data }, { on := 1, ground := Ground.data }], guard := none }) (v := .int .i64 ev) (f := 15) (args := ?_) rfl (by kernel_rfl) (fun _ _ _ h => h) (by rfl) ?_ ?_ hHeld ?_
    rotate_left
    · (intro w; go_simp; try with_reducible rfl)
    · (intro w hS; exact (iwrite_err hS Has.auto ev HXE.out HEN.out _))
    try simp only [Act.put, List.setIfInBounds_toArray, List.set_cons_zero, List.set_cons_succ]
    refine wpG_takeA 3 (v := ?_) ?_ hHeld ?_
    rotate_left
    · (intro w hS; (clear hS; go_simp); try with_reducible rfl)
    try simp only [Act.put, List.setIfInBounds_toArray, List.set_cons_zero, List.set_cons_succ]
    refine wpG_takeA 4 (v := ?_) ?_ hHeld ?_
    rotate_left
    · (intro w hS; (clear hS; go_simp); try with_reducible rfl)
    try simp only [Act.put, List.setIfInBounds_toArray, List.set_cons_zero, List.set_cons_succ]
    refine wpG_takeA 5 (v := ?_) ?_ hHeld ?_
    rotate_left
    · (intro w hS; (clear hS; go_simp); try with_reducible rfl)
    try simp only [Act.put, List.setIfInBounds_toArray, List.set_cons_zero, List.set_cons_succ]
    refine wpG_takeA 6 (v := ?_) ?_ hHeld ?_
    rotate_left
    · (intro w hS; (clear hS; go_simp); try with_reducible rfl)
    try simp only [Act.put, List.setIfInBounds_toArray, List.set_cons_zero, List.set_cons_succ]
    refine wpG_takeC (i := 7) (x := { dst := some 40, op := Op.call { callee := Callee.value (Operand.func 15), args := #[Operand.tmp 39, Operand.const (Value.slice none 0 0)], argTypes := #[33, 22] }, type := 24, pos := "law.go:88", after := #[{ on := 6, ground := Ground.data }, { on := 5, ground := Ground.chain }, { on := 5, ground := Ground.guard }], guard := some (5, true) }) (v := .int .i64 ev) (f := 15) (args := ?_) rfl (by kernel_rfl) (fun _ _ _ h => h) (by rfl) ?_ ?_ hHeld ?_
    rotate_left
    · (intro w; go_simp; try with_reducible rfl)
    · (intro w hS; exact (iwrite_err hS Has.auto ev HXE.out HEN.out _))
    try simp only [Act.put, List.setIfInBounds_toArray, List.set_cons_zero, List.set_cons_succ]
    refine wpG_takeA 8 (v := ?_) ?_ hHeld ?_
    rotate_left
    · (intro w hS; (clear hS; go_simp); try with_reducible rfl)
    try simp only [Act.put, List.setIfInBounds_toArray, List.set_cons_zero, List.set_cons_succ]
    refine wpG_takeA 9 (v := ?_) ?_ hHeld ?_
    rotate_left
    · (intro w hS; (clear hS; go_simp); try with_reducible rfl)
    try simp only [Act.put, List.setIfInBounds_toArray, List.set_cons_zero, List.set_cons_succ]
    refine wpG_takeA 10 (v := ?_) ?_ hHeld ?_
    rotate_left
    · (intro w hS; (clear hS; go_simp); try with_reducible rfl)
    try simp only [Act.put, List.setIfInBounds_toArray, List.set_cons_zero, List.set_cons_succ]
    refine wpG_takeA 11 (v := ?_) ?_ hHeld ?_
    rotate_left
    · (intro w hS; (clear hS; go_simp); try with_reducible rfl)
    try simp only [Act.put, List.setIfInBounds_toArray, List.set_cons_zero, List.set_cons_succ]
    refine wpG_takeA 12 (v := ?_) ?_ hHeld ?_
    rotate_left
    · (intro w hS; (clear hS; go_simp); try with_reducible rfl)
    try simp only [Act.put, List.setIfInBounds_toArray, List.set_cons_zero, List.set_cons_succ]
    refine wpG_takeA 15 (v := ?_) ?_ hHeld ?_
    rotate_left
    · (intro w hS; (clear hS; go_simp); try with_reducible rfl)
    try simp only [Act.put, List.setIfInBounds_toArray, List.set_cons_zero, List.set_cons_succ]
    refine wpG_takeA 16 (v := .string (strOfNums (m1.out))) ?_ hHeld ?_
    · (intro w hS; first | exact kr_string (by rfl) (by rfl) ((RdS.own (k := .u8) (xs := m1.out) O5 (Seg.all X5)).at_ _ (hS.cov Cov.auto)) Try.underlying22 Try.underlying5 Try.underlying9)
    try simp only [Act.put, List.setIfInBounds_toArray, List.set_cons_zero, List.set_cons_succ]
    refine wpG_oneA 13 (fun K9 hK => ?_)
    go_simp
    (go_at_call 16; (with_reducible refine (iout_any (XO := XO) (L := X5 ++ (T ++ (XR ++ L))) (K.cov Cov.auto) HOO.out HON.out).mono ?_); clear K; rintro e w1 ⟨A6, c6, X6, rfl, O6, K⟩)
    refine hK.out _ _ (K.cov Cov.auto) (fun hHeld => ?_)
    clear hK K9
    try simp only [Act.put, List.setIfInBounds_toArray, List.set_cons_zero, List.set_cons_succ]
    refine wpG_oneA 14 (fun K9 hK => ?_)
    refine st_reads (v := .string (strOfNums m1.out)) (by rfl) (kr_string (by rfl) (by rfl) ((RdS.own (k := .u8) (xs := m1.out) O6 (Seg.all X6)).at_ _ (K.cov Cov.auto)) Try.underlying22 Try.underlying5 Try.underlying9) ?_
    refine hK.out _ _ (K.cov Cov.auto) (fun hHeld => ?_)
    clear hK K9
    try simp only [Act.put, List.setIfInBounds_toArray, List.set_cons_zero, List.set_cons_succ]
    refine wpG_takeA 17 (v := ?_) ?_ hHeld ?_
    rotate_left
    · (intro w hS; (clear hS; go_simp); try with_reducible rfl)
    try simp only [Act.put, List.setIfInBounds_toArray, List.set_cons_zero, List.set_cons_succ]
    refine wpG_takeA 18 (v := ?_) ?_ hHeld ?_
    rotate_left
    · (intro w hS; (clear hS; go_simp); try with_reducible rfl)
    try simp only [Act.put, List.setIfInBounds_toArray, List.set_cons_zero, List.set_cons_succ]
    refine wpG_takeA 19 (v := ?_) ?_ hHeld ?_
    rotate_left
    · (intro w hS; (clear hS; go_simp); try with_reducible rfl)
    try simp only [Act.put, List.setIfInBounds_toArray, List.set_cons_zero, List.set_cons_succ]
    refine wpG_takeA 20 (v := ?_) ?_ hHeld ?_
    rotate_left
    · (intro w hS; (clear hS; go_simp); try with_reducible rfl)
    try simp only [Act.put, List.setIfInBounds_toArray, List.set_cons_zero, List.set_cons_succ]
    refine wpG_takeC (i := 21) (x := { dst := some 54, op := Op.call { callee := Callee.value (Operand.func 17), args := #[Operand.tmp 53], argTypes := #[33] }, type := 4, pos := "law.go:88", after := #[{ on := 20, ground := Ground.data }, { on := 19, ground := Ground.chain }, { on := 19, ground := Ground.guard }], guard := some (19, true) }) (v := .bool false) (f := 17) (args := ?_) rfl (by kernel_rfl) (fun _ _ _ h => h) (by rfl) ?_ ?_ hHeld ?_
    rotate_left
    · (intro w; go_simp; try with_reducible rfl)
    · (intro w hS; exact (idone_any hS Has.auto HNX.out HXM.out false HDN.out))
    try simp only [Act.put, List.setIfInBounds_toArray, List.set_cons_zero, List.set_cons_succ]
    refine wpG_takeA 22 (v := ?_) ?_ hHeld ?_
    rotate_left
    · (intro w hS; (clear hS; go_simp); try with_reducible rfl)
    try simp only [Act.put, List.setIfInBounds_toArray, List.set_cons_zero, List.set_cons_succ]
    refine wpG_takeA 23 (v := ?_) ?_ hHeld ?_
    rotate_left
    · (intro w hS; (clear hS; go_simp); try with_reducible rfl)
    try simp only [Act.put, List.setIfInBounds_toArray, List.set_cons_zero, List.set_cons_succ]
    refine wpG_takeA 24 (v := ?_) ?_ hHeld ?_
    rotate_left
    · (intro w hS; (clear hS; go_simp); try with_reducible rfl)
    try simp only [Act.put, List.setIfInBounds_toArray, List.set_cons_zero, List.set_cons_succ]
    refine wpG_oneA 25 (fun K9 hK => ?_)
    go_simp
    (go_at_call 8; (with_reducible refine (awake13K K).mono ?_); clear K; rintro e w1 ⟨rfl, K⟩)
    refine hK.out _ _ (K.cov Cov.auto) (fun hHeld => ?_)
    clear hK K9
    try simp only [Act.put, List.setIfInBounds_toArray, List.set_cons_zero, List.set_cons_succ]
    refine wpG_takeA 26 (v := ?_) ?_ hHeld ?_
    rotate_left
    · (intro w hS; (clear hS; go_simp); try with_reducible rfl)
    try simp only [Act.put, List.setIfInBounds_toArray, List.set_cons_zero, List.set_cons_succ]
    refine wpG_takeA 27 (v := ?_) ?_ hHeld ?_
    rotate_left
    · (intro w hS; (clear hS; go_simp); try with_reducible rfl)
    try simp only [Act.put, List.setIfInBounds_toArray, List.set_cons_zero, List.set_cons_succ]
    refine wpG_done (by kernel_rfl) ?_
    skip
    go_wp2
    go_ret
    exact ⟨rfl, K.cov Cov.auto⟩
end
end Go.Proofs.Ytemnahimheffgaa
