/-
  journal: the statements JournalWrites, JournalReads, JournalNil (walks).
-/
import Derived.Test.YtokbloddaoakgaaJouF
set_option linter.unusedVariables false
set_option linter.unusedSimpArgs false
namespace Go.Proofs.Ytokbloddaoakgaa
open Go.RowKit
theorem rec0_ok : RecOk rec0 := ⟨by decide, by decide, rfl, by decide⟩
theorem rec0_may : mayR rec0 = true := by decide

theorem resG_man (xs : List Int) : (resG xs).1.man.length = 32 := by
  unfold resG
  split
  · rfl
  · split
    · rfl
    · split
      · rfl
      · split
        · exact getRec_man xs (by omega)
        · rfl
section
variable {w0 w : World} {L : List Ent} {r : Rec} {A : Option Addr} {n c : Nat} {xs : List Int}
set_option maxRecDepth 100000 in
theorem awake24K (K : Known w0 w L) : Calls Try.prog 26 #[] w fun e w' => e = .returned (.bool true) ∧ Known w0 w' L := by
  go_enter Try.func26, Try.ntmps26
  go_wp2_with (first | ((with_reducible refine at_build (t := 44) rfl ?_); refine ev_build0 rfl 44 rfl (rec0_build _) ?_) | (go_at_call 22; (with_reducible refine (jput_yes K rec0_may rec0_ok).mono ?_); clear K; rintro e w1 ⟨A1, c1, X1, rfl, O, K⟩))
  go_ret
  exact ⟨rfl, K.cov (by repeat (first | with_reducible exact Cov.all _ | with_reducible exact Cov.left _ _ | with_reducible exact Cov.nil _ | (with_reducible apply Cov.app; (· repeat (first | with_reducible exact Sel.nil _ | with_reducible exact Sel.ap _ _ | with_reducible exact Sel.hd _ _ | with_reducible exact Sel.all _ | with_reducible apply Sel.tl | with_reducible apply Sel.sk))) | (with_reducible apply Cov.cons; (· repeat (first | with_reducible exact Sel.nil _ | with_reducible exact Sel.ap _ _ | with_reducible exact Sel.hd _ _ | with_reducible exact Sel.all _ | with_reducible apply Sel.tl | with_reducible apply Sel.sk))) | with_reducible refine Cov.drop _ ?_ | with_reducible refine Cov.skip _ ?_))⟩
theorem kr_strneq_ff {P : Program} {o : Oper} {a : Act} {W : World} {T U : TypeId} {x y : Operand} {us bs : List Int} {s : ByteArray} (ho : o.op = .binOp .neq T x y U) (hx : a.eval x = .string (strOfNums us)) (hy : a.eval y = .string s) (hs : s = strOfNums bs) (he : us = bs) (ha : ∀ v ∈ us, 0 ≤ v ∧ v ≤ 255) : (execOp a.eval o).run P W = .ok (.value (.bool false)) W := by
  subst he
  simpa using kr_strneq (P := P) (W := W) ho hx hy hs ha ha
set_option maxHeartbeats 1600000 in
set_option maxRecDepth 100000 in
theorem jwrites_any (K : Known w0 w L) (hm : RecOk r) : Calls Try.prog 5 #[.agg (recC r)] w fun e w' => e = .returned (.bool true) ∧ Known w0 w' L := by
  have HMN := Lib.hid hm.man
  cases hv : mayR r
  · have HV := Lib.hid hv
    clear hv
    go_enter Try.func5, Try.ntmps5
    go_upto_region 3 with ((first | ((with_reducible refine at_box rfl ?_); refine wpList_does rfl (kd_box K _ _ rfl (by conv => lhs; whnf)) ?_; clear K; rintro _ w1 ⟨gr, rfl, K⟩; (try dsimp only [Value.cells] at K)) | ((with_reducible refine at_load (t := 44) rfl ?_); refine wpList_reads (by rfl) (kr_load_row K _ _ (by rfl) (by rfl) (by repeat (first | with_reducible exact Has.hd _ _ | with_reducible refine Has.tl _ ?_ | with_reducible refine Has.ap _ ?_)) (by kernel_rfl) (by rw [recC_size _ (by first | exact man0_len | exact HMN.out | exact HMG.out)]; kernel_rfl)) ?_) | (go_at_call 22; (with_reducible refine (jput_no K HV.out HMN.out).mono ?_); clear K; rintro e w1 ⟨rfl, K⟩) | (go_at_call 23; (with_reducible refine (rjput_no K HV.out HMN.out).mono ?_); clear K; rintro e w1 ⟨A2, c2, X2, rfl, O2, K⟩)))
    refine wp_region_QLK K (by kernel_rfl) (by kernel_rfl) ?_
    clear K
    refine wpQL_step (k := 0) (x := { dst := some 19, op := Op.move (Operand.tmp 3), type := 24, pos := "law.go:27", after := #[], guard := none }) (v := ?_) rfl (by kernel_rfl) (by rfl) ?_ ?_
    rotate_left
    · (intro w hS; refine quiet_value ?_; (clear hS; go_simp); try with_reducible rfl)
    try simp only [Act.put, List.setIfInBounds_toArray, List.set_cons_zero, List.set_cons_succ]
    refine wpQL_step (k := 1) (x := { dst := some 20, op := Op.convert 24 9 (Operand.tmp 19), type := 9, pos := "law.go:27", after := #[{ on := 0, ground := Ground.data }], guard := none }) (v := .string (strOfNums ([]))) rfl (by kernel_rfl) (by rfl) ?_ ?_
    · (intro w hS; refine quiet_value ?_; first | exact kr_string (by rfl) (by rfl) (Rd.nil _ _ _) Try.underlying24 Try.underlying5 Try.underlying9)
    try simp only [Act.put, List.setIfInBounds_toArray, List.set_cons_zero, List.set_cons_succ]
    refine wpQL_step (k := 2) (x := { dst := some 21, op := Op.move (Operand.tmp 5), type := 24, pos := "law.go:27", after := #[], guard := none }) (v := ?_) rfl (by kernel_rfl) (by rfl) ?_ ?_
    rotate_left
    · (intro w hS; refine quiet_value ?_; (clear hS; go_simp); try with_reducible rfl)
    try simp only [Act.put, List.setIfInBounds_toArray, List.set_cons_zero, List.set_cons_succ]
    refine wpQL_step (k := 3) (x := { dst := some 22, op := Op.convert 24 9 (Operand.tmp 21), type := 9, pos := "law.go:27", after := #[{ on := 2, ground := Ground.data }], guard := none }) (v := .string (strOfNums ([]))) rfl (by kernel_rfl) (by rfl) ?_ ?_
    · (intro w hS; refine quiet_value ?_; first | exact kr_string (by rfl) (by rfl) ((RdS.own (L := _) O2 (by repeat (first | with_reducible exact Seg.nil _ | with_reducible exact Seg.all _ | with_reducible exact Seg.ap _ _ | with_reducible exact Seg.hd _ _ | with_reducible apply Seg.tl | with_reducible apply Seg.sk))).at_ _ hS) Try.underlying24 Try.underlying5 Try.underlying9)
    try simp only [Act.put, List.setIfInBounds_toArray, List.set_cons_zero, List.set_cons_succ]
    refine wpQL_step (k := 4) (x := { dst := some 23, op := Op.binOp BinOp.neq 9 (Operand.tmp 20) (Operand.tmp 22) 9, type := 4, pos := "law.go:27", after := #[{ on := 1, ground := Ground.data }, { on := 3, ground := Ground.data }], guard := none }) (v := .bool false) rfl (by kernel_rfl) (by rfl) ?_ ?_
    · (intro w hS; refine quiet_value ?_; first | exact kr_strneq_ff (bs := []) (by rfl) (by rfl) (by rfl) (by rfl) rfl (by simp))
    try simp only [Act.put, List.setIfInBounds_toArray, List.set_cons_zero, List.set_cons_succ]
    refine wpQL_step (k := 5) (x := { dst := some 24, op := Op.move (Operand.tmp 23), type := 4, pos := "law.go:27", after := #[{ on := 4, ground := Ground.data }], guard := none }) (v := ?_) rfl (by kernel_rfl) (by rfl) ?_ ?_
    rotate_left
    · (intro w hS; refine quiet_value ?_; (clear hS; go_simp); try with_reducible rfl)
    try simp only [Act.put, List.setIfInBounds_toArray, List.set_cons_zero, List.set_cons_succ]
    refine wpQL_step (k := 6) (x := { dst := some 25, op := Op.move (Operand.tmp 4), type := 27, pos := "law.go:27", after := #[{ on := 5, ground := Ground.guard }], guard := some (5, false) }) (v := ?_) rfl (by kernel_rfl) (by rfl) ?_ ?_
    rotate_left
    · (intro w hS; refine quiet_value ?_; (clear hS; go_simp); try with_reducible rfl)
    try simp only [Act.put, List.setIfInBounds_toArray, List.set_cons_zero, List.set_cons_succ]
    refine wpQL_step (k := 7) (x := { dst := some 26, op := Op.move (Operand.tmp 6), type := 3, pos := "law.go:27", after := #[{ on := 5, ground := Ground.guard }], guard := some (5, false) }) (v := ?_) rfl (by kernel_rfl) (by rfl) ?_ ?_
    rotate_left
    · (intro w hS; refine quiet_value ?_; (clear hS; go_simp); try with_reducible rfl)
    try simp only [Act.put, List.setIfInBounds_toArray, List.set_cons_zero, List.set_cons_succ]
    refine wpQL_step (k := 8) (x := { dst := some 27, op := Op.binOp BinOp.neq 3 (Operand.tmp 25) (Operand.tmp 26) 3, type := 4, pos := "law.go:27", after := #[{ on := 6, ground := Ground.data }, { on := 7, ground := Ground.data }, { on := 5, ground := Ground.guard }], guard := some (5, false) }) (v := ?_) rfl (by kernel_rfl) (by rfl) ?_ ?_
    rotate_left
    · (intro w hS; refine quiet_value ?_; (clear hS; go_simp); try with_reducible rfl)
    try simp only [Act.put, List.setIfInBounds_toArray, List.set_cons_zero, List.set_cons_succ]
    refine wpQL_step (k := 9) (x := { dst := some 28, op := Op.pick (Operand.tmp 24) (Operand.const (Value.bool true)) (Operand.tmp 27), type := 4, pos := "law.go:27", after := #[{ on := 5, ground := Ground.data }, { on := 8, ground := Ground.data }], guard := none }) (v := ?_) rfl (by kernel_rfl) (by rfl) ?_ ?_
    rotate_left
    · (intro w hS; refine quiet_value ?_; (clear hS; go_simp); try with_reducible rfl)
    try simp only [Act.put, List.setIfInBounds_toArray, List.set_cons_zero, List.set_cons_succ]
    refine wpQL_step (k := 10) (x := { dst := some 29, op := Op.move (Operand.tmp 28), type := 4, pos := "law.go:27", after := #[{ on := 9, ground := Ground.data }, { on := 5, ground := Ground.chain }], guard := none }) (v := ?_) rfl (by kernel_rfl) (by rfl) ?_ ?_
    rotate_left
    · (intro w hS; refine quiet_value ?_; (clear hS; go_simp); try with_reducible rfl)
    try simp only [Act.put, List.setIfInBounds_toArray, List.set_cons_zero, List.set_cons_succ]
    refine wpQL_step (k := 11) (x := { dst := some 30, op := Op.load 44 (Operand.tmp 1), type := 44, pos := "law.go:27", after := #[{ on := 10, ground := Ground.guard }], guard := some (10, false) }) (v := .agg (recC r)) rfl (by kernel_rfl) (by rfl) ?_ ?_
    · (intro w hS; refine quiet_value ?_; first | exact kr_load_row hS _ _ (by rfl) (by rfl) (by repeat (first | with_reducible exact Has.hd _ _ | with_reducible refine Has.tl _ ?_ | with_reducible refine Has.ap _ ?_)) (by kernel_rfl) (by rw [recC_size _ HMN.out]; kernel_rfl))
    try simp only [Act.put, List.setIfInBounds_toArray, List.set_cons_zero, List.set_cons_succ]
    refine wpQL_step (k := 12) (x := { dst := some 31, op := Op.call { callee := Callee.value (Operand.func 24), args := #[Operand.tmp 30], argTypes := #[44] }, type := 4, pos := "law.go:27", after := #[{ on := 11, ground := Ground.data }, { on := 10, ground := Ground.chain }, { on := 10, ground := Ground.guard }], guard := some (10, false) }) (v := .bool false) rfl (by kernel_rfl) (by rfl) ?_ ?_
    · intro w hS
      refine quiet_call (f := 24) (args := ?_) ?_ ?_
      rotate_left
      · (go_simp; try with_reducible rfl)
      · exact (jmay_any hS false HV.out HMN.out)
    try simp only [Act.put, List.setIfInBounds_toArray, List.set_cons_zero, List.set_cons_succ]
    refine wpQL_step (k := 13) (x := { dst := some 32, op := Op.load 44 (Operand.tmp 1), type := 44, pos := "law.go:27", after := #[{ on := 10, ground := Ground.guard }], guard := some (10, false) }) (v := .agg (recC r)) rfl (by kernel_rfl) (by rfl) ?_ ?_
    · (intro w hS; refine quiet_value ?_; first | exact kr_load_row hS _ _ (by rfl) (by rfl) (by repeat (first | with_reducible exact Has.hd _ _ | with_reducible refine Has.tl _ ?_ | with_reducible refine Has.ap _ ?_)) (by kernel_rfl) (by rw [recC_size _ HMN.out]; kernel_rfl))
    try simp only [Act.put, List.setIfInBounds_toArray, List.set_cons_zero, List.set_cons_succ]
    refine wpQL_step (k := 14) (x := { dst := some 33, op := Op.call { callee := Callee.value (Operand.func 25), args := #[Operand.tmp 32], argTypes := #[44] }, type := 4, pos := "law.go:27", after := #[{ on := 13, ground := Ground.data }, { on := 12, ground := Ground.chain }, { on := 10, ground := Ground.guard }], guard := some (10, false) }) (v := .bool false) rfl (by kernel_rfl) (by rfl) ?_ ?_
    · intro w hS
      refine quiet_call (f := 25) (args := ?_) ?_ ?_
      rotate_left
      · (go_simp; try with_reducible rfl)
      · exact (rjmay_any hS false HV.out HMN.out)
    try simp only [Act.put, List.setIfInBounds_toArray, List.set_cons_zero, List.set_cons_succ]
    refine wpQL_step (k := 15) (x := { dst := some 34, op := Op.binOp BinOp.neq 4 (Operand.tmp 31) (Operand.tmp 33) 4, type := 4, pos := "law.go:27", after := #[{ on := 12, ground := Ground.data }, { on := 14, ground := Ground.data }, { on := 10, ground := Ground.guard }], guard := some (10, false) }) (v := ?_) rfl (by kernel_rfl) (by rfl) ?_ ?_
    rotate_left
    · (intro w hS; refine quiet_value ?_; (clear hS; go_simp); try with_reducible rfl)
    try simp only [Act.put, List.setIfInBounds_toArray, List.set_cons_zero, List.set_cons_succ]
    refine wpQL_end (k := 16) (x := { dst := some 35, op := Op.pick (Operand.tmp 29) (Operand.const (Value.bool true)) (Operand.tmp 34), type := 4, pos := "law.go:27", after := #[{ on := 10, ground := Ground.data }, { on := 15, ground := Ground.data }], guard := none }) rfl (by kernel_rfl) (fun w1 K K9 hK => ?_)
    refine st_reads (v := ?_) (by rfl) ?_ ?_
    rotate_left
    · (go_simp; try with_reducible rfl)
    refine hK.out _ _ ?_
    clear hK K9
    try simp only [Act.put, List.setIfInBounds_toArray, List.set_cons_zero, List.set_cons_succ]
    skip
    go_wp2_with (first | (go_at_call 26; (with_reducible refine (awake24K K).mono ?_); clear K; rintro e w1 ⟨rfl, K⟩))
    go_ret
    exact ⟨rfl, K.cov (by repeat (first | with_reducible exact Cov.all _ | with_reducible exact Cov.left _ _ | with_reducible exact Cov.nil _ | (with_reducible apply Cov.app; (· repeat (first | with_reducible exact Sel.nil _ | with_reducible exact Sel.ap _ _ | with_reducible exact Sel.hd _ _ | with_reducible exact Sel.all _ | with_reducible apply Sel.tl | with_reducible apply Sel.sk))) | (with_reducible apply Cov.cons; (· repeat (first | with_reducible exact Sel.nil _ | with_reducible exact Sel.ap _ _ | with_reducible exact Sel.hd _ _ | with_reducible exact Sel.all _ | with_reducible apply Sel.tl | with_reducible apply Sel.sk))) | with_reducible refine Cov.drop _ ?_ | with_reducible refine Cov.skip _ ?_))⟩
  · have HV := Lib.hid hv
    have HWB := Lib.hid (recW_byte r hm)
    have HRW := Lib.hid (resG_recW r hm hv)
    clear hv
    go_enter Try.func5, Try.ntmps5
    go_upto_region 3 with ((first | ((with_reducible refine at_box rfl ?_); refine wpList_does rfl (kd_box K _ _ rfl (by conv => lhs; whnf)) ?_; clear K; rintro _ w1 ⟨gr, rfl, K⟩; (try dsimp only [Value.cells] at K)) | ((with_reducible refine at_load (t := 44) rfl ?_); refine wpList_reads (by rfl) (kr_load_row K _ _ (by rfl) (by rfl) (by repeat (first | with_reducible exact Has.hd _ _ | with_reducible refine Has.tl _ ?_ | with_reducible refine Has.ap _ ?_)) (by kernel_rfl) (by rw [recC_size _ (by first | exact man0_len | exact HMN.out | exact HMG.out)]; kernel_rfl)) ?_) | (go_at_call 22; (with_reducible refine (jput_yes K HV.out hm).mono ?_); clear K; rintro e w1 ⟨A1, c1, X1, rfl, O1, K⟩) | (go_at_call 23; (with_reducible refine (rjput_yes K HV.out hm).mono ?_); clear K; rintro e w1 ⟨A2, c2, X2, rfl, O2, K⟩)))
    have hc1 := O1.le
    have hc2 := O1.cap
    refine wp_region_QLK K (by kernel_rfl) (by kernel_rfl) ?_
    clear K
    refine wpQL_step (k := 0) (x := { dst := some 19, op := Op.move (Operand.tmp 3), type := 24, pos := "law.go:27", after := #[], guard := none }) (v := ?_) rfl (by kernel_rfl) (by rfl) ?_ ?_
    rotate_left
    · (intro w hS; refine quiet_value ?_; (clear hS; go_simp); try with_reducible rfl)
    try simp only [Act.put, List.setIfInBounds_toArray, List.set_cons_zero, List.set_cons_succ]
    refine wpQL_step (k := 1) (x := { dst := some 20, op := Op.convert 24 9 (Operand.tmp 19), type := 9, pos := "law.go:27", after := #[{ on := 0, ground := Ground.data }], guard := none }) (v := .string (strOfNums (recW r))) rfl (by kernel_rfl) (by rfl) ?_ ?_
    · (intro w hS; refine quiet_value ?_; first | exact kr_string (by rfl) (by rfl) ((RdS.own (L := _) O1 (by repeat (first | with_reducible exact Seg.nil _ | with_reducible exact Seg.all _ | with_reducible exact Seg.ap _ _ | with_reducible exact Seg.hd _ _ | with_reducible apply Seg.tl | with_reducible apply Seg.sk))).at_ _ hS) Try.underlying24 Try.underlying5 Try.underlying9)
    try simp only [Act.put, List.setIfInBounds_toArray, List.set_cons_zero, List.set_cons_succ]
    refine wpQL_step (k := 2) (x := { dst := some 21, op := Op.move (Operand.tmp 5), type := 24, pos := "law.go:27", after := #[], guard := none }) (v := ?_) rfl (by kernel_rfl) (by rfl) ?_ ?_
    rotate_left
    · (intro w hS; refine quiet_value ?_; (clear hS; go_simp); try with_reducible rfl)
    try simp only [Act.put, List.setIfInBounds_toArray, List.set_cons_zero, List.set_cons_succ]
    refine wpQL_step (k := 3) (x := { dst := some 22, op := Op.convert 24 9 (Operand.tmp 21), type := 9, pos := "law.go:27", after := #[{ on := 2, ground := Ground.data }], guard := none }) (v := .string (strOfNums (recW r))) rfl (by kernel_rfl) (by rfl) ?_ ?_
    · (intro w hS; refine quiet_value ?_; first | exact kr_string (by rfl) (by rfl) ((RdS.own (L := _) O2 (by repeat (first | with_reducible exact Seg.nil _ | with_reducible exact Seg.all _ | with_reducible exact Seg.ap _ _ | with_reducible exact Seg.hd _ _ | with_reducible apply Seg.tl | with_reducible apply Seg.sk))).at_ _ hS) Try.underlying24 Try.underlying5 Try.underlying9)
    try simp only [Act.put, List.setIfInBounds_toArray, List.set_cons_zero, List.set_cons_succ]
    refine wpQL_step (k := 4) (x := { dst := some 23, op := Op.binOp BinOp.neq 9 (Operand.tmp 20) (Operand.tmp 22) 9, type := 4, pos := "law.go:27", after := #[{ on := 1, ground := Ground.data }, { on := 3, ground := Ground.data }], guard := none }) (v := .bool false) rfl (by kernel_rfl) (by rfl) ?_ ?_
    · (intro w hS; refine quiet_value ?_; first | exact kr_strneq_ff (by rfl) (by rfl) (by rfl) (by rfl) rfl HWB.out)
    try simp only [Act.put, List.setIfInBounds_toArray, List.set_cons_zero, List.set_cons_succ]
    refine wpQL_step (k := 5) (x := { dst := some 24, op := Op.move (Operand.tmp 23), type := 4, pos := "law.go:27", after := #[{ on := 4, ground := Ground.data }], guard := none }) (v := ?_) rfl (by kernel_rfl) (by rfl) ?_ ?_
    rotate_left
    · (intro w hS; refine quiet_value ?_; (clear hS; go_simp); try with_reducible rfl)
    try simp only [Act.put, List.setIfInBounds_toArray, List.set_cons_zero, List.set_cons_succ]
    refine wpQL_step (k := 6) (x := { dst := some 25, op := Op.move (Operand.tmp 4), type := 27, pos := "law.go:27", after := #[{ on := 5, ground := Ground.guard }], guard := some (5, false) }) (v := ?_) rfl (by kernel_rfl) (by rfl) ?_ ?_
    rotate_left
    · (intro w hS; refine quiet_value ?_; (clear hS; go_simp); try with_reducible rfl)
    try simp only [Act.put, List.setIfInBounds_toArray, List.set_cons_zero, List.set_cons_succ]
    refine wpQL_step (k := 7) (x := { dst := some 26, op := Op.move (Operand.tmp 6), type := 3, pos := "law.go:27", after := #[{ on := 5, ground := Ground.guard }], guard := some (5, false) }) (v := ?_) rfl (by kernel_rfl) (by rfl) ?_ ?_
    rotate_left
    · (intro w hS; refine quiet_value ?_; (clear hS; go_simp); try with_reducible rfl)
    try simp only [Act.put, List.setIfInBounds_toArray, List.set_cons_zero, List.set_cons_succ]
    refine wpQL_step (k := 8) (x := { dst := some 27, op := Op.binOp BinOp.neq 3 (Operand.tmp 25) (Operand.tmp 26) 3, type := 4, pos := "law.go:27", after := #[{ on := 6, ground := Ground.data }, { on := 7, ground := Ground.data }, { on := 5, ground := Ground.guard }], guard := some (5, false) }) (v := ?_) rfl (by kernel_rfl) (by rfl) ?_ ?_
    rotate_left
    · (intro w hS; refine quiet_value ?_; (clear hS; go_simp); try with_reducible rfl)
    try simp only [Act.put, List.setIfInBounds_toArray, List.set_cons_zero, List.set_cons_succ]
    refine wpQL_step (k := 9) (x := { dst := some 28, op := Op.pick (Operand.tmp 24) (Operand.const (Value.bool true)) (Operand.tmp 27), type := 4, pos := "law.go:27", after := #[{ on := 5, ground := Ground.data }, { on := 8, ground := Ground.data }], guard := none }) (v := ?_) rfl (by kernel_rfl) (by rfl) ?_ ?_
    rotate_left
    · (intro w hS; refine quiet_value ?_; (clear hS; go_simp); try with_reducible rfl)
    try simp only [Act.put, List.setIfInBounds_toArray, List.set_cons_zero, List.set_cons_succ]
    refine wpQL_step (k := 10) (x := { dst := some 29, op := Op.move (Operand.tmp 28), type := 4, pos := "law.go:27", after := #[{ on := 9, ground := Ground.data }, { on := 5, ground := Ground.chain }], guard := none }) (v := ?_) rfl (by kernel_rfl) (by rfl) ?_ ?_
    rotate_left
    · (intro w hS; refine quiet_value ?_; (clear hS; go_simp); try with_reducible rfl)
    try simp only [Act.put, List.setIfInBounds_toArray, List.set_cons_zero, List.set_cons_succ]
    refine wpQL_step (k := 11) (x := { dst := some 30, op := Op.load 44 (Operand.tmp 1), type := 44, pos := "law.go:27", after := #[{ on := 10, ground := Ground.guard }], guard := some (10, false) }) (v := .agg (recC r)) rfl (by kernel_rfl) (by rfl) ?_ ?_
    · (intro w hS; refine quiet_value ?_; first | exact kr_load_row hS _ _ (by rfl) (by rfl) (by repeat (first | with_reducible exact Has.hd _ _ | with_reducible refine Has.tl _ ?_ | with_reducible refine Has.ap _ ?_)) (by kernel_rfl) (by rw [recC_size _ HMN.out]; kernel_rfl))
    try simp only [Act.put, List.setIfInBounds_toArray, List.set_cons_zero, List.set_cons_succ]
    refine wpQL_step (k := 12) (x := { dst := some 31, op := Op.call { callee := Callee.value (Operand.func 24), args := #[Operand.tmp 30], argTypes := #[44] }, type := 4, pos := "law.go:27", after := #[{ on := 11, ground := Ground.data }, { on := 10, ground := Ground.chain }, { on := 10, ground := Ground.guard }], guard := some (10, false) }) (v := .bool true) rfl (by kernel_rfl) (by rfl) ?_ ?_
    · intro w hS
      refine quiet_call (f := 24) (args := ?_) ?_ ?_
      rotate_left
      · (go_simp; try with_reducible rfl)
      · exact (jmay_any hS true HV.out HMN.out)
    try simp only [Act.put, List.setIfInBounds_toArray, List.set_cons_zero, List.set_cons_succ]
    refine wpQL_step (k := 13) (x := { dst := some 32, op := Op.load 44 (Operand.tmp 1), type := 44, pos := "law.go:27", after := #[{ on := 10, ground := Ground.guard }], guard := some (10, false) }) (v := .agg (recC r)) rfl (by kernel_rfl) (by rfl) ?_ ?_
    · (intro w hS; refine quiet_value ?_; first | exact kr_load_row hS _ _ (by rfl) (by rfl) (by repeat (first | with_reducible exact Has.hd _ _ | with_reducible refine Has.tl _ ?_ | with_reducible refine Has.ap _ ?_)) (by kernel_rfl) (by rw [recC_size _ HMN.out]; kernel_rfl))
    try simp only [Act.put, List.setIfInBounds_toArray, List.set_cons_zero, List.set_cons_succ]
    refine wpQL_step (k := 14) (x := { dst := some 33, op := Op.call { callee := Callee.value (Operand.func 25), args := #[Operand.tmp 32], argTypes := #[44] }, type := 4, pos := "law.go:27", after := #[{ on := 13, ground := Ground.data }, { on := 12, ground := Ground.chain }, { on := 10, ground := Ground.guard }], guard := some (10, false) }) (v := .bool true) rfl (by kernel_rfl) (by rfl) ?_ ?_
    · intro w hS
      refine quiet_call (f := 25) (args := ?_) ?_ ?_
      rotate_left
      · (go_simp; try with_reducible rfl)
      · exact (rjmay_any hS true HV.out HMN.out)
    try simp only [Act.put, List.setIfInBounds_toArray, List.set_cons_zero, List.set_cons_succ]
    refine wpQL_step (k := 15) (x := { dst := some 34, op := Op.binOp BinOp.neq 4 (Operand.tmp 31) (Operand.tmp 33) 4, type := 4, pos := "law.go:27", after := #[{ on := 12, ground := Ground.data }, { on := 14, ground := Ground.data }, { on := 10, ground := Ground.guard }], guard := some (10, false) }) (v := ?_) rfl (by kernel_rfl) (by rfl) ?_ ?_
    rotate_left
    · (intro w hS; refine quiet_value ?_; (clear hS; go_simp); try with_reducible rfl)
    try simp only [Act.put, List.setIfInBounds_toArray, List.set_cons_zero, List.set_cons_succ]
    refine wpQL_end (k := 16) (x := { dst := some 35, op := Op.pick (Operand.tmp 29) (Operand.const (Value.bool true)) (Operand.tmp 34), type := 4, pos := "law.go:27", after := #[{ on := 10, ground := Ground.data }, { on := 15, ground := Ground.data }], guard := none }) rfl (by kernel_rfl) (fun w1 K K9 hK => ?_)
    refine st_reads (v := ?_) (by rfl) ?_ ?_
    rotate_left
    · (go_simp; try with_reducible rfl)
    refine hK.out _ _ ?_
    clear hK K9
    try simp only [Act.put, List.setIfInBounds_toArray, List.set_cons_zero, List.set_cons_succ]
    skip
    go_wp2_with (first | (go_at_call 27; (with_reducible refine (jget_any K (RdS.own O1 (by repeat (first | with_reducible exact Seg.nil _ | with_reducible exact Seg.all _ | with_reducible exact Seg.ap _ _ | with_reducible exact Seg.hd _ _ | with_reducible apply Seg.tl | with_reducible apply Seg.sk))) hc1 hc2 HWB.out (by omega)).mono ?_); clear K; rintro e w1 ⟨rfl, K⟩; rw [HRW.out]) | ((with_reducible refine at_slot (N := 7) rfl ?_); (with_reducible refine at_alloc rfl ?_); refine wpList_does rfl (kd_alloc (z := (.agg (recC rec0))) K _ rfl (by kernel_rfl)) ?_; clear K; rintro _ w1 ⟨gx, rfl, K⟩; (try dsimp only [Value.cells] at K)) | ((with_reducible refine at_load (t := 44) rfl ?_); refine wpList_reads (by rfl) (kr_load_row K _ _ (by rfl) (by rfl) (by repeat (first | with_reducible exact Has.hd _ _ | with_reducible refine Has.tl _ ?_ | with_reducible refine Has.ap _ ?_)) (by kernel_rfl) (by rw [recC_size _ (by first | exact man0_len | exact HMN.out | exact HMG.out)]; kernel_rfl)) ?_) | ((with_reducible refine at_store rfl ?_); refine wpList_does (by rfl) (kd_store_row K _ _ _ (by rfl) (by rfl) (by rfl) (by repeat (first | with_reducible exact Repl.hd _ _ _ | with_reducible apply Repl.tl | with_reducible apply Repl.ap)) (by rw [recC_size _ (by first | exact man0_len | exact HMN.out | exact HMG.out)]; kernel_rfl) (by first | (rw [recC_size _ man0_len, recC_size _ (by first | exact HMN.out | exact HMG.out)]; rfl) | (rw [recC_size _ man0_len]; rfl)) (recC_one _)) ?_; clear K; intro _ w1 K; (try simp only [Act.put])) | ((with_reducible refine at_bin (b := .eql) (t := 44) rfl ?_); refine ev_eql rfl 44 _ _ rfl rfl rfl (by kernel_rfl) ((by rw [eql_rec r r HMN.out HMN.out, recEq_self])) ?_) | (go_at_call 26; (with_reducible refine (awake24K K).mono ?_); clear K; rintro e w1 ⟨rfl, K⟩))
    go_ret
    exact ⟨rfl, K.cov (by repeat (first | with_reducible exact Cov.all _ | with_reducible exact Cov.left _ _ | with_reducible exact Cov.nil _ | (with_reducible apply Cov.app; (· repeat (first | with_reducible exact Sel.nil _ | with_reducible exact Sel.ap _ _ | with_reducible exact Sel.hd _ _ | with_reducible exact Sel.all _ | with_reducible apply Sel.tl | with_reducible apply Sel.sk))) | (with_reducible apply Cov.cons; (· repeat (first | with_reducible exact Sel.nil _ | with_reducible exact Sel.ap _ _ | with_reducible exact Sel.hd _ _ | with_reducible exact Sel.all _ | with_reducible apply Sel.tl | with_reducible apply Sel.sk))) | with_reducible refine Cov.drop _ ?_ | with_reducible refine Cov.skip _ ?_))⟩
set_option maxHeartbeats 1600000 in
set_option maxRecDepth 100000 in
theorem jreads_any (K : Known w0 w L) (R : RdS w0 L .u8 A n xs) (hc : n ≤ c) (hm : c ≤ 9223372036854775807) (hb : ∀ b ∈ xs, 0 ≤ b ∧ b ≤ 255) : Calls Try.prog 6 #[.slice A n c] w fun e w' => e = .returned (.bool true) ∧ Known w0 w' L := by
  by_cases h : n ≤ 500
  · have h' : ¬ (500 < (n : Int)) := by omega
    obtain ⟨g, hg⟩ : ∃ g, g = resG xs := ⟨_, rfl⟩
    have HG := Lib.hid hg
    have HMG := Lib.hid (show g.1.man.length = 32 by rw [hg]; exact resG_man xs)
    have HB := Lib.hid hb
    clear hg hb
    go_enter Try.func6, Try.ntmps6
    go_wp2_with (first | ((with_reducible refine at_load (t := 44) rfl ?_); refine wpList_reads (by rfl) (kr_load_row K _ _ (by rfl) (by rfl) (by repeat (first | with_reducible exact Has.hd _ _ | with_reducible refine Has.tl _ ?_ | with_reducible refine Has.ap _ ?_)) (by kernel_rfl) (by rw [recC_size _ (by first | exact man0_len | exact HMN.out | exact HMG.out)]; kernel_rfl)) ?_) | ((with_reducible refine at_store rfl ?_); refine wpList_does (by rfl) (kd_store_row K _ _ _ (by rfl) (by rfl) (by rfl) (by repeat (first | with_reducible exact Repl.hd _ _ _ | with_reducible apply Repl.tl | with_reducible apply Repl.ap)) (by rw [recC_size _ (by first | exact man0_len | exact HMN.out | exact HMG.out)]; kernel_rfl) (by first | (rw [recC_size _ man0_len, recC_size _ (by first | exact HMN.out | exact HMG.out)]; rfl) | (rw [recC_size _ man0_len]; rfl)) (recC_one _)) ?_; clear K; intro _ w1 K; (try simp only [Act.put])) | ((with_reducible refine at_slot (N := 3) rfl ?_); (with_reducible refine at_alloc rfl ?_); refine wpList_does rfl (kd_alloc (z := (.agg (recC rec0))) K _ rfl (by kernel_rfl)) ?_; clear K; rintro _ w1 ⟨gx, rfl, K⟩; (try dsimp only [Value.cells] at K)) | ((with_reducible refine at_slot (N := 5) rfl ?_); (with_reducible refine at_alloc rfl ?_); refine wpList_does rfl (kd_alloc (z := (.agg (recC rec0))) K _ rfl (by kernel_rfl)) ?_; clear K; rintro _ w1 ⟨gy, rfl, K⟩; (try dsimp only [Value.cells] at K)) | (go_at_call 27; (with_reducible refine (jget_any K (R.cov (by repeat (first | with_reducible exact Cov.all _ | with_reducible exact Cov.left _ _ | with_reducible exact Cov.nil _ | (with_reducible apply Cov.app; (· repeat (first | with_reducible exact Sel.nil _ | with_reducible exact Sel.ap _ _ | with_reducible exact Sel.hd _ _ | with_reducible exact Sel.all _ | with_reducible apply Sel.tl | with_reducible apply Sel.sk))) | (with_reducible apply Cov.cons; (· repeat (first | with_reducible exact Sel.nil _ | with_reducible exact Sel.ap _ _ | with_reducible exact Sel.hd _ _ | with_reducible exact Sel.all _ | with_reducible apply Sel.tl | with_reducible apply Sel.sk))) | with_reducible refine Cov.drop _ ?_ | with_reducible refine Cov.skip _ ?_))) hc hm HB.out (by omega)).mono ?_); clear K; rintro e w1 ⟨rfl, K⟩; rw [← HG.out]) | (go_at_call 28; (with_reducible refine (rjget_any K (R.cov (by repeat (first | with_reducible exact Cov.all _ | with_reducible exact Cov.left _ _ | with_reducible exact Cov.nil _ | (with_reducible apply Cov.app; (· repeat (first | with_reducible exact Sel.nil _ | with_reducible exact Sel.ap _ _ | with_reducible exact Sel.hd _ _ | with_reducible exact Sel.all _ | with_reducible apply Sel.tl | with_reducible apply Sel.sk))) | (with_reducible apply Cov.cons; (· repeat (first | with_reducible exact Sel.nil _ | with_reducible exact Sel.ap _ _ | with_reducible exact Sel.hd _ _ | with_reducible exact Sel.all _ | with_reducible apply Sel.tl | with_reducible apply Sel.sk))) | with_reducible refine Cov.drop _ ?_ | with_reducible refine Cov.skip _ ?_))) hc hm HB.out (by omega)).mono ?_); clear K; rintro e w1 ⟨rfl, K⟩; rw [← HG.out]) | ((with_reducible refine at_bin (b := .eql) (t := 44) rfl ?_); refine ev_eql rfl 44 _ _ rfl rfl rfl (by kernel_rfl) ((by rw [eql_rec g.1 g.1 HMG.out HMG.out, recEq_self])) ?_) | (go_at_call 26; (with_reducible refine (awake24K K).mono ?_); clear K; rintro e w1 ⟨rfl, K⟩))
    go_ret
    exact ⟨rfl, K.cov (by repeat (first | with_reducible exact Cov.all _ | with_reducible exact Cov.left _ _ | with_reducible exact Cov.nil _ | (with_reducible apply Cov.app; (· repeat (first | with_reducible exact Sel.nil _ | with_reducible exact Sel.ap _ _ | with_reducible exact Sel.hd _ _ | with_reducible exact Sel.all _ | with_reducible apply Sel.tl | with_reducible apply Sel.sk))) | (with_reducible apply Cov.cons; (· repeat (first | with_reducible exact Sel.nil _ | with_reducible exact Sel.ap _ _ | with_reducible exact Sel.hd _ _ | with_reducible exact Sel.all _ | with_reducible apply Sel.tl | with_reducible apply Sel.sk))) | with_reducible refine Cov.drop _ ?_ | with_reducible refine Cov.skip _ ?_))⟩
  · have h' : 500 < (n : Int) := by omega
    go_enter Try.func6, Try.ntmps6
    go_wp2_with (first | (go_at_call 26; (with_reducible refine (awake24K K).mono ?_); clear K; rintro e w1 ⟨rfl, K⟩))
    go_ret
    exact ⟨rfl, K⟩
set_option maxRecDepth 100000 in
theorem jlast_nil (K : Known w0 w L) : Calls Try.prog 29 #[.pointer none] w fun e w' => e = .returned (.agg (recC rec0)) ∧ Known w0 w' L := by
  go_enter Try.func29, Try.ntmps29
  go_wp2_with (first | ((with_reducible refine at_build (t := 44) rfl ?_); refine ev_build0 rfl 44 rfl (rec0_build _) ?_) | ((with_reducible refine at_slot (N := 2) rfl ?_); (with_reducible refine at_alloc rfl ?_); refine wpList_does rfl (kd_alloc (z := (.agg (recC rec0))) K _ rfl (by kernel_rfl)) ?_; clear K; rintro _ w1 ⟨gx, rfl, K⟩; (try dsimp only [Value.cells] at K)) | ((with_reducible refine at_store rfl ?_); refine wpList_does (by rfl) (kd_store_row K _ _ _ (by rfl) (by rfl) (by rfl) (by repeat (first | with_reducible exact Repl.hd _ _ _ | with_reducible apply Repl.tl | with_reducible apply Repl.ap)) (by rw [recC_size _ (by first | exact man0_len | exact HMN.out | exact HMG.out)]; kernel_rfl) (by first | (rw [recC_size _ man0_len, recC_size _ (by first | exact HMN.out | exact HMG.out)]; rfl) | (rw [recC_size _ man0_len]; rfl)) (recC_one _)) ?_; clear K; intro _ w1 K; (try simp only [Act.put])))
  exact bodyPost_cellK K (by rfl) (by rfl) (by repeat (first | with_reducible exact Has.hd _ _ | with_reducible refine Has.tl _ ?_ | with_reducible refine Has.ap _ ?_)) (by kernel_rfl) (by rw [recC_size _ man0_len]; kernel_rfl) rfl ⟨rfl, K.cov (by repeat (first | with_reducible exact Cov.all _ | with_reducible exact Cov.left _ _ | with_reducible exact Cov.nil _ | (with_reducible apply Cov.app; (· repeat (first | with_reducible exact Sel.nil _ | with_reducible exact Sel.ap _ _ | with_reducible exact Sel.hd _ _ | with_reducible exact Sel.all _ | with_reducible apply Sel.tl | with_reducible apply Sel.sk))) | (with_reducible apply Cov.cons; (· repeat (first | with_reducible exact Sel.nil _ | with_reducible exact Sel.ap _ _ | with_reducible exact Sel.hd _ _ | with_reducible exact Sel.all _ | with_reducible apply Sel.tl | with_reducible apply Sel.sk))) | with_reducible refine Cov.drop _ ?_ | with_reducible refine Cov.skip _ ?_))⟩
set_option maxRecDepth 100000 in
theorem jwrite_nil (K : Known w0 w L) : Calls Try.prog 30 #[.pointer none, .agg (recC r)] w fun e w' => e = .returned (.int .i64 1) ∧ Known w0 w' L := by
  go_enter Try.func30, Try.ntmps30
  go_wp2_with (first | ((with_reducible refine at_box rfl ?_); refine wpList_does rfl (kd_box K _ _ rfl (by conv => lhs; whnf)) ?_; clear K; rintro _ w1 ⟨gx, rfl, K⟩; (try dsimp only [Value.cells] at K)))
  go_ret
  exact ⟨rfl, K.cov (by repeat (first | with_reducible exact Cov.all _ | with_reducible exact Cov.left _ _ | with_reducible exact Cov.nil _ | (with_reducible apply Cov.app; (· repeat (first | with_reducible exact Sel.nil _ | with_reducible exact Sel.ap _ _ | with_reducible exact Sel.hd _ _ | with_reducible exact Sel.all _ | with_reducible apply Sel.tl | with_reducible apply Sel.sk))) | (with_reducible apply Cov.cons; (· repeat (first | with_reducible exact Sel.nil _ | with_reducible exact Sel.ap _ _ | with_reducible exact Sel.hd _ _ | with_reducible exact Sel.all _ | with_reducible apply Sel.tl | with_reducible apply Sel.sk))) | with_reducible refine Cov.drop _ ?_ | with_reducible refine Cov.skip _ ?_))⟩
set_option maxRecDepth 100000 in
theorem jnil_any (K : Known w0 w L) (hm : r.man.length = 32) : Calls Try.prog 7 #[.agg (recC r)] w fun e w' => e = .returned (.bool true) ∧ Known w0 w' L := by
  have HMN := Lib.hid hm
  go_enter Try.func7, Try.ntmps7
  go_wp2_with (first | ((with_reducible refine at_build (t := 44) rfl ?_); refine ev_build0 rfl 44 rfl (rec0_build _) ?_) | ((with_reducible refine at_load (t := 44) rfl ?_); refine wpList_reads (by rfl) (kr_load_row K _ _ (by rfl) (by rfl) (by repeat (first | with_reducible exact Has.hd _ _ | with_reducible refine Has.tl _ ?_ | with_reducible refine Has.ap _ ?_)) (by kernel_rfl) (by rw [recC_size _ (by first | exact man0_len | exact HMN.out | exact HMG.out)]; kernel_rfl)) ?_) | ((with_reducible refine at_box rfl ?_); refine wpList_does rfl (kd_box K _ _ rfl (by conv => lhs; whnf)) ?_; clear K; rintro _ w1 ⟨gx, rfl, K⟩; (try dsimp only [Value.cells] at K)) | (go_at_call 29; (with_reducible refine (jlast_nil K).mono ?_); clear K; rintro e w1 ⟨rfl, K⟩) | (go_at_call 30; (with_reducible refine (jwrite_nil K).mono ?_); clear K; rintro e w1 ⟨rfl, K⟩) | ((with_reducible refine at_bin (b := .eql) (t := 44) rfl ?_); refine ev_eql rfl 44 _ _ rfl rfl rfl (by kernel_rfl) ((by rw [eql_rec rec0 rec0 man0_len man0_len, recEq_self])) ?_) | (go_at_call 26; (with_reducible refine (awake24K K).mono ?_); clear K; rintro e w1 ⟨rfl, K⟩))
  go_ret
  exact ⟨rfl, K.cov (by repeat (first | with_reducible exact Cov.all _ | with_reducible exact Cov.left _ _ | with_reducible exact Cov.nil _ | (with_reducible apply Cov.app; (· repeat (first | with_reducible exact Sel.nil _ | with_reducible exact Sel.ap _ _ | with_reducible exact Sel.hd _ _ | with_reducible exact Sel.all _ | with_reducible apply Sel.tl | with_reducible apply Sel.sk))) | (with_reducible apply Cov.cons; (· repeat (first | with_reducible exact Sel.nil _ | with_reducible exact Sel.ap _ _ | with_reducible exact Sel.hd _ _ | with_reducible exact Sel.all _ | with_reducible apply Sel.tl | with_reducible apply Sel.sk))) | with_reducible refine Cov.drop _ ?_ | with_reducible refine Cov.skip _ ?_))⟩
end
end Go.Proofs.Ytokbloddaoakgaa
