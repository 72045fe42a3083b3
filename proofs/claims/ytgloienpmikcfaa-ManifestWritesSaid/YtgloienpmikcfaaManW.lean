/-
  The statement ManifestWrites (walk).
-/
import Derived.Test.YtgloienpmikcfaaManR
set_option linter.unusedVariables false
set_option linter.unusedSimpArgs false
namespace Go.Proofs.Ytgloienpmikcfaa
open Go.RowKit
theorem OwnL.cap {e : TypeId} {s : Nat} {A : Option Addr} {n c : Nat} {vs : List Value} {X : List Ent} (h : OwnL e s A n c vs X) : c ≤ 9223372036854775807 := by
  rcases h.out.2 with ⟨_, _, h2, _⟩ | ⟨_, _, _, _, _, h2, _⟩
  · omega
  · unfold maxLen at h2; omega
section
variable {w0 w : World} {L : List Ent} {A : Option Addr} {n c : Nat} {xs : List Int} {mode ver blk ol nl : Int} {D : List Int}
theorem rputK (K : Known w0 w L) (bs : List Int) (hbs : mbytes mode ver blk ol nl D xs = bs) (R : RdS w0 L .i64 A n xs) (hv : mayM mode blk ol nl D xs = true) (hD : D.length = 96) (hc : n ≤ c) :
    Calls Try.prog 36 #[.agg (mfc mode ver blk ol nl D (.slice A n c))] w fun e w' => ∃ A' c' X, e = .returned (.tuple #[.slice A' (118 + 2 * n) c', .int .i64 0]) ∧ OwnL 5 1 A' (118 + 2 * n) c' (bs.map (Value.int .u8)) X ∧ Known w0 w' (X ++ L) := by
  subst hbs
  exact (rput_yes mode ver blk ol nl D A n c xs w hv (R.at_ w K) hD hc).mono fun e w' ⟨A', c', h1, h2, h3⟩ => by
    obtain ⟨X, h4, h5⟩ := Own.toL h2 K h3
    exact ⟨A', c', X, h1, h4, h5⟩
theorem mputK_no (K : Known w0 w L) (R : RdS w0 L .i64 A n xs) (hv : mayM mode blk ol nl D xs = false) (hD : D.length = 96) (hn : n ≤ 1000000) (hc : n ≤ c) (hnl : nl ≤ 9223372036854775807) :
    Calls Try.prog 35 #[.agg (mfc mode ver blk ol nl D (.slice A n c))] w fun e w' => e = .returned (.tuple #[.slice none 0 0, .int .i64 3]) ∧ Known w0 w' L :=
  (mput_no mode ver blk ol nl D A n c xs w hv (R.at_ w K) hD (by omega) hc hnl).mono fun e w' ⟨h1, h2⟩ => ⟨h1, K.below h2⟩
theorem rputK_no (K : Known w0 w L) (R : RdS w0 L .i64 A n xs) (hv : mayM mode blk ol nl D xs = false) (hD : D.length = 96) (hn : n ≤ 1000000) (hc : n ≤ c) (hnl : nl ≤ 9223372036854775807) :
    Calls Try.prog 36 #[.agg (mfc mode ver blk ol nl D (.slice A n c))] w fun e w' => ∃ A' c' X, e = .returned (.tuple #[.slice A' 0 c', .int .i64 3]) ∧ OwnL 5 1 A' 0 c' (([] : List Int).map (Value.int .u8)) X ∧ Known w0 w' (X ++ L) :=
  (rput_no mode ver blk ol nl D A n c xs w hv (R.at_ w K) hD (by omega) hc hnl).mono fun e w' ⟨A', c', h1, h2, h3⟩ => by
    obtain ⟨X, h4, h5⟩ := Own.toL h2 K h3
    exact ⟨A', c', X, h1, h4, h5⟩
theorem mmayK (K : Known w0 w L) (v : Bool) (hv : mayM mode blk ol nl D xs = v) (R : RdS w0 L .i64 A n xs) (hD : D.length = 96) (hn : n ≤ 1000000) (hc : n ≤ c) (hnl : nl ≤ 9223372036854775807) :
    Calls Try.prog 37 #[.agg (mfc mode ver blk ol nl D (.slice A n c))] w fun e w' => e = .returned (.bool v) ∧ Known w0 w' L :=
  (mmay_any mode ver blk ol nl D A n c xs w v hv (R.at_ w K) hD (by omega) hc hnl).mono fun e w' ⟨h1, h2⟩ => ⟨h1, K.below h2⟩
theorem rmayK (K : Known w0 w L) (v : Bool) (hv : mayM mode blk ol nl D xs = v) (R : RdS w0 L .i64 A n xs) (hD : D.length = 96) (hn : n ≤ 1000000) (hc : n ≤ c) :
    Calls Try.prog 31 #[.agg (mfc mode ver blk ol nl D (.slice A n c))] w fun e w' => e = .returned (.bool v) ∧ Known w0 w' L :=
  (rmay_any mode ver blk ol nl D A n c xs w v hv (R.at_ w K) hD (by omega) hc).mono fun e w' ⟨h1, h2⟩ => ⟨h1, K.below h2⟩

set_option maxHeartbeats 1600000 in
set_option maxRecDepth 100000 in
theorem writes_walk (w : World) (R : Rd w .i64 A n xs) (hD96 : D.length = 96) (hc : n ≤ c) (hm0 : 0 ≤ mode ∧ mode ≤ 255) (hver : 0 ≤ ver ∧ ver ≤ 18446744073709551615) (hnl : nl ≤ 9223372036854775807) (hDb : ∀ v ∈ D, 0 ≤ v ∧ v ≤ 255) :
    Calls Try.prog 9 #[.agg (mfc mode ver blk ol nl D (.slice A n c))] w fun e w' => e = .returned (.bool true) ∧ Below w.heap.size w w' := by
  have K := Known.start w
  have R := RdS.base R []
  have HL := Lib.hid R.len
  by_cases h : n ≤ 60
  · have h1 : ¬ (60 < (n : Int)) := by omega
    cases hv : mayM mode blk ol nl D xs
    · have HV := Lib.hid hv
      clear hv
      go_enter Try.func9, Try.ntmps9
      go_wp2_with (first | ((with_reducible refine at_load rfl ?_); go_loud (refine wpList_reads (by rfl) (kr_load_cell K _ _ (by rfl) (by rfl) (by repeat (first | with_reducible exact Has.hd _ _ | with_reducible refine Has.tl _ ?_ | with_reducible refine Has.ap _ ?_)) (by kernel_rfl) (mfc_o _ _ _ _ _ _ _ hD96)) ?_)) | ((with_reducible refine at_box rfl ?_); go_loud (refine wpList_does rfl (kd_box K _ _ rfl (by conv => lhs; whnf)) ?_; clear K; rintro _ w1 ⟨gm, rfl, K⟩; (try dsimp only [Value.cells] at K))) | ((with_reducible refine at_load (t := 41) rfl ?_); go_loud (refine wpList_reads (by rfl) (kr_load_row K _ _ (by rfl) (by rfl) (by repeat (first | with_reducible exact Has.hd _ _ | with_reducible refine Has.tl _ ?_ | with_reducible refine Has.ap _ ?_)) (by decide +kernel) (by rw [mfc_size _ _ _ _ _ _ _ hD96] <;> kernel_rfl)) ?_)) | (go_at_call 35; go_loud ((with_reducible refine (mputK_no K (R.cov (by repeat (first | with_reducible exact Cov.all _ | with_reducible exact Cov.left _ _ | with_reducible exact Cov.nil _ | (with_reducible apply Cov.app; (· repeat (first | with_reducible exact Sel.nil _ | with_reducible exact Sel.ap _ _ | with_reducible exact Sel.hd _ _ | with_reducible exact Sel.all _ | with_reducible apply Sel.tl | with_reducible apply Sel.sk))) | (with_reducible apply Cov.cons; (· repeat (first | with_reducible exact Sel.nil _ | with_reducible exact Sel.ap _ _ | with_reducible exact Sel.hd _ _ | with_reducible exact Sel.all _ | with_reducible apply Sel.tl | with_reducible apply Sel.sk))) | with_reducible refine Cov.drop _ ?_ | with_reducible refine Cov.skip _ ?_))) HV.out hD96 (by omega) hc hnl).mono ?_); clear K; rintro e w1 ⟨rfl, K⟩)) | (go_at_call 36; go_loud ((with_reducible refine (rputK_no K (R.cov (by repeat (first | with_reducible exact Cov.all _ | with_reducible exact Cov.left _ _ | with_reducible exact Cov.nil _ | (with_reducible apply Cov.app; (· repeat (first | with_reducible exact Sel.nil _ | with_reducible exact Sel.ap _ _ | with_reducible exact Sel.hd _ _ | with_reducible exact Sel.all _ | with_reducible apply Sel.tl | with_reducible apply Sel.sk))) | (with_reducible apply Cov.cons; (· repeat (first | with_reducible exact Sel.nil _ | with_reducible exact Sel.ap _ _ | with_reducible exact Sel.hd _ _ | with_reducible exact Sel.all _ | with_reducible apply Sel.tl | with_reducible apply Sel.sk))) | with_reducible refine Cov.drop _ ?_ | with_reducible refine Cov.skip _ ?_))) HV.out hD96 (by omega) hc hnl).mono ?_); clear K; rintro e w1 ⟨A2, c2, X2, rfl, O2, K⟩)))
      refine wp_region_GK K (Cov.all _) (by kernel_rfl) (by kernel_rfl) (by kernel_rfl) (fun K hHeld => ?_)
      refine wpG_take (i := 0) (x := { dst := some 24, op := Op.move (Operand.tmp 3), type := 44, pos := "law.go:24", after := #[], guard := none }) (v := ?_) rfl (by kernel_rfl) (fun _ _ _ h => h) (Or.inl ⟨by rfl, ?_⟩) hHeld ?_
      rotate_left
      · (intro w hS; (clear hS; go_simp); try with_reducible rfl)
      try simp only [Act.put, List.setIfInBounds_toArray, List.set_cons_zero, List.set_cons_succ]
      refine wpG_take (i := 1) (x := { dst := some 25, op := Op.convert 44 9 (Operand.tmp 24), type := 9, pos := "law.go:24", after := #[{ on := 0, ground := Ground.data }], guard := none }) (v := .string (strOfNums ([]))) rfl (by kernel_rfl) (fun _ _ _ h => h) (Or.inl ⟨by rfl, ?_⟩) hHeld ?_
      · (intro w hS; first | exact kr_string (by rfl) (by rfl) (Rd.nil _ _ _) Try.underlying44 Try.underlying5 Try.underlying9)
      try simp only [Act.put, List.setIfInBounds_toArray, List.set_cons_zero, List.set_cons_succ]
      refine wpG_take (i := 2) (x := { dst := some 26, op := Op.move (Operand.tmp 5), type := 44, pos := "law.go:24", after := #[], guard := none }) (v := ?_) rfl (by kernel_rfl) (fun _ _ _ h => h) (Or.inl ⟨by rfl, ?_⟩) hHeld ?_
      rotate_left
      · (intro w hS; (clear hS; go_simp); try with_reducible rfl)
      try simp only [Act.put, List.setIfInBounds_toArray, List.set_cons_zero, List.set_cons_succ]
      refine wpG_take (i := 3) (x := { dst := some 27, op := Op.convert 44 9 (Operand.tmp 26), type := 9, pos := "law.go:24", after := #[{ on := 2, ground := Ground.data }], guard := none }) (v := .string (strOfNums ([]))) rfl (by kernel_rfl) (fun _ _ _ h => h) (Or.inl ⟨by rfl, ?_⟩) hHeld ?_
      · (intro w hS; first | exact kr_string (by rfl) (by rfl) ((RdS.own (L := _) O2 (by repeat (first | with_reducible exact Seg.nil _ | with_reducible exact Seg.all _ | with_reducible exact Seg.ap _ _ | with_reducible exact Seg.hd _ _ | with_reducible apply Seg.tl | with_reducible apply Seg.sk))).at_ _ hS) Try.underlying44 Try.underlying5 Try.underlying9)
      try simp only [Act.put, List.setIfInBounds_toArray, List.set_cons_zero, List.set_cons_succ]
      refine wpG_take (i := 4) (x := { dst := some 28, op := Op.binOp BinOp.neq 9 (Operand.tmp 25) (Operand.tmp 27) 9, type := 4, pos := "law.go:24", after := #[{ on := 1, ground := Ground.data }, { on := 3, ground := Ground.data }], guard := none }) (v := ?_) rfl (by kernel_rfl) (fun _ _ _ h => h) (Or.inl ⟨by rfl, ?_⟩) hHeld ?_
      rotate_left
      · (intro w hS; (clear hS; go_simp); try with_reducible rfl)
      try simp only [Act.put, List.setIfInBounds_toArray, List.set_cons_zero, List.set_cons_succ]
      refine wpG_take (i := 5) (x := { dst := some 29, op := Op.move (Operand.tmp 28), type := 4, pos := "law.go:24", after := #[{ on := 4, ground := Ground.data }], guard := none }) (v := ?_) rfl (by kernel_rfl) (fun _ _ _ h => h) (Or.inl ⟨by rfl, ?_⟩) hHeld ?_
      rotate_left
      · (intro w hS; (clear hS; go_simp); try with_reducible rfl)
      try simp only [Act.put, List.setIfInBounds_toArray, List.set_cons_zero, List.set_cons_succ]
      refine wpG_take (i := 6) (x := { dst := some 30, op := Op.move (Operand.tmp 4), type := 29, pos := "law.go:24", after := #[{ on := 5, ground := Ground.guard }], guard := some (5, false) }) (v := ?_) rfl (by kernel_rfl) (fun _ _ _ h => h) (Or.inl ⟨by rfl, ?_⟩) hHeld ?_
      rotate_left
      · (intro w hS; (clear hS; go_simp); try with_reducible rfl)
      try simp only [Act.put, List.setIfInBounds_toArray, List.set_cons_zero, List.set_cons_succ]
      refine wpG_take (i := 7) (x := { dst := some 31, op := Op.move (Operand.tmp 6), type := 3, pos := "law.go:24", after := #[{ on := 5, ground := Ground.guard }], guard := some (5, false) }) (v := ?_) rfl (by kernel_rfl) (fun _ _ _ h => h) (Or.inl ⟨by rfl, ?_⟩) hHeld ?_
      rotate_left
      · (intro w hS; (clear hS; go_simp); try with_reducible rfl)
      try simp only [Act.put, List.setIfInBounds_toArray, List.set_cons_zero, List.set_cons_succ]
      refine wpG_take (i := 8) (x := { dst := some 32, op := Op.binOp BinOp.neq 3 (Operand.tmp 30) (Operand.tmp 31) 3, type := 4, pos := "law.go:24", after := #[{ on := 6, ground := Ground.data }, { on := 7, ground := Ground.data }, { on := 5, ground := Ground.guard }], guard := some (5, false) }) (v := ?_) rfl (by kernel_rfl) (fun _ _ _ h => h) (Or.inl ⟨by rfl, ?_⟩) hHeld ?_
      rotate_left
      · (intro w hS; (clear hS; go_simp); try with_reducible rfl)
      try simp only [Act.put, List.setIfInBounds_toArray, List.set_cons_zero, List.set_cons_succ]
      refine wpG_take (i := 9) (x := { dst := some 33, op := Op.pick (Operand.tmp 29) (Operand.const (Value.bool true)) (Operand.tmp 32), type := 4, pos := "law.go:24", after := #[{ on := 5, ground := Ground.data }, { on := 8, ground := Ground.data }], guard := none }) (v := ?_) rfl (by kernel_rfl) (fun _ _ _ h => h) (Or.inl ⟨by rfl, ?_⟩) hHeld ?_
      rotate_left
      · (intro w hS; (clear hS; go_simp); try with_reducible rfl)
      try simp only [Act.put, List.setIfInBounds_toArray, List.set_cons_zero, List.set_cons_succ]
      refine wpG_take (i := 10) (x := { dst := some 34, op := Op.move (Operand.tmp 33), type := 4, pos := "law.go:24", after := #[{ on := 9, ground := Ground.data }, { on := 5, ground := Ground.chain }], guard := none }) (v := ?_) rfl (by kernel_rfl) (fun _ _ _ h => h) (Or.inl ⟨by rfl, ?_⟩) hHeld ?_
      rotate_left
      · (intro w hS; (clear hS; go_simp); try with_reducible rfl)
      try simp only [Act.put, List.setIfInBounds_toArray, List.set_cons_zero, List.set_cons_succ]
      refine wpG_take (i := 11) (x := { dst := some 35, op := Op.load 41 (Operand.tmp 1), type := 41, pos := "law.go:24", after := #[{ on := 10, ground := Ground.guard }], guard := some (10, false) }) (v := .agg (mfc mode ver blk ol nl D (.slice A n c))) rfl (by kernel_rfl) (fun _ _ _ h => h) (Or.inl ⟨by rfl, ?_⟩) hHeld ?_
      · (intro w hS; first | exact kr_load_row hS _ _ (by rfl) (by rfl) (by repeat (first | with_reducible exact Has.hd _ _ | with_reducible refine Has.tl _ ?_ | with_reducible refine Has.ap _ ?_)) (by decide +kernel) (by rw [mfc_size _ _ _ _ _ _ _ hD96] <;> kernel_rfl))
      try simp only [Act.put, List.setIfInBounds_toArray, List.set_cons_zero, List.set_cons_succ]
      refine wpG_take (i := 13) (x := { dst := some 37, op := Op.load 41 (Operand.tmp 1), type := 41, pos := "law.go:24", after := #[{ on := 10, ground := Ground.guard }], guard := some (10, false) }) (v := .agg (mfc mode ver blk ol nl D (.slice A n c))) rfl (by kernel_rfl) (fun _ _ _ h => h) (Or.inl ⟨by rfl, ?_⟩) hHeld ?_
      · (intro w hS; first | exact kr_load_row hS _ _ (by rfl) (by rfl) (by repeat (first | with_reducible exact Has.hd _ _ | with_reducible refine Has.tl _ ?_ | with_reducible refine Has.ap _ ?_)) (by decide +kernel) (by rw [mfc_size _ _ _ _ _ _ _ hD96] <;> kernel_rfl))
      try simp only [Act.put, List.setIfInBounds_toArray, List.set_cons_zero, List.set_cons_succ]
      refine wpG_one (i := 12) (o := { dst := some 36, op := Op.call { callee := Callee.value (Operand.func 37), args := #[Operand.tmp 35], argTypes := #[41] }, type := 4, pos := "law.go:24", after := #[{ on := 11, ground := Ground.data }, { on := 10, ground := Ground.chain }, { on := 10, ground := Ground.guard }], guard := some (10, false) }) rfl (by kernel_rfl) (fun K9 hK => ?_)
      go_simp
      (go_at_call 37; (with_reducible refine (mmayK K _ HV.out (R.cov (by repeat (first | with_reducible exact Cov.all _ | with_reducible exact Cov.left _ _ | with_reducible exact Cov.nil _ | (with_reducible apply Cov.app; (· repeat (first | with_reducible exact Sel.nil _ | with_reducible exact Sel.ap _ _ | with_reducible exact Sel.hd _ _ | with_reducible exact Sel.all _ | with_reducible apply Sel.tl | with_reducible apply Sel.sk))) | (with_reducible apply Cov.cons; (· repeat (first | with_reducible exact Sel.nil _ | with_reducible exact Sel.ap _ _ | with_reducible exact Sel.hd _ _ | with_reducible exact Sel.all _ | with_reducible apply Sel.tl | with_reducible apply Sel.sk))) | with_reducible refine Cov.drop _ ?_ | with_reducible refine Cov.skip _ ?_))) hD96 (by omega) hc hnl).mono ?_); clear K; rintro e w1 ⟨rfl, K⟩)
      refine hK.out _ _ (K.cov (by repeat (first | with_reducible exact Cov.all _ | with_reducible exact Cov.left _ _ | with_reducible exact Cov.nil _ | (with_reducible apply Cov.app; (· repeat (first | with_reducible exact Sel.nil _ | with_reducible exact Sel.ap _ _ | with_reducible exact Sel.hd _ _ | with_reducible exact Sel.all _ | with_reducible apply Sel.tl | with_reducible apply Sel.sk))) | (with_reducible apply Cov.cons; (· repeat (first | with_reducible exact Sel.nil _ | with_reducible exact Sel.ap _ _ | with_reducible exact Sel.hd _ _ | with_reducible exact Sel.all _ | with_reducible apply Sel.tl | with_reducible apply Sel.sk))) | with_reducible refine Cov.drop _ ?_ | with_reducible refine Cov.skip _ ?_))) (fun hHeld => ?_)
      clear hK K9
      try simp only [Act.put, List.setIfInBounds_toArray, List.set_cons_zero, List.set_cons_succ]
      refine wpG_one (i := 14) (o := { dst := some 38, op := Op.call { callee := Callee.value (Operand.func 31), args := #[Operand.tmp 37], argTypes := #[41] }, type := 4, pos := "law.go:24", after := #[{ on := 13, ground := Ground.data }, { on := 12, ground := Ground.chain }, { on := 10, ground := Ground.guard }], guard := some (10, false) }) rfl (by kernel_rfl) (fun K9 hK => ?_)
      go_simp
      (go_at_call 31; (with_reducible refine (rmayK K _ HV.out (R.cov (by repeat (first | with_reducible exact Cov.all _ | with_reducible exact Cov.left _ _ | with_reducible exact Cov.nil _ | (with_reducible apply Cov.app; (· repeat (first | with_reducible exact Sel.nil _ | with_reducible exact Sel.ap _ _ | with_reducible exact Sel.hd _ _ | with_reducible exact Sel.all _ | with_reducible apply Sel.tl | with_reducible apply Sel.sk))) | (with_reducible apply Cov.cons; (· repeat (first | with_reducible exact Sel.nil _ | with_reducible exact Sel.ap _ _ | with_reducible exact Sel.hd _ _ | with_reducible exact Sel.all _ | with_reducible apply Sel.tl | with_reducible apply Sel.sk))) | with_reducible refine Cov.drop _ ?_ | with_reducible refine Cov.skip _ ?_))) hD96 (by omega) hc).mono ?_); clear K; rintro e w1 ⟨rfl, K⟩)
      refine hK.out _ _ (K.cov (by repeat (first | with_reducible exact Cov.all _ | with_reducible exact Cov.left _ _ | with_reducible exact Cov.nil _ | (with_reducible apply Cov.app; (· repeat (first | with_reducible exact Sel.nil _ | with_reducible exact Sel.ap _ _ | with_reducible exact Sel.hd _ _ | with_reducible exact Sel.all _ | with_reducible apply Sel.tl | with_reducible apply Sel.sk))) | (with_reducible apply Cov.cons; (· repeat (first | with_reducible exact Sel.nil _ | with_reducible exact Sel.ap _ _ | with_reducible exact Sel.hd _ _ | with_reducible exact Sel.all _ | with_reducible apply Sel.tl | with_reducible apply Sel.sk))) | with_reducible refine Cov.drop _ ?_ | with_reducible refine Cov.skip _ ?_))) (fun hHeld => ?_)
      clear hK K9
      try simp only [Act.put, List.setIfInBounds_toArray, List.set_cons_zero, List.set_cons_succ]
      refine wpG_take (i := 15) (x := { dst := some 39, op := Op.binOp BinOp.neq 4 (Operand.tmp 36) (Operand.tmp 38) 4, type := 4, pos := "law.go:24", after := #[{ on := 12, ground := Ground.data }, { on := 14, ground := Ground.data }, { on := 10, ground := Ground.guard }], guard := some (10, false) }) (v := ?_) rfl (by kernel_rfl) (fun _ _ _ h => h) (Or.inl ⟨by rfl, ?_⟩) hHeld ?_
      rotate_left
      · (intro w hS; (clear hS; go_simp); try with_reducible rfl)
      try simp only [Act.put, List.setIfInBounds_toArray, List.set_cons_zero, List.set_cons_succ]
      refine wpG_take (i := 16) (x := { dst := some 40, op := Op.pick (Operand.tmp 34) (Operand.const (Value.bool true)) (Operand.tmp 39), type := 4, pos := "law.go:24", after := #[{ on := 10, ground := Ground.data }, { on := 15, ground := Ground.data }], guard := none }) (v := ?_) rfl (by kernel_rfl) (fun _ _ _ h => h) (Or.inl ⟨by rfl, ?_⟩) hHeld ?_
      rotate_left
      · (intro w hS; (clear hS; go_simp); try with_reducible rfl)
      try simp only [Act.put, List.setIfInBounds_toArray, List.set_cons_zero, List.set_cons_succ]
      refine wpG_done (by kernel_rfl) ?_
      skip
      go_wp2_with (first | (go_at_call 28; go_loud ((with_reducible refine (awake22K K).mono ?_); clear K; rintro e w1 ⟨rfl, K⟩)))
      go_ret
      exact ⟨rfl, K.fr⟩
    · obtain ⟨bs, hbs⟩ : ∃ bs, mbytes mode ver blk ol nl D xs = bs := ⟨_, rfl⟩
      have hp := parse_ok mode ver blk ol nl D xs hD96 hv hver.1 hver.2
      simp only at hp
      rw [hbs] at hp
      have T : Told bs mode ver blk ol nl D := ⟨hp.2.1, hp.2.2.1, hp.2.2.2.1, hp.2.2.2.2.1, hp.2.2.2.2.2.1, hp.2.2.2.2.2.2.1⟩
      have HO := Lib.hid hp.2.2.2.2.2.2.2
      have HOK := Lib.hid hp.1
      have HB := Lib.hid (show ∀ v ∈ bs, 0 ≤ v ∧ v ≤ 255 by rw [← hbs]; exact mbytes_byte _ _ _ _ _ _ _ hm0.1 hm0.2 hDb)
      have HV := Lib.hid hv
      have HBS := Lib.hid hbs
      clear hv hbs hp hDb
      go_enter Try.func9, Try.ntmps9
      go_wp2_with (first | ((with_reducible refine at_load rfl ?_); go_loud (refine wpList_reads (by rfl) (kr_load_cell K _ _ (by rfl) (by rfl) (by repeat (first | with_reducible exact Has.hd _ _ | with_reducible refine Has.tl _ ?_ | with_reducible refine Has.ap _ ?_)) (by kernel_rfl) (mfc_o _ _ _ _ _ _ _ hD96)) ?_)) | ((with_reducible refine at_box rfl ?_); go_loud (refine wpList_does rfl (kd_box K _ _ rfl (by conv => lhs; whnf)) ?_; clear K; rintro _ w1 ⟨gm, rfl, K⟩; (try dsimp only [Value.cells] at K))) | ((with_reducible refine at_load (t := 41) rfl ?_); go_loud (refine wpList_reads (by rfl) (kr_load_row K _ _ (by rfl) (by rfl) (by repeat (first | with_reducible exact Has.hd _ _ | with_reducible refine Has.tl _ ?_ | with_reducible refine Has.ap _ ?_)) (by decide +kernel) (by rw [mfc_size _ _ _ _ _ _ _ hD96] <;> kernel_rfl)) ?_)) | (go_at_call 35; go_loud ((with_reducible refine (mputK bs HBS.out K (R.cov (by repeat (first | with_reducible exact Cov.all _ | with_reducible exact Cov.left _ _ | with_reducible exact Cov.nil _ | (with_reducible apply Cov.app; (· repeat (first | with_reducible exact Sel.nil _ | with_reducible exact Sel.ap _ _ | with_reducible exact Sel.hd _ _ | with_reducible exact Sel.all _ | with_reducible apply Sel.tl | with_reducible apply Sel.sk))) | (with_reducible apply Cov.cons; (· repeat (first | with_reducible exact Sel.nil _ | with_reducible exact Sel.ap _ _ | with_reducible exact Sel.hd _ _ | with_reducible exact Sel.all _ | with_reducible apply Sel.tl | with_reducible apply Sel.sk))) | with_reducible refine Cov.drop _ ?_ | with_reducible refine Cov.skip _ ?_))) HV.out hD96 (by omega) hc).mono ?_); clear K; rintro e w1 ⟨A1, c1, X1, rfl, O1, K⟩; have hc1 := O1.le; have hc2 := O1.cap)) | (go_at_call 36; go_loud ((with_reducible refine (rputK K bs HBS.out (R.cov (by repeat (first | with_reducible exact Cov.all _ | with_reducible exact Cov.left _ _ | with_reducible exact Cov.nil _ | (with_reducible apply Cov.app; (· repeat (first | with_reducible exact Sel.nil _ | with_reducible exact Sel.ap _ _ | with_reducible exact Sel.hd _ _ | with_reducible exact Sel.all _ | with_reducible apply Sel.tl | with_reducible apply Sel.sk))) | (with_reducible apply Cov.cons; (· repeat (first | with_reducible exact Sel.nil _ | with_reducible exact Sel.ap _ _ | with_reducible exact Sel.hd _ _ | with_reducible exact Sel.all _ | with_reducible apply Sel.tl | with_reducible apply Sel.sk))) | with_reducible refine Cov.drop _ ?_ | with_reducible refine Cov.skip _ ?_))) HV.out hD96 hc).mono ?_); clear K; rintro e w1 ⟨A2, c2, X2, rfl, O2, K⟩)))
      refine wp_region_GK K (Cov.all _) (by kernel_rfl) (by kernel_rfl) (by kernel_rfl) (fun K hHeld => ?_)
      refine wpG_take (i := 0) (x := { dst := some 24, op := Op.move (Operand.tmp 3), type := 44, pos := "law.go:24", after := #[], guard := none }) (v := ?_) rfl (by kernel_rfl) (fun _ _ _ h => h) (Or.inl ⟨by rfl, ?_⟩) hHeld ?_
      rotate_left
      · (intro w hS; (clear hS; go_simp); try with_reducible rfl)
      try simp only [Act.put, List.setIfInBounds_toArray, List.set_cons_zero, List.set_cons_succ]
      refine wpG_take (i := 1) (x := { dst := some 25, op := Op.convert 44 9 (Operand.tmp 24), type := 9, pos := "law.go:24", after := #[{ on := 0, ground := Ground.data }], guard := none }) (v := .string (strOfNums (bs))) rfl (by kernel_rfl) (fun _ _ _ h => h) (Or.inl ⟨by rfl, ?_⟩) hHeld ?_
      · (intro w hS; first | exact kr_string (by rfl) (by rfl) ((RdS.own (L := _) O1 (by repeat (first | with_reducible exact Seg.nil _ | with_reducible exact Seg.all _ | with_reducible exact Seg.ap _ _ | with_reducible exact Seg.hd _ _ | with_reducible apply Seg.tl | with_reducible apply Seg.sk))).at_ _ hS) Try.underlying44 Try.underlying5 Try.underlying9)
      try simp only [Act.put, List.setIfInBounds_toArray, List.set_cons_zero, List.set_cons_succ]
      refine wpG_take (i := 2) (x := { dst := some 26, op := Op.move (Operand.tmp 5), type := 44, pos := "law.go:24", after := #[], guard := none }) (v := ?_) rfl (by kernel_rfl) (fun _ _ _ h => h) (Or.inl ⟨by rfl, ?_⟩) hHeld ?_
      rotate_left
      · (intro w hS; (clear hS; go_simp); try with_reducible rfl)
      try simp only [Act.put, List.setIfInBounds_toArray, List.set_cons_zero, List.set_cons_succ]
      refine wpG_take (i := 3) (x := { dst := some 27, op := Op.convert 44 9 (Operand.tmp 26), type := 9, pos := "law.go:24", after := #[{ on := 2, ground := Ground.data }], guard := none }) (v := .string (strOfNums (bs))) rfl (by kernel_rfl) (fun _ _ _ h => h) (Or.inl ⟨by rfl, ?_⟩) hHeld ?_
      · (intro w hS; first | exact kr_string (by rfl) (by rfl) ((RdS.own (L := _) O2 (by repeat (first | with_reducible exact Seg.nil _ | with_reducible exact Seg.all _ | with_reducible exact Seg.ap _ _ | with_reducible exact Seg.hd _ _ | with_reducible apply Seg.tl | with_reducible apply Seg.sk))).at_ _ hS) Try.underlying44 Try.underlying5 Try.underlying9)
      try simp only [Act.put, List.setIfInBounds_toArray, List.set_cons_zero, List.set_cons_succ]
      refine wpG_take (i := 4) (x := { dst := some 28, op := Op.binOp BinOp.neq 9 (Operand.tmp 25) (Operand.tmp 27) 9, type := 4, pos := "law.go:24", after := #[{ on := 1, ground := Ground.data }, { on := 3, ground := Ground.data }], guard := none }) (v := ?_) rfl (by kernel_rfl) (fun _ _ _ h => h) (Or.inl ⟨by rfl, ?_⟩) hHeld ?_
      rotate_left
      · (intro w hS; (clear hS; go_simp); try with_reducible rfl)
      try simp only [Act.put, List.setIfInBounds_toArray, List.set_cons_zero, List.set_cons_succ]
      refine wpG_take (i := 5) (x := { dst := some 29, op := Op.move (Operand.tmp 28), type := 4, pos := "law.go:24", after := #[{ on := 4, ground := Ground.data }], guard := none }) (v := ?_) rfl (by kernel_rfl) (fun _ _ _ h => h) (Or.inl ⟨by rfl, ?_⟩) hHeld ?_
      rotate_left
      · (intro w hS; (clear hS; go_simp); try with_reducible rfl)
      try simp only [Act.put, List.setIfInBounds_toArray, List.set_cons_zero, List.set_cons_succ]
      refine wpG_take (i := 6) (x := { dst := some 30, op := Op.move (Operand.tmp 4), type := 29, pos := "law.go:24", after := #[{ on := 5, ground := Ground.guard }], guard := some (5, false) }) (v := ?_) rfl (by kernel_rfl) (fun _ _ _ h => h) (Or.inl ⟨by rfl, ?_⟩) hHeld ?_
      rotate_left
      · (intro w hS; (clear hS; go_simp); try with_reducible rfl)
      try simp only [Act.put, List.setIfInBounds_toArray, List.set_cons_zero, List.set_cons_succ]
      refine wpG_take (i := 7) (x := { dst := some 31, op := Op.move (Operand.tmp 6), type := 3, pos := "law.go:24", after := #[{ on := 5, ground := Ground.guard }], guard := some (5, false) }) (v := ?_) rfl (by kernel_rfl) (fun _ _ _ h => h) (Or.inl ⟨by rfl, ?_⟩) hHeld ?_
      rotate_left
      · (intro w hS; (clear hS; go_simp); try with_reducible rfl)
      try simp only [Act.put, List.setIfInBounds_toArray, List.set_cons_zero, List.set_cons_succ]
      refine wpG_take (i := 8) (x := { dst := some 32, op := Op.binOp BinOp.neq 3 (Operand.tmp 30) (Operand.tmp 31) 3, type := 4, pos := "law.go:24", after := #[{ on := 6, ground := Ground.data }, { on := 7, ground := Ground.data }, { on := 5, ground := Ground.guard }], guard := some (5, false) }) (v := ?_) rfl (by kernel_rfl) (fun _ _ _ h => h) (Or.inl ⟨by rfl, ?_⟩) hHeld ?_
      rotate_left
      · (intro w hS; (clear hS; go_simp); try with_reducible rfl)
      try simp only [Act.put, List.setIfInBounds_toArray, List.set_cons_zero, List.set_cons_succ]
      refine wpG_take (i := 9) (x := { dst := some 33, op := Op.pick (Operand.tmp 29) (Operand.const (Value.bool true)) (Operand.tmp 32), type := 4, pos := "law.go:24", after := #[{ on := 5, ground := Ground.data }, { on := 8, ground := Ground.data }], guard := none }) (v := ?_) rfl (by kernel_rfl) (fun _ _ _ h => h) (Or.inl ⟨by rfl, ?_⟩) hHeld ?_
      rotate_left
      · (intro w hS; (clear hS; go_simp); try with_reducible rfl)
      try simp only [Act.put, List.setIfInBounds_toArray, List.set_cons_zero, List.set_cons_succ]
      refine wpG_take (i := 10) (x := { dst := some 34, op := Op.move (Operand.tmp 33), type := 4, pos := "law.go:24", after := #[{ on := 9, ground := Ground.data }, { on := 5, ground := Ground.chain }], guard := none }) (v := ?_) rfl (by kernel_rfl) (fun _ _ _ h => h) (Or.inl ⟨by rfl, ?_⟩) hHeld ?_
      rotate_left
      · (intro w hS; (clear hS; go_simp); try with_reducible rfl)
      try simp only [Act.put, List.setIfInBounds_toArray, List.set_cons_zero, List.set_cons_succ]
      refine wpG_take (i := 11) (x := { dst := some 35, op := Op.load 41 (Operand.tmp 1), type := 41, pos := "law.go:24", after := #[{ on := 10, ground := Ground.guard }], guard := some (10, false) }) (v := .agg (mfc mode ver blk ol nl D (.slice A n c))) rfl (by kernel_rfl) (fun _ _ _ h => h) (Or.inl ⟨by rfl, ?_⟩) hHeld ?_
      · (intro w hS; first | exact kr_load_row hS _ _ (by rfl) (by rfl) (by repeat (first | with_reducible exact Has.hd _ _ | with_reducible refine Has.tl _ ?_ | with_reducible refine Has.ap _ ?_)) (by decide +kernel) (by rw [mfc_size _ _ _ _ _ _ _ hD96] <;> kernel_rfl))
      try simp only [Act.put, List.setIfInBounds_toArray, List.set_cons_zero, List.set_cons_succ]
      refine wpG_take (i := 13) (x := { dst := some 37, op := Op.load 41 (Operand.tmp 1), type := 41, pos := "law.go:24", after := #[{ on := 10, ground := Ground.guard }], guard := some (10, false) }) (v := .agg (mfc mode ver blk ol nl D (.slice A n c))) rfl (by kernel_rfl) (fun _ _ _ h => h) (Or.inl ⟨by rfl, ?_⟩) hHeld ?_
      · (intro w hS; first | exact kr_load_row hS _ _ (by rfl) (by rfl) (by repeat (first | with_reducible exact Has.hd _ _ | with_reducible refine Has.tl _ ?_ | with_reducible refine Has.ap _ ?_)) (by decide +kernel) (by rw [mfc_size _ _ _ _ _ _ _ hD96] <;> kernel_rfl))
      try simp only [Act.put, List.setIfInBounds_toArray, List.set_cons_zero, List.set_cons_succ]
      refine wpG_one (i := 12) (o := { dst := some 36, op := Op.call { callee := Callee.value (Operand.func 37), args := #[Operand.tmp 35], argTypes := #[41] }, type := 4, pos := "law.go:24", after := #[{ on := 11, ground := Ground.data }, { on := 10, ground := Ground.chain }, { on := 10, ground := Ground.guard }], guard := some (10, false) }) rfl (by kernel_rfl) (fun K9 hK => ?_)
      go_simp
      (go_at_call 37; (with_reducible refine (mmayK K _ HV.out (R.cov (by repeat (first | with_reducible exact Cov.all _ | with_reducible exact Cov.left _ _ | with_reducible exact Cov.nil _ | (with_reducible apply Cov.app; (· repeat (first | with_reducible exact Sel.nil _ | with_reducible exact Sel.ap _ _ | with_reducible exact Sel.hd _ _ | with_reducible exact Sel.all _ | with_reducible apply Sel.tl | with_reducible apply Sel.sk))) | (with_reducible apply Cov.cons; (· repeat (first | with_reducible exact Sel.nil _ | with_reducible exact Sel.ap _ _ | with_reducible exact Sel.hd _ _ | with_reducible exact Sel.all _ | with_reducible apply Sel.tl | with_reducible apply Sel.sk))) | with_reducible refine Cov.drop _ ?_ | with_reducible refine Cov.skip _ ?_))) hD96 (by omega) hc hnl).mono ?_); clear K; rintro e w1 ⟨rfl, K⟩)
      refine hK.out _ _ (K.cov (by repeat (first | with_reducible exact Cov.all _ | with_reducible exact Cov.left _ _ | with_reducible exact Cov.nil _ | (with_reducible apply Cov.app; (· repeat (first | with_reducible exact Sel.nil _ | with_reducible exact Sel.ap _ _ | with_reducible exact Sel.hd _ _ | with_reducible exact Sel.all _ | with_reducible apply Sel.tl | with_reducible apply Sel.sk))) | (with_reducible apply Cov.cons; (· repeat (first | with_reducible exact Sel.nil _ | with_reducible exact Sel.ap _ _ | with_reducible exact Sel.hd _ _ | with_reducible exact Sel.all _ | with_reducible apply Sel.tl | with_reducible apply Sel.sk))) | with_reducible refine Cov.drop _ ?_ | with_reducible refine Cov.skip _ ?_))) (fun hHeld => ?_)
      clear hK K9
      try simp only [Act.put, List.setIfInBounds_toArray, List.set_cons_zero, List.set_cons_succ]
      refine wpG_one (i := 14) (o := { dst := some 38, op := Op.call { callee := Callee.value (Operand.func 31), args := #[Operand.tmp 37], argTypes := #[41] }, type := 4, pos := "law.go:24", after := #[{ on := 13, ground := Ground.data }, { on := 12, ground := Ground.chain }, { on := 10, ground := Ground.guard }], guard := some (10, false) }) rfl (by kernel_rfl) (fun K9 hK => ?_)
      go_simp
      (go_at_call 31; (with_reducible refine (rmayK K _ HV.out (R.cov (by repeat (first | with_reducible exact Cov.all _ | with_reducible exact Cov.left _ _ | with_reducible exact Cov.nil _ | (with_reducible apply Cov.app; (· repeat (first | with_reducible exact Sel.nil _ | with_reducible exact Sel.ap _ _ | with_reducible exact Sel.hd _ _ | with_reducible exact Sel.all _ | with_reducible apply Sel.tl | with_reducible apply Sel.sk))) | (with_reducible apply Cov.cons; (· repeat (first | with_reducible exact Sel.nil _ | with_reducible exact Sel.ap _ _ | with_reducible exact Sel.hd _ _ | with_reducible exact Sel.all _ | with_reducible apply Sel.tl | with_reducible apply Sel.sk))) | with_reducible refine Cov.drop _ ?_ | with_reducible refine Cov.skip _ ?_))) hD96 (by omega) hc).mono ?_); clear K; rintro e w1 ⟨rfl, K⟩)
      refine hK.out _ _ (K.cov (by repeat (first | with_reducible exact Cov.all _ | with_reducible exact Cov.left _ _ | with_reducible exact Cov.nil _ | (with_reducible apply Cov.app; (· repeat (first | with_reducible exact Sel.nil _ | with_reducible exact Sel.ap _ _ | with_reducible exact Sel.hd _ _ | with_reducible exact Sel.all _ | with_reducible apply Sel.tl | with_reducible apply Sel.sk))) | (with_reducible apply Cov.cons; (· repeat (first | with_reducible exact Sel.nil _ | with_reducible exact Sel.ap _ _ | with_reducible exact Sel.hd _ _ | with_reducible exact Sel.all _ | with_reducible apply Sel.tl | with_reducible apply Sel.sk))) | with_reducible refine Cov.drop _ ?_ | with_reducible refine Cov.skip _ ?_))) (fun hHeld => ?_)
      clear hK K9
      try simp only [Act.put, List.setIfInBounds_toArray, List.set_cons_zero, List.set_cons_succ]
      refine wpG_take (i := 15) (x := { dst := some 39, op := Op.binOp BinOp.neq 4 (Operand.tmp 36) (Operand.tmp 38) 4, type := 4, pos := "law.go:24", after := #[{ on := 12, ground := Ground.data }, { on := 14, ground := Ground.data }, { on := 10, ground := Ground.guard }], guard := some (10, false) }) (v := ?_) rfl (by kernel_rfl) (fun _ _ _ h => h) (Or.inl ⟨by rfl, ?_⟩) hHeld ?_
      rotate_left
      · (intro w hS; (clear hS; go_simp); try with_reducible rfl)
      try simp only [Act.put, List.setIfInBounds_toArray, List.set_cons_zero, List.set_cons_succ]
      refine wpG_take (i := 16) (x := { dst := some 40, op := Op.pick (Operand.tmp 34) (Operand.const (Value.bool true)) (Operand.tmp 39), type := 4, pos := "law.go:24", after := #[{ on := 10, ground := Ground.data }, { on := 15, ground := Ground.data }], guard := none }) (v := ?_) rfl (by kernel_rfl) (fun _ _ _ h => h) (Or.inl ⟨by rfl, ?_⟩) hHeld ?_
      rotate_left
      · (intro w hS; (clear hS; go_simp); try with_reducible rfl)
      try simp only [Act.put, List.setIfInBounds_toArray, List.set_cons_zero, List.set_cons_succ]
      refine wpG_done (by kernel_rfl) ?_
      skip
      go_wp2_with (first | (go_at_call 38; go_loud ((with_reducible refine (mgetK_yes K (RdS.own O1 (by repeat (first | with_reducible exact Seg.nil _ | with_reducible exact Seg.all _ | with_reducible exact Seg.ap _ _ | with_reducible exact Seg.hd _ _ | with_reducible apply Seg.tl | with_reducible apply Seg.sk))) (by omega) hc1 hc2 (by omega) HB.out T HOK.out).mono ?_); clear K; rintro e w1 ⟨QA, j, qc, X4, rfl, O4, K⟩; rw [HO.out] at O4; obtain rfl : j = n := (by have h1 := O4.len; have h2 := HL.out; simp only [List.length_map, Nat.mul_one] at h1; omega))) | (go_at_call 39; go_loud ((with_reducible refine (same_any _ _ _ _ _ _ _ _ _ _ _ xs K (RdS.own O4 (by repeat (first | with_reducible exact Seg.nil _ | with_reducible exact Seg.all _ | with_reducible exact Seg.ap _ _ | with_reducible exact Seg.hd _ _ | with_reducible apply Seg.tl | with_reducible apply Seg.sk))) (R.cov (by repeat (first | with_reducible exact Cov.all _ | with_reducible exact Cov.left _ _ | with_reducible exact Cov.nil _ | (with_reducible apply Cov.app; (· repeat (first | with_reducible exact Sel.nil _ | with_reducible exact Sel.ap _ _ | with_reducible exact Sel.hd _ _ | with_reducible exact Sel.all _ | with_reducible apply Sel.tl | with_reducible apply Sel.sk))) | (with_reducible apply Cov.cons; (· repeat (first | with_reducible exact Sel.nil _ | with_reducible exact Sel.ap _ _ | with_reducible exact Sel.hd _ _ | with_reducible exact Sel.all _ | with_reducible apply Sel.tl | with_reducible apply Sel.sk))) | with_reducible refine Cov.drop _ ?_ | with_reducible refine Cov.skip _ ?_))) hD96 (by omega)).mono ?_); clear K; rintro e w1 ⟨rfl, K⟩)) | (go_at_call 28; go_loud ((with_reducible refine (awake22K K).mono ?_); clear K; rintro e w1 ⟨rfl, K⟩)) | ((with_reducible refine at_alloc rfl ?_); go_loud (refine wpList_does rfl (kd_alloc (z := (.agg mfcZ)) K _ rfl (by kernel_rfl)) ?_; clear K; rintro _ w1 ⟨gz, rfl, K⟩; (try dsimp only [Value.cells] at K))) | ((with_reducible refine at_load (t := 41) rfl ?_); go_loud (refine wpList_reads (by rfl) (kr_load_row K _ _ (by rfl) (by rfl) (by repeat (first | with_reducible exact Has.hd _ _ | with_reducible refine Has.tl _ ?_ | with_reducible refine Has.ap _ ?_)) (by decide +kernel) (by rw [mfc_size _ _ _ _ _ _ _ hD96] <;> kernel_rfl)) ?_)) | ((with_reducible refine at_store rfl ?_); go_loud (refine wpList_does (by rfl) (kd_store_row K _ _ _ (by rfl) (by rfl) (by rfl) (by repeat (first | with_reducible exact Repl.hd _ _ _ | with_reducible apply Repl.tl | with_reducible apply Repl.ap)) (by rw [mfc_size _ _ _ _ _ _ _ hD96] <;> kernel_rfl) (by rw [mfcZ_size, mfc_size _ _ _ _ _ _ _ hD96] <;> rfl) (mfc_one _ _ _ _ _ _ _ _ _)) ?_; clear K; intro _ w1 K; (try simp only [Act.put]))))
      go_ret
      exact ⟨rfl, K.fr⟩
  · have h1 : 60 < (n : Int) := by omega
    go_enter Try.func9, Try.ntmps9
    go_wp2_with (first | ((with_reducible refine at_load rfl ?_); go_loud (refine wpList_reads (by rfl) (kr_load_cell K _ _ (by rfl) (by rfl) (by repeat (first | with_reducible exact Has.hd _ _ | with_reducible refine Has.tl _ ?_ | with_reducible refine Has.ap _ ?_)) (by kernel_rfl) (mfc_o _ _ _ _ _ _ _ hD96)) ?_)) | ((with_reducible refine at_box rfl ?_); go_loud (refine wpList_does rfl (kd_box K _ _ rfl (by conv => lhs; whnf)) ?_; clear K; rintro _ w1 ⟨gm, rfl, K⟩; (try dsimp only [Value.cells] at K))) | (go_at_call 28; go_loud ((with_reducible refine (awake22K K).mono ?_); clear K; rintro e w1 ⟨rfl, K⟩)))
    go_ret
    exact ⟨rfl, K.fr⟩
end
end Go.Proofs.Ytgloienpmikcfaa
