/-
  sector: Write, Size, Count (contracts).
-/
import Derived.Test.YtokbloddaoakgaaSecA
import Derived.Deep.Cut
import Derived.Deep.LoopGhost
set_option linter.unusedVariables false
set_option linter.unusedSimpArgs false
namespace Go.Proofs.Ytokbloddaoakgaa
open Go.RowKit

theorem dburn_id {D : Dev} (h : ¬ 0 < D.fuse) : dburn D = D := by rw [dburn, if_neg h]
theorem dwrite_ok {D : Dev} (h : DevOk D) {i : Int} {b : List Int} (hb : ∀ v ∈ b, 0 ≤ v ∧ v ≤ 255) (ho : D.offs < 1000000000000) (hw : D.writes < 1000000000000) : DevOk (dwrite D i b).2 := by
  unfold dwrite
  split
  · exact h
  · next hm =>
    split
    · exact h
    · next hl =>
      have hz := dmay_zero (Decidable.of_not_not hm)
      have h1 := dput_ok h (i := i) (b := b) ⟨hz.2.1, hz.2.2⟩ (Decidable.of_not_not hl) hb
      split
      · unfold dfall
        split
        · exact h1
        · exact ⟨h1.size, h1.count, h1.rk, h1.rw_, h1.fk, h1.fw, by have := h.offs; exact ⟨by show 0 ≤ D.offs + 1; omega, by show D.offs + 1 ≤ _; omega⟩, h1.fuse, h1.writes⟩
      · next hf =>
        refine ⟨h1.size, h1.count, h1.rk, h1.rw_, h1.fk, h1.fw, h1.offs, ?_, by have := h.writes; exact ⟨by show 0 ≤ D.writes + 1; omega, by show D.writes + 1 ≤ _; omega⟩⟩
        have := h.fuse
        show -1 ≤ (if 0 < D.fuse then D.fuse - 1 else D.fuse) ∧ (if 0 < D.fuse then D.fuse - 1 else D.fuse) ≤ _
        split <;> omega
section
variable {w0 w : World} {L X : List Ent} {g : Nat} {D : Dev} {A : Option Addr} {n c : Nat} {xs : List Int}
set_option maxRecDepth 100000 in
theorem ssize_any (K : Known w0 w (X ++ L)) (hD : DevIs w0 g D X) : Calls Try.prog 42 #[.pointer (some ⟨g, 0, none⟩)] w fun e w' => e = .returned (.int .i64 (D.size : Nat)) ∧ w = w' := by
  obtain ⟨mk, mw, lk, ck, lw, cw, fz, Y, rfl, hfz, HK, HW⟩ := hD.out
  have hok := hD.ok
  simp only [List.cons_append] at K
  clear hD hok HK HW hfz
  go_enter Try.func42, Try.ntmps42
  go_wp2_with (first | ((with_reducible refine at_eqnil rfl ?_); refine wpList_reads rfl (kr_eqnil rfl rfl (by kernel_rfl)) ?_) | ((with_reducible refine at_box rfl ?_); refine wpList_does rfl (kd_box K _ _ rfl (by conv => lhs; whnf)) ?_; clear K; rintro _ w1 ⟨g, rfl, K⟩; (try dsimp only [Value.cells] at K)) | ((with_reducible refine at_alloc rfl ?_); refine wpList_does rfl (kd_alloc K _ rfl rfl) ?_; clear K; rintro _ w1 ⟨g, rfl, K⟩; (try dsimp only [Value.cells] at K)) | ((with_reducible refine at_buildSlice rfl ?_); refine wpList_does rfl (kd_lits (cs := _) K _ _ _ rfl (by first | rfl | (go_simp; done) | (go_simp; rfl)) (by first | rfl | (go_simp; done) | (go_simp; rfl))) ?_; clear K; rintro _ w1 ⟨g, rfl, K⟩) | ((with_reducible refine at_load rfl ?_); first | (refine wpList_reads (by rfl) (kr_load_cell K _ _ (by rfl) (by rfl) (by repeat (first | with_reducible exact Has.hd _ _ | with_reducible refine Has.tl _ ?_ | with_reducible refine Has.ap _ ?_)) (by decide +kernel) (by (try simp only [List.getElem?_toArray, List.getElem?_cons_succ, List.getElem?_cons_zero]); exact rfl)) ?_) | (refine wpList_reads (by rfl) (kr_load_row K _ _ (by rfl) (by rfl) (by repeat (first | with_reducible exact Has.hd _ _ | with_reducible refine Has.tl _ ?_ | with_reducible refine Has.ap _ ?_)) (by decide +kernel) (by kernel_rfl)) ?_)) | ((with_reducible refine at_store rfl ?_); (first | (refine wpList_does rfl (kd_store_cell K _ _ _ rfl rfl (by conv => lhs; whnf) (by repeat (first | with_reducible exact Repl.hd _ _ _ | with_reducible apply Repl.tl | with_reducible apply Repl.ap)) rfl rfl (by kernel_rfl) (by kernel_rfl) (by first | (simp only [List.setIfInBounds_toArray, List.set_cons_succ, List.set_cons_zero]; rfl) | rfl)) ?_) | (refine wpList_does rfl (kd_store_row K _ _ _ rfl rfl rfl (by repeat (first | with_reducible exact Repl.hd _ _ _ | with_reducible apply Repl.tl | with_reducible apply Repl.ap)) (by kernel_rfl) (by kernel_rfl) (by kernel_rfl)) ?_)); clear K; intro _ w1 K; (try simp only [Act.put])))
  go_ret
  exact ⟨rfl, rfl⟩
set_option maxRecDepth 100000 in
theorem scount_any (K : Known w0 w (X ++ L)) (hD : DevIs w0 g D X) : Calls Try.prog 43 #[.pointer (some ⟨g, 0, none⟩)] w fun e w' => e = .returned (.int .i64 (D.count : Nat)) ∧ w = w' := by
  obtain ⟨mk, mw, lk, ck, lw, cw, fz, Y, rfl, hfz, HK, HW⟩ := hD.out
  have hok := hD.ok
  simp only [List.cons_append] at K
  clear hD hok HK HW hfz
  go_enter Try.func43, Try.ntmps43
  go_wp2_with (first | ((with_reducible refine at_eqnil rfl ?_); refine wpList_reads rfl (kr_eqnil rfl rfl (by kernel_rfl)) ?_) | ((with_reducible refine at_box rfl ?_); refine wpList_does rfl (kd_box K _ _ rfl (by conv => lhs; whnf)) ?_; clear K; rintro _ w1 ⟨g, rfl, K⟩; (try dsimp only [Value.cells] at K)) | ((with_reducible refine at_alloc rfl ?_); refine wpList_does rfl (kd_alloc K _ rfl rfl) ?_; clear K; rintro _ w1 ⟨g, rfl, K⟩; (try dsimp only [Value.cells] at K)) | ((with_reducible refine at_buildSlice rfl ?_); refine wpList_does rfl (kd_lits (cs := _) K _ _ _ rfl (by first | rfl | (go_simp; done) | (go_simp; rfl)) (by first | rfl | (go_simp; done) | (go_simp; rfl))) ?_; clear K; rintro _ w1 ⟨g, rfl, K⟩) | ((with_reducible refine at_load rfl ?_); first | (refine wpList_reads (by rfl) (kr_load_cell K _ _ (by rfl) (by rfl) (by repeat (first | with_reducible exact Has.hd _ _ | with_reducible refine Has.tl _ ?_ | with_reducible refine Has.ap _ ?_)) (by decide +kernel) (by (try simp only [List.getElem?_toArray, List.getElem?_cons_succ, List.getElem?_cons_zero]); exact rfl)) ?_) | (refine wpList_reads (by rfl) (kr_load_row K _ _ (by rfl) (by rfl) (by repeat (first | with_reducible exact Has.hd _ _ | with_reducible refine Has.tl _ ?_ | with_reducible refine Has.ap _ ?_)) (by decide +kernel) (by kernel_rfl)) ?_)) | ((with_reducible refine at_store rfl ?_); (first | (refine wpList_does rfl (kd_store_cell K _ _ _ rfl rfl (by conv => lhs; whnf) (by repeat (first | with_reducible exact Repl.hd _ _ _ | with_reducible apply Repl.tl | with_reducible apply Repl.ap)) rfl rfl (by kernel_rfl) (by kernel_rfl) (by first | (simp only [List.setIfInBounds_toArray, List.set_cons_succ, List.set_cons_zero]; rfl) | rfl)) ?_) | (refine wpList_does rfl (kd_store_row K _ _ _ rfl rfl rfl (by repeat (first | with_reducible exact Repl.hd _ _ _ | with_reducible apply Repl.tl | with_reducible apply Repl.ap)) (by kernel_rfl) (by kernel_rfl) (by kernel_rfl)) ?_)); clear K; intro _ w1 K; (try simp only [Act.put])))
  go_ret
  exact ⟨rfl, rfl⟩
set_option maxHeartbeats 1600000 in
set_option maxRecDepth 100000 in
theorem swrite_any (K : Known w0 w (X ++ L)) (hD : DevIs w0 g D X) (i : Int) (R : RdS w0 L .u8 A n xs) (hb : ∀ v ∈ xs, 0 ≤ v ∧ v ≤ 255) (hn9 : n ≤ 1000000000) (ho : D.offs < 1000000000000) (hw : D.writes < 1000000000000) :
    Calls Try.prog 36 #[.pointer (some ⟨g, 0, none⟩), .int .i64 i, .slice A n c] w fun e w' => e = .returned (.int .i64 (dwrite D i xs).1) ∧ ∃ X', DevIs w0 g (dwrite D i xs).2 X' ∧ Known w0 w' (X' ++ L) := by
  have HM := Lib.hid (smay_any K hD i)
  have HD := Lib.hid hD
  have HK0 := Lib.hid K
  have hxl := R.len
  obtain ⟨mk, mw, lk, ck, lw, cw, fz, Y, rfl, hfz, HK, HW⟩ := hD.out
  have hok := hD.ok
  simp only [List.cons_append] at K
  by_cases hm : dmay D i = 0
  · rw [hm] at HM
    by_cases hl : n = D.size
    · subst hl
      have hsz := hok.size
      have hz := dmay_zero hm
      have HP := Lib.hid (dput_ok hok (i := i) (b := xs) ⟨hz.2.1, hz.2.2⟩ (by omega) hb)
      have HWR := Lib.hid (show dwrite D i xs = if D.fuse = 0 then (8, dfall (dput D i xs)) else (0, { dburn (dput D i xs) with writes := D.writes + 1 }) by
        rw [dwrite, if_neg (by omega), if_neg (by omega)]; rfl)
      have HOKW := Lib.hid (dwrite_ok hok (i := i) hb ho hw)
      have o1 := IntWalk.u64_in (D.writes + 1) (by have := hok.writes; omega)
      clear hm hxl hb
      go_enter Try.func36, Try.ntmps36
      go_upto_region 6 with ((first | (go_at_call 70; (with_reducible refine (HM.out).mono ?_); rintro e w' ⟨rfl, rfl⟩) | ((with_reducible refine at_eqnil rfl ?_); refine wpList_reads rfl (kr_eqnil rfl rfl (by kernel_rfl)) ?_) | ((with_reducible refine at_box rfl ?_); refine wpList_does rfl (kd_box K _ _ rfl (by conv => lhs; whnf)) ?_; clear K; rintro _ w1 ⟨g, rfl, K⟩; (try dsimp only [Value.cells] at K)) | ((with_reducible refine at_alloc rfl ?_); refine wpList_does rfl (kd_alloc K _ rfl rfl) ?_; clear K; rintro _ w1 ⟨g, rfl, K⟩; (try dsimp only [Value.cells] at K)) | ((with_reducible refine at_buildSlice rfl ?_); refine wpList_does rfl (kd_lits (cs := _) K _ _ _ rfl (by first | rfl | (go_simp; done) | (go_simp; rfl)) (by first | rfl | (go_simp; done) | (go_simp; rfl))) ?_; clear K; rintro _ w1 ⟨g, rfl, K⟩) | ((with_reducible refine at_load rfl ?_); first | (refine wpList_reads (by rfl) (kr_load_cell K _ _ (by rfl) (by rfl) (by repeat (first | with_reducible exact Has.hd _ _ | with_reducible refine Has.tl _ ?_ | with_reducible refine Has.ap _ ?_)) (by decide +kernel) (by (try simp only [List.getElem?_toArray, List.getElem?_cons_succ, List.getElem?_cons_zero]); exact rfl)) ?_) | (refine wpList_reads (by rfl) (kr_load_row K _ _ (by rfl) (by rfl) (by repeat (first | with_reducible exact Has.hd _ _ | with_reducible refine Has.tl _ ?_ | with_reducible refine Has.ap _ ?_)) (by decide +kernel) (by kernel_rfl)) ?_)) | ((with_reducible refine at_store rfl ?_); (first | (refine wpList_does rfl (kd_store_cell K _ _ _ rfl rfl (by conv => lhs; whnf) (by repeat (first | with_reducible exact Repl.hd _ _ _ | with_reducible apply Repl.tl | with_reducible apply Repl.ap)) rfl rfl (by kernel_rfl) (by kernel_rfl) (by first | (simp only [List.setIfInBounds_toArray, List.set_cons_succ, List.set_cons_zero]; rfl) | rfl)) ?_) | (refine wpList_does rfl (kd_store_row K _ _ _ rfl rfl rfl (by repeat (first | with_reducible exact Repl.hd _ _ _ | with_reducible apply Repl.tl | with_reducible apply Repl.ap)) (by kernel_rfl) (by kernel_rfl) (by kernel_rfl)) ?_)); clear K; intro _ w1 K; (try simp only [Act.put]))))
      refine wp_region_GK K (Cov.all _) (by kernel_rfl) (by kernel_rfl) (by kernel_rfl) (fun K hHeld => ?_)
      refine wpG_take (i := 0) (x := { dst := some 21, op := Op.move (Operand.tmp 0), type := 36, pos := "sector.go:103", after := #[], guard := none }) (v := ?_) rfl (by kernel_rfl) (fun _ _ _ h => h) (Or.inl ⟨by rfl, ?_⟩) hHeld ?_
      rotate_left
      · (intro w hS; (clear hS; go_simp); try with_reducible rfl)
      try simp only [Act.put, List.setIfInBounds_toArray, List.set_cons_zero, List.set_cons_succ]
      refine wpG_take (i := 1) (x := { dst := some 22, op := Op.nilCheck (Operand.tmp 21), type := 0, pos := "sector.go:103", after := #[{ on := 0, ground := Ground.data }], guard := none }) (v := ?_) rfl (by kernel_rfl) (fun _ _ _ h => h) (Or.inl ⟨by rfl, ?_⟩) hHeld ?_
      rotate_left
      · (intro w hS; (clear hS; go_simp); try with_reducible rfl)
      try simp only [Act.put, List.setIfInBounds_toArray, List.set_cons_zero, List.set_cons_succ]
      refine wpG_take (i := 2) (x := { dst := some 23, op := Op.fieldAddr 108 (Operand.tmp 22) 3, type := 0, pos := "sector.go:103", after := #[{ on := 1, ground := Ground.data }], guard := none }) (v := ?_) rfl (by kernel_rfl) (fun _ _ _ h => h) (Or.inl ⟨by rfl, ?_⟩) hHeld ?_
      rotate_left
      · (intro w hS; (clear hS; go_simp); try with_reducible rfl)
      try simp only [Act.put, List.setIfInBounds_toArray, List.set_cons_zero, List.set_cons_succ]
      refine wpG_take (i := 3) (x := { dst := some 24, op := Op.load 106 (Operand.tmp 23), type := 106, pos := "sector.go:103", after := #[{ on := 2, ground := Ground.data }], guard := none }) (v := ?_) rfl (by kernel_rfl) (fun _ _ _ h => h) (Or.inl ⟨by rfl, ?_⟩) hHeld ?_
      rotate_left
      · (intro w hS; first | exact kr_load_cell hS _ _ (by rfl) (by rfl) (by repeat (first | with_reducible exact Has.hd _ _ | with_reducible refine Has.tl _ ?_ | with_reducible refine Has.ap _ ?_)) (by decide +kernel) (by (try simp only [List.getElem?_toArray, List.getElem?_cons_succ, List.getElem?_cons_zero]); exact rfl) | exact kr_load_row hS _ _ (by rfl) (by rfl) (by repeat (first | with_reducible exact Has.hd _ _ | with_reducible refine Has.tl _ ?_ | with_reducible refine Has.ap _ ?_)) (by decide +kernel) (by kernel_rfl))
      try simp only [Act.put, List.setIfInBounds_toArray, List.set_cons_zero, List.set_cons_succ]
      refine wpG_take (i := 4) (x := { dst := some 25, op := Op.move (Operand.tmp 1), type := 3, pos := "sector.go:103", after := #[], guard := none }) (v := ?_) rfl (by kernel_rfl) (fun _ _ _ h => h) (Or.inl ⟨by rfl, ?_⟩) hHeld ?_
      rotate_left
      · (intro w hS; (clear hS; go_simp); try with_reducible rfl)
      try simp only [Act.put, List.setIfInBounds_toArray, List.set_cons_zero, List.set_cons_succ]
      refine wpG_take (i := 5) (x := { dst := some 26, op := Op.move (Operand.tmp 2), type := 24, pos := "sector.go:103", after := #[], guard := none }) (v := ?_) rfl (by kernel_rfl) (fun _ _ _ h => h) (Or.inl ⟨by rfl, ?_⟩) hHeld ?_
      rotate_left
      · (intro w hS; (clear hS; go_simp); try with_reducible rfl)
      try simp only [Act.put, List.setIfInBounds_toArray, List.set_cons_zero, List.set_cons_succ]
      refine wpG_one (i := 6) (o := { dst := some 27, op := Op.call { callee := Callee.value (Operand.func 71), args := #[Operand.tmp 26], argTypes := #[24] }, type := 24, pos := "sector.go:103", after := #[{ on := 5, ground := Ground.data }], guard := none }) rfl (by kernel_rfl) (fun K9 hK => ?_)
      go_simp
      (go_at_call 71; (with_reducible refine (clone_any K (R.cov (by repeat (first | with_reducible exact Cov.all _ | with_reducible exact Cov.left _ _ | with_reducible exact Cov.nil _ | (with_reducible apply Cov.app; (· repeat (first | with_reducible exact Sel.nil _ | with_reducible exact Sel.ap _ _ | with_reducible exact Sel.hd _ _ | with_reducible exact Sel.all _ | with_reducible apply Sel.tl | with_reducible apply Sel.sk))) | (with_reducible apply Cov.cons; (· repeat (first | with_reducible exact Sel.nil _ | with_reducible exact Sel.ap _ _ | with_reducible exact Sel.hd _ _ | with_reducible exact Sel.all _ | with_reducible apply Sel.tl | with_reducible apply Sel.sk))) | with_reducible refine Cov.drop _ ?_ | with_reducible refine Cov.skip _ ?_))) (by omega)).mono ?_); clear K; rintro e w1 ⟨A1, c1, X1, rfl, O, K⟩)
      refine hK.out _ _ (K.cov (by repeat (first | with_reducible exact Cov.all _ | with_reducible exact Cov.left _ _ | with_reducible exact Cov.nil _ | (with_reducible apply Cov.app; (· repeat (first | with_reducible exact Sel.nil _ | with_reducible exact Sel.ap _ _ | with_reducible exact Sel.hd _ _ | with_reducible exact Sel.all _ | with_reducible apply Sel.tl | with_reducible apply Sel.sk))) | (with_reducible apply Cov.cons; (· repeat (first | with_reducible exact Sel.nil _ | with_reducible exact Sel.ap _ _ | with_reducible exact Sel.hd _ _ | with_reducible exact Sel.all _ | with_reducible apply Sel.tl | with_reducible apply Sel.sk))) | with_reducible refine Cov.drop _ ?_ | with_reducible refine Cov.skip _ ?_))) (fun hHeld => ?_)
      clear hK K9
      try simp only [Act.put, List.setIfInBounds_toArray, List.set_cons_zero, List.set_cons_succ]
      refine wpG_take (i := 7) (x := { dst := some 28, op := Op.build 129 #[(0, Operand.tmp 27)], type := 129, pos := "sector.go:103", after := #[{ on := 6, ground := Ground.data }], guard := none }) (v := ?_) rfl (by kernel_rfl) (fun _ _ _ h => h) (Or.inl ⟨by rfl, ?_⟩) hHeld ?_
      rotate_left
      · (intro w hS; (clear hS; go_simp); try with_reducible rfl)
      try simp only [Act.put, List.setIfInBounds_toArray, List.set_cons_zero, List.set_cons_succ]
      refine wpG_last (i := 8) (o := { dst := none, op := Op.mapUpdate 106 (Operand.tmp 24) (Operand.tmp 25) (Operand.tmp 28), type := 0, pos := "sector.go:103", after := #[{ on := 3, ground := Ground.data }, { on := 4, ground := Ground.data }, { on := 7, ground := Ground.data }, { on := 6, ground := Ground.chain }, { on := 0, ground := Ground.phase }, { on := 1, ground := Ground.phase }, { on := 2, ground := Ground.phase }, { on := 3, ground := Ground.phase }, { on := 4, ground := Ground.phase }, { on := 5, ground := Ground.phase }, { on := 6, ground := Ground.phase }, { on := 7, ground := Ground.phase }], guard := none }) rfl (by kernel_rfl) (fun K9 hK => ?_)
      refine st_does (by rfl) (kd_mapUpdate K (by rfl) (by rfl) (by rfl) (by conv => lhs; whnf) (by repeat (first | with_reducible exact Repl.hd _ _ _ | with_reducible apply Repl.tl | with_reducible apply Repl.ap)) Try.underlying106 Try.underlying3) ?_
      clear K; intro _ w1 K
      refine hK.out _ _ ?_
      clear hK K9
      try simp only [Act.put, List.setIfInBounds_toArray, List.set_cons_zero, List.set_cons_succ]
      skip
      have HW2 := (HW.cov (Y := X1 ++ Y) (Cov.skip X1 (Cov.all Y))).put hok.rw_ (i := i) (f := ⟨xs, false⟩) (v := .agg #[.slice A1 D.size c1, .bool false]) ⟨A1, D.size, c1, rfl, RdS.own O (Seg.ap X1 Y), O.le⟩
      have HD2 : DevIs w0 g (dput D i xs) (row g #[.int .i64 (D.size : Nat), .int .i64 (D.count : Nat), .map (some mk), .map (some mw), .bool D.off, .int .i64 D.offs, .bool (decide (0 ≤ D.fuse)), .int .i64 fz, .int .u64 D.writes] 108 :: mrow mk lk ck :: mrow mw (mput lw i (.agg #[.slice A1 D.size c1, .bool false]) cw) (if mhas lw i then cw else cw + 1) :: (X1 ++ Y)) := ⟨⟨mk, mw, lk, ck, _, _, fz, X1 ++ Y, rfl, hfz, HK.cov (Cov.skip X1 (Cov.all Y)), HW2⟩, HP.out⟩
      obtain ⟨X2, hX2⟩ : ∃ X2, X2 = row g #[.int .i64 (D.size : Nat), .int .i64 (D.count : Nat), .map (some mk), .map (some mw), .bool D.off, .int .i64 D.offs, .bool (decide (0 ≤ D.fuse)), .int .i64 fz, .int .u64 D.writes] 108 :: mrow mk lk ck :: mrow mw (mput lw i (.agg #[.slice A1 D.size c1, .bool false]) cw) (if mhas lw i then cw else cw + 1) :: (X1 ++ Y) := ⟨_, rfl⟩
      have K2 : Known w0 w1 (X2 ++ L) := by
        rw [hX2]
        have K3 : Known w0 w1 (row g #[.int .i64 (D.size : Nat), .int .i64 (D.count : Nat), .map (some mk), .map (some mw), .bool D.off, .int .i64 D.offs, .bool (decide (0 ≤ D.fuse)), .int .i64 fz, .int .u64 D.writes] 108 :: mrow mk lk ck :: mrow mw (mput lw i (.agg #[.slice A1 D.size c1, .bool false]) cw) (if mhas lw i then cw else cw + 1) :: (X1 ++ (Y ++ L))) := K.cov (by repeat (first | with_reducible exact Cov.all _ | with_reducible exact Cov.left _ _ | with_reducible exact Cov.nil _ | (with_reducible apply Cov.app; (· repeat (first | with_reducible exact Sel.nil _ | with_reducible exact Sel.ap _ _ | with_reducible exact Sel.hd _ _ | with_reducible exact Sel.all _ | with_reducible apply Sel.tl | with_reducible apply Sel.sk))) | (with_reducible apply Cov.cons; (· repeat (first | with_reducible exact Sel.nil _ | with_reducible exact Sel.ap _ _ | with_reducible exact Sel.hd _ _ | with_reducible exact Sel.all _ | with_reducible apply Sel.tl | with_reducible apply Sel.sk))) | with_reducible refine Cov.drop _ ?_ | with_reducible refine Cov.skip _ ?_))
        simpa only [List.cons_append, List.append_assoc] using K3
      rw [← hX2] at HD2
      clear K hX2 HW2 O HK HW hfz hD HD HK0 hHeld
      have K := K2
      clear K2
      obtain ⟨D2, hD2⟩ : ∃ D2, D2 = dput D i xs := ⟨_, rfl⟩
      have HE2 := Lib.hid hD2
      rw [← hD2] at HD2 HWR HP
      have ho2 : D2.offs < 1000000000000 := by rw [hD2]; exact ho
      have hw2 : D2.writes = D.writes := by rw [hD2]; rfl
      have HW2 := Lib.hid hw2
      have hfu : D2.fuse = D.fuse := by rw [hD2]; rfl
      by_cases hf : D.fuse = 0
      · have HB := Lib.hid (show decide (D2.fuse = 0) = true by rw [hfu]; exact decide_eq_true hf)
        rw [if_pos hf] at HWR
        have HBE := Lib.hid (dburn_id (D := D2) (by rw [hfu]; omega))
        clear hf hw2 hfu hD2
        go_wp2_with (first | (go_at_call 72; (with_reducible refine (sburns_any K HD2).mono ?_); clear K; rintro e w1 ⟨rfl, X3, HD3, K⟩; rw [HB.out]; rw [HBE.out] at HD3) | (go_at_call 33; (with_reducible refine (soff_any K HD3 ho2).mono ?_); clear K; rintro e w1 ⟨rfl, X4, HD4, K⟩))
        go_ret
        exact ⟨by rw [HWR.out]; rfl, X4, by rw [HWR.out]; exact HD4, K⟩
      · have HB := Lib.hid (show decide (D2.fuse = 0) = false by rw [hfu]; exact decide_eq_false hf)
        rw [if_neg hf] at HWR
        clear hf hw2 hfu hD2
        go_upto_region 10 with ((first | (go_at_call 72; (with_reducible refine (sburns_any K HD2).mono ?_); clear K; rintro e w1 ⟨rfl, X3, HD3, K⟩; rw [HB.out])))
        obtain ⟨mk, mw, lk, ck, lw, cw, fz, Y, rfl, hfz, HK, HW⟩ := HD3.out
        have e1 : (dburn D2).writes = D.writes := HW2.out
        rw [e1] at K
        simp only [List.cons_append] at K
        go_wp2_with (first | ((with_reducible refine at_eqnil rfl ?_); refine wpList_reads rfl (kr_eqnil rfl rfl (by kernel_rfl)) ?_) | ((with_reducible refine at_box rfl ?_); refine wpList_does rfl (kd_box K _ _ rfl (by conv => lhs; whnf)) ?_; clear K; rintro _ w1 ⟨g, rfl, K⟩; (try dsimp only [Value.cells] at K)) | ((with_reducible refine at_alloc rfl ?_); refine wpList_does rfl (kd_alloc K _ rfl rfl) ?_; clear K; rintro _ w1 ⟨g, rfl, K⟩; (try dsimp only [Value.cells] at K)) | ((with_reducible refine at_buildSlice rfl ?_); refine wpList_does rfl (kd_lits (cs := _) K _ _ _ rfl (by first | rfl | (go_simp; done) | (go_simp; rfl)) (by first | rfl | (go_simp; done) | (go_simp; rfl))) ?_; clear K; rintro _ w1 ⟨g, rfl, K⟩) | ((with_reducible refine at_load rfl ?_); first | (refine wpList_reads (by rfl) (kr_load_cell K _ _ (by rfl) (by rfl) (by repeat (first | with_reducible exact Has.hd _ _ | with_reducible refine Has.tl _ ?_ | with_reducible refine Has.ap _ ?_)) (by decide +kernel) (by (try simp only [List.getElem?_toArray, List.getElem?_cons_succ, List.getElem?_cons_zero]); exact rfl)) ?_) | (refine wpList_reads (by rfl) (kr_load_row K _ _ (by rfl) (by rfl) (by repeat (first | with_reducible exact Has.hd _ _ | with_reducible refine Has.tl _ ?_ | with_reducible refine Has.ap _ ?_)) (by decide +kernel) (by kernel_rfl)) ?_)) | ((with_reducible refine at_store rfl ?_); (first | (refine wpList_does rfl (kd_store_cell K _ _ _ rfl rfl (by conv => lhs; whnf) (by repeat (first | with_reducible exact Repl.hd _ _ _ | with_reducible apply Repl.tl | with_reducible apply Repl.ap)) rfl rfl (by kernel_rfl) (by kernel_rfl) (by first | (simp only [List.setIfInBounds_toArray, List.set_cons_succ, List.set_cons_zero]; rfl) | rfl)) ?_) | (refine wpList_does rfl (kd_store_row K _ _ _ rfl rfl rfl (by repeat (first | with_reducible exact Repl.hd _ _ _ | with_reducible apply Repl.tl | with_reducible apply Repl.ap)) (by kernel_rfl) (by kernel_rfl) (by kernel_rfl)) ?_)); clear K; intro _ w1 K; (try simp only [Act.put])))
        go_ret
        exact ⟨by rw [HWR.out]; rfl, _, ⟨⟨mk, mw, lk, ck, lw, cw, fz, Y, rfl, by rw [HWR.out]; exact hfz, by rw [HWR.out]; exact HK, by rw [HWR.out]; exact HW⟩, HOKW.out⟩, by rw [HWR.out]; exact K⟩
    · have hl2 : ((n : Int) != (D.size : Int)) = true := by simp; omega
      have HWR := Lib.hid (show dwrite D i xs = (3, D) by rw [dwrite, if_neg (by omega), if_pos (by omega)])
      clear hm hl hxl
      go_enter Try.func36, Try.ntmps36
      go_wp2_with (first | (go_at_call 70; (with_reducible refine (HM.out).mono ?_); rintro e w' ⟨rfl, rfl⟩) | ((with_reducible refine at_eqnil rfl ?_); refine wpList_reads rfl (kr_eqnil rfl rfl (by kernel_rfl)) ?_) | ((with_reducible refine at_box rfl ?_); refine wpList_does rfl (kd_box K _ _ rfl (by conv => lhs; whnf)) ?_; clear K; rintro _ w1 ⟨g, rfl, K⟩; (try dsimp only [Value.cells] at K)) | ((with_reducible refine at_alloc rfl ?_); refine wpList_does rfl (kd_alloc K _ rfl rfl) ?_; clear K; rintro _ w1 ⟨g, rfl, K⟩; (try dsimp only [Value.cells] at K)) | ((with_reducible refine at_buildSlice rfl ?_); refine wpList_does rfl (kd_lits (cs := _) K _ _ _ rfl (by first | rfl | (go_simp; done) | (go_simp; rfl)) (by first | rfl | (go_simp; done) | (go_simp; rfl))) ?_; clear K; rintro _ w1 ⟨g, rfl, K⟩) | ((with_reducible refine at_load rfl ?_); first | (refine wpList_reads (by rfl) (kr_load_cell K _ _ (by rfl) (by rfl) (by repeat (first | with_reducible exact Has.hd _ _ | with_reducible refine Has.tl _ ?_ | with_reducible refine Has.ap _ ?_)) (by decide +kernel) (by (try simp only [List.getElem?_toArray, List.getElem?_cons_succ, List.getElem?_cons_zero]); exact rfl)) ?_) | (refine wpList_reads (by rfl) (kr_load_row K _ _ (by rfl) (by rfl) (by repeat (first | with_reducible exact Has.hd _ _ | with_reducible refine Has.tl _ ?_ | with_reducible refine Has.ap _ ?_)) (by decide +kernel) (by kernel_rfl)) ?_)) | ((with_reducible refine at_store rfl ?_); (first | (refine wpList_does rfl (kd_store_cell K _ _ _ rfl rfl (by conv => lhs; whnf) (by repeat (first | with_reducible exact Repl.hd _ _ _ | with_reducible apply Repl.tl | with_reducible apply Repl.ap)) rfl rfl (by kernel_rfl) (by kernel_rfl) (by first | (simp only [List.setIfInBounds_toArray, List.set_cons_succ, List.set_cons_zero]; rfl) | rfl)) ?_) | (refine wpList_does rfl (kd_store_row K _ _ _ rfl rfl rfl (by repeat (first | with_reducible exact Repl.hd _ _ _ | with_reducible apply Repl.tl | with_reducible apply Repl.ap)) (by kernel_rfl) (by kernel_rfl) (by kernel_rfl)) ?_)); clear K; intro _ w1 K; (try simp only [Act.put])))
      go_ret
      exact ⟨by rw [HWR.out]; rfl, _, by rw [HWR.out]; exact HD.out, HK0.out⟩
  · have HWR := Lib.hid (show dwrite D i xs = (dmay D i, D) by rw [dwrite, if_pos hm])
    have hm2 : (dmay D i != 0) = true := by simpa using hm
    obtain ⟨m, hme⟩ : ∃ m, m = dmay D i := ⟨_, rfl⟩
    rw [← hme] at HM hm2 HWR
    clear hm hme
    go_enter Try.func36, Try.ntmps36
    go_wp2_with (first | (go_at_call 70; (with_reducible refine (HM.out).mono ?_); rintro e w' ⟨rfl, rfl⟩) | ((with_reducible refine at_eqnil rfl ?_); refine wpList_reads rfl (kr_eqnil rfl rfl (by kernel_rfl)) ?_) | ((with_reducible refine at_box rfl ?_); refine wpList_does rfl (kd_box K _ _ rfl (by conv => lhs; whnf)) ?_; clear K; rintro _ w1 ⟨g, rfl, K⟩; (try dsimp only [Value.cells] at K)) | ((with_reducible refine at_alloc rfl ?_); refine wpList_does rfl (kd_alloc K _ rfl rfl) ?_; clear K; rintro _ w1 ⟨g, rfl, K⟩; (try dsimp only [Value.cells] at K)) | ((with_reducible refine at_buildSlice rfl ?_); refine wpList_does rfl (kd_lits (cs := _) K _ _ _ rfl (by first | rfl | (go_simp; done) | (go_simp; rfl)) (by first | rfl | (go_simp; done) | (go_simp; rfl))) ?_; clear K; rintro _ w1 ⟨g, rfl, K⟩) | ((with_reducible refine at_load rfl ?_); first | (refine wpList_reads (by rfl) (kr_load_cell K _ _ (by rfl) (by rfl) (by repeat (first | with_reducible exact Has.hd _ _ | with_reducible refine Has.tl _ ?_ | with_reducible refine Has.ap _ ?_)) (by decide +kernel) (by (try simp only [List.getElem?_toArray, List.getElem?_cons_succ, List.getElem?_cons_zero]); exact rfl)) ?_) | (refine wpList_reads (by rfl) (kr_load_row K _ _ (by rfl) (by rfl) (by repeat (first | with_reducible exact Has.hd _ _ | with_reducible refine Has.tl _ ?_ | with_reducible refine Has.ap _ ?_)) (by decide +kernel) (by kernel_rfl)) ?_)) | ((with_reducible refine at_store rfl ?_); (first | (refine wpList_does rfl (kd_store_cell K _ _ _ rfl rfl (by conv => lhs; whnf) (by repeat (first | with_reducible exact Repl.hd _ _ _ | with_reducible apply Repl.tl | with_reducible apply Repl.ap)) rfl rfl (by kernel_rfl) (by kernel_rfl) (by first | (simp only [List.setIfInBounds_toArray, List.set_cons_succ, List.set_cons_zero]; rfl) | rfl)) ?_) | (refine wpList_does rfl (kd_store_row K _ _ _ rfl rfl rfl (by repeat (first | with_reducible exact Repl.hd _ _ _ | with_reducible apply Repl.tl | with_reducible apply Repl.ap)) (by kernel_rfl) (by kernel_rfl) (by kernel_rfl)) ?_)); clear K; intro _ w1 K; (try simp only [Act.put])))
    go_ret
    exact ⟨by rw [HWR.out]; rfl, _, by rw [HWR.out]; exact HD.out, HK0.out⟩
end
end Go.Proofs.Ytokbloddaoakgaa
