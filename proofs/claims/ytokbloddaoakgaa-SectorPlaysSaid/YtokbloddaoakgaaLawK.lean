/-
  drogherlaw06: SectorPlays (walk).
-/
import Derived.Test.YtokbloddaoakgaaLawJ
set_option linter.unusedVariables false
set_option linter.unusedSimpArgs false
namespace Go.Proofs.Ytokbloddaoakgaa
open Go.RowKit
theorem devNew_ref (w0 : World) (s c : Nat) (h1 : 128 ≤ s ∧ s ≤ 4096) (h2 : 1 ≤ c ∧ c ≤ 1048576) : RefIs w0 [] (Dev.new s c) none 0 0 none 0 0 :=
  ⟨RdM.nil _ _ _ _ _, RdM.nil _ _ _ _ _, Nat.le_refl _, Nat.le_refl _, devNew_ok h1 h2⟩
theorem greatB_no {l : List Stp} (h : greatB l = false) : l.length ≤ 60 ∧ ∀ s ∈ l, s.n ≤ 60 := by
  simp only [greatB, Bool.or_eq_false_iff, decide_eq_false_iff_not, List.any_eq_false, decide_eq_true_eq] at h
  exact ⟨by omega, fun s hs => by have := h.2 s hs; omega⟩

section
variable {w0 w : World} {L : List Ent} {A : Option Addr} {n cc : Nat} {l : List Stp}
set_option maxHeartbeats 3200000 in
set_option maxRecDepth 100000 in
theorem sectorPlays_any (K : Known w0 w L) (size count : Int) (R : RdM w0 [] stC 5 A n l) (hc : n ≤ cc) (hs : ∀ s ∈ l, StOk w0 s) : Calls Try.prog 11 #[.int .i64 size, .int .i64 count, .slice A n cc] w fun e w' => e = .returned (.bool true) ∧ Known w0 w' L := by
  by_cases a1 : size < 128
  · have b1 : decide (size < 128) = true := decide_eq_true a1
    have HB := Lib.hid (show ¬ ((128 ≤ size ∧ size ≤ 4096) ∧ 1 ≤ count ∧ count ≤ 1048576) by omega)
    go_enter Try.func11, Try.ntmps11
    go_wp2_with (first | (go_at_call 21; (with_reducible refine (snew_no K _ _ HB.out).mono ?_); clear K; rintro e w1 ⟨rfl, K⟩) | (go_at_call 31; (with_reducible refine (awake06K K).mono ?_); clear K; rintro e w1 ⟨rfl, K⟩))
    go_ret
    exact ⟨rfl, K⟩
  · have b1 : decide (size < 128) = false := decide_eq_false a1
    by_cases a2 : 4096 < size
    · have b2 : decide (4096 < size) = true := decide_eq_true a2
      have HB := Lib.hid (show ¬ ((128 ≤ size ∧ size ≤ 4096) ∧ 1 ≤ count ∧ count ≤ 1048576) by omega)
      go_enter Try.func11, Try.ntmps11
      go_wp2_with (first | (go_at_call 21; (with_reducible refine (snew_no K _ _ HB.out).mono ?_); clear K; rintro e w1 ⟨rfl, K⟩) | (go_at_call 31; (with_reducible refine (awake06K K).mono ?_); clear K; rintro e w1 ⟨rfl, K⟩))
      go_ret
      exact ⟨rfl, K⟩
    · have b2 : decide (4096 < size) = false := decide_eq_false a2
      by_cases a3 : count < 1
      · have b3 : decide (count < 1) = true := decide_eq_true a3
        have HB := Lib.hid (show ¬ ((128 ≤ size ∧ size ≤ 4096) ∧ 1 ≤ count ∧ count ≤ 1048576) by omega)
        go_enter Try.func11, Try.ntmps11
        go_wp2_with (first | (go_at_call 21; (with_reducible refine (snew_no K _ _ HB.out).mono ?_); clear K; rintro e w1 ⟨rfl, K⟩) | (go_at_call 31; (with_reducible refine (awake06K K).mono ?_); clear K; rintro e w1 ⟨rfl, K⟩))
        go_ret
        exact ⟨rfl, K⟩
      · have b3 : decide (count < 1) = false := decide_eq_false a3
        by_cases a4 : 1048576 < count
        · have b4 : decide (1048576 < count) = true := decide_eq_true a4
          have HB := Lib.hid (show ¬ ((128 ≤ size ∧ size ≤ 4096) ∧ 1 ≤ count ∧ count ≤ 1048576) by omega)
          go_enter Try.func11, Try.ntmps11
          go_wp2_with (first | (go_at_call 21; (with_reducible refine (snew_no K _ _ HB.out).mono ?_); clear K; rintro e w1 ⟨rfl, K⟩) | (go_at_call 31; (with_reducible refine (awake06K K).mono ?_); clear K; rintro e w1 ⟨rfl, K⟩))
          go_ret
          exact ⟨rfl, K⟩
        · have b4 : decide (1048576 < count) = false := decide_eq_false a4
          obtain ⟨s, rfl⟩ : ∃ s : Nat, size = s := ⟨size.toNat, by omega⟩
          obtain ⟨c, rfl⟩ : ∃ c : Nat, count = c := ⟨count.toNat, by omega⟩
          have h1 : 128 ≤ s ∧ s ≤ 4096 := by omega
          have h2 : 1 ≤ c ∧ c ≤ 1048576 := by omega
          cases hg : greatB l
          · have HG := Lib.hid hg
            have hgn := greatB_no hg
            have hl := R.len
            clear hg a1 a2 a3 a4
            go_enter Try.func11, Try.ntmps11
            go_upto_region 10 with ((first | (go_at_call 21; (with_reducible refine (snew_yes K s c h1 h2).mono ?_); clear K; rintro e w1 ⟨gv, rfl, X, HD, K⟩) | (go_at_call 46; (with_reducible refine (rnew_any K _ _).mono ?_); clear K; rintro e w1 ⟨rfl, K⟩) | (go_at_call 44; (with_reducible refine (sgreat_any (K.cov (Cov.all _)) (R.cov (Cov.nil _)) hc).mono ?_); rintro e w9 ⟨rfl, rfl⟩; rw [HG.out]) | (go_at_call 42; (with_reducible refine (ssize_any K HD).mono ?_); rintro e w' ⟨rfl, rfl⟩; rw [show (Dev.new s c).size = s from rfl]) | (go_at_call 43; (with_reducible refine (scount_any K HD).mono ?_); rintro e w' ⟨rfl, rfl⟩; rw [show (Dev.new s c).count = c from rfl]) | ((with_reducible refine at_slot (N := 9) rfl ?_); (with_reducible refine at_alloc rfl ?_); refine wpList_does rfl (kd_alloc K _ rfl rfl) ?_; clear K; rintro _ w1 ⟨gm, rfl, K⟩; (try dsimp only [Value.cells] at K)) | ((with_reducible refine at_eqnil rfl ?_); refine wpList_reads rfl (kr_eqnil rfl rfl (by kernel_rfl)) ?_) | ((with_reducible refine at_box rfl ?_); refine wpList_does rfl (kd_box K _ _ rfl (by conv => lhs; whnf)) ?_; clear K; rintro _ w1 ⟨g, rfl, K⟩; (try dsimp only [Value.cells] at K)) | ((with_reducible refine at_alloc rfl ?_); refine wpList_does rfl (kd_alloc K _ rfl rfl) ?_; clear K; rintro _ w1 ⟨g, rfl, K⟩; (try dsimp only [Value.cells] at K)) | ((with_reducible refine at_buildSlice rfl ?_); refine wpList_does rfl (kd_lits (cs := _) K _ _ _ rfl (by first | rfl | (go_simp; done) | (go_simp; rfl)) (by first | rfl | (go_simp; done) | (go_simp; rfl))) ?_; clear K; rintro _ w1 ⟨g, rfl, K⟩) | ((with_reducible refine at_load rfl ?_); first | (refine wpList_reads (by rfl) (kr_load_cell K _ _ (by rfl) (by rfl) (by repeat (first | with_reducible exact Has.hd _ _ | with_reducible refine Has.tl _ ?_ | with_reducible refine Has.ap _ ?_)) (by decide +kernel) (by (try simp only [List.getElem?_toArray, List.getElem?_cons_succ, List.getElem?_cons_zero]); exact rfl)) ?_) | (refine wpList_reads (by rfl) (kr_load_row K _ _ (by rfl) (by rfl) (by repeat (first | with_reducible exact Has.hd _ _ | with_reducible refine Has.tl _ ?_ | with_reducible refine Has.ap _ ?_)) (by decide +kernel) (by kernel_rfl)) ?_)) | ((with_reducible refine at_store rfl ?_); (first | (refine wpList_does rfl (kd_store_cell K _ _ _ rfl rfl (by conv => lhs; whnf) (by repeat (first | with_reducible exact Repl.hd _ _ _ | with_reducible apply Repl.tl | with_reducible apply Repl.ap)) rfl rfl (by kernel_rfl) (by kernel_rfl) (by first | (simp only [List.setIfInBounds_toArray, List.set_cons_succ, List.set_cons_zero]; rfl) | rfl)) ?_) | (refine wpList_does rfl (kd_store_row K _ _ _ rfl rfl rfl (by repeat (first | with_reducible exact Repl.hd _ _ _ | with_reducible apply Repl.tl | with_reducible apply Repl.ap)) (by kernel_rfl) (by kernel_rfl) (by kernel_rfl)) ?_)); clear K; intro _ w1 K; (try simp only [Act.put]))))
            clear hc
            go_loopg [10] n (fun q v wr => ∃ (j : Nat) (D : Dev) (X Z : List Ent) (A1 : Option Addr) (n1 c1 : Nat) (B1 : Option Addr) (m1 d1 : Nat), v = .int .i64 j ∧ j + q = n ∧ D.offs ≤ j ∧ D.writes ≤ j ∧ DevIs w0 gv D X ∧ RefIs w0 Z D A1 n1 c1 B1 m1 d1 ∧ Known w0 wr (X ++ (Z ++ (row gm #[.int .i64 ((D).size : Nat), .int .i64 ((D).count : Nat), .slice A1 n1 c1, .slice B1 m1 d1, .bool (D).off, .int .i64 (D).offs, .int .i64 (D).fuse, .int .u64 (D).writes] 70 :: L))))
            case atStart => exact ⟨0, Dev.new s c, X, [], _, _, _, _, _, _, by go_num, by omega, Int.le_refl _, Int.le_refl _, HD, devNew_ref w0 s c h1 h2, by have K2 : Known w0 w1 (X ++ (row gm #[.int .i64 (s : Nat), .int .i64 (c : Nat), .slice none 0 0, .slice none 0 0, .bool false, .int .i64 0, .int .i64 (-1), .int .u64 0] 70 :: L)) := K.cov (by repeat (first | with_reducible exact Cov.all _ | with_reducible exact Cov.left _ _ | with_reducible exact Cov.nil _ | (with_reducible apply Cov.app; (· repeat (first | with_reducible exact Sel.nil _ | with_reducible exact Sel.ap _ _ | with_reducible exact Sel.hd _ _ | with_reducible exact Sel.all _ | with_reducible apply Sel.tl | with_reducible apply Sel.sk))) | (with_reducible apply Cov.cons; (· repeat (first | with_reducible exact Sel.nil _ | with_reducible exact Sel.ap _ _ | with_reducible exact Sel.hd _ _ | with_reducible exact Sel.all _ | with_reducible apply Sel.tl | with_reducible apply Sel.sk))) | with_reducible refine Cov.drop _ ?_ | with_reducible refine Cov.skip _ ?_)); exact K2⟩
            case round =>
              clear K HD
              obtain ⟨j, D, X, Z, A1, n1, c1, B1, m1, d1, rfl, hd, ho, hw, hD, HR, K⟩ := hrel
              by_cases hj : j < n
              · have hj2 : decide ((j : Int) < (n : Int)) = true := decide_eq_true (by omega)
                have hjj : (0 : Int) ≤ (j : Int) ∧ (j : Int) < (n : Int) := by omega
                have i1 := IntWalk.i64_in ((j : Int) + 1) (by omega)
                obtain ⟨b, off, rfl⟩ := R.form (K.cov (by repeat (first | with_reducible exact Cov.all _ | with_reducible exact Cov.left _ _ | with_reducible exact Cov.nil _ | (with_reducible apply Cov.app; (· repeat (first | with_reducible exact Sel.nil _ | with_reducible exact Sel.ap _ _ | with_reducible exact Sel.hd _ _ | with_reducible exact Sel.all _ | with_reducible apply Sel.tl | with_reducible apply Sel.sk))) | (with_reducible apply Cov.cons; (· repeat (first | with_reducible exact Sel.nil _ | with_reducible exact Sel.ap _ _ | with_reducible exact Sel.hd _ _ | with_reducible exact Sel.all _ | with_reducible apply Sel.tl | with_reducible apply Sel.sk))) | with_reducible refine Cov.drop _ ?_ | with_reducible refine Cov.skip _ ?_))) (by omega)
                obtain ⟨p, hp⟩ : ∃ p, p = l[j]'(by omega) := ⟨_, rfl⟩
                have HP := Lib.hid (show encAt stC l j = [.int .i64 p.kind, .int .i64 p.i, .int .u8 p.b, .bool p.long, .slice p.A p.n p.c] by rw [encAt_get (by omega), ← hp]; rfl)
                have hpm : p ∈ l := by rw [hp]; exact List.getElem_mem _
                have HSO := Lib.hid (hs p hpm)
                have hpn := hgn.2 p hpm
                have HOF := Lib.hid (sdo_offs D p)
                clear hp
                go_upto_region 12 with (fail)
                refine wp_region_GK (X := (Z ++ (row gm #[.int .i64 ((D).size : Nat), .int .i64 ((D).count : Nat), .slice A1 n1 c1, .slice B1 m1 d1, .bool (D).off, .int .i64 (D).offs, .int .i64 (D).fuse, .int .u64 (D).writes] 70 :: L))) K (by repeat (first | with_reducible exact Cov.all _ | with_reducible exact Cov.left _ _ | with_reducible exact Cov.nil _ | (with_reducible apply Cov.app; (· repeat (first | with_reducible exact Sel.nil _ | with_reducible exact Sel.ap _ _ | with_reducible exact Sel.hd _ _ | with_reducible exact Sel.all _ | with_reducible apply Sel.tl | with_reducible apply Sel.sk))) | (with_reducible apply Cov.cons; (· repeat (first | with_reducible exact Sel.nil _ | with_reducible exact Sel.ap _ _ | with_reducible exact Sel.hd _ _ | with_reducible exact Sel.all _ | with_reducible apply Sel.tl | with_reducible apply Sel.sk))) | with_reducible refine Cov.drop _ ?_ | with_reducible refine Cov.skip _ ?_)) (by kernel_rfl) (by kernel_rfl) (by kernel_rfl) (fun K hHeld => ?_)
                refine wpG_take (i := 0) (x := { dst := some 73, op := Op.move (Operand.tmp 7), type := 36, pos := "law.go:104", after := #[], guard := none }) (v := ?_) rfl (by kernel_rfl) (fun _ _ _ h => h) (Or.inl ⟨by rfl, ?_⟩) hHeld ?_
                rotate_left
                · (intro w hS; (clear hS; go_simp); try with_reducible rfl)
                try simp only [Act.put, List.setIfInBounds_toArray, List.set_cons_zero, List.set_cons_succ]
                refine wpG_take (i := 1) (x := { dst := some 74, op := Op.load 70 (Operand.tmp 9), type := 70, pos := "law.go:104", after := #[], guard := none }) (v := .agg #[.int .i64 ((D).size : Nat), .int .i64 ((D).count : Nat), .slice A1 n1 c1, .slice B1 m1 d1, .bool (D).off, .int .i64 (D).offs, .int .i64 (D).fuse, .int .u64 (D).writes]) rfl (by kernel_rfl) (fun _ _ _ h => h) (Or.inl ⟨by rfl, ?_⟩) hHeld ?_
                · (intro w hS; first | exact kr_load_row hS _ _ (by rfl) (by rfl) (by repeat (first | with_reducible exact Has.hd _ _ | with_reducible refine Has.tl _ ?_ | with_reducible refine Has.ap _ ?_)) (by kernel_rfl) (by kernel_rfl))
                try simp only [Act.put, List.setIfInBounds_toArray, List.set_cons_zero, List.set_cons_succ]
                refine wpG_take (i := 2) (x := { dst := some 75, op := Op.move (Operand.tmp 2), type := 63, pos := "law.go:104", after := #[], guard := none }) (v := ?_) rfl (by kernel_rfl) (fun _ _ _ h => h) (Or.inl ⟨by rfl, ?_⟩) hHeld ?_
                rotate_left
                · (intro w hS; (clear hS; go_simp); try with_reducible rfl)
                try simp only [Act.put, List.setIfInBounds_toArray, List.set_cons_zero, List.set_cons_succ]
                refine wpG_take (i := 3) (x := { dst := some 76, op := Op.move (Operand.tmp 10), type := 3, pos := "law.go:104", after := #[], guard := none }) (v := ?_) rfl (by kernel_rfl) (fun _ _ _ h => h) (Or.inl ⟨by rfl, ?_⟩) hHeld ?_
                rotate_left
                · (intro w hS; (clear hS; go_simp); try with_reducible rfl)
                try simp only [Act.put, List.setIfInBounds_toArray, List.set_cons_zero, List.set_cons_succ]
                refine wpG_take (i := 4) (x := { dst := some 77, op := Op.indexAddr 63 (Operand.tmp 75) (Operand.tmp 76), type := 0, pos := "law.go:104", after := #[{ on := 2, ground := Ground.data }, { on := 3, ground := Ground.data }], guard := none }) (v := ?_) rfl (by kernel_rfl) (fun _ _ _ h => h) (Or.inl ⟨by rfl, ?_⟩) hHeld ?_
                rotate_left
                · (intro w hS; (clear hS; go_simp); try with_reducible rfl)
                try simp only [Act.put, List.setIfInBounds_toArray, List.set_cons_zero, List.set_cons_succ]
                refine wpG_take (i := 5) (x := { dst := some 78, op := Op.load 67 (Operand.tmp 77), type := 67, pos := "law.go:104", after := #[{ on := 4, ground := Ground.data }], guard := none }) (v := .agg #[.int .i64 p.kind, .int .i64 p.i, .int .u8 p.b, .bool p.long, .slice p.A p.n p.c]) rfl (by kernel_rfl) (fun _ _ _ h => h) (Or.inl ⟨by rfl, ?_⟩) hHeld ?_
                · (intro w hS; first | exact kr_load_rec hS _ _ (by rfl) (j) [.int .i64 p.kind, .int .i64 p.i, .int .u8 p.b, .bool p.long, .slice p.A p.n p.c] (by rfl) (R.cov (Cov.nil _)) (by omega) HP.out (by omega) (by kernel_rfl) (by kernel_rfl) (by rfl))
                try simp only [Act.put, List.setIfInBounds_toArray, List.set_cons_zero, List.set_cons_succ]
                refine wpG_some (i := 6) (l := [10]) (by kernel_rfl) ?_
                refine AllG.cons (o := { dst := some 79, op := Op.call { callee := Callee.value (Operand.func 47), args := #[Operand.tmp 73, Operand.tmp 74, Operand.tmp 78], argTypes := #[36, 70, 67] }, type := 72, pos := "law.go:104", after := #[{ on := 0, ground := Ground.data }, { on := 1, ground := Ground.data }, { on := 5, ground := Ground.data }], guard := none }) rfl (fun K9 hK => ?_) ?_
                · skip
                  go_simp
                  (go_at_call 47; first | (with_reducible refine (sdoes_any (s := p) (L := (row gx #[.int .i64 0, .int .i64 0, .slice none 0 0, .slice none 0 0, .bool false, .int .i64 0, .int .i64 0, .int .u64 0] 70 :: (Z ++ (row gm #[.int .i64 ((D).size : Nat), .int .i64 ((D).count : Nat), .slice A1 n1 c1, .slice B1 m1 d1, .bool (D).off, .int .i64 (D).offs, .int .i64 (D).fuse, .int .u64 (D).writes] 70 :: L)))) (K.cov (by repeat (first | with_reducible exact Cov.all _ | with_reducible exact Cov.left _ _ | with_reducible exact Cov.nil _ | (with_reducible apply Cov.app; (· repeat (first | with_reducible exact Sel.nil _ | with_reducible exact Sel.ap _ _ | with_reducible exact Sel.hd _ _ | with_reducible exact Sel.all _ | with_reducible apply Sel.tl | with_reducible apply Sel.sk))) | (with_reducible apply Cov.cons; (· repeat (first | with_reducible exact Sel.nil _ | with_reducible exact Sel.ap _ _ | with_reducible exact Sel.hd _ _ | with_reducible exact Sel.all _ | with_reducible apply Sel.tl | with_reducible apply Sel.sk))) | with_reducible refine Cov.drop _ ?_ | with_reducible refine Cov.skip _ ?_))) hD HR (by repeat (first | with_reducible exact Cov.all _ | with_reducible exact Cov.left _ _ | with_reducible exact Cov.nil _ | (with_reducible apply Cov.app; (· repeat (first | with_reducible exact Sel.nil _ | with_reducible exact Sel.ap _ _ | with_reducible exact Sel.hd _ _ | with_reducible exact Sel.all _ | with_reducible apply Sel.tl | with_reducible apply Sel.sk))) | (with_reducible apply Cov.cons; (· repeat (first | with_reducible exact Sel.nil _ | with_reducible exact Sel.ap _ _ | with_reducible exact Sel.hd _ _ | with_reducible exact Sel.all _ | with_reducible apply Sel.tl | with_reducible apply Sel.sk))) | with_reducible refine Cov.drop _ ?_ | with_reducible refine Cov.skip _ ?_)) HSO.out (by omega) (by omega) (by omega)).mono ?_) | (with_reducible refine (sdoes_any (s := p) (L := (Z ++ (row gm #[.int .i64 ((D).size : Nat), .int .i64 ((D).count : Nat), .slice A1 n1 c1, .slice B1 m1 d1, .bool (D).off, .int .i64 (D).offs, .int .i64 (D).fuse, .int .u64 (D).writes] 70 :: L))) (K.cov (by repeat (first | with_reducible exact Cov.all _ | with_reducible exact Cov.left _ _ | with_reducible exact Cov.nil _ | (with_reducible apply Cov.app; (· repeat (first | with_reducible exact Sel.nil _ | with_reducible exact Sel.ap _ _ | with_reducible exact Sel.hd _ _ | with_reducible exact Sel.all _ | with_reducible apply Sel.tl | with_reducible apply Sel.sk))) | (with_reducible apply Cov.cons; (· repeat (first | with_reducible exact Sel.nil _ | with_reducible exact Sel.ap _ _ | with_reducible exact Sel.hd _ _ | with_reducible exact Sel.all _ | with_reducible apply Sel.tl | with_reducible apply Sel.sk))) | with_reducible refine Cov.drop _ ?_ | with_reducible refine Cov.skip _ ?_))) hD HR (by repeat (first | with_reducible exact Cov.all _ | with_reducible exact Cov.left _ _ | with_reducible exact Cov.nil _ | (with_reducible apply Cov.app; (· repeat (first | with_reducible exact Sel.nil _ | with_reducible exact Sel.ap _ _ | with_reducible exact Sel.hd _ _ | with_reducible exact Sel.all _ | with_reducible apply Sel.tl | with_reducible apply Sel.sk))) | (with_reducible apply Cov.cons; (· repeat (first | with_reducible exact Sel.nil _ | with_reducible exact Sel.ap _ _ | with_reducible exact Sel.hd _ _ | with_reducible exact Sel.all _ | with_reducible apply Sel.tl | with_reducible apply Sel.sk))) | with_reducible refine Cov.drop _ ?_ | with_reducible refine Cov.skip _ ?_)) HSO.out (by omega) (by omega) (by omega)).mono ?_)); clear K; rintro e w1 ⟨A3, n3, c3, B3, m3, d3, rfl, X2, Z2, HD2, HR2, K⟩
                  refine hK.out _ _ (K.cov (by repeat (first | with_reducible exact Cov.all _ | with_reducible exact Cov.left _ _ | with_reducible exact Cov.nil _ | (with_reducible apply Cov.app; (· repeat (first | with_reducible exact Sel.nil _ | with_reducible exact Sel.ap _ _ | with_reducible exact Sel.hd _ _ | with_reducible exact Sel.all _ | with_reducible apply Sel.tl | with_reducible apply Sel.sk))) | (with_reducible apply Cov.cons; (· repeat (first | with_reducible exact Sel.nil _ | with_reducible exact Sel.ap _ _ | with_reducible exact Sel.hd _ _ | with_reducible exact Sel.all _ | with_reducible apply Sel.tl | with_reducible apply Sel.sk))) | with_reducible refine Cov.drop _ ?_ | with_reducible refine Cov.skip _ ?_))) (fun hHeld => ?_)
                  clear hK K9
                  try simp only [Act.put, List.setIfInBounds_toArray, List.set_cons_zero, List.set_cons_succ]
                  refine wpG_take (i := 7) (x := { dst := some 72, op := Op.move (Operand.tmp 79), type := 72, pos := "law.go:104", after := #[{ on := 6, ground := Ground.data }], guard := none }) (v := ?_) rfl (by kernel_rfl) (fun _ _ _ h => h) (Or.inl ⟨by rfl, ?_⟩) hHeld ?_
                  rotate_left
                  · (intro w hS; (clear hS; go_simp); try with_reducible rfl)
                  try simp only [Act.put, List.setIfInBounds_toArray, List.set_cons_zero, List.set_cons_succ]
                  refine wpG_take (i := 8) (x := { dst := some 80, op := Op.extract (Operand.tmp 72) 0, type := 4, pos := "law.go:104", after := #[{ on := 7, ground := Ground.data }], guard := none }) (v := ?_) rfl (by kernel_rfl) (fun _ _ _ h => h) (Or.inl ⟨by rfl, ?_⟩) hHeld ?_
                  rotate_left
                  · (intro w hS; (clear hS; go_simp); try with_reducible rfl)
                  try simp only [Act.put, List.setIfInBounds_toArray, List.set_cons_zero, List.set_cons_succ]
                  refine wpG_take (i := 9) (x := { dst := some 81, op := Op.extract (Operand.tmp 72) 1, type := 70, pos := "law.go:104", after := #[{ on := 7, ground := Ground.data }, { on := 11, ground := Ground.gcOnly Departure.lateStores }], guard := none }) (v := ?_) rfl (by kernel_rfl) (fun _ _ _ h => h) (Or.inl ⟨by rfl, ?_⟩) hHeld ?_
                  rotate_left
                  · (intro w hS; (clear hS; go_simp); try with_reducible rfl)
                  try simp only [Act.put, List.setIfInBounds_toArray, List.set_cons_zero, List.set_cons_succ]
                  refine wpG_one (i := 10) (o := { dst := some 12, op := Op.alloc 70, type := 0, pos := "law.go:104", after := #[], guard := none }) rfl (by kernel_rfl) (fun K9 hK => ?_)
                  refine st_does (by rfl) (kd_alloc (z := (.agg #[.int .i64 0, .int .i64 0, .slice none 0 0, .slice none 0 0, .bool false, .int .i64 0, .int .i64 0, .int .u64 0])) K _ (by rfl) (by kernel_rfl)) ?_
                  clear K; rintro _ w1 ⟨gx, rfl, K⟩; (try dsimp only [Value.cells] at K)
                  refine hK.out _ _ (K.cov (by repeat (first | with_reducible exact Cov.all _ | with_reducible exact Cov.left _ _ | with_reducible exact Cov.nil _ | (with_reducible apply Cov.app; (· repeat (first | with_reducible exact Sel.nil _ | with_reducible exact Sel.ap _ _ | with_reducible exact Sel.hd _ _ | with_reducible exact Sel.all _ | with_reducible apply Sel.tl | with_reducible apply Sel.sk))) | (with_reducible apply Cov.cons; (· repeat (first | with_reducible exact Sel.nil _ | with_reducible exact Sel.ap _ _ | with_reducible exact Sel.hd _ _ | with_reducible exact Sel.all _ | with_reducible apply Sel.tl | with_reducible apply Sel.sk))) | with_reducible refine Cov.drop _ ?_ | with_reducible refine Cov.skip _ ?_))) (fun hHeld => ?_)
                  clear hK K9
                  try simp only [Act.put, List.setIfInBounds_toArray, List.set_cons_zero, List.set_cons_succ]
                  refine wpG_take (i := 11) (x := { dst := some 11, op := Op.assign (Operand.tmp 80), type := 4, pos := "law.go:104", after := #[{ on := 8, ground := Ground.data }, { on := 6, ground := Ground.chain }, { on := 0, ground := Ground.phase }, { on := 1, ground := Ground.phase }, { on := 2, ground := Ground.phase }, { on := 3, ground := Ground.phase }, { on := 4, ground := Ground.phase }, { on := 5, ground := Ground.phase }, { on := 6, ground := Ground.phase }, { on := 7, ground := Ground.phase }, { on := 8, ground := Ground.phase }, { on := 9, ground := Ground.textOnly Departure.lateStores }, { on := 10, ground := Ground.phase }], guard := none }) (v := ?_) rfl (by kernel_rfl) (fun _ _ _ h => h) (Or.inl ⟨by rfl, ?_⟩) hHeld ?_
                  rotate_left
                  · (intro w hS; (clear hS; go_simp); try with_reducible rfl)
                  try simp only [Act.put, List.setIfInBounds_toArray, List.set_cons_zero, List.set_cons_succ]
                  refine wpG_last (i := 12) (o := { dst := none, op := Op.store 70 (Operand.tmp 12) (Operand.tmp 81), type := 0, pos := "law.go:104", after := #[{ on := 10, ground := Ground.data }, { on := 9, ground := Ground.data }, { on := 11, ground := Ground.chain }, { on := 0, ground := Ground.phase }, { on := 1, ground := Ground.phase }, { on := 2, ground := Ground.phase }, { on := 3, ground := Ground.phase }, { on := 4, ground := Ground.phase }, { on := 5, ground := Ground.phase }, { on := 6, ground := Ground.phase }, { on := 7, ground := Ground.phase }, { on := 8, ground := Ground.phase }, { on := 9, ground := Ground.phase }, { on := 10, ground := Ground.phase }, { on := 11, ground := Ground.phase }], guard := none }) rfl (by kernel_rfl) (fun K9 hK => ?_)
                  (first | (refine st_does (by rfl) (kd_store_cell K _ _ _ (by rfl) (by rfl) (by conv => lhs; whnf) (by repeat (first | with_reducible exact Repl.hd _ _ _ | with_reducible apply Repl.tl | with_reducible apply Repl.ap)) (by rfl) (by rfl) (by kernel_rfl) (by kernel_rfl) (by first | (simp only [List.setIfInBounds_toArray, List.set_cons_succ, List.set_cons_zero]; rfl) | rfl)) ?_) | (refine st_does (by rfl) (kd_store_row K _ _ _ (by rfl) (by rfl) (by rfl) (by repeat (first | with_reducible exact Repl.hd _ _ _ | with_reducible apply Repl.tl | with_reducible apply Repl.ap)) (by kernel_rfl) (by kernel_rfl) (by kernel_rfl)) ?_))
                  clear K; intro _ w1 K
                  refine hK.out _ _ ?_
                  clear hK K9
                  try simp only [Act.put, List.setIfInBounds_toArray, List.set_cons_zero, List.set_cons_succ]
                  have hm3 := HR2.w.len
                  subst hm3
                  replace K : Known w0 _ (row gx #[.int .i64 (((sdo D p)).size : Nat), .int .i64 (((sdo D p)).count : Nat), .slice A3 n3 c3, .slice B3 (sdo D p).waits.length d3, .bool ((sdo D p)).off, .int .i64 ((sdo D p)).offs, .int .i64 ((sdo D p)).fuse, .int .u64 ((sdo D p)).writes] 70 :: (X2 ++ (Z2 ++ (Z ++ (row gm #[.int .i64 ((D).size : Nat), .int .i64 ((D).count : Nat), .slice A1 n1 c1, .slice B1 m1 d1, .bool (D).off, .int .i64 (D).offs, .int .i64 (D).fuse, .int .u64 (D).writes] 70 :: L))))) := K.cov (by repeat (first | with_reducible exact Cov.all _ | with_reducible exact Cov.left _ _ | with_reducible exact Cov.nil _ | (with_reducible apply Cov.app; (· repeat (first | with_reducible exact Sel.nil _ | with_reducible exact Sel.ap _ _ | with_reducible exact Sel.hd _ _ | with_reducible exact Sel.all _ | with_reducible apply Sel.tl | with_reducible apply Sel.sk))) | (with_reducible apply Cov.cons; (· repeat (first | with_reducible exact Sel.nil _ | with_reducible exact Sel.ap _ _ | with_reducible exact Sel.hd _ _ | with_reducible exact Sel.all _ | with_reducible apply Sel.tl | with_reducible apply Sel.sk))) | with_reducible refine Cov.drop _ ?_ | with_reducible refine Cov.skip _ ?_))
                  go_upto_region 14 with ((first | ((with_reducible refine at_eqnil rfl ?_); refine wpList_reads rfl (kr_eqnil rfl rfl (by kernel_rfl)) ?_) | ((with_reducible refine at_box rfl ?_); refine wpList_does rfl (kd_box K _ _ rfl (by conv => lhs; whnf)) ?_; clear K; rintro _ w1 ⟨g, rfl, K⟩; (try dsimp only [Value.cells] at K)) | ((with_reducible refine at_alloc rfl ?_); refine wpList_does rfl (kd_alloc K _ rfl rfl) ?_; clear K; rintro _ w1 ⟨g, rfl, K⟩; (try dsimp only [Value.cells] at K)) | ((with_reducible refine at_buildSlice rfl ?_); refine wpList_does rfl (kd_lits (cs := _) K _ _ _ rfl (by first | rfl | (go_simp; done) | (go_simp; rfl)) (by first | rfl | (go_simp; done) | (go_simp; rfl))) ?_; clear K; rintro _ w1 ⟨g, rfl, K⟩) | ((with_reducible refine at_load rfl ?_); first | (refine wpList_reads (by rfl) (kr_load_cell K _ _ (by rfl) (by rfl) (by repeat (first | with_reducible exact Has.hd _ _ | with_reducible refine Has.tl _ ?_ | with_reducible refine Has.ap _ ?_)) (by decide +kernel) (by (try simp only [List.getElem?_toArray, List.getElem?_cons_succ, List.getElem?_cons_zero]); exact rfl)) ?_) | (refine wpList_reads (by rfl) (kr_load_row K _ _ (by rfl) (by rfl) (by repeat (first | with_reducible exact Has.hd _ _ | with_reducible refine Has.tl _ ?_ | with_reducible refine Has.ap _ ?_)) (by decide +kernel) (by kernel_rfl)) ?_)) | ((with_reducible refine at_store rfl ?_); (first | (refine wpList_does rfl (kd_store_cell K _ _ _ rfl rfl (by conv => lhs; whnf) (by repeat (first | with_reducible exact Repl.hd _ _ _ | with_reducible apply Repl.tl | with_reducible apply Repl.ap)) rfl rfl (by kernel_rfl) (by kernel_rfl) (by first | (simp only [List.setIfInBounds_toArray, List.set_cons_succ, List.set_cons_zero]; rfl) | rfl)) ?_) | (refine wpList_does rfl (kd_store_row K _ _ _ rfl rfl rfl (by repeat (first | with_reducible exact Repl.hd _ _ _ | with_reducible apply Repl.tl | with_reducible apply Repl.ap)) (by kernel_rfl) (by kernel_rfl) (by kernel_rfl)) ?_)); clear K; intro _ w1 K; (try simp only [Act.put]))))
                  generalize hD2e : sdo D p = D2 at *
                  refine wp_region_QLK K (by kernel_rfl) (by kernel_rfl) ?_
                  clear K
                  refine wpQL_step (k := 0) (x := { dst := some 83, op := Op.move (Operand.tmp 11), type := 4, pos := "law.go:106", after := #[], guard := none }) (v := ?_) rfl (by kernel_rfl) (by rfl) ?_ ?_
                  rotate_left
                  · (intro w hS; refine quiet_value ?_; (clear hS; go_simp); try with_reducible rfl)
                  try simp only [Act.put, List.setIfInBounds_toArray, List.set_cons_zero, List.set_cons_succ]
                  refine wpQL_step (k := 1) (x := { dst := some 84, op := Op.unOp UnOp.not 4 (Operand.tmp 83), type := 4, pos := "law.go:106", after := #[{ on := 0, ground := Ground.data }], guard := none }) (v := ?_) rfl (by kernel_rfl) (by rfl) ?_ ?_
                  rotate_left
                  · (intro w hS; refine quiet_value ?_; (clear hS; go_simp); try with_reducible rfl)
                  try simp only [Act.put, List.setIfInBounds_toArray, List.set_cons_zero, List.set_cons_succ]
                  refine wpQL_step (k := 2) (x := { dst := some 85, op := Op.move (Operand.tmp 84), type := 4, pos := "law.go:106", after := #[{ on := 1, ground := Ground.data }], guard := none }) (v := ?_) rfl (by kernel_rfl) (by rfl) ?_ ?_
                  rotate_left
                  · (intro w hS; refine quiet_value ?_; (clear hS; go_simp); try with_reducible rfl)
                  try simp only [Act.put, List.setIfInBounds_toArray, List.set_cons_zero, List.set_cons_succ]
                  refine wpQL_step (k := 3) (x := { dst := some 86, op := Op.move (Operand.tmp 7), type := 36, pos := "law.go:106", after := #[{ on := 2, ground := Ground.guard }], guard := some (2, false) }) (v := ?_) rfl (by kernel_rfl) (by rfl) ?_ ?_
                  rotate_left
                  · (intro w hS; refine quiet_value ?_; (clear hS; go_simp); try with_reducible rfl)
                  try simp only [Act.put, List.setIfInBounds_toArray, List.set_cons_zero, List.set_cons_succ]
                  refine wpQL_step (k := 4) (x := { dst := some 87, op := Op.call { callee := Callee.value (Operand.func 38), args := #[Operand.tmp 86], argTypes := #[36] }, type := 4, pos := "law.go:106", after := #[{ on := 3, ground := Ground.data }, { on := 2, ground := Ground.chain }, { on := 2, ground := Ground.guard }], guard := some (2, false) }) (v := .bool (!D2.off)) rfl (by kernel_rfl) (by rfl) ?_ ?_
                  · intro w hS
                    refine quiet_call (f := 38) (args := ?_) ?_ ?_
                    rotate_left
                    · (go_simp; try with_reducible rfl)
                    · exact ((son_any (L := Z2 ++ (Z ++ (row gm #[.int .i64 ((D2).size : Nat), .int .i64 ((D2).count : Nat), .slice A3 n3 c3, .slice B3 D2.waits.length d3, .bool (D2).off, .int .i64 (D2).offs, .int .i64 (D2).fuse, .int .u64 (D2).writes] 70 :: L))) (hS.cov (by repeat (first | with_reducible exact Cov.all _ | with_reducible exact Cov.left _ _ | with_reducible exact Cov.nil _ | (with_reducible apply Cov.app; (· repeat (first | with_reducible exact Sel.nil _ | with_reducible exact Sel.ap _ _ | with_reducible exact Sel.hd _ _ | with_reducible exact Sel.all _ | with_reducible apply Sel.tl | with_reducible apply Sel.sk))) | (with_reducible apply Cov.cons; (· repeat (first | with_reducible exact Sel.nil _ | with_reducible exact Sel.ap _ _ | with_reducible exact Sel.hd _ _ | with_reducible exact Sel.all _ | with_reducible apply Sel.tl | with_reducible apply Sel.sk))) | with_reducible refine Cov.drop _ ?_ | with_reducible refine Cov.skip _ ?_))) HD2).mono fun e w' h => ⟨h.1, h.2 ▸ hS⟩)
                  try simp only [Act.put, List.setIfInBounds_toArray, List.set_cons_zero, List.set_cons_succ]
                  refine wpQL_step (k := 5) (x := { dst := some 88, op := Op.fieldAddr 70 (Operand.tmp 9) 4, type := 0, pos := "law.go:106", after := #[{ on := 2, ground := Ground.guard }], guard := some (2, false) }) (v := ?_) rfl (by kernel_rfl) (by rfl) ?_ ?_
                  rotate_left
                  · (intro w hS; refine quiet_value ?_; (clear hS; go_simp); try with_reducible rfl)
                  try simp only [Act.put, List.setIfInBounds_toArray, List.set_cons_zero, List.set_cons_succ]
                  refine wpQL_step (k := 6) (x := { dst := some 89, op := Op.load 4 (Operand.tmp 88), type := 4, pos := "law.go:106", after := #[{ on := 5, ground := Ground.data }, { on := 2, ground := Ground.guard }], guard := some (2, false) }) (v := .bool D2.off) rfl (by kernel_rfl) (by rfl) ?_ ?_
                  · (intro w hS; refine quiet_value ?_; first | exact kr_load_cell hS _ _ (by rfl) (by rfl) (by repeat (first | with_reducible exact Has.hd _ _ | with_reducible refine Has.tl _ ?_ | with_reducible refine Has.ap _ ?_)) (by kernel_rfl) (by rfl))
                  try simp only [Act.put, List.setIfInBounds_toArray, List.set_cons_zero, List.set_cons_succ]
                  refine wpQL_step (k := 7) (x := { dst := some 90, op := Op.binOp BinOp.eql 4 (Operand.tmp 87) (Operand.tmp 89) 4, type := 4, pos := "law.go:106", after := #[{ on := 4, ground := Ground.data }, { on := 6, ground := Ground.data }, { on := 2, ground := Ground.guard }], guard := some (2, false) }) (v := ?_) rfl (by kernel_rfl) (by rfl) ?_ ?_
                  rotate_left
                  · (intro w hS; refine quiet_value ?_; (clear hS; go_simp); try with_reducible rfl)
                  try simp only [Act.put, List.setIfInBounds_toArray, List.set_cons_zero, List.set_cons_succ]
                  refine wpQL_step (k := 8) (x := { dst := some 91, op := Op.pick (Operand.tmp 85) (Operand.const (Value.bool true)) (Operand.tmp 90), type := 4, pos := "law.go:106", after := #[{ on := 2, ground := Ground.data }, { on := 7, ground := Ground.data }], guard := none }) (v := ?_) rfl (by kernel_rfl) (by rfl) ?_ ?_
                  rotate_left
                  · (intro w hS; refine quiet_value ?_; (clear hS; go_simp); try with_reducible rfl)
                  try simp only [Act.put, List.setIfInBounds_toArray, List.set_cons_zero, List.set_cons_succ]
                  refine wpQL_step (k := 9) (x := { dst := some 92, op := Op.move (Operand.tmp 91), type := 4, pos := "law.go:106", after := #[{ on := 8, ground := Ground.data }, { on := 4, ground := Ground.chain }], guard := none }) (v := ?_) rfl (by kernel_rfl) (by rfl) ?_ ?_
                  rotate_left
                  · (intro w hS; refine quiet_value ?_; (clear hS; go_simp); try with_reducible rfl)
                  try simp only [Act.put, List.setIfInBounds_toArray, List.set_cons_zero, List.set_cons_succ]
                  refine wpQL_step (k := 10) (x := { dst := some 93, op := Op.move (Operand.tmp 7), type := 36, pos := "law.go:106", after := #[{ on := 9, ground := Ground.guard }], guard := some (9, false) }) (v := ?_) rfl (by kernel_rfl) (by rfl) ?_ ?_
                  rotate_left
                  · (intro w hS; refine quiet_value ?_; (clear hS; go_simp); try with_reducible rfl)
                  try simp only [Act.put, List.setIfInBounds_toArray, List.set_cons_zero, List.set_cons_succ]
                  refine wpQL_step (k := 11) (x := { dst := some 94, op := Op.call { callee := Callee.value (Operand.func 39), args := #[Operand.tmp 93], argTypes := #[36] }, type := 3, pos := "law.go:106", after := #[{ on := 10, ground := Ground.data }, { on := 9, ground := Ground.chain }, { on := 9, ground := Ground.guard }], guard := some (9, false) }) (v := .int .i64 D2.offs) rfl (by kernel_rfl) (by rfl) ?_ ?_
                  · intro w hS
                    refine quiet_call (f := 39) (args := ?_) ?_ ?_
                    rotate_left
                    · (go_simp; try with_reducible rfl)
                    · exact ((soffs_any (L := Z2 ++ (Z ++ (row gm #[.int .i64 ((D2).size : Nat), .int .i64 ((D2).count : Nat), .slice A3 n3 c3, .slice B3 D2.waits.length d3, .bool (D2).off, .int .i64 (D2).offs, .int .i64 (D2).fuse, .int .u64 (D2).writes] 70 :: L))) (hS.cov (by repeat (first | with_reducible exact Cov.all _ | with_reducible exact Cov.left _ _ | with_reducible exact Cov.nil _ | (with_reducible apply Cov.app; (· repeat (first | with_reducible exact Sel.nil _ | with_reducible exact Sel.ap _ _ | with_reducible exact Sel.hd _ _ | with_reducible exact Sel.all _ | with_reducible apply Sel.tl | with_reducible apply Sel.sk))) | (with_reducible apply Cov.cons; (· repeat (first | with_reducible exact Sel.nil _ | with_reducible exact Sel.ap _ _ | with_reducible exact Sel.hd _ _ | with_reducible exact Sel.all _ | with_reducible apply Sel.tl | with_reducible apply Sel.sk))) | with_reducible refine Cov.drop _ ?_ | with_reducible refine Cov.skip _ ?_))) HD2).mono fun e w' h => ⟨h.1, h.2 ▸ hS⟩)
                  try simp only [Act.put, List.setIfInBounds_toArray, List.set_cons_zero, List.set_cons_succ]
                  refine wpQL_step (k := 12) (x := { dst := some 95, op := Op.fieldAddr 70 (Operand.tmp 9) 5, type := 0, pos := "law.go:106", after := #[{ on := 9, ground := Ground.guard }], guard := some (9, false) }) (v := ?_) rfl (by kernel_rfl) (by rfl) ?_ ?_
                  rotate_left
                  · (intro w hS; refine quiet_value ?_; (clear hS; go_simp); try with_reducible rfl)
                  try simp only [Act.put, List.setIfInBounds_toArray, List.set_cons_zero, List.set_cons_succ]
                  refine wpQL_step (k := 13) (x := { dst := some 96, op := Op.load 3 (Operand.tmp 95), type := 3, pos := "law.go:106", after := #[{ on := 12, ground := Ground.data }, { on := 9, ground := Ground.guard }], guard := some (9, false) }) (v := .int .i64 D2.offs) rfl (by kernel_rfl) (by rfl) ?_ ?_
                  · (intro w hS; refine quiet_value ?_; first | exact kr_load_cell hS _ _ (by rfl) (by rfl) (by repeat (first | with_reducible exact Has.hd _ _ | with_reducible refine Has.tl _ ?_ | with_reducible refine Has.ap _ ?_)) (by kernel_rfl) (by rfl))
                  try simp only [Act.put, List.setIfInBounds_toArray, List.set_cons_zero, List.set_cons_succ]
                  refine wpQL_step (k := 14) (x := { dst := some 97, op := Op.binOp BinOp.neq 3 (Operand.tmp 94) (Operand.tmp 96) 3, type := 4, pos := "law.go:106", after := #[{ on := 11, ground := Ground.data }, { on := 13, ground := Ground.data }, { on := 9, ground := Ground.guard }], guard := some (9, false) }) (v := ?_) rfl (by kernel_rfl) (by rfl) ?_ ?_
                  rotate_left
                  · (intro w hS; refine quiet_value ?_; (clear hS; go_simp); try with_reducible rfl)
                  try simp only [Act.put, List.setIfInBounds_toArray, List.set_cons_zero, List.set_cons_succ]
                  refine wpQL_step (k := 15) (x := { dst := some 98, op := Op.pick (Operand.tmp 92) (Operand.const (Value.bool true)) (Operand.tmp 97), type := 4, pos := "law.go:106", after := #[{ on := 9, ground := Ground.data }, { on := 14, ground := Ground.data }], guard := none }) (v := ?_) rfl (by kernel_rfl) (by rfl) ?_ ?_
                  rotate_left
                  · (intro w hS; refine quiet_value ?_; (clear hS; go_simp); try with_reducible rfl)
                  try simp only [Act.put, List.setIfInBounds_toArray, List.set_cons_zero, List.set_cons_succ]
                  refine wpQL_step (k := 16) (x := { dst := some 99, op := Op.move (Operand.tmp 98), type := 4, pos := "law.go:106", after := #[{ on := 15, ground := Ground.data }, { on := 11, ground := Ground.chain }], guard := none }) (v := ?_) rfl (by kernel_rfl) (by rfl) ?_ ?_
                  rotate_left
                  · (intro w hS; refine quiet_value ?_; (clear hS; go_simp); try with_reducible rfl)
                  try simp only [Act.put, List.setIfInBounds_toArray, List.set_cons_zero, List.set_cons_succ]
                  refine wpQL_step (k := 17) (x := { dst := some 100, op := Op.move (Operand.tmp 7), type := 36, pos := "law.go:106", after := #[{ on := 16, ground := Ground.guard }], guard := some (16, false) }) (v := ?_) rfl (by kernel_rfl) (by rfl) ?_ ?_
                  rotate_left
                  · (intro w hS; refine quiet_value ?_; (clear hS; go_simp); try with_reducible rfl)
                  try simp only [Act.put, List.setIfInBounds_toArray, List.set_cons_zero, List.set_cons_succ]
                  refine wpQL_step (k := 18) (x := { dst := some 101, op := Op.call { callee := Callee.value (Operand.func 40), args := #[Operand.tmp 100], argTypes := #[36] }, type := 3, pos := "law.go:106", after := #[{ on := 17, ground := Ground.data }, { on := 16, ground := Ground.chain }, { on := 16, ground := Ground.guard }], guard := some (16, false) }) (v := .int .i64 D2.waits.length) rfl (by kernel_rfl) (by rfl) ?_ ?_
                  · intro w hS
                    refine quiet_call (f := 40) (args := ?_) ?_ ?_
                    rotate_left
                    · (go_simp; try with_reducible rfl)
                    · exact ((swaits_any (L := Z2 ++ (Z ++ (row gm #[.int .i64 ((D2).size : Nat), .int .i64 ((D2).count : Nat), .slice A3 n3 c3, .slice B3 D2.waits.length d3, .bool (D2).off, .int .i64 (D2).offs, .int .i64 (D2).fuse, .int .u64 (D2).writes] 70 :: L))) (hS.cov (by repeat (first | with_reducible exact Cov.all _ | with_reducible exact Cov.left _ _ | with_reducible exact Cov.nil _ | (with_reducible apply Cov.app; (· repeat (first | with_reducible exact Sel.nil _ | with_reducible exact Sel.ap _ _ | with_reducible exact Sel.hd _ _ | with_reducible exact Sel.all _ | with_reducible apply Sel.tl | with_reducible apply Sel.sk))) | (with_reducible apply Cov.cons; (· repeat (first | with_reducible exact Sel.nil _ | with_reducible exact Sel.ap _ _ | with_reducible exact Sel.hd _ _ | with_reducible exact Sel.all _ | with_reducible apply Sel.tl | with_reducible apply Sel.sk))) | with_reducible refine Cov.drop _ ?_ | with_reducible refine Cov.skip _ ?_))) HD2).mono fun e w' h => ⟨h.1, h.2 ▸ hS⟩)
                  try simp only [Act.put, List.setIfInBounds_toArray, List.set_cons_zero, List.set_cons_succ]
                  refine wpQL_step (k := 19) (x := { dst := some 102, op := Op.fieldAddr 70 (Operand.tmp 9) 3, type := 0, pos := "law.go:106", after := #[{ on := 16, ground := Ground.guard }], guard := some (16, false) }) (v := ?_) rfl (by kernel_rfl) (by rfl) ?_ ?_
                  rotate_left
                  · (intro w hS; refine quiet_value ?_; (clear hS; go_simp); try with_reducible rfl)
                  try simp only [Act.put, List.setIfInBounds_toArray, List.set_cons_zero, List.set_cons_succ]
                  refine wpQL_step (k := 20) (x := { dst := some 103, op := Op.load 68 (Operand.tmp 102), type := 68, pos := "law.go:106", after := #[{ on := 19, ground := Ground.data }, { on := 16, ground := Ground.guard }], guard := some (16, false) }) (v := .slice B3 D2.waits.length d3) rfl (by kernel_rfl) (by rfl) ?_ ?_
                  · (intro w hS; refine quiet_value ?_; first | exact kr_load_cell hS _ _ (by rfl) (by rfl) (by repeat (first | with_reducible exact Has.hd _ _ | with_reducible refine Has.tl _ ?_ | with_reducible refine Has.ap _ ?_)) (by kernel_rfl) (by rfl))
                  try simp only [Act.put, List.setIfInBounds_toArray, List.set_cons_zero, List.set_cons_succ]
                  refine wpQL_step (k := 21) (x := { dst := some 104, op := Op.call { callee := Callee.builtin Builtin.len, args := #[Operand.tmp 103], argTypes := #[68] }, type := 3, pos := "law.go:106", after := #[{ on := 20, ground := Ground.data }, { on := 16, ground := Ground.guard }], guard := some (16, false) }) (v := ?_) rfl (by kernel_rfl) (by rfl) ?_ ?_
                  rotate_left
                  · (intro w hS; refine quiet_value ?_; (clear hS; go_simp); try with_reducible rfl)
                  try simp only [Act.put, List.setIfInBounds_toArray, List.set_cons_zero, List.set_cons_succ]
                  refine wpQL_step (k := 22) (x := { dst := some 105, op := Op.binOp BinOp.neq 3 (Operand.tmp 101) (Operand.tmp 104) 3, type := 4, pos := "law.go:106", after := #[{ on := 18, ground := Ground.data }, { on := 21, ground := Ground.data }, { on := 16, ground := Ground.guard }], guard := some (16, false) }) (v := ?_) rfl (by kernel_rfl) (by rfl) ?_ ?_
                  rotate_left
                  · (intro w hS; refine quiet_value ?_; (clear hS; go_simp); try with_reducible rfl)
                  try simp only [Act.put, List.setIfInBounds_toArray, List.set_cons_zero, List.set_cons_succ]
                  refine wpQL_step (k := 23) (x := { dst := some 106, op := Op.pick (Operand.tmp 99) (Operand.const (Value.bool true)) (Operand.tmp 105), type := 4, pos := "law.go:106", after := #[{ on := 16, ground := Ground.data }, { on := 22, ground := Ground.data }], guard := none }) (v := ?_) rfl (by kernel_rfl) (by rfl) ?_ ?_
                  rotate_left
                  · (intro w hS; refine quiet_value ?_; (clear hS; go_simp); try with_reducible rfl)
                  try simp only [Act.put, List.setIfInBounds_toArray, List.set_cons_zero, List.set_cons_succ]
                  refine wpQL_step (k := 24) (x := { dst := some 107, op := Op.move (Operand.tmp 106), type := 4, pos := "law.go:106", after := #[{ on := 23, ground := Ground.data }, { on := 18, ground := Ground.chain }], guard := none }) (v := ?_) rfl (by kernel_rfl) (by rfl) ?_ ?_
                  rotate_left
                  · (intro w hS; refine quiet_value ?_; (clear hS; go_simp); try with_reducible rfl)
                  try simp only [Act.put, List.setIfInBounds_toArray, List.set_cons_zero, List.set_cons_succ]
                  refine wpQL_step (k := 25) (x := { dst := some 108, op := Op.move (Operand.tmp 7), type := 36, pos := "law.go:106", after := #[{ on := 24, ground := Ground.guard }], guard := some (24, false) }) (v := ?_) rfl (by kernel_rfl) (by rfl) ?_ ?_
                  rotate_left
                  · (intro w hS; refine quiet_value ?_; (clear hS; go_simp); try with_reducible rfl)
                  try simp only [Act.put, List.setIfInBounds_toArray, List.set_cons_zero, List.set_cons_succ]
                  refine wpQL_step (k := 26) (x := { dst := some 109, op := Op.call { callee := Callee.value (Operand.func 41), args := #[Operand.tmp 108], argTypes := #[36] }, type := 40, pos := "law.go:106", after := #[{ on := 25, ground := Ground.data }, { on := 24, ground := Ground.chain }, { on := 24, ground := Ground.guard }], guard := some (24, false) }) (v := .int .u64 D2.writes) rfl (by kernel_rfl) (by rfl) ?_ ?_
                  · intro w hS
                    refine quiet_call (f := 41) (args := ?_) ?_ ?_
                    rotate_left
                    · (go_simp; try with_reducible rfl)
                    · exact ((swrites_any (L := Z2 ++ (Z ++ (row gm #[.int .i64 ((D2).size : Nat), .int .i64 ((D2).count : Nat), .slice A3 n3 c3, .slice B3 D2.waits.length d3, .bool (D2).off, .int .i64 (D2).offs, .int .i64 (D2).fuse, .int .u64 (D2).writes] 70 :: L))) (hS.cov (by repeat (first | with_reducible exact Cov.all _ | with_reducible exact Cov.left _ _ | with_reducible exact Cov.nil _ | (with_reducible apply Cov.app; (· repeat (first | with_reducible exact Sel.nil _ | with_reducible exact Sel.ap _ _ | with_reducible exact Sel.hd _ _ | with_reducible exact Sel.all _ | with_reducible apply Sel.tl | with_reducible apply Sel.sk))) | (with_reducible apply Cov.cons; (· repeat (first | with_reducible exact Sel.nil _ | with_reducible exact Sel.ap _ _ | with_reducible exact Sel.hd _ _ | with_reducible exact Sel.all _ | with_reducible apply Sel.tl | with_reducible apply Sel.sk))) | with_reducible refine Cov.drop _ ?_ | with_reducible refine Cov.skip _ ?_))) HD2).mono fun e w' h => ⟨h.1, h.2 ▸ hS⟩)
                  try simp only [Act.put, List.setIfInBounds_toArray, List.set_cons_zero, List.set_cons_succ]
                  refine wpQL_step (k := 27) (x := { dst := some 110, op := Op.fieldAddr 70 (Operand.tmp 9) 7, type := 0, pos := "law.go:106", after := #[{ on := 24, ground := Ground.guard }], guard := some (24, false) }) (v := ?_) rfl (by kernel_rfl) (by rfl) ?_ ?_
                  rotate_left
                  · (intro w hS; refine quiet_value ?_; (clear hS; go_simp); try with_reducible rfl)
                  try simp only [Act.put, List.setIfInBounds_toArray, List.set_cons_zero, List.set_cons_succ]
                  refine wpQL_step (k := 28) (x := { dst := some 111, op := Op.load 40 (Operand.tmp 110), type := 40, pos := "law.go:106", after := #[{ on := 27, ground := Ground.data }, { on := 24, ground := Ground.guard }], guard := some (24, false) }) (v := .int .u64 D2.writes) rfl (by kernel_rfl) (by rfl) ?_ ?_
                  · (intro w hS; refine quiet_value ?_; first | exact kr_load_cell hS _ _ (by rfl) (by rfl) (by repeat (first | with_reducible exact Has.hd _ _ | with_reducible refine Has.tl _ ?_ | with_reducible refine Has.ap _ ?_)) (by kernel_rfl) (by rfl))
                  try simp only [Act.put, List.setIfInBounds_toArray, List.set_cons_zero, List.set_cons_succ]
                  refine wpQL_step (k := 29) (x := { dst := some 112, op := Op.binOp BinOp.neq 40 (Operand.tmp 109) (Operand.tmp 111) 40, type := 4, pos := "law.go:106", after := #[{ on := 26, ground := Ground.data }, { on := 28, ground := Ground.data }, { on := 24, ground := Ground.guard }], guard := some (24, false) }) (v := ?_) rfl (by kernel_rfl) (by rfl) ?_ ?_
                  rotate_left
                  · (intro w hS; refine quiet_value ?_; (clear hS; go_simp); try with_reducible rfl)
                  try simp only [Act.put, List.setIfInBounds_toArray, List.set_cons_zero, List.set_cons_succ]
                  refine wpQL_end (k := 30) (x := { dst := some 113, op := Op.pick (Operand.tmp 107) (Operand.const (Value.bool true)) (Operand.tmp 112), type := 4, pos := "law.go:106", after := #[{ on := 24, ground := Ground.data }, { on := 29, ground := Ground.data }], guard := none }) rfl (by kernel_rfl) (fun w1 K K9 hK => ?_)
                  refine st_reads (v := ?_) (by rfl) ?_ ?_
                  rotate_left
                  · (go_simp; try with_reducible rfl)
                  refine hK.out _ _ ?_
                  clear hK K9
                  try simp only [Act.put, List.setIfInBounds_toArray, List.set_cons_zero, List.set_cons_succ]
                  skip
                  go_wp2
                  have hof := HOF.out
                  go_roundg (gk - 1)
                  case measure => omega
                  case rel => exact ⟨j + 1, D2, X2, Z2 ++ Z, _, _, _, _, _, _, by go_num, by omega, by omega, by omega, HD2, HR2, by rw [List.append_assoc]; exact K.cov (by repeat (first | with_reducible exact Cov.all _ | with_reducible exact Cov.left _ _ | with_reducible exact Cov.nil _ | (with_reducible apply Cov.app; (· repeat (first | with_reducible exact Sel.nil _ | with_reducible exact Sel.ap _ _ | with_reducible exact Sel.hd _ _ | with_reducible exact Sel.all _ | with_reducible apply Sel.tl | with_reducible apply Sel.sk))) | (with_reducible apply Cov.cons; (· repeat (first | with_reducible exact Sel.nil _ | with_reducible exact Sel.ap _ _ | with_reducible exact Sel.hd _ _ | with_reducible exact Sel.all _ | with_reducible apply Sel.tl | with_reducible apply Sel.sk))) | with_reducible refine Cov.drop _ ?_ | with_reducible refine Cov.skip _ ?_))⟩
                refine AllG.cons (o := { dst := some 12, op := Op.alloc 70, type := 0, pos := "law.go:104", after := #[], guard := none }) rfl (fun K9 hK => ?_) ?_
                · skip
                  refine st_does (by rfl) (kd_alloc (z := (.agg #[.int .i64 0, .int .i64 0, .slice none 0 0, .slice none 0 0, .bool false, .int .i64 0, .int .i64 0, .int .u64 0])) K _ (by rfl) (by kernel_rfl)) ?_
                  clear K; rintro _ w1 ⟨gx, rfl, K⟩; (try dsimp only [Value.cells] at K)
                  refine hK.out _ _ (K.cov (by repeat (first | with_reducible exact Cov.all _ | with_reducible exact Cov.left _ _ | with_reducible exact Cov.nil _ | (with_reducible apply Cov.app; (· repeat (first | with_reducible exact Sel.nil _ | with_reducible exact Sel.ap _ _ | with_reducible exact Sel.hd _ _ | with_reducible exact Sel.all _ | with_reducible apply Sel.tl | with_reducible apply Sel.sk))) | (with_reducible apply Cov.cons; (· repeat (first | with_reducible exact Sel.nil _ | with_reducible exact Sel.ap _ _ | with_reducible exact Sel.hd _ _ | with_reducible exact Sel.all _ | with_reducible apply Sel.tl | with_reducible apply Sel.sk))) | with_reducible refine Cov.drop _ ?_ | with_reducible refine Cov.skip _ ?_))) (fun hHeld => ?_)
                  clear hK K9
                  try simp only [Act.put, List.setIfInBounds_toArray, List.set_cons_zero, List.set_cons_succ]
                  refine wpG_one (i := 6) (o := { dst := some 79, op := Op.call { callee := Callee.value (Operand.func 47), args := #[Operand.tmp 73, Operand.tmp 74, Operand.tmp 78], argTypes := #[36, 70, 67] }, type := 72, pos := "law.go:104", after := #[{ on := 0, ground := Ground.data }, { on := 1, ground := Ground.data }, { on := 5, ground := Ground.data }], guard := none }) rfl (by kernel_rfl) (fun K9 hK => ?_)
                  go_simp
                  (go_at_call 47; first | (with_reducible refine (sdoes_any (s := p) (L := (row gx #[.int .i64 0, .int .i64 0, .slice none 0 0, .slice none 0 0, .bool false, .int .i64 0, .int .i64 0, .int .u64 0] 70 :: (Z ++ (row gm #[.int .i64 ((D).size : Nat), .int .i64 ((D).count : Nat), .slice A1 n1 c1, .slice B1 m1 d1, .bool (D).off, .int .i64 (D).offs, .int .i64 (D).fuse, .int .u64 (D).writes] 70 :: L)))) (K.cov (by repeat (first | with_reducible exact Cov.all _ | with_reducible exact Cov.left _ _ | with_reducible exact Cov.nil _ | (with_reducible apply Cov.app; (· repeat (first | with_reducible exact Sel.nil _ | with_reducible exact Sel.ap _ _ | with_reducible exact Sel.hd _ _ | with_reducible exact Sel.all _ | with_reducible apply Sel.tl | with_reducible apply Sel.sk))) | (with_reducible apply Cov.cons; (· repeat (first | with_reducible exact Sel.nil _ | with_reducible exact Sel.ap _ _ | with_reducible exact Sel.hd _ _ | with_reducible exact Sel.all _ | with_reducible apply Sel.tl | with_reducible apply Sel.sk))) | with_reducible refine Cov.drop _ ?_ | with_reducible refine Cov.skip _ ?_))) hD HR (by repeat (first | with_reducible exact Cov.all _ | with_reducible exact Cov.left _ _ | with_reducible exact Cov.nil _ | (with_reducible apply Cov.app; (· repeat (first | with_reducible exact Sel.nil _ | with_reducible exact Sel.ap _ _ | with_reducible exact Sel.hd _ _ | with_reducible exact Sel.all _ | with_reducible apply Sel.tl | with_reducible apply Sel.sk))) | (with_reducible apply Cov.cons; (· repeat (first | with_reducible exact Sel.nil _ | with_reducible exact Sel.ap _ _ | with_reducible exact Sel.hd _ _ | with_reducible exact Sel.all _ | with_reducible apply Sel.tl | with_reducible apply Sel.sk))) | with_reducible refine Cov.drop _ ?_ | with_reducible refine Cov.skip _ ?_)) HSO.out (by omega) (by omega) (by omega)).mono ?_) | (with_reducible refine (sdoes_any (s := p) (L := (Z ++ (row gm #[.int .i64 ((D).size : Nat), .int .i64 ((D).count : Nat), .slice A1 n1 c1, .slice B1 m1 d1, .bool (D).off, .int .i64 (D).offs, .int .i64 (D).fuse, .int .u64 (D).writes] 70 :: L))) (K.cov (by repeat (first | with_reducible exact Cov.all _ | with_reducible exact Cov.left _ _ | with_reducible exact Cov.nil _ | (with_reducible apply Cov.app; (· repeat (first | with_reducible exact Sel.nil _ | with_reducible exact Sel.ap _ _ | with_reducible exact Sel.hd _ _ | with_reducible exact Sel.all _ | with_reducible apply Sel.tl | with_reducible apply Sel.sk))) | (with_reducible apply Cov.cons; (· repeat (first | with_reducible exact Sel.nil _ | with_reducible exact Sel.ap _ _ | with_reducible exact Sel.hd _ _ | with_reducible exact Sel.all _ | with_reducible apply Sel.tl | with_reducible apply Sel.sk))) | with_reducible refine Cov.drop _ ?_ | with_reducible refine Cov.skip _ ?_))) hD HR (by repeat (first | with_reducible exact Cov.all _ | with_reducible exact Cov.left _ _ | with_reducible exact Cov.nil _ | (with_reducible apply Cov.app; (· repeat (first | with_reducible exact Sel.nil _ | with_reducible exact Sel.ap _ _ | with_reducible exact Sel.hd _ _ | with_reducible exact Sel.all _ | with_reducible apply Sel.tl | with_reducible apply Sel.sk))) | (with_reducible apply Cov.cons; (· repeat (first | with_reducible exact Sel.nil _ | with_reducible exact Sel.ap _ _ | with_reducible exact Sel.hd _ _ | with_reducible exact Sel.all _ | with_reducible apply Sel.tl | with_reducible apply Sel.sk))) | with_reducible refine Cov.drop _ ?_ | with_reducible refine Cov.skip _ ?_)) HSO.out (by omega) (by omega) (by omega)).mono ?_)); clear K; rintro e w1 ⟨A3, n3, c3, B3, m3, d3, rfl, X2, Z2, HD2, HR2, K⟩
                  refine hK.out _ _ (K.cov (by repeat (first | with_reducible exact Cov.all _ | with_reducible exact Cov.left _ _ | with_reducible exact Cov.nil _ | (with_reducible apply Cov.app; (· repeat (first | with_reducible exact Sel.nil _ | with_reducible exact Sel.ap _ _ | with_reducible exact Sel.hd _ _ | with_reducible exact Sel.all _ | with_reducible apply Sel.tl | with_reducible apply Sel.sk))) | (with_reducible apply Cov.cons; (· repeat (first | with_reducible exact Sel.nil _ | with_reducible exact Sel.ap _ _ | with_reducible exact Sel.hd _ _ | with_reducible exact Sel.all _ | with_reducible apply Sel.tl | with_reducible apply Sel.sk))) | with_reducible refine Cov.drop _ ?_ | with_reducible refine Cov.skip _ ?_))) (fun hHeld => ?_)
                  clear hK K9
                  try simp only [Act.put, List.setIfInBounds_toArray, List.set_cons_zero, List.set_cons_succ]
                  refine wpG_take (i := 7) (x := { dst := some 72, op := Op.move (Operand.tmp 79), type := 72, pos := "law.go:104", after := #[{ on := 6, ground := Ground.data }], guard := none }) (v := ?_) rfl (by kernel_rfl) (fun _ _ _ h => h) (Or.inl ⟨by rfl, ?_⟩) hHeld ?_
                  rotate_left
                  · (intro w hS; (clear hS; go_simp); try with_reducible rfl)
                  try simp only [Act.put, List.setIfInBounds_toArray, List.set_cons_zero, List.set_cons_succ]
                  refine wpG_take (i := 8) (x := { dst := some 80, op := Op.extract (Operand.tmp 72) 0, type := 4, pos := "law.go:104", after := #[{ on := 7, ground := Ground.data }], guard := none }) (v := ?_) rfl (by kernel_rfl) (fun _ _ _ h => h) (Or.inl ⟨by rfl, ?_⟩) hHeld ?_
                  rotate_left
                  · (intro w hS; (clear hS; go_simp); try with_reducible rfl)
                  try simp only [Act.put, List.setIfInBounds_toArray, List.set_cons_zero, List.set_cons_succ]
                  refine wpG_take (i := 9) (x := { dst := some 81, op := Op.extract (Operand.tmp 72) 1, type := 70, pos := "law.go:104", after := #[{ on := 7, ground := Ground.data }, { on := 11, ground := Ground.gcOnly Departure.lateStores }], guard := none }) (v := ?_) rfl (by kernel_rfl) (fun _ _ _ h => h) (Or.inl ⟨by rfl, ?_⟩) hHeld ?_
                  rotate_left
                  · (intro w hS; (clear hS; go_simp); try with_reducible rfl)
                  try simp only [Act.put, List.setIfInBounds_toArray, List.set_cons_zero, List.set_cons_succ]
                  refine wpG_take (i := 11) (x := { dst := some 11, op := Op.assign (Operand.tmp 80), type := 4, pos := "law.go:104", after := #[{ on := 8, ground := Ground.data }, { on := 6, ground := Ground.chain }, { on := 0, ground := Ground.phase }, { on := 1, ground := Ground.phase }, { on := 2, ground := Ground.phase }, { on := 3, ground := Ground.phase }, { on := 4, ground := Ground.phase }, { on := 5, ground := Ground.phase }, { on := 6, ground := Ground.phase }, { on := 7, ground := Ground.phase }, { on := 8, ground := Ground.phase }, { on := 9, ground := Ground.textOnly Departure.lateStores }, { on := 10, ground := Ground.phase }], guard := none }) (v := ?_) rfl (by kernel_rfl) (fun _ _ _ h => h) (Or.inl ⟨by rfl, ?_⟩) hHeld ?_
                  rotate_left
                  · (intro w hS; (clear hS; go_simp); try with_reducible rfl)
                  try simp only [Act.put, List.setIfInBounds_toArray, List.set_cons_zero, List.set_cons_succ]
                  refine wpG_last (i := 12) (o := { dst := none, op := Op.store 70 (Operand.tmp 12) (Operand.tmp 81), type := 0, pos := "law.go:104", after := #[{ on := 10, ground := Ground.data }, { on := 9, ground := Ground.data }, { on := 11, ground := Ground.chain }, { on := 0, ground := Ground.phase }, { on := 1, ground := Ground.phase }, { on := 2, ground := Ground.phase }, { on := 3, ground := Ground.phase }, { on := 4, ground := Ground.phase }, { on := 5, ground := Ground.phase }, { on := 6, ground := Ground.phase }, { on := 7, ground := Ground.phase }, { on := 8, ground := Ground.phase }, { on := 9, ground := Ground.phase }, { on := 10, ground := Ground.phase }, { on := 11, ground := Ground.phase }], guard := none }) rfl (by kernel_rfl) (fun K9 hK => ?_)
                  (first | (refine st_does (by rfl) (kd_store_cell K _ _ _ (by rfl) (by rfl) (by conv => lhs; whnf) (by repeat (first | with_reducible exact Repl.hd _ _ _ | with_reducible apply Repl.tl | with_reducible apply Repl.ap)) (by rfl) (by rfl) (by kernel_rfl) (by kernel_rfl) (by first | (simp only [List.setIfInBounds_toArray, List.set_cons_succ, List.set_cons_zero]; rfl) | rfl)) ?_) | (refine st_does (by rfl) (kd_store_row K _ _ _ (by rfl) (by rfl) (by rfl) (by repeat (first | with_reducible exact Repl.hd _ _ _ | with_reducible apply Repl.tl | with_reducible apply Repl.ap)) (by kernel_rfl) (by kernel_rfl) (by kernel_rfl)) ?_))
                  clear K; intro _ w1 K
                  refine hK.out _ _ ?_
                  clear hK K9
                  try simp only [Act.put, List.setIfInBounds_toArray, List.set_cons_zero, List.set_cons_succ]
                  have hm3 := HR2.w.len
                  subst hm3
                  replace K : Known w0 _ (row gx #[.int .i64 (((sdo D p)).size : Nat), .int .i64 (((sdo D p)).count : Nat), .slice A3 n3 c3, .slice B3 (sdo D p).waits.length d3, .bool ((sdo D p)).off, .int .i64 ((sdo D p)).offs, .int .i64 ((sdo D p)).fuse, .int .u64 ((sdo D p)).writes] 70 :: (X2 ++ (Z2 ++ (Z ++ (row gm #[.int .i64 ((D).size : Nat), .int .i64 ((D).count : Nat), .slice A1 n1 c1, .slice B1 m1 d1, .bool (D).off, .int .i64 (D).offs, .int .i64 (D).fuse, .int .u64 (D).writes] 70 :: L))))) := K.cov (by repeat (first | with_reducible exact Cov.all _ | with_reducible exact Cov.left _ _ | with_reducible exact Cov.nil _ | (with_reducible apply Cov.app; (· repeat (first | with_reducible exact Sel.nil _ | with_reducible exact Sel.ap _ _ | with_reducible exact Sel.hd _ _ | with_reducible exact Sel.all _ | with_reducible apply Sel.tl | with_reducible apply Sel.sk))) | (with_reducible apply Cov.cons; (· repeat (first | with_reducible exact Sel.nil _ | with_reducible exact Sel.ap _ _ | with_reducible exact Sel.hd _ _ | with_reducible exact Sel.all _ | with_reducible apply Sel.tl | with_reducible apply Sel.sk))) | with_reducible refine Cov.drop _ ?_ | with_reducible refine Cov.skip _ ?_))
                  go_upto_region 14 with ((first | ((with_reducible refine at_eqnil rfl ?_); refine wpList_reads rfl (kr_eqnil rfl rfl (by kernel_rfl)) ?_) | ((with_reducible refine at_box rfl ?_); refine wpList_does rfl (kd_box K _ _ rfl (by conv => lhs; whnf)) ?_; clear K; rintro _ w1 ⟨g, rfl, K⟩; (try dsimp only [Value.cells] at K)) | ((with_reducible refine at_alloc rfl ?_); refine wpList_does rfl (kd_alloc K _ rfl rfl) ?_; clear K; rintro _ w1 ⟨g, rfl, K⟩; (try dsimp only [Value.cells] at K)) | ((with_reducible refine at_buildSlice rfl ?_); refine wpList_does rfl (kd_lits (cs := _) K _ _ _ rfl (by first | rfl | (go_simp; done) | (go_simp; rfl)) (by first | rfl | (go_simp; done) | (go_simp; rfl))) ?_; clear K; rintro _ w1 ⟨g, rfl, K⟩) | ((with_reducible refine at_load rfl ?_); first | (refine wpList_reads (by rfl) (kr_load_cell K _ _ (by rfl) (by rfl) (by repeat (first | with_reducible exact Has.hd _ _ | with_reducible refine Has.tl _ ?_ | with_reducible refine Has.ap _ ?_)) (by decide +kernel) (by (try simp only [List.getElem?_toArray, List.getElem?_cons_succ, List.getElem?_cons_zero]); exact rfl)) ?_) | (refine wpList_reads (by rfl) (kr_load_row K _ _ (by rfl) (by rfl) (by repeat (first | with_reducible exact Has.hd _ _ | with_reducible refine Has.tl _ ?_ | with_reducible refine Has.ap _ ?_)) (by decide +kernel) (by kernel_rfl)) ?_)) | ((with_reducible refine at_store rfl ?_); (first | (refine wpList_does rfl (kd_store_cell K _ _ _ rfl rfl (by conv => lhs; whnf) (by repeat (first | with_reducible exact Repl.hd _ _ _ | with_reducible apply Repl.tl | with_reducible apply Repl.ap)) rfl rfl (by kernel_rfl) (by kernel_rfl) (by first | (simp only [List.setIfInBounds_toArray, List.set_cons_succ, List.set_cons_zero]; rfl) | rfl)) ?_) | (refine wpList_does rfl (kd_store_row K _ _ _ rfl rfl rfl (by repeat (first | with_reducible exact Repl.hd _ _ _ | with_reducible apply Repl.tl | with_reducible apply Repl.ap)) (by kernel_rfl) (by kernel_rfl) (by kernel_rfl)) ?_)); clear K; intro _ w1 K; (try simp only [Act.put]))))
                  generalize hD2e : sdo D p = D2 at *
                  refine wp_region_QLK K (by kernel_rfl) (by kernel_rfl) ?_
                  clear K
                  refine wpQL_step (k := 0) (x := { dst := some 83, op := Op.move (Operand.tmp 11), type := 4, pos := "law.go:106", after := #[], guard := none }) (v := ?_) rfl (by kernel_rfl) (by rfl) ?_ ?_
                  rotate_left
                  · (intro w hS; refine quiet_value ?_; (clear hS; go_simp); try with_reducible rfl)
                  try simp only [Act.put, List.setIfInBounds_toArray, List.set_cons_zero, List.set_cons_succ]
                  refine wpQL_step (k := 1) (x := { dst := some 84, op := Op.unOp UnOp.not 4 (Operand.tmp 83), type := 4, pos := "law.go:106", after := #[{ on := 0, ground := Ground.data }], guard := none }) (v := ?_) rfl (by kernel_rfl) (by rfl) ?_ ?_
                  rotate_left
                  · (intro w hS; refine quiet_value ?_; (clear hS; go_simp); try with_reducible rfl)
                  try simp only [Act.put, List.setIfInBounds_toArray, List.set_cons_zero, List.set_cons_succ]
                  refine wpQL_step (k := 2) (x := { dst := some 85, op := Op.move (Operand.tmp 84), type := 4, pos := "law.go:106", after := #[{ on := 1, ground := Ground.data }], guard := none }) (v := ?_) rfl (by kernel_rfl) (by rfl) ?_ ?_
                  rotate_left
                  · (intro w hS; refine quiet_value ?_; (clear hS; go_simp); try with_reducible rfl)
                  try simp only [Act.put, List.setIfInBounds_toArray, List.set_cons_zero, List.set_cons_succ]
                  refine wpQL_step (k := 3) (x := { dst := some 86, op := Op.move (Operand.tmp 7), type := 36, pos := "law.go:106", after := #[{ on := 2, ground := Ground.guard }], guard := some (2, false) }) (v := ?_) rfl (by kernel_rfl) (by rfl) ?_ ?_
                  rotate_left
                  · (intro w hS; refine quiet_value ?_; (clear hS; go_simp); try with_reducible rfl)
                  try simp only [Act.put, List.setIfInBounds_toArray, List.set_cons_zero, List.set_cons_succ]
                  refine wpQL_step (k := 4) (x := { dst := some 87, op := Op.call { callee := Callee.value (Operand.func 38), args := #[Operand.tmp 86], argTypes := #[36] }, type := 4, pos := "law.go:106", after := #[{ on := 3, ground := Ground.data }, { on := 2, ground := Ground.chain }, { on := 2, ground := Ground.guard }], guard := some (2, false) }) (v := .bool (!D2.off)) rfl (by kernel_rfl) (by rfl) ?_ ?_
                  · intro w hS
                    refine quiet_call (f := 38) (args := ?_) ?_ ?_
                    rotate_left
                    · (go_simp; try with_reducible rfl)
                    · exact ((son_any (L := Z2 ++ (Z ++ (row gm #[.int .i64 ((D2).size : Nat), .int .i64 ((D2).count : Nat), .slice A3 n3 c3, .slice B3 D2.waits.length d3, .bool (D2).off, .int .i64 (D2).offs, .int .i64 (D2).fuse, .int .u64 (D2).writes] 70 :: L))) (hS.cov (by repeat (first | with_reducible exact Cov.all _ | with_reducible exact Cov.left _ _ | with_reducible exact Cov.nil _ | (with_reducible apply Cov.app; (· repeat (first | with_reducible exact Sel.nil _ | with_reducible exact Sel.ap _ _ | with_reducible exact Sel.hd _ _ | with_reducible exact Sel.all _ | with_reducible apply Sel.tl | with_reducible apply Sel.sk))) | (with_reducible apply Cov.cons; (· repeat (first | with_reducible exact Sel.nil _ | with_reducible exact Sel.ap _ _ | with_reducible exact Sel.hd _ _ | with_reducible exact Sel.all _ | with_reducible apply Sel.tl | with_reducible apply Sel.sk))) | with_reducible refine Cov.drop _ ?_ | with_reducible refine Cov.skip _ ?_))) HD2).mono fun e w' h => ⟨h.1, h.2 ▸ hS⟩)
                  try simp only [Act.put, List.setIfInBounds_toArray, List.set_cons_zero, List.set_cons_succ]
                  refine wpQL_step (k := 5) (x := { dst := some 88, op := Op.fieldAddr 70 (Operand.tmp 9) 4, type := 0, pos := "law.go:106", after := #[{ on := 2, ground := Ground.guard }], guard := some (2, false) }) (v := ?_) rfl (by kernel_rfl) (by rfl) ?_ ?_
                  rotate_left
                  · (intro w hS; refine quiet_value ?_; (clear hS; go_simp); try with_reducible rfl)
                  try simp only [Act.put, List.setIfInBounds_toArray, List.set_cons_zero, List.set_cons_succ]
                  refine wpQL_step (k := 6) (x := { dst := some 89, op := Op.load 4 (Operand.tmp 88), type := 4, pos := "law.go:106", after := #[{ on := 5, ground := Ground.data }, { on := 2, ground := Ground.guard }], guard := some (2, false) }) (v := .bool D2.off) rfl (by kernel_rfl) (by rfl) ?_ ?_
                  · (intro w hS; refine quiet_value ?_; first | exact kr_load_cell hS _ _ (by rfl) (by rfl) (by repeat (first | with_reducible exact Has.hd _ _ | with_reducible refine Has.tl _ ?_ | with_reducible refine Has.ap _ ?_)) (by kernel_rfl) (by rfl))
                  try simp only [Act.put, List.setIfInBounds_toArray, List.set_cons_zero, List.set_cons_succ]
                  refine wpQL_step (k := 7) (x := { dst := some 90, op := Op.binOp BinOp.eql 4 (Operand.tmp 87) (Operand.tmp 89) 4, type := 4, pos := "law.go:106", after := #[{ on := 4, ground := Ground.data }, { on := 6, ground := Ground.data }, { on := 2, ground := Ground.guard }], guard := some (2, false) }) (v := ?_) rfl (by kernel_rfl) (by rfl) ?_ ?_
                  rotate_left
                  · (intro w hS; refine quiet_value ?_; (clear hS; go_simp); try with_reducible rfl)
                  try simp only [Act.put, List.setIfInBounds_toArray, List.set_cons_zero, List.set_cons_succ]
                  refine wpQL_step (k := 8) (x := { dst := some 91, op := Op.pick (Operand.tmp 85) (Operand.const (Value.bool true)) (Operand.tmp 90), type := 4, pos := "law.go:106", after := #[{ on := 2, ground := Ground.data }, { on := 7, ground := Ground.data }], guard := none }) (v := ?_) rfl (by kernel_rfl) (by rfl) ?_ ?_
                  rotate_left
                  · (intro w hS; refine quiet_value ?_; (clear hS; go_simp); try with_reducible rfl)
                  try simp only [Act.put, List.setIfInBounds_toArray, List.set_cons_zero, List.set_cons_succ]
                  refine wpQL_step (k := 9) (x := { dst := some 92, op := Op.move (Operand.tmp 91), type := 4, pos := "law.go:106", after := #[{ on := 8, ground := Ground.data }, { on := 4, ground := Ground.chain }], guard := none }) (v := ?_) rfl (by kernel_rfl) (by rfl) ?_ ?_
                  rotate_left
                  · (intro w hS; refine quiet_value ?_; (clear hS; go_simp); try with_reducible rfl)
                  try simp only [Act.put, List.setIfInBounds_toArray, List.set_cons_zero, List.set_cons_succ]
                  refine wpQL_step (k := 10) (x := { dst := some 93, op := Op.move (Operand.tmp 7), type := 36, pos := "law.go:106", after := #[{ on := 9, ground := Ground.guard }], guard := some (9, false) }) (v := ?_) rfl (by kernel_rfl) (by rfl) ?_ ?_
                  rotate_left
                  · (intro w hS; refine quiet_value ?_; (clear hS; go_simp); try with_reducible rfl)
                  try simp only [Act.put, List.setIfInBounds_toArray, List.set_cons_zero, List.set_cons_succ]
                  refine wpQL_step (k := 11) (x := { dst := some 94, op := Op.call { callee := Callee.value (Operand.func 39), args := #[Operand.tmp 93], argTypes := #[36] }, type := 3, pos := "law.go:106", after := #[{ on := 10, ground := Ground.data }, { on := 9, ground := Ground.chain }, { on := 9, ground := Ground.guard }], guard := some (9, false) }) (v := .int .i64 D2.offs) rfl (by kernel_rfl) (by rfl) ?_ ?_
                  · intro w hS
                    refine quiet_call (f := 39) (args := ?_) ?_ ?_
                    rotate_left
                    · (go_simp; try with_reducible rfl)
                    · exact ((soffs_any (L := Z2 ++ (Z ++ (row gm #[.int .i64 ((D2).size : Nat), .int .i64 ((D2).count : Nat), .slice A3 n3 c3, .slice B3 D2.waits.length d3, .bool (D2).off, .int .i64 (D2).offs, .int .i64 (D2).fuse, .int .u64 (D2).writes] 70 :: L))) (hS.cov (by repeat (first | with_reducible exact Cov.all _ | with_reducible exact Cov.left _ _ | with_reducible exact Cov.nil _ | (with_reducible apply Cov.app; (· repeat (first | with_reducible exact Sel.nil _ | with_reducible exact Sel.ap _ _ | with_reducible exact Sel.hd _ _ | with_reducible exact Sel.all _ | with_reducible apply Sel.tl | with_reducible apply Sel.sk))) | (with_reducible apply Cov.cons; (· repeat (first | with_reducible exact Sel.nil _ | with_reducible exact Sel.ap _ _ | with_reducible exact Sel.hd _ _ | with_reducible exact Sel.all _ | with_reducible apply Sel.tl | with_reducible apply Sel.sk))) | with_reducible refine Cov.drop _ ?_ | with_reducible refine Cov.skip _ ?_))) HD2).mono fun e w' h => ⟨h.1, h.2 ▸ hS⟩)
                  try simp only [Act.put, List.setIfInBounds_toArray, List.set_cons_zero, List.set_cons_succ]
                  refine wpQL_step (k := 12) (x := { dst := some 95, op := Op.fieldAddr 70 (Operand.tmp 9) 5, type := 0, pos := "law.go:106", after := #[{ on := 9, ground := Ground.guard }], guard := some (9, false) }) (v := ?_) rfl (by kernel_rfl) (by rfl) ?_ ?_
                  rotate_left
                  · (intro w hS; refine quiet_value ?_; (clear hS; go_simp); try with_reducible rfl)
                  try simp only [Act.put, List.setIfInBounds_toArray, List.set_cons_zero, List.set_cons_succ]
                  refine wpQL_step (k := 13) (x := { dst := some 96, op := Op.load 3 (Operand.tmp 95), type := 3, pos := "law.go:106", after := #[{ on := 12, ground := Ground.data }, { on := 9, ground := Ground.guard }], guard := some (9, false) }) (v := .int .i64 D2.offs) rfl (by kernel_rfl) (by rfl) ?_ ?_
                  · (intro w hS; refine quiet_value ?_; first | exact kr_load_cell hS _ _ (by rfl) (by rfl) (by repeat (first | with_reducible exact Has.hd _ _ | with_reducible refine Has.tl _ ?_ | with_reducible refine Has.ap _ ?_)) (by kernel_rfl) (by rfl))
                  try simp only [Act.put, List.setIfInBounds_toArray, List.set_cons_zero, List.set_cons_succ]
                  refine wpQL_step (k := 14) (x := { dst := some 97, op := Op.binOp BinOp.neq 3 (Operand.tmp 94) (Operand.tmp 96) 3, type := 4, pos := "law.go:106", after := #[{ on := 11, ground := Ground.data }, { on := 13, ground := Ground.data }, { on := 9, ground := Ground.guard }], guard := some (9, false) }) (v := ?_) rfl (by kernel_rfl) (by rfl) ?_ ?_
                  rotate_left
                  · (intro w hS; refine quiet_value ?_; (clear hS; go_simp); try with_reducible rfl)
                  try simp only [Act.put, List.setIfInBounds_toArray, List.set_cons_zero, List.set_cons_succ]
                  refine wpQL_step (k := 15) (x := { dst := some 98, op := Op.pick (Operand.tmp 92) (Operand.const (Value.bool true)) (Operand.tmp 97), type := 4, pos := "law.go:106", after := #[{ on := 9, ground := Ground.data }, { on := 14, ground := Ground.data }], guard := none }) (v := ?_) rfl (by kernel_rfl) (by rfl) ?_ ?_
                  rotate_left
                  · (intro w hS; refine quiet_value ?_; (clear hS; go_simp); try with_reducible rfl)
                  try simp only [Act.put, List.setIfInBounds_toArray, List.set_cons_zero, List.set_cons_succ]
                  refine wpQL_step (k := 16) (x := { dst := some 99, op := Op.move (Operand.tmp 98), type := 4, pos := "law.go:106", after := #[{ on := 15, ground := Ground.data }, { on := 11, ground := Ground.chain }], guard := none }) (v := ?_) rfl (by kernel_rfl) (by rfl) ?_ ?_
                  rotate_left
                  · (intro w hS; refine quiet_value ?_; (clear hS; go_simp); try with_reducible rfl)
                  try simp only [Act.put, List.setIfInBounds_toArray, List.set_cons_zero, List.set_cons_succ]
                  refine wpQL_step (k := 17) (x := { dst := some 100, op := Op.move (Operand.tmp 7), type := 36, pos := "law.go:106", after := #[{ on := 16, ground := Ground.guard }], guard := some (16, false) }) (v := ?_) rfl (by kernel_rfl) (by rfl) ?_ ?_
                  rotate_left
                  · (intro w hS; refine quiet_value ?_; (clear hS; go_simp); try with_reducible rfl)
                  try simp only [Act.put, List.setIfInBounds_toArray, List.set_cons_zero, List.set_cons_succ]
                  refine wpQL_step (k := 18) (x := { dst := some 101, op := Op.call { callee := Callee.value (Operand.func 40), args := #[Operand.tmp 100], argTypes := #[36] }, type := 3, pos := "law.go:106", after := #[{ on := 17, ground := Ground.data }, { on := 16, ground := Ground.chain }, { on := 16, ground := Ground.guard }], guard := some (16, false) }) (v := .int .i64 D2.waits.length) rfl (by kernel_rfl) (by rfl) ?_ ?_
                  · intro w hS
                    refine quiet_call (f := 40) (args := ?_) ?_ ?_
                    rotate_left
                    · (go_simp; try with_reducible rfl)
                    · exact ((swaits_any (L := Z2 ++ (Z ++ (row gm #[.int .i64 ((D2).size : Nat), .int .i64 ((D2).count : Nat), .slice A3 n3 c3, .slice B3 D2.waits.length d3, .bool (D2).off, .int .i64 (D2).offs, .int .i64 (D2).fuse, .int .u64 (D2).writes] 70 :: L))) (hS.cov (by repeat (first | with_reducible exact Cov.all _ | with_reducible exact Cov.left _ _ | with_reducible exact Cov.nil _ | (with_reducible apply Cov.app; (· repeat (first | with_reducible exact Sel.nil _ | with_reducible exact Sel.ap _ _ | with_reducible exact Sel.hd _ _ | with_reducible exact Sel.all _ | with_reducible apply Sel.tl | with_reducible apply Sel.sk))) | (with_reducible apply Cov.cons; (· repeat (first | with_reducible exact Sel.nil _ | with_reducible exact Sel.ap _ _ | with_reducible exact Sel.hd _ _ | with_reducible exact Sel.all _ | with_reducible apply Sel.tl | with_reducible apply Sel.sk))) | with_reducible refine Cov.drop _ ?_ | with_reducible refine Cov.skip _ ?_))) HD2).mono fun e w' h => ⟨h.1, h.2 ▸ hS⟩)
                  try simp only [Act.put, List.setIfInBounds_toArray, List.set_cons_zero, List.set_cons_succ]
                  refine wpQL_step (k := 19) (x := { dst := some 102, op := Op.fieldAddr 70 (Operand.tmp 9) 3, type := 0, pos := "law.go:106", after := #[{ on := 16, ground := Ground.guard }], guard := some (16, false) }) (v := ?_) rfl (by kernel_rfl) (by rfl) ?_ ?_
                  rotate_left
                  · (intro w hS; refine quiet_value ?_; (clear hS; go_simp); try with_reducible rfl)
                  try simp only [Act.put, List.setIfInBounds_toArray, List.set_cons_zero, List.set_cons_succ]
                  refine wpQL_step (k := 20) (x := { dst := some 103, op := Op.load 68 (Operand.tmp 102), type := 68, pos := "law.go:106", after := #[{ on := 19, ground := Ground.data }, { on := 16, ground := Ground.guard }], guard := some (16, false) }) (v := .slice B3 D2.waits.length d3) rfl (by kernel_rfl) (by rfl) ?_ ?_
                  · (intro w hS; refine quiet_value ?_; first | exact kr_load_cell hS _ _ (by rfl) (by rfl) (by repeat (first | with_reducible exact Has.hd _ _ | with_reducible refine Has.tl _ ?_ | with_reducible refine Has.ap _ ?_)) (by kernel_rfl) (by rfl))
                  try simp only [Act.put, List.setIfInBounds_toArray, List.set_cons_zero, List.set_cons_succ]
                  refine wpQL_step (k := 21) (x := { dst := some 104, op := Op.call { callee := Callee.builtin Builtin.len, args := #[Operand.tmp 103], argTypes := #[68] }, type := 3, pos := "law.go:106", after := #[{ on := 20, ground := Ground.data }, { on := 16, ground := Ground.guard }], guard := some (16, false) }) (v := ?_) rfl (by kernel_rfl) (by rfl) ?_ ?_
                  rotate_left
                  · (intro w hS; refine quiet_value ?_; (clear hS; go_simp); try with_reducible rfl)
                  try simp only [Act.put, List.setIfInBounds_toArray, List.set_cons_zero, List.set_cons_succ]
                  refine wpQL_step (k := 22) (x := { dst := some 105, op := Op.binOp BinOp.neq 3 (Operand.tmp 101) (Operand.tmp 104) 3, type := 4, pos := "law.go:106", after := #[{ on := 18, ground := Ground.data }, { on := 21, ground := Ground.data }, { on := 16, ground := Ground.guard }], guard := some (16, false) }) (v := ?_) rfl (by kernel_rfl) (by rfl) ?_ ?_
                  rotate_left
                  · (intro w hS; refine quiet_value ?_; (clear hS; go_simp); try with_reducible rfl)
                  try simp only [Act.put, List.setIfInBounds_toArray, List.set_cons_zero, List.set_cons_succ]
                  refine wpQL_step (k := 23) (x := { dst := some 106, op := Op.pick (Operand.tmp 99) (Operand.const (Value.bool true)) (Operand.tmp 105), type := 4, pos := "law.go:106", after := #[{ on := 16, ground := Ground.data }, { on := 22, ground := Ground.data }], guard := none }) (v := ?_) rfl (by kernel_rfl) (by rfl) ?_ ?_
                  rotate_left
                  · (intro w hS; refine quiet_value ?_; (clear hS; go_simp); try with_reducible rfl)
                  try simp only [Act.put, List.setIfInBounds_toArray, List.set_cons_zero, List.set_cons_succ]
                  refine wpQL_step (k := 24) (x := { dst := some 107, op := Op.move (Operand.tmp 106), type := 4, pos := "law.go:106", after := #[{ on := 23, ground := Ground.data }, { on := 18, ground := Ground.chain }], guard := none }) (v := ?_) rfl (by kernel_rfl) (by rfl) ?_ ?_
                  rotate_left
                  · (intro w hS; refine quiet_value ?_; (clear hS; go_simp); try with_reducible rfl)
                  try simp only [Act.put, List.setIfInBounds_toArray, List.set_cons_zero, List.set_cons_succ]
                  refine wpQL_step (k := 25) (x := { dst := some 108, op := Op.move (Operand.tmp 7), type := 36, pos := "law.go:106", after := #[{ on := 24, ground := Ground.guard }], guard := some (24, false) }) (v := ?_) rfl (by kernel_rfl) (by rfl) ?_ ?_
                  rotate_left
                  · (intro w hS; refine quiet_value ?_; (clear hS; go_simp); try with_reducible rfl)
                  try simp only [Act.put, List.setIfInBounds_toArray, List.set_cons_zero, List.set_cons_succ]
                  refine wpQL_step (k := 26) (x := { dst := some 109, op := Op.call { callee := Callee.value (Operand.func 41), args := #[Operand.tmp 108], argTypes := #[36] }, type := 40, pos := "law.go:106", after := #[{ on := 25, ground := Ground.data }, { on := 24, ground := Ground.chain }, { on := 24, ground := Ground.guard }], guard := some (24, false) }) (v := .int .u64 D2.writes) rfl (by kernel_rfl) (by rfl) ?_ ?_
                  · intro w hS
                    refine quiet_call (f := 41) (args := ?_) ?_ ?_
                    rotate_left
                    · (go_simp; try with_reducible rfl)
                    · exact ((swrites_any (L := Z2 ++ (Z ++ (row gm #[.int .i64 ((D2).size : Nat), .int .i64 ((D2).count : Nat), .slice A3 n3 c3, .slice B3 D2.waits.length d3, .bool (D2).off, .int .i64 (D2).offs, .int .i64 (D2).fuse, .int .u64 (D2).writes] 70 :: L))) (hS.cov (by repeat (first | with_reducible exact Cov.all _ | with_reducible exact Cov.left _ _ | with_reducible exact Cov.nil _ | (with_reducible apply Cov.app; (· repeat (first | with_reducible exact Sel.nil _ | with_reducible exact Sel.ap _ _ | with_reducible exact Sel.hd _ _ | with_reducible exact Sel.all _ | with_reducible apply Sel.tl | with_reducible apply Sel.sk))) | (with_reducible apply Cov.cons; (· repeat (first | with_reducible exact Sel.nil _ | with_reducible exact Sel.ap _ _ | with_reducible exact Sel.hd _ _ | with_reducible exact Sel.all _ | with_reducible apply Sel.tl | with_reducible apply Sel.sk))) | with_reducible refine Cov.drop _ ?_ | with_reducible refine Cov.skip _ ?_))) HD2).mono fun e w' h => ⟨h.1, h.2 ▸ hS⟩)
                  try simp only [Act.put, List.setIfInBounds_toArray, List.set_cons_zero, List.set_cons_succ]
                  refine wpQL_step (k := 27) (x := { dst := some 110, op := Op.fieldAddr 70 (Operand.tmp 9) 7, type := 0, pos := "law.go:106", after := #[{ on := 24, ground := Ground.guard }], guard := some (24, false) }) (v := ?_) rfl (by kernel_rfl) (by rfl) ?_ ?_
                  rotate_left
                  · (intro w hS; refine quiet_value ?_; (clear hS; go_simp); try with_reducible rfl)
                  try simp only [Act.put, List.setIfInBounds_toArray, List.set_cons_zero, List.set_cons_succ]
                  refine wpQL_step (k := 28) (x := { dst := some 111, op := Op.load 40 (Operand.tmp 110), type := 40, pos := "law.go:106", after := #[{ on := 27, ground := Ground.data }, { on := 24, ground := Ground.guard }], guard := some (24, false) }) (v := .int .u64 D2.writes) rfl (by kernel_rfl) (by rfl) ?_ ?_
                  · (intro w hS; refine quiet_value ?_; first | exact kr_load_cell hS _ _ (by rfl) (by rfl) (by repeat (first | with_reducible exact Has.hd _ _ | with_reducible refine Has.tl _ ?_ | with_reducible refine Has.ap _ ?_)) (by kernel_rfl) (by rfl))
                  try simp only [Act.put, List.setIfInBounds_toArray, List.set_cons_zero, List.set_cons_succ]
                  refine wpQL_step (k := 29) (x := { dst := some 112, op := Op.binOp BinOp.neq 40 (Operand.tmp 109) (Operand.tmp 111) 40, type := 4, pos := "law.go:106", after := #[{ on := 26, ground := Ground.data }, { on := 28, ground := Ground.data }, { on := 24, ground := Ground.guard }], guard := some (24, false) }) (v := ?_) rfl (by kernel_rfl) (by rfl) ?_ ?_
                  rotate_left
                  · (intro w hS; refine quiet_value ?_; (clear hS; go_simp); try with_reducible rfl)
                  try simp only [Act.put, List.setIfInBounds_toArray, List.set_cons_zero, List.set_cons_succ]
                  refine wpQL_end (k := 30) (x := { dst := some 113, op := Op.pick (Operand.tmp 107) (Operand.const (Value.bool true)) (Operand.tmp 112), type := 4, pos := "law.go:106", after := #[{ on := 24, ground := Ground.data }, { on := 29, ground := Ground.data }], guard := none }) rfl (by kernel_rfl) (fun w1 K K9 hK => ?_)
                  refine st_reads (v := ?_) (by rfl) ?_ ?_
                  rotate_left
                  · (go_simp; try with_reducible rfl)
                  refine hK.out _ _ ?_
                  clear hK K9
                  try simp only [Act.put, List.setIfInBounds_toArray, List.set_cons_zero, List.set_cons_succ]
                  skip
                  go_wp2
                  have hof := HOF.out
                  go_roundg (gk - 1)
                  case measure => omega
                  case rel => exact ⟨j + 1, D2, X2, Z2 ++ Z, _, _, _, _, _, _, by go_num, by omega, by omega, by omega, HD2, HR2, by rw [List.append_assoc]; exact K.cov (by repeat (first | with_reducible exact Cov.all _ | with_reducible exact Cov.left _ _ | with_reducible exact Cov.nil _ | (with_reducible apply Cov.app; (· repeat (first | with_reducible exact Sel.nil _ | with_reducible exact Sel.ap _ _ | with_reducible exact Sel.hd _ _ | with_reducible exact Sel.all _ | with_reducible apply Sel.tl | with_reducible apply Sel.sk))) | (with_reducible apply Cov.cons; (· repeat (first | with_reducible exact Sel.nil _ | with_reducible exact Sel.ap _ _ | with_reducible exact Sel.hd _ _ | with_reducible exact Sel.all _ | with_reducible apply Sel.tl | with_reducible apply Sel.sk))) | with_reducible refine Cov.drop _ ?_ | with_reducible refine Cov.skip _ ?_))⟩
                exact AllG.nil
              · have hj2 : decide ((j : Int) < (n : Int)) = false := decide_eq_false (by omega)
                go_wp2_with (first | (go_at_call 31; (with_reducible refine (awake06K K).mono ?_); clear K; rintro e w1 ⟨rfl, K⟩))
                go_ret
                exact ⟨rfl, K.cov (by repeat (first | with_reducible exact Cov.all _ | with_reducible exact Cov.left _ _ | with_reducible exact Cov.nil _ | (with_reducible apply Cov.app; (· repeat (first | with_reducible exact Sel.nil _ | with_reducible exact Sel.ap _ _ | with_reducible exact Sel.hd _ _ | with_reducible exact Sel.all _ | with_reducible apply Sel.tl | with_reducible apply Sel.sk))) | (with_reducible apply Cov.cons; (· repeat (first | with_reducible exact Sel.nil _ | with_reducible exact Sel.ap _ _ | with_reducible exact Sel.hd _ _ | with_reducible exact Sel.all _ | with_reducible apply Sel.tl | with_reducible apply Sel.sk))) | with_reducible refine Cov.drop _ ?_ | with_reducible refine Cov.skip _ ?_))⟩
          · have HG := Lib.hid hg
            clear hg a1 a2 a3 a4
            go_enter Try.func11, Try.ntmps11
            go_wp2_with (first | (go_at_call 21; (with_reducible refine (snew_yes K s c h1 h2).mono ?_); clear K; rintro e w1 ⟨gv, rfl, X, HD, K⟩) | (go_at_call 46; (with_reducible refine (rnew_any K _ _).mono ?_); clear K; rintro e w1 ⟨rfl, K⟩) | (go_at_call 44; (with_reducible refine (sgreat_any (K.cov (Cov.all _)) (R.cov (Cov.nil _)) hc).mono ?_); rintro e w9 ⟨rfl, rfl⟩; rw [HG.out]) | (go_at_call 31; (with_reducible refine (awake06K K).mono ?_); clear K; rintro e w1 ⟨rfl, K⟩) | (go_at_call 42; (with_reducible refine (ssize_any K HD).mono ?_); rintro e w' ⟨rfl, rfl⟩; rw [show (Dev.new s c).size = s from rfl]) | (go_at_call 43; (with_reducible refine (scount_any K HD).mono ?_); rintro e w' ⟨rfl, rfl⟩; rw [show (Dev.new s c).count = c from rfl]))
            go_ret
            exact ⟨rfl, K.cov (by repeat (first | with_reducible exact Cov.all _ | with_reducible exact Cov.left _ _ | with_reducible exact Cov.nil _ | (with_reducible apply Cov.app; (· repeat (first | with_reducible exact Sel.nil _ | with_reducible exact Sel.ap _ _ | with_reducible exact Sel.hd _ _ | with_reducible exact Sel.all _ | with_reducible apply Sel.tl | with_reducible apply Sel.sk))) | (with_reducible apply Cov.cons; (· repeat (first | with_reducible exact Sel.nil _ | with_reducible exact Sel.ap _ _ | with_reducible exact Sel.hd _ _ | with_reducible exact Sel.all _ | with_reducible apply Sel.tl | with_reducible apply Sel.sk))) | with_reducible refine Cov.drop _ ?_ | with_reducible refine Cov.skip _ ?_))⟩
end
end Go.Proofs.Ytokbloddaoakgaa
