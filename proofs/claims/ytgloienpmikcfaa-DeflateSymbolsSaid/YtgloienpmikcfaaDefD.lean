/-
  The statements DeflateStores and DeflateSymbols (walks).
-/
import Derived.Test.YtgloienpmikcfaaDefC
set_option linter.unusedVariables false
set_option linter.unusedSimpArgs false
namespace Go.Proofs.Ytgloienpmikcfaa
open Go.RowKit
section
variable {w0 w : World} {L : List Ent}
set_option maxRecDepth 100000 in
theorem rstored_any {A : Option Addr} {n c : Nat} {xs : List Int} (K : Known w0 w L) (R : RdS w0 L .u8 A n xs) (hn : n ≤ 65535) :
    Calls Try.prog 21 #[.slice A n c] w fun e w' => ∃ A' n' c' X, e = .returned (.slice A' n' c') ∧ OwnL 5 1 A' n' c' ((stBlock true xs).map (Value.int .u8)) X ∧ Known w0 w' (X ++ L) := by
  have HL := Lib.hid R.len
  go_enter Try.func21, Try.ntmps21
  go_wp2_with (first | ((with_reducible refine at_buildSlice (n := 5) rfl ?_); go_loud (refine wpList_does rfl (kd_litsN K _ _ _ rfl (by first | rfl | (go_simp; done) | (go_simp; rfl)) (by first | rfl | (go_simp; done) | (go_simp; rfl)) (xs := [_, _, _, _, _]) (by rfl) (by rfl) (by kernel_rfl)) ?_; clear K; rintro _ w1 ⟨g, rfl, K, O⟩)) | (at_builtin; go_loud (refine wpList_does rfl (kd_appendN K _ _ rfl rfl rfl (by with_reducible assumption) (by repeat (first | with_reducible exact Seg.nil _ | with_reducible exact Seg.all _ | with_reducible exact Seg.ap _ _ | with_reducible exact Seg.hd _ _ | with_reducible apply Seg.tl | with_reducible apply Seg.sk)) (R.get K (by repeat (first | with_reducible exact Cov.all _ | with_reducible exact Cov.left _ _ | with_reducible exact Cov.nil _ | with_reducible refine Cov.app (by repeat (first | with_reducible exact Sel.ap _ _ | with_reducible exact Sel.hd _ _ | with_reducible exact Sel.all _ | with_reducible apply Sel.tl | with_reducible apply Sel.sk)) ?_ | with_reducible refine Cov.cons (by repeat (first | with_reducible exact Sel.ap _ _ | with_reducible exact Sel.hd _ _ | with_reducible exact Sel.all _ | with_reducible apply Sel.tl | with_reducible apply Sel.sk)) ?_ | with_reducible refine Cov.drop _ ?_ | with_reducible refine Cov.skip _ ?_))) (by kernel_rfl) (by kernel_rfl) (by omega)) ?_; clear K; rintro _ w1 ⟨A1, c1, X1, rfl, O, K⟩; (try simp only [Nat.zero_add, List.nil_append] at O))) | ((with_reducible refine at_eqnil rfl ?_); go_loud (refine wpList_reads rfl (kr_eqnil rfl rfl (by kernel_rfl)) ?_)) | ((with_reducible refine at_box rfl ?_); go_loud (refine wpList_does rfl (kd_box K _ _ rfl (by conv => lhs; whnf)) ?_; clear K; rintro _ w1 ⟨g, rfl, K⟩; (try dsimp only [Value.cells] at K))) | ((with_reducible refine at_alloc rfl ?_); go_loud (refine wpList_does rfl (kd_alloc K _ rfl rfl) ?_; clear K; rintro _ w1 ⟨g, rfl, K⟩; (try dsimp only [Value.cells] at K))) | ((with_reducible refine at_buildSlice rfl ?_); go_loud (refine wpList_does rfl (kd_lits (cs := _) K _ _ _ rfl (by first | rfl | (go_simp; done) | (go_simp; rfl)) (by first | rfl | (go_simp; done) | (go_simp; rfl))) ?_; clear K; rintro _ w1 ⟨g, rfl, K⟩)) | ((with_reducible refine at_load rfl ?_); go_loud (first | (refine wpList_reads rfl (kr_load_cell K _ _ rfl rfl (by repeat (first | with_reducible exact Has.hd _ _ | with_reducible refine Has.tl _ ?_ | with_reducible refine Has.ap _ ?_)) (by kernel_rfl) (by (try simp only [List.getElem?_toArray, List.getElem?_cons_succ, List.getElem?_cons_zero]); exact rfl)) ?_) | (refine wpList_reads rfl (kr_load_row K _ _ rfl rfl (by repeat (first | with_reducible exact Has.hd _ _ | with_reducible refine Has.tl _ ?_ | with_reducible refine Has.ap _ ?_)) (by kernel_rfl) (by kernel_rfl)) ?_) | (refine wpList_reads rfl (kr_load_mid K _ _ rfl rfl (by repeat (first | with_reducible exact Has.hd _ _ | with_reducible refine Has.tl _ ?_ | with_reducible refine Has.ap _ ?_)) (by kernel_rfl) (by kernel_rfl) (by rfl) (by kernel_rfl)) ?_))) | ((with_reducible refine at_store rfl ?_); go_loud ((first | (refine wpList_does rfl (kd_store_cell K _ _ _ rfl rfl (by conv => lhs; whnf) (by repeat (first | with_reducible exact Repl.hd _ _ _ | with_reducible apply Repl.tl | with_reducible apply Repl.ap)) rfl rfl (by kernel_rfl) (by kernel_rfl) (by first | (simp only [List.setIfInBounds_toArray, List.set_cons_succ, List.set_cons_zero]; rfl) | rfl)) ?_) | (refine wpList_does rfl (kd_store_row K _ _ _ rfl rfl rfl (by repeat (first | with_reducible exact Repl.hd _ _ _ | with_reducible apply Repl.tl | with_reducible apply Repl.ap)) (by kernel_rfl) (by kernel_rfl) (by kernel_rfl)) ?_)); clear K; intro _ w1 K; (try simp only [Act.put]))))
  go_ret
  refine ⟨_, _, _, _, rfl, ?_, K.cov (by repeat (first | with_reducible exact Cov.all _ | with_reducible exact Cov.left _ _ | with_reducible exact Cov.nil _ | with_reducible refine Cov.app (by repeat (first | with_reducible exact Sel.ap _ _ | with_reducible exact Sel.hd _ _ | with_reducible exact Sel.all _ | with_reducible apply Sel.tl | with_reducible apply Sel.sk)) ?_ | with_reducible refine Cov.cons (by repeat (first | with_reducible exact Sel.ap _ _ | with_reducible exact Sel.hd _ _ | with_reducible exact Sel.all _ | with_reducible apply Sel.tl | with_reducible apply Sel.sk)) ?_ | with_reducible refine Cov.drop _ ?_ | with_reducible refine Cov.skip _ ?_))⟩
  have e : ∀ x : Int, 0 ≤ x → x ≤ 255 → IntKind.u8.wrap x = x := fun x h0 h1 => by simp [IntKind.wrap, IntKind.bits, IntKind.signed] <;> omega
  have hs : stBlock true xs = [1, (n : Int) % 256, (n : Int) / 256, 255 - (n : Int) % 256, 255 - (n : Int) / 256] ++ xs := by
    simp only [stBlock, leI, HL.out]
    simp
    omega
  rw [hs]
  simpa [e] using O
set_option maxRecDepth 100000 in
theorem awake12_any (K : Known w0 w L) : Calls Try.prog 19 #[] w fun e w' => e = .returned (.bool true) ∧ Known w0 w' L := by
  have hs : stL [] = [1, 0, 0, 255, 255] := by decide +kernel
  have HS := Lib.hid hs
  clear hs
  have hstr : (strOfNums [1, 0, 0, 255, 255]).toList = [1, 0, 0, 255, 255] := by decide +kernel
  go_enter Try.func19, Try.ntmps19
  go_wp2_with (first | (go_at_call 22; go_loud ((with_reducible refine (dlen_any 13 266 1 0 K (by decide)).mono ?_); clear K; rintro e w1 ⟨rfl, K⟩)) | (go_at_call 20; go_loud ((with_reducible refine (stored_any K (RdS.nil _ _ _ _) (by simp) (by omega) (by omega)).mono ?_); clear K; rintro e w1 ⟨A1, n1, c1, X1, rfl, O, K⟩; rw [HS.out] at O)) | ((with_reducible refine at_convert (t := 44) (u := 9) rfl ?_); go_loud (refine wpList_reads rfl (kr_string rfl rfl ((RdS.own (L := _) O (by repeat (first | with_reducible exact Seg.nil _ | with_reducible exact Seg.all _ | with_reducible exact Seg.ap _ _ | with_reducible exact Seg.hd _ _ | with_reducible apply Seg.tl | with_reducible apply Seg.sk))).at_ _ K) Try.underlying44 Try.underlying5 Try.underlying9) ?_)))
  go_ret
  exact ⟨rfl, K.cov (by repeat (first | with_reducible exact Cov.all _ | with_reducible exact Cov.left _ _ | with_reducible exact Cov.nil _ | with_reducible refine Cov.app (by repeat (first | with_reducible exact Sel.ap _ _ | with_reducible exact Sel.hd _ _ | with_reducible exact Sel.all _ | with_reducible apply Sel.tl | with_reducible apply Sel.sk)) ?_ | with_reducible refine Cov.cons (by repeat (first | with_reducible exact Sel.ap _ _ | with_reducible exact Sel.hd _ _ | with_reducible exact Sel.all _ | with_reducible apply Sel.tl | with_reducible apply Sel.sk)) ?_ | with_reducible refine Cov.drop _ ?_ | with_reducible refine Cov.skip _ ?_))⟩
set_option maxHeartbeats 1000000 in
set_option maxRecDepth 100000 in
theorem symbols_walk (n : Int) (w : World) : Calls Try.prog 6 #[.int .i64 n] w fun e w' => e = .returned (.bool true) ∧ Below w.heap.size w w' := by
  obtain ⟨⟨a, b, c⟩, h1⟩ : ∃ x, lenSym n = x := ⟨_, rfl⟩
  obtain ⟨⟨d, e, f⟩, h2⟩ : ∃ x, distSym n = x := ⟨_, rfl⟩
  obtain ⟨m, h3⟩ : ∃ x, mostN n = x := ⟨_, rfl⟩
  have H1 := Lib.hid h1; have H2 := Lib.hid h2; have H3 := Lib.hid h3
  clear h1 h2 h3
  have K := Known.start w
  go_enter Try.func6, Try.ntmps6
  go_wp2_with (first | (go_at_call 22; go_loud ((with_reducible refine (dlen_any n a b c K H1.out).mono ?_); clear K; rintro e w1 ⟨rfl, K⟩)) | (go_at_call 23; go_loud ((with_reducible refine (rlen_any n a b c K H1.out).mono ?_); clear K; rintro e w1 ⟨rfl, K⟩)) | (go_at_call 24; go_loud ((with_reducible refine (ddist_any n d e f K H2.out).mono ?_); clear K; rintro e w1 ⟨rfl, K⟩)) | (go_at_call 25; go_loud ((with_reducible refine (rdist_any n d e f K H2.out).mono ?_); clear K; rintro e w1 ⟨rfl, K⟩)) | (go_at_call 26; go_loud ((with_reducible refine (most_any n m H3.out _).mono ?_); rintro e w' ⟨rfl, rfl⟩)) | (go_at_call 27; go_loud ((with_reducible refine (rmost_any n m H3.out _).mono ?_); rintro e w' ⟨rfl, rfl⟩)) | (go_at_call 19; go_loud ((with_reducible refine (awake12_any K).mono ?_); clear K; rintro e w1 ⟨rfl, K⟩)))
  go_ret
  exact ⟨rfl, K.fr⟩
set_option maxHeartbeats 1000000 in
set_option maxRecDepth 100000 in
theorem stores_walk {A : Option Addr} {n c : Nat} {xs : List Int} (w : World) (R : Rd w .u8 A n xs) (hc : n ≤ c) (hb : ∀ v ∈ xs, 0 ≤ v ∧ v ≤ 255) : Calls Try.prog 5 #[.slice A n c] w fun e w' => e = .returned (.bool true) ∧ Below w.heap.size w w' := by
  have K := Known.start w
  have R := RdS.base R []
  by_cases h : n ≤ 3000
  · have HB := Lib.hid hb
    have h1 : ¬ (3000 < (n : Int)) := by omega
    have HS := Lib.hid (stL_small xs (by rw [R.len]; omega))
    clear hb
    go_enter Try.func5, Try.ntmps5
    go_wp2_with (first | ((with_reducible refine at_buildSlice (n := 0) rfl ?_); go_loud (refine wpList_does rfl (kd_lit0 K _ 5 1 rfl Try.underlying44 (by kernel_rfl)) ?_; clear K; rintro _ w1 ⟨g, rfl, K⟩; have O : OwnL 5 1 (some ⟨g, 0, none⟩) 0 0 (([] : List Int).map (Value.int .u8)) [row g #[] 5] := OwnL.lit0 _ _)) | (at_builtin; go_loud (refine wpList_does rfl (kd_appendN K _ _ rfl rfl rfl (by with_reducible assumption) (by repeat (first | with_reducible exact Seg.nil _ | with_reducible exact Seg.all _ | with_reducible exact Seg.ap _ _ | with_reducible exact Seg.hd _ _ | with_reducible apply Seg.tl | with_reducible apply Seg.sk)) (R.get K (by repeat (first | with_reducible exact Cov.all _ | with_reducible exact Cov.left _ _ | with_reducible exact Cov.nil _ | with_reducible refine Cov.app (by repeat (first | with_reducible exact Sel.ap _ _ | with_reducible exact Sel.hd _ _ | with_reducible exact Sel.all _ | with_reducible apply Sel.tl | with_reducible apply Sel.sk)) ?_ | with_reducible refine Cov.cons (by repeat (first | with_reducible exact Sel.ap _ _ | with_reducible exact Sel.hd _ _ | with_reducible exact Sel.all _ | with_reducible apply Sel.tl | with_reducible apply Sel.sk)) ?_ | with_reducible refine Cov.drop _ ?_ | with_reducible refine Cov.skip _ ?_))) (by kernel_rfl) (by kernel_rfl) (by omega)) ?_; clear K; rintro _ w1 ⟨A1, c1, X1, rfl, O, K⟩; (try simp only [Nat.zero_add, List.nil_append] at O))) | (go_at_call 20; go_loud ((with_reducible refine (stored_any K (RdS.own O (by repeat (first | with_reducible exact Seg.nil _ | with_reducible exact Seg.all _ | with_reducible exact Seg.ap _ _ | with_reducible exact Seg.hd _ _ | with_reducible apply Seg.tl | with_reducible apply Seg.sk))) HB.out O.le (by omega)).mono ?_); clear K; rintro e w1 ⟨A2, n2, c2, X2, rfl, O2, K⟩; rw [HS.out] at O2)))
    refine wp_region_GK K (Cov.all _) (by kernel_rfl) (by kernel_rfl) (by kernel_rfl) (fun K hHeld => ?_)
    refine wpG_take (i := 0) (x := { dst := some 15, op := Op.move (Operand.tmp 4), type := 44, pos := "law.go:34", after := #[], guard := none }) (v := ?_) rfl (by kernel_rfl) (fun _ _ _ h => h) (Or.inl ⟨by rfl, ?_⟩) hHeld ?_
    rotate_left
    · (intro w hS; (clear hS; go_simp); try with_reducible rfl)
    try simp only [Act.put, List.setIfInBounds_toArray, List.set_cons_zero, List.set_cons_succ]
    refine wpG_take (i := 1) (x := { dst := some 16, op := Op.convert 44 9 (Operand.tmp 15), type := 9, pos := "law.go:34", after := #[{ on := 0, ground := Ground.data }], guard := none }) (v := .string (strOfNums (stBlock true xs))) rfl (by kernel_rfl) (fun _ _ _ h => h) (Or.inl ⟨by rfl, ?_⟩) hHeld ?_
    · (intro w hS; first | exact kr_string (by rfl) (by rfl) ((RdS.own (L := _) O2 (by repeat (first | with_reducible exact Seg.nil _ | with_reducible exact Seg.all _ | with_reducible exact Seg.ap _ _ | with_reducible exact Seg.hd _ _ | with_reducible apply Seg.tl | with_reducible apply Seg.sk))).at_ _ hS) Try.underlying44 Try.underlying5 Try.underlying9)
    try simp only [Act.put, List.setIfInBounds_toArray, List.set_cons_zero, List.set_cons_succ]
    refine wpG_take (i := 2) (x := { dst := some 17, op := Op.move (Operand.tmp 0), type := 44, pos := "law.go:34", after := #[], guard := none }) (v := ?_) rfl (by kernel_rfl) (fun _ _ _ h => h) (Or.inl ⟨by rfl, ?_⟩) hHeld ?_
    rotate_left
    · (intro w hS; (clear hS; go_simp); try with_reducible rfl)
    try simp only [Act.put, List.setIfInBounds_toArray, List.set_cons_zero, List.set_cons_succ]
    refine wpG_one (i := 3) (o := { dst := some 18, op := Op.call { callee := Callee.value (Operand.func 21), args := #[Operand.tmp 17], argTypes := #[44] }, type := 44, pos := "law.go:34", after := #[{ on := 2, ground := Ground.data }], guard := none }) rfl (by kernel_rfl) (fun K9 hK => ?_)
    go_simp
    (go_at_call 21; (with_reducible refine (rstored_any K (R.cov (by repeat (first | with_reducible exact Cov.all _ | with_reducible exact Cov.left _ _ | with_reducible exact Cov.nil _ | with_reducible refine Cov.app (by repeat (first | with_reducible exact Sel.ap _ _ | with_reducible exact Sel.hd _ _ | with_reducible exact Sel.all _ | with_reducible apply Sel.tl | with_reducible apply Sel.sk)) ?_ | with_reducible refine Cov.cons (by repeat (first | with_reducible exact Sel.ap _ _ | with_reducible exact Sel.hd _ _ | with_reducible exact Sel.all _ | with_reducible apply Sel.tl | with_reducible apply Sel.sk)) ?_ | with_reducible refine Cov.drop _ ?_ | with_reducible refine Cov.skip _ ?_))) (by omega)).mono ?_); clear K; rintro e w1 ⟨A3, n3, c3, X3, rfl, O3, K⟩)
    refine hK.out _ _ (K.cov (by repeat (first | with_reducible exact Cov.all _ | with_reducible exact Cov.left _ _ | with_reducible exact Cov.nil _ | with_reducible refine Cov.app (by repeat (first | with_reducible exact Sel.ap _ _ | with_reducible exact Sel.hd _ _ | with_reducible exact Sel.all _ | with_reducible apply Sel.tl | with_reducible apply Sel.sk)) ?_ | with_reducible refine Cov.cons (by repeat (first | with_reducible exact Sel.ap _ _ | with_reducible exact Sel.hd _ _ | with_reducible exact Sel.all _ | with_reducible apply Sel.tl | with_reducible apply Sel.sk)) ?_ | with_reducible refine Cov.drop _ ?_ | with_reducible refine Cov.skip _ ?_))) (fun hHeld => ?_)
    clear hK K9
    try simp only [Act.put, List.setIfInBounds_toArray, List.set_cons_zero, List.set_cons_succ]
    refine wpG_one (i := 4) (o := { dst := some 19, op := Op.convert 44 9 (Operand.tmp 18), type := 9, pos := "law.go:34", after := #[{ on := 3, ground := Ground.data }], guard := none }) rfl (by kernel_rfl) (fun K9 hK => ?_)
    refine st_does (by rfl) (Does.val (kr_string (by rfl) (by rfl) ((RdS.own (L := _) O3 (by repeat (first | with_reducible exact Seg.nil _ | with_reducible exact Seg.all _ | with_reducible exact Seg.ap _ _ | with_reducible exact Seg.hd _ _ | with_reducible apply Seg.tl | with_reducible apply Seg.sk))).at_ _ K) Try.underlying44 Try.underlying5 Try.underlying9) (R := fun v w1 => v = _ ∧ w1 = _) ⟨rfl, rfl⟩) ?_
    rintro _ _ ⟨rfl, rfl⟩
    refine hK.out _ _ (K.cov (by repeat (first | with_reducible exact Cov.all _ | with_reducible exact Cov.left _ _ | with_reducible exact Cov.nil _ | with_reducible refine Cov.app (by repeat (first | with_reducible exact Sel.ap _ _ | with_reducible exact Sel.hd _ _ | with_reducible exact Sel.all _ | with_reducible apply Sel.tl | with_reducible apply Sel.sk)) ?_ | with_reducible refine Cov.cons (by repeat (first | with_reducible exact Sel.ap _ _ | with_reducible exact Sel.hd _ _ | with_reducible exact Sel.all _ | with_reducible apply Sel.tl | with_reducible apply Sel.sk)) ?_ | with_reducible refine Cov.drop _ ?_ | with_reducible refine Cov.skip _ ?_))) (fun hHeld => ?_)
    clear hK K9
    try simp only [Act.put, List.setIfInBounds_toArray, List.set_cons_zero, List.set_cons_succ]
    refine wpG_take (i := 5) (x := { dst := some 20, op := Op.binOp BinOp.eql 9 (Operand.tmp 16) (Operand.tmp 19) 9, type := 4, pos := "law.go:34", after := #[{ on := 1, ground := Ground.data }, { on := 4, ground := Ground.data }], guard := none }) (v := ?_) rfl (by kernel_rfl) (fun _ _ _ h => h) (Or.inl ⟨by rfl, ?_⟩) hHeld ?_
    rotate_left
    · (intro w hS; (clear hS; go_simp); try with_reducible rfl)
    try simp only [Act.put, List.setIfInBounds_toArray, List.set_cons_zero, List.set_cons_succ]
    refine wpG_take (i := 6) (x := { dst := some 21, op := Op.move (Operand.tmp 20), type := 4, pos := "law.go:34", after := #[{ on := 5, ground := Ground.data }, { on := 3, ground := Ground.chain }], guard := none }) (v := ?_) rfl (by kernel_rfl) (fun _ _ _ h => h) (Or.inl ⟨by rfl, ?_⟩) hHeld ?_
    rotate_left
    · (intro w hS; (clear hS; go_simp); try with_reducible rfl)
    try simp only [Act.put, List.setIfInBounds_toArray, List.set_cons_zero, List.set_cons_succ]
    refine wpG_take (i := 7) (x := { dst := some 22, op := Op.move (Operand.tmp 3), type := 44, pos := "law.go:34", after := #[{ on := 6, ground := Ground.guard }], guard := some (6, true) }) (v := ?_) rfl (by kernel_rfl) (fun _ _ _ h => h) (Or.inl ⟨by rfl, ?_⟩) hHeld ?_
    rotate_left
    · (intro w hS; (clear hS; go_simp); try with_reducible rfl)
    try simp only [Act.put, List.setIfInBounds_toArray, List.set_cons_zero, List.set_cons_succ]
    refine wpG_take (i := 8) (x := { dst := some 23, op := Op.convert 44 9 (Operand.tmp 22), type := 9, pos := "law.go:34", after := #[{ on := 7, ground := Ground.data }, { on := 6, ground := Ground.guard }], guard := some (6, true) }) (v := .string (strOfNums (xs))) rfl (by kernel_rfl) (fun _ _ _ h => h) (Or.inl ⟨by rfl, ?_⟩) hHeld ?_
    · (intro w hS; first | exact kr_string (by rfl) (by rfl) ((RdS.own (L := _) O (by repeat (first | with_reducible exact Seg.nil _ | with_reducible exact Seg.all _ | with_reducible exact Seg.ap _ _ | with_reducible exact Seg.hd _ _ | with_reducible apply Seg.tl | with_reducible apply Seg.sk))).at_ _ hS) Try.underlying44 Try.underlying5 Try.underlying9)
    try simp only [Act.put, List.setIfInBounds_toArray, List.set_cons_zero, List.set_cons_succ]
    refine wpG_take (i := 9) (x := { dst := some 24, op := Op.move (Operand.tmp 0), type := 44, pos := "law.go:34", after := #[{ on := 6, ground := Ground.guard }], guard := some (6, true) }) (v := ?_) rfl (by kernel_rfl) (fun _ _ _ h => h) (Or.inl ⟨by rfl, ?_⟩) hHeld ?_
    rotate_left
    · (intro w hS; (clear hS; go_simp); try with_reducible rfl)
    try simp only [Act.put, List.setIfInBounds_toArray, List.set_cons_zero, List.set_cons_succ]
    refine wpG_take (i := 10) (x := { dst := some 25, op := Op.convert 44 9 (Operand.tmp 24), type := 9, pos := "law.go:34", after := #[{ on := 9, ground := Ground.data }, { on := 6, ground := Ground.guard }], guard := some (6, true) }) (v := .string (strOfNums (xs))) rfl (by kernel_rfl) (fun _ _ _ h => h) (Or.inl ⟨by rfl, ?_⟩) hHeld ?_
    · (intro w hS; first | exact kr_string (by rfl) (by rfl) (R.get hS (by repeat (first | with_reducible exact Cov.all _ | with_reducible exact Cov.left _ _ | with_reducible exact Cov.nil _ | with_reducible refine Cov.app (by repeat (first | with_reducible exact Sel.ap _ _ | with_reducible exact Sel.hd _ _ | with_reducible exact Sel.all _ | with_reducible apply Sel.tl | with_reducible apply Sel.sk)) ?_ | with_reducible refine Cov.cons (by repeat (first | with_reducible exact Sel.ap _ _ | with_reducible exact Sel.hd _ _ | with_reducible exact Sel.all _ | with_reducible apply Sel.tl | with_reducible apply Sel.sk)) ?_ | with_reducible refine Cov.drop _ ?_ | with_reducible refine Cov.skip _ ?_))) Try.underlying44 Try.underlying5 Try.underlying9)
    try simp only [Act.put, List.setIfInBounds_toArray, List.set_cons_zero, List.set_cons_succ]
    refine wpG_take (i := 11) (x := { dst := some 26, op := Op.binOp BinOp.eql 9 (Operand.tmp 23) (Operand.tmp 25) 9, type := 4, pos := "law.go:34", after := #[{ on := 8, ground := Ground.data }, { on := 10, ground := Ground.data }, { on := 6, ground := Ground.guard }], guard := some (6, true) }) (v := ?_) rfl (by kernel_rfl) (fun _ _ _ h => h) (Or.inl ⟨by rfl, ?_⟩) hHeld ?_
    rotate_left
    · (intro w hS; (clear hS; go_simp); try with_reducible rfl)
    try simp only [Act.put, List.setIfInBounds_toArray, List.set_cons_zero, List.set_cons_succ]
    refine wpG_take (i := 12) (x := { dst := some 27, op := Op.pick (Operand.tmp 21) (Operand.tmp 26) (Operand.const (Value.bool false)), type := 4, pos := "law.go:34", after := #[{ on := 6, ground := Ground.data }, { on := 11, ground := Ground.data }], guard := none }) (v := ?_) rfl (by kernel_rfl) (fun _ _ _ h => h) (Or.inl ⟨by rfl, ?_⟩) hHeld ?_
    rotate_left
    · (intro w hS; (clear hS; go_simp); try with_reducible rfl)
    try simp only [Act.put, List.setIfInBounds_toArray, List.set_cons_zero, List.set_cons_succ]
    refine wpG_take (i := 13) (x := { dst := some 28, op := Op.move (Operand.tmp 27), type := 4, pos := "law.go:34", after := #[{ on := 12, ground := Ground.data }, { on := 6, ground := Ground.chain }], guard := none }) (v := ?_) rfl (by kernel_rfl) (fun _ _ _ h => h) (Or.inl ⟨by rfl, ?_⟩) hHeld ?_
    rotate_left
    · (intro w hS; (clear hS; go_simp); try with_reducible rfl)
    try simp only [Act.put, List.setIfInBounds_toArray, List.set_cons_zero, List.set_cons_succ]
    refine wpG_one (i := 14) (o := { dst := some 29, op := Op.call { callee := Callee.value (Operand.func 19), args := #[], argTypes := #[] }, type := 4, pos := "law.go:34", after := #[{ on := 13, ground := Ground.chain }, { on := 13, ground := Ground.guard }], guard := some (13, true) }) rfl (by kernel_rfl) (fun K9 hK => ?_)
    go_simp
    (go_at_call 19; (with_reducible refine (awake12_any K).mono ?_); clear K; rintro e w1 ⟨rfl, K⟩)
    refine hK.out _ _ (K.cov (by repeat (first | with_reducible exact Cov.all _ | with_reducible exact Cov.left _ _ | with_reducible exact Cov.nil _ | with_reducible refine Cov.app (by repeat (first | with_reducible exact Sel.ap _ _ | with_reducible exact Sel.hd _ _ | with_reducible exact Sel.all _ | with_reducible apply Sel.tl | with_reducible apply Sel.sk)) ?_ | with_reducible refine Cov.cons (by repeat (first | with_reducible exact Sel.ap _ _ | with_reducible exact Sel.hd _ _ | with_reducible exact Sel.all _ | with_reducible apply Sel.tl | with_reducible apply Sel.sk)) ?_ | with_reducible refine Cov.drop _ ?_ | with_reducible refine Cov.skip _ ?_))) (fun hHeld => ?_)
    clear hK K9
    try simp only [Act.put, List.setIfInBounds_toArray, List.set_cons_zero, List.set_cons_succ]
    refine wpG_take (i := 15) (x := { dst := some 30, op := Op.pick (Operand.tmp 28) (Operand.tmp 29) (Operand.const (Value.bool false)), type := 4, pos := "law.go:34", after := #[{ on := 13, ground := Ground.data }, { on := 14, ground := Ground.data }], guard := none }) (v := ?_) rfl (by kernel_rfl) (fun _ _ _ h => h) (Or.inl ⟨by rfl, ?_⟩) hHeld ?_
    rotate_left
    · (intro w hS; (clear hS; go_simp); try with_reducible rfl)
    try simp only [Act.put, List.setIfInBounds_toArray, List.set_cons_zero, List.set_cons_succ]
    refine wpG_take (i := 16) (x := { dst := some 2, op := Op.assign (Operand.tmp 30), type := 4, pos := "law.go:34", after := #[{ on := 15, ground := Ground.data }, { on := 14, ground := Ground.chain }, { on := 0, ground := Ground.phase }, { on := 1, ground := Ground.phase }, { on := 2, ground := Ground.phase }, { on := 3, ground := Ground.phase }, { on := 4, ground := Ground.phase }, { on := 5, ground := Ground.phase }, { on := 6, ground := Ground.phase }, { on := 7, ground := Ground.phase }, { on := 8, ground := Ground.phase }, { on := 9, ground := Ground.phase }, { on := 10, ground := Ground.phase }, { on := 11, ground := Ground.phase }, { on := 12, ground := Ground.phase }, { on := 13, ground := Ground.phase }, { on := 14, ground := Ground.phase }, { on := 15, ground := Ground.phase }], guard := none }) (v := ?_) rfl (by kernel_rfl) (fun _ _ _ h => h) (Or.inl ⟨by rfl, ?_⟩) hHeld ?_
    rotate_left
    · (intro w hS; (clear hS; go_simp); try with_reducible rfl)
    try simp only [Act.put, List.setIfInBounds_toArray, List.set_cons_zero, List.set_cons_succ]
    refine wpG_done (by kernel_rfl) ?_
    skip
    go_wp2
    go_ret
    exact ⟨rfl, K.fr⟩
  · have h1 : 3000 < (n : Int) := by omega
    go_enter Try.func5, Try.ntmps5
    go_wp2_with (first | (go_at_call 19; go_loud ((with_reducible refine (awake12_any K).mono ?_); clear K; rintro e w1 ⟨rfl, K⟩)))
    go_ret
    exact ⟨rfl, K.fr⟩
end
end Go.Proofs.Ytgloienpmikcfaa
