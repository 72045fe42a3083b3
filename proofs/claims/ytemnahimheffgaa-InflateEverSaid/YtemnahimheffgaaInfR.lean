/-
  Package inflate: step, whatever comes of it (contract).
-/
import Derived.Test.YtemnahimheffgaaInfQ
set_option linter.unusedVariables false
set_option linter.unusedSimpArgs false
namespace Go.Proofs.Ytemnahimheffgaa
open Go.RowKit
theorem wp_thr {P : Program} {c : Code} {Q : Exit → Act → World → Prop} {a : Act} {w : World} (Rr : List PanicEntry → World → Prop)
    (hQ : ∀ ch a' w', a'.defers = a.defers → a'.tmps.getD 2 undef = a.tmps.getD 2 undef → Rr ch w' → Q (.panic ch) a' w')
    (h : c.wp P (fun e a' w' => match e with | .normal => Q .normal a' w' | .panic ch => a'.defers = a.defers ∧ a'.tmps.getD 2 undef = a.tmps.getD 2 undef ∧ Rr ch w' | _ => False) a w) : c.wp P Q a w :=
  wp_mono h fun e a w h => by
    cases e with
    | normal => exact h
    | panic ch => exact hQ ch a w h.1 h.2.1 h.2.2
    | _ => exact h.elim
theorem thr_put {D : List Deferred} {tv : Value} {R : Prop} {a : Act} {d : Option Nat} {v : Value} (hd : d ≠ some 2) (h : (a.put d v).defers = D ∧ (a.put d v).tmps.getD 2 undef = tv ∧ R) : a.defers = D ∧ a.tmps.getD 2 undef = tv ∧ R := by
  cases d with
  | none => exact h
  | some i =>
    refine ⟨h.1, ?_, h.2.2⟩
    rw [← h.2.1]
    have : i ≠ 2 := fun e => hd (by rw [e])
    simp [Act.put, Array.getD_eq_getD_getElem?, Array.getElem?_setIfInBounds, this]
theorem Is.setNext {m : Mo} {x : Ifl} {Z : List Ent} (h : Is m x Z) (v : Value) : Is m { x with next := v } Z := ⟨⟨h.1.most, h.1.h0, h.1.h5, h.1.on, h.1.room, h.1.byte, h.1.last, h.1.left, h.1.fit, h.1.e⟩, h.2⟩
theorem Is.setE {m : Mo} {x : Ifl} {Z : List Ent} (h : Is m x Z) (v : Int) : Is { m with e := v } { x with e := v } Z := ⟨⟨h.1.most, h.1.h0, h.1.h5, h.1.on, h.1.room, h.1.byte, h.1.last, h.1.left, h.1.fit, rfl⟩, h.2⟩
theorem nxtV_fn {n : Nat} (h : n ≠ 0) : ∃ f2, nxtV n = fnI f2 := by
  unfold nxtV
  split
  · exact absurd rfl h
  · exact ⟨_, rfl⟩
  · exact ⟨_, rfl⟩
  · exact ⟨_, rfl⟩

def StepP (w0 : World) (gx gr : Nat) (bs : List Int) (x : Ifl) (L : List Ent) (R : (Mo × Nat) × Bool) (e : Ending) (w' : World) : Prop :=
  e = .returned (.bool R.2) ∧ ∃ x' X', Rdr gr bs R.1.2 X' ∧ ∃ Z', Is R.1.1 x' Z' ∧ Keeps x x' ∧ x'.next = nxtV R.1.1.next ∧ Known w0 w' (X' ++ (row gx (ifC x') 53 :: (Z' ++ L)))
section
variable {w0 w : World} {L M Xr Z : List Ent} {gx gr p : Nat} {x : Ifl} {bs : List Int} {m : Mo}
set_option maxHeartbeats 1600000 in
set_option maxRecDepth 100000 in
theorem istep2_begins (K : Known w0 w (Xr ++ (row gx (ifC x) 53 :: (Z ++ L)))) (hR : Rdr gr bs p Xr) (hr : x.r = ptr' gr) (hI : Is m x Z) (hnx : x.next = nxtV m.next) (hn1 : m.next = 1) :
    Calls Try.prog 26 #[ptr' gx] w (StepP w0 gx gr bs x L (stepM bs m p)) := by
  have hmf : ∀ (fn : Fn) (first cap : Array Value) (w : World), (Instr.makeFunc fn first cap).run Try.prog w = .ok (.func fn first cap) w := fun _ _ _ _ => rfl
  have hnx2 : x.next = fnI 23 := by rw [hnx, hn1]; rfl
  clear hnx
  obtain ⟨R0, hR0⟩ : ∃ R0, beginsM (ofBytes bs) m p = R0 := ⟨_, rfl⟩
  have HST := Lib.hid hR0
  have hst : stateM bs m p = R0 := by
    rw [← hR0, stateM]
    simp [hn1]
  obtain ⟨RS, hRS⟩ : ∃ RS, stepM bs m p = RS := ⟨_, rfl⟩
  rw [hRS]
  clear hR0
  have hple := hR.le
  have HH := Lib.hid hn1
  rcases R0 with ⟨m', q⟩ | c
  · obtain ⟨nv, hnv⟩ : ∃ nv, nxtV m'.next = nv := ⟨_, rfl⟩
    by_cases h0 : m'.next = 0
    · have hnil : nv = .nilFunc := by rw [← hnv, h0]; rfl
      subst hnil
      have HNV := Lib.hid hnv
      have HF := Lib.hid (show RS = ((m', q), false) by rw [← hRS, stepM, hst]; simp [h0])
      clear hnv h0 hst hRS
      go_enter_defers Try.func26, Try.ntmps26
      go_upto_region 3 with ((first | ((with_reducible refine at_slot (N := 1) rfl ?_); (with_reducible refine at_box rfl ?_); refine wpList_does rfl (kd_box K _ _ rfl (by conv => lhs; whnf)) ?_; clear K; rintro _ w1 ⟨g1, rfl, K⟩; (try dsimp only [Value.cells] at K)) | ((with_reducible refine at_slot (N := 2) rfl ?_); (with_reducible refine at_alloc rfl ?_); refine wpList_does rfl (kd_alloc K _ rfl rfl) ?_; clear K; rintro _ w1 ⟨g2, rfl, K⟩; (try dsimp only [Value.cells] at K)) | ((with_reducible refine at_slot (N := 3) rfl ?_); (with_reducible refine at_alloc rfl ?_); refine wpList_does rfl (kd_alloc K _ rfl rfl) ?_; clear K; rintro _ w1 ⟨g3, rfl, K⟩; (try dsimp only [Value.cells] at K)) | (((with_reducible refine at_load rfl ?_); first | (refine wpList_reads (by rfl) (kr_load_cell K _ _ (by rfl) (by rfl) Has.auto (by decide +kernel) (if_most _)) ?_) | (refine wpList_reads (by rfl) (kr_load_cell K _ _ (by rfl) (by rfl) Has.auto (by decide +kernel) (if_out _)) ?_) | (refine wpList_reads (by rfl) (kr_load_cell K _ _ (by rfl) (by rfl) Has.auto (by decide +kernel) (if_rest _)) ?_) | (refine wpList_reads (by rfl) (kr_load_cell K _ _ (by rfl) (by rfl) Has.auto (by decide +kernel) (if_from _)) ?_) | (refine wpList_reads (by rfl) (kr_load_cell K _ _ (by rfl) (by rfl) Has.auto (by decide +kernel) (if_r _)) ?_) | (refine wpList_reads (by rfl) (kr_load_cell K _ _ (by rfl) (by rfl) Has.auto (by decide +kernel) (if_next _)) ?_) | (refine wpList_reads (by rfl) (kr_load_cell K _ _ (by rfl) (by rfl) Has.auto (by decide +kernel) (if_last _)) ?_) | (refine wpList_reads (by rfl) (kr_load_cell K _ _ (by rfl) (by rfl) Has.auto (by decide +kernel) (if_left _)) ?_) | (refine wpList_reads (by rfl) (kr_load_cell K _ _ (by rfl) (by rfl) Has.auto (by decide +kernel) (if_lit _)) ?_) | (refine wpList_reads (by rfl) (kr_load_cell K _ _ (by rfl) (by rfl) Has.auto (by decide +kernel) (if_dist _)) ?_) | (refine wpList_reads (by rfl) (kr_load_cell K _ _ (by rfl) (by rfl) Has.auto (by decide +kernel) (if_e _)) ?_)); (try dsimp only)) | (go_at_call 28; (with_reducible refine (rat_any (K.pickS (by repeat (first | with_reducible exact Sel.nil _ | with_reducible exact Sel.ap _ _ | with_reducible exact Sel.hd _ _ | with_reducible exact Sel.all _ | with_reducible apply Sel.tl | with_reducible apply Sel.sk))) hR).mono ?_); clear K; rintro e w1 ⟨rfl, K⟩) | ((with_reducible refine at_eqnil rfl ?_); refine wpList_reads rfl (kr_eqnil rfl rfl (by kernel_rfl)) ?_) | ((with_reducible refine at_box rfl ?_); refine wpList_does rfl (kd_box K _ _ rfl (by conv => lhs; whnf)) ?_; clear K; rintro _ w1 ⟨g, rfl, K⟩; (try dsimp only [Value.cells] at K)) | ((with_reducible refine at_alloc rfl ?_); refine wpList_does rfl (kd_alloc K _ rfl rfl) ?_; clear K; rintro _ w1 ⟨g, rfl, K⟩; (try dsimp only [Value.cells] at K)) | ((with_reducible refine at_buildSlice rfl ?_); refine wpList_does rfl (kd_lits (cs := _) K _ _ _ rfl (by first | rfl | (go_simp; done) | (go_simp; rfl)) (by first | rfl | (go_simp; done) | (go_simp; rfl))) ?_; clear K; rintro _ w1 ⟨g, rfl, K⟩) | ((with_reducible refine at_load rfl ?_); first | (refine wpList_reads (by rfl) (kr_load_cell K _ _ (by rfl) (by rfl) Has.auto (by decide +kernel) (by (try simp only [List.getElem?_toArray, List.getElem?_cons_succ, List.getElem?_cons_zero]); exact rfl)) ?_) | (refine wpList_reads (by rfl) (kr_load_row K _ _ (by rfl) (by rfl) Has.auto (by decide +kernel) (by kernel_rfl)) ?_)) | ((with_reducible refine at_store rfl ?_); (first | (refine wpList_does rfl (kd_store_cell K _ _ _ rfl rfl (by conv => lhs; whnf) Repl.auto rfl rfl (by kernel_rfl) (by kernel_rfl) (by first | (simp only [List.setIfInBounds_toArray, List.set_cons_succ, List.set_cons_zero]; rfl) | rfl)) ?_) | (refine wpList_does rfl (kd_store_row K _ _ _ rfl rfl rfl Repl.auto (by kernel_rfl) (by kernel_rfl) (by kernel_rfl)) ?_)); clear K; intro _ w1 K; (try simp only [Act.put]))))
      refine wp_norm ?_
      refine wp_region_GK (X := [row g1 #[ptr' gx] 33]) K Cov.auto (by kernel_rfl) (by kernel_rfl) (by kernel_rfl) (fun K hHeld => ?_)
      refine wpG_takeA 0 (v := ptr' gx) ?_ hHeld ?_
      · (intro w hS; first | exact kr_load_cell hS _ _ (by rfl) (by rfl) Has.auto (by kernel_rfl) (by rfl))
      try simp only [Act.put, List.setIfInBounds_toArray, List.set_cons_zero, List.set_cons_succ]
      refine wpG_takeA 1 (v := ptr' gx) ?_ hHeld ?_
      · (intro w hS; first | exact kr_load_cell hS _ _ (by rfl) (by rfl) Has.auto (by kernel_rfl) (by rfl))
      try simp only [Act.put, List.setIfInBounds_toArray, List.set_cons_zero, List.set_cons_succ]
      refine wpG_takeA 2 (v := ?_) ?_ hHeld ?_
      rotate_left
      · (intro w hS; (clear hS; go_simp); try with_reducible rfl)
      try simp only [Act.put, List.setIfInBounds_toArray, List.set_cons_zero, List.set_cons_succ]
      refine wpG_takeA 3 (v := ?_) ?_ hHeld ?_
      rotate_left
      · (intro w hS; (clear hS; go_simp); try with_reducible rfl)
      try simp only [Act.put, List.setIfInBounds_toArray, List.set_cons_zero, List.set_cons_succ]
      refine wpG_takeA 5 (v := ptr' gx) ?_ hHeld ?_
      · (intro w hS; first | exact kr_load_cell hS _ _ (by rfl) (by rfl) Has.auto (by kernel_rfl) (by rfl))
      try simp only [Act.put, List.setIfInBounds_toArray, List.set_cons_zero, List.set_cons_succ]
      refine wpG_oneA 4 (fun K9 hK => ?_)
      refine st_does (by rfl) (Does.val (kr_load_cell K _ _ (by rfl) (by rfl) Has.auto (by kernel_rfl) (if_next _)) (R := fun v w1 => v = _ ∧ w1 = _) ⟨rfl, rfl⟩) ?_
      rintro _ _ ⟨rfl, rfl⟩
      refine hK.out _ _ (K.cov Cov.auto) (fun hHeld => ?_)
      clear hK K9
      try simp only [Act.put, List.setIfInBounds_toArray, List.set_cons_zero, List.set_cons_succ]
      refine wpG_oneA 6 (fun K9 hK => ?_)
      go_simp
      (go_at_call 23; refine (ibegins_any (Z := Z) (L := row g3 #[.int .i64 (p : Nat)] 3 :: row g2 #[.bool false] 4 :: row g1 #[ptr' gx] 33 :: L) (K.cov Cov.auto) hR hr hI hn1).mono ?_); clear K; rintro e w1 hSP; rw [HST.out] at hSP; obtain ⟨rfl, x1, X1, Z1, hR1, hI1, hk1, K⟩ := hSP
      rw [HNV.out]
      refine hK.out _ _ (K.cov Cov.auto) (fun hHeld => ?_)
      clear hK K9
      try simp only [Act.put, List.setIfInBounds_toArray, List.set_cons_zero, List.set_cons_succ]
      refine wpG_takeA 7 (v := ?_) ?_ hHeld ?_
      rotate_left
      · (intro w hS; (clear hS; go_simp); try with_reducible rfl)
      try simp only [Act.put, List.setIfInBounds_toArray, List.set_cons_zero, List.set_cons_succ]
      refine wpG_takeA 8 (v := ?_) ?_ hHeld ?_
      rotate_left
      · (intro w hS; (clear hS; go_simp); try with_reducible rfl)
      try simp only [Act.put, List.setIfInBounds_toArray, List.set_cons_zero, List.set_cons_succ]
      refine wpG_lastA 9 (fun K9 hK => ?_)
      refine st_does (by rfl) (kd_store_cell K _ _ _ (by rfl) (by rfl) (by conv => lhs; whnf) Repl.auto (by rfl) (by rfl) (by kernel_rfl) (by rfl) (if_s_next _ _)) ?_
      clear K; intro _ w1 K; (try dsimp only at K)
      refine hK.out _ _ ?_
      clear hK K9
      try simp only [Act.put, List.setIfInBounds_toArray, List.set_cons_zero, List.set_cons_succ]
      skip
      go_wp2_with (first | (((with_reducible refine at_load rfl ?_); first | (refine wpList_reads (by rfl) (kr_load_cell K _ _ (by rfl) (by rfl) Has.auto (by decide +kernel) (if_most _)) ?_) | (refine wpList_reads (by rfl) (kr_load_cell K _ _ (by rfl) (by rfl) Has.auto (by decide +kernel) (if_out _)) ?_) | (refine wpList_reads (by rfl) (kr_load_cell K _ _ (by rfl) (by rfl) Has.auto (by decide +kernel) (if_rest _)) ?_) | (refine wpList_reads (by rfl) (kr_load_cell K _ _ (by rfl) (by rfl) Has.auto (by decide +kernel) (if_from _)) ?_) | (refine wpList_reads (by rfl) (kr_load_cell K _ _ (by rfl) (by rfl) Has.auto (by decide +kernel) (if_r _)) ?_) | (refine wpList_reads (by rfl) (kr_load_cell K _ _ (by rfl) (by rfl) Has.auto (by decide +kernel) (if_next _)) ?_) | (refine wpList_reads (by rfl) (kr_load_cell K _ _ (by rfl) (by rfl) Has.auto (by decide +kernel) (if_last _)) ?_) | (refine wpList_reads (by rfl) (kr_load_cell K _ _ (by rfl) (by rfl) Has.auto (by decide +kernel) (if_left _)) ?_) | (refine wpList_reads (by rfl) (kr_load_cell K _ _ (by rfl) (by rfl) Has.auto (by decide +kernel) (if_lit _)) ?_) | (refine wpList_reads (by rfl) (kr_load_cell K _ _ (by rfl) (by rfl) Has.auto (by decide +kernel) (if_dist _)) ?_) | (refine wpList_reads (by rfl) (kr_load_cell K _ _ (by rfl) (by rfl) Has.auto (by decide +kernel) (if_e _)) ?_)); (try dsimp only)) | ((with_reducible refine at_bin (b := .neq) (t := 50) rfl ?_); refine wpList_reads (by rfl) (kr_fn (by rfl) (by rfl) st_neq_nil (.inr rfl)) ?_) | ((with_reducible refine at_eqnil rfl ?_); refine wpList_reads rfl (kr_eqnil rfl rfl (by kernel_rfl)) ?_) | ((with_reducible refine at_box rfl ?_); refine wpList_does rfl (kd_box K _ _ rfl (by conv => lhs; whnf)) ?_; clear K; rintro _ w1 ⟨g, rfl, K⟩; (try dsimp only [Value.cells] at K)) | ((with_reducible refine at_alloc rfl ?_); refine wpList_does rfl (kd_alloc K _ rfl rfl) ?_; clear K; rintro _ w1 ⟨g, rfl, K⟩; (try dsimp only [Value.cells] at K)) | ((with_reducible refine at_buildSlice rfl ?_); refine wpList_does rfl (kd_lits (cs := _) K _ _ _ rfl (by first | rfl | (go_simp; done) | (go_simp; rfl)) (by first | rfl | (go_simp; done) | (go_simp; rfl))) ?_; clear K; rintro _ w1 ⟨g, rfl, K⟩) | ((with_reducible refine at_load rfl ?_); first | (refine wpList_reads (by rfl) (kr_load_cell K _ _ (by rfl) (by rfl) Has.auto (by decide +kernel) (by (try simp only [List.getElem?_toArray, List.getElem?_cons_succ, List.getElem?_cons_zero]); exact rfl)) ?_) | (refine wpList_reads (by rfl) (kr_load_row K _ _ (by rfl) (by rfl) Has.auto (by decide +kernel) (by kernel_rfl)) ?_)) | ((with_reducible refine at_store rfl ?_); (first | (refine wpList_does rfl (kd_store_cell K _ _ _ rfl rfl (by conv => lhs; whnf) Repl.auto rfl rfl (by kernel_rfl) (by kernel_rfl) (by first | (simp only [List.setIfInBounds_toArray, List.set_cons_succ, List.set_cons_zero]; rfl) | rfl)) ?_) | (refine wpList_does rfl (kd_store_row K _ _ _ rfl rfl rfl Repl.auto (by kernel_rfl) (by kernel_rfl) (by kernel_rfl)) ?_)); clear K; intro _ w1 K; (try simp only [Act.put])))
      refine leaves_cons (f := 45) (args := #[ptr' g1, ptr' g3, ptr' g2]) (by simp) (by simp [go_sem]) ?_
      refine (catch_idle _ _ _ _).mono ?_
      rintro e u' w'' ⟨rfl, rfl, rfl⟩
      have hc : w''.cell? ⟨g2, 0, none⟩ = some (.bool false) := (K.blk (g := g2) (cs := #[.bool false]) (t := 4) Has.auto).cell 0
      rw [HF.out]
      simp [Leaves, settle, results, Try.results26, go_sem, hc, StepP]
      exact ⟨{ x1 with next := .nilFunc }, X1, hR1, Z1, hI1.setNext _, hk1, HNV.out.symm, K.cov Cov.auto⟩
    · obtain ⟨f2, hf2⟩ := nxtV_fn h0
      rw [hnv] at hf2
      subst hf2
      have HNV := Lib.hid hnv
      have HF := Lib.hid (show RS = ((m', q), true) by rw [← hRS, stepM, hst]; simp [h0])
      clear hnv h0 hst hRS
      go_enter_defers Try.func26, Try.ntmps26
      go_upto_region 3 with ((first | ((with_reducible refine at_slot (N := 1) rfl ?_); (with_reducible refine at_box rfl ?_); refine wpList_does rfl (kd_box K _ _ rfl (by conv => lhs; whnf)) ?_; clear K; rintro _ w1 ⟨g1, rfl, K⟩; (try dsimp only [Value.cells] at K)) | ((with_reducible refine at_slot (N := 2) rfl ?_); (with_reducible refine at_alloc rfl ?_); refine wpList_does rfl (kd_alloc K _ rfl rfl) ?_; clear K; rintro _ w1 ⟨g2, rfl, K⟩; (try dsimp only [Value.cells] at K)) | ((with_reducible refine at_slot (N := 3) rfl ?_); (with_reducible refine at_alloc rfl ?_); refine wpList_does rfl (kd_alloc K _ rfl rfl) ?_; clear K; rintro _ w1 ⟨g3, rfl, K⟩; (try dsimp only [Value.cells] at K)) | (((with_reducible refine at_load rfl ?_); first | (refine wpList_reads (by rfl) (kr_load_cell K _ _ (by rfl) (by rfl) Has.auto (by decide +kernel) (if_most _)) ?_) | (refine wpList_reads (by rfl) (kr_load_cell K _ _ (by rfl) (by rfl) Has.auto (by decide +kernel) (if_out _)) ?_) | (refine wpList_reads (by rfl) (kr_load_cell K _ _ (by rfl) (by rfl) Has.auto (by decide +kernel) (if_rest _)) ?_) | (refine wpList_reads (by rfl) (kr_load_cell K _ _ (by rfl) (by rfl) Has.auto (by decide +kernel) (if_from _)) ?_) | (refine wpList_reads (by rfl) (kr_load_cell K _ _ (by rfl) (by rfl) Has.auto (by decide +kernel) (if_r _)) ?_) | (refine wpList_reads (by rfl) (kr_load_cell K _ _ (by rfl) (by rfl) Has.auto (by decide +kernel) (if_next _)) ?_) | (refine wpList_reads (by rfl) (kr_load_cell K _ _ (by rfl) (by rfl) Has.auto (by decide +kernel) (if_last _)) ?_) | (refine wpList_reads (by rfl) (kr_load_cell K _ _ (by rfl) (by rfl) Has.auto (by decide +kernel) (if_left _)) ?_) | (refine wpList_reads (by rfl) (kr_load_cell K _ _ (by rfl) (by rfl) Has.auto (by decide +kernel) (if_lit _)) ?_) | (refine wpList_reads (by rfl) (kr_load_cell K _ _ (by rfl) (by rfl) Has.auto (by decide +kernel) (if_dist _)) ?_) | (refine wpList_reads (by rfl) (kr_load_cell K _ _ (by rfl) (by rfl) Has.auto (by decide +kernel) (if_e _)) ?_)); (try dsimp only)) | (go_at_call 28; (with_reducible refine (rat_any (K.pickS (by repeat (first | with_reducible exact Sel.nil _ | with_reducible exact Sel.ap _ _ | with_reducible exact Sel.hd _ _ | with_reducible exact Sel.all _ | with_reducible apply Sel.tl | with_reducible apply Sel.sk))) hR).mono ?_); clear K; rintro e w1 ⟨rfl, K⟩) | ((with_reducible refine at_eqnil rfl ?_); refine wpList_reads rfl (kr_eqnil rfl rfl (by kernel_rfl)) ?_) | ((with_reducible refine at_box rfl ?_); refine wpList_does rfl (kd_box K _ _ rfl (by conv => lhs; whnf)) ?_; clear K; rintro _ w1 ⟨g, rfl, K⟩; (try dsimp only [Value.cells] at K)) | ((with_reducible refine at_alloc rfl ?_); refine wpList_does rfl (kd_alloc K _ rfl rfl) ?_; clear K; rintro _ w1 ⟨g, rfl, K⟩; (try dsimp only [Value.cells] at K)) | ((with_reducible refine at_buildSlice rfl ?_); refine wpList_does rfl (kd_lits (cs := _) K _ _ _ rfl (by first | rfl | (go_simp; done) | (go_simp; rfl)) (by first | rfl | (go_simp; done) | (go_simp; rfl))) ?_; clear K; rintro _ w1 ⟨g, rfl, K⟩) | ((with_reducible refine at_load rfl ?_); first | (refine wpList_reads (by rfl) (kr_load_cell K _ _ (by rfl) (by rfl) Has.auto (by decide +kernel) (by (try simp only [List.getElem?_toArray, List.getElem?_cons_succ, List.getElem?_cons_zero]); exact rfl)) ?_) | (refine wpList_reads (by rfl) (kr_load_row K _ _ (by rfl) (by rfl) Has.auto (by decide +kernel) (by kernel_rfl)) ?_)) | ((with_reducible refine at_store rfl ?_); (first | (refine wpList_does rfl (kd_store_cell K _ _ _ rfl rfl (by conv => lhs; whnf) Repl.auto rfl rfl (by kernel_rfl) (by kernel_rfl) (by first | (simp only [List.setIfInBounds_toArray, List.set_cons_succ, List.set_cons_zero]; rfl) | rfl)) ?_) | (refine wpList_does rfl (kd_store_row K _ _ _ rfl rfl rfl Repl.auto (by kernel_rfl) (by kernel_rfl) (by kernel_rfl)) ?_)); clear K; intro _ w1 K; (try simp only [Act.put]))))
      refine wp_norm ?_
      refine wp_region_GK (X := [row g1 #[ptr' gx] 33]) K Cov.auto (by kernel_rfl) (by kernel_rfl) (by kernel_rfl) (fun K hHeld => ?_)
      refine wpG_takeA 0 (v := ptr' gx) ?_ hHeld ?_
      · (intro w hS; first | exact kr_load_cell hS _ _ (by rfl) (by rfl) Has.auto (by kernel_rfl) (by rfl))
      try simp only [Act.put, List.setIfInBounds_toArray, List.set_cons_zero, List.set_cons_succ]
      refine wpG_takeA 1 (v := ptr' gx) ?_ hHeld ?_
      · (intro w hS; first | exact kr_load_cell hS _ _ (by rfl) (by rfl) Has.auto (by kernel_rfl) (by rfl))
      try simp only [Act.put, List.setIfInBounds_toArray, List.set_cons_zero, List.set_cons_succ]
      refine wpG_takeA 2 (v := ?_) ?_ hHeld ?_
      rotate_left
      · (intro w hS; (clear hS; go_simp); try with_reducible rfl)
      try simp only [Act.put, List.setIfInBounds_toArray, List.set_cons_zero, List.set_cons_succ]
      refine wpG_takeA 3 (v := ?_) ?_ hHeld ?_
      rotate_left
      · (intro w hS; (clear hS; go_simp); try with_reducible rfl)
      try simp only [Act.put, List.setIfInBounds_toArray, List.set_cons_zero, List.set_cons_succ]
      refine wpG_takeA 5 (v := ptr' gx) ?_ hHeld ?_
      · (intro w hS; first | exact kr_load_cell hS _ _ (by rfl) (by rfl) Has.auto (by kernel_rfl) (by rfl))
      try simp only [Act.put, List.setIfInBounds_toArray, List.set_cons_zero, List.set_cons_succ]
      refine wpG_oneA 4 (fun K9 hK => ?_)
      refine st_does (by rfl) (Does.val (kr_load_cell K _ _ (by rfl) (by rfl) Has.auto (by kernel_rfl) (if_next _)) (R := fun v w1 => v = _ ∧ w1 = _) ⟨rfl, rfl⟩) ?_
      rintro _ _ ⟨rfl, rfl⟩
      refine hK.out _ _ (K.cov Cov.auto) (fun hHeld => ?_)
      clear hK K9
      try simp only [Act.put, List.setIfInBounds_toArray, List.set_cons_zero, List.set_cons_succ]
      refine wpG_oneA 6 (fun K9 hK => ?_)
      go_simp
      (go_at_call 23; refine (ibegins_any (Z := Z) (L := row g3 #[.int .i64 (p : Nat)] 3 :: row g2 #[.bool false] 4 :: row g1 #[ptr' gx] 33 :: L) (K.cov Cov.auto) hR hr hI hn1).mono ?_); clear K; rintro e w1 hSP; rw [HST.out] at hSP; obtain ⟨rfl, x1, X1, Z1, hR1, hI1, hk1, K⟩ := hSP
      rw [HNV.out]
      refine hK.out _ _ (K.cov Cov.auto) (fun hHeld => ?_)
      clear hK K9
      try simp only [Act.put, List.setIfInBounds_toArray, List.set_cons_zero, List.set_cons_succ]
      refine wpG_takeA 7 (v := ?_) ?_ hHeld ?_
      rotate_left
      · (intro w hS; (clear hS; go_simp); try with_reducible rfl)
      try simp only [Act.put, List.setIfInBounds_toArray, List.set_cons_zero, List.set_cons_succ]
      refine wpG_takeA 8 (v := ?_) ?_ hHeld ?_
      rotate_left
      · (intro w hS; (clear hS; go_simp); try with_reducible rfl)
      try simp only [Act.put, List.setIfInBounds_toArray, List.set_cons_zero, List.set_cons_succ]
      refine wpG_lastA 9 (fun K9 hK => ?_)
      refine st_does (by rfl) (kd_store_cell K _ _ _ (by rfl) (by rfl) (by conv => lhs; whnf) Repl.auto (by rfl) (by rfl) (by kernel_rfl) (by rfl) (if_s_next _ _)) ?_
      clear K; intro _ w1 K; (try dsimp only at K)
      refine hK.out _ _ ?_
      clear hK K9
      try simp only [Act.put, List.setIfInBounds_toArray, List.set_cons_zero, List.set_cons_succ]
      skip
      go_wp2_with (first | (((with_reducible refine at_load rfl ?_); first | (refine wpList_reads (by rfl) (kr_load_cell K _ _ (by rfl) (by rfl) Has.auto (by decide +kernel) (if_most _)) ?_) | (refine wpList_reads (by rfl) (kr_load_cell K _ _ (by rfl) (by rfl) Has.auto (by decide +kernel) (if_out _)) ?_) | (refine wpList_reads (by rfl) (kr_load_cell K _ _ (by rfl) (by rfl) Has.auto (by decide +kernel) (if_rest _)) ?_) | (refine wpList_reads (by rfl) (kr_load_cell K _ _ (by rfl) (by rfl) Has.auto (by decide +kernel) (if_from _)) ?_) | (refine wpList_reads (by rfl) (kr_load_cell K _ _ (by rfl) (by rfl) Has.auto (by decide +kernel) (if_r _)) ?_) | (refine wpList_reads (by rfl) (kr_load_cell K _ _ (by rfl) (by rfl) Has.auto (by decide +kernel) (if_next _)) ?_) | (refine wpList_reads (by rfl) (kr_load_cell K _ _ (by rfl) (by rfl) Has.auto (by decide +kernel) (if_last _)) ?_) | (refine wpList_reads (by rfl) (kr_load_cell K _ _ (by rfl) (by rfl) Has.auto (by decide +kernel) (if_left _)) ?_) | (refine wpList_reads (by rfl) (kr_load_cell K _ _ (by rfl) (by rfl) Has.auto (by decide +kernel) (if_lit _)) ?_) | (refine wpList_reads (by rfl) (kr_load_cell K _ _ (by rfl) (by rfl) Has.auto (by decide +kernel) (if_dist _)) ?_) | (refine wpList_reads (by rfl) (kr_load_cell K _ _ (by rfl) (by rfl) Has.auto (by decide +kernel) (if_e _)) ?_)); (try dsimp only)) | ((with_reducible refine at_bin (b := .neq) (t := 50) rfl ?_); refine wpList_reads (by rfl) (kr_fn (by rfl) (by rfl) st_neq_fn (.inr rfl)) ?_) | ((with_reducible refine at_eqnil rfl ?_); refine wpList_reads rfl (kr_eqnil rfl rfl (by kernel_rfl)) ?_) | ((with_reducible refine at_box rfl ?_); refine wpList_does rfl (kd_box K _ _ rfl (by conv => lhs; whnf)) ?_; clear K; rintro _ w1 ⟨g, rfl, K⟩; (try dsimp only [Value.cells] at K)) | ((with_reducible refine at_alloc rfl ?_); refine wpList_does rfl (kd_alloc K _ rfl rfl) ?_; clear K; rintro _ w1 ⟨g, rfl, K⟩; (try dsimp only [Value.cells] at K)) | ((with_reducible refine at_buildSlice rfl ?_); refine wpList_does rfl (kd_lits (cs := _) K _ _ _ rfl (by first | rfl | (go_simp; done) | (go_simp; rfl)) (by first | rfl | (go_simp; done) | (go_simp; rfl))) ?_; clear K; rintro _ w1 ⟨g, rfl, K⟩) | ((with_reducible refine at_load rfl ?_); first | (refine wpList_reads (by rfl) (kr_load_cell K _ _ (by rfl) (by rfl) Has.auto (by decide +kernel) (by (try simp only [List.getElem?_toArray, List.getElem?_cons_succ, List.getElem?_cons_zero]); exact rfl)) ?_) | (refine wpList_reads (by rfl) (kr_load_row K _ _ (by rfl) (by rfl) Has.auto (by decide +kernel) (by kernel_rfl)) ?_)) | ((with_reducible refine at_store rfl ?_); (first | (refine wpList_does rfl (kd_store_cell K _ _ _ rfl rfl (by conv => lhs; whnf) Repl.auto rfl rfl (by kernel_rfl) (by kernel_rfl) (by first | (simp only [List.setIfInBounds_toArray, List.set_cons_succ, List.set_cons_zero]; rfl) | rfl)) ?_) | (refine wpList_does rfl (kd_store_row K _ _ _ rfl rfl rfl Repl.auto (by kernel_rfl) (by kernel_rfl) (by kernel_rfl)) ?_)); clear K; intro _ w1 K; (try simp only [Act.put])))
      refine leaves_cons (f := 45) (args := #[ptr' g1, ptr' g3, ptr' g2]) (by simp) (by simp [go_sem]) ?_
      refine (catch_idle _ _ _ _).mono ?_
      rintro e u' w'' ⟨rfl, rfl, rfl⟩
      have hc : w''.cell? ⟨g2, 0, none⟩ = some (.bool true) := (K.blk (g := g2) (cs := #[.bool true]) (t := 4) Has.auto).cell 0
      rw [HF.out]
      simp [Leaves, settle, results, Try.results26, go_sem, hc, StepP]
      exact ⟨{ x1 with next := fnI f2 }, X1, hR1, Z1, hI1.setNext _, hk1, HNV.out.symm, K.cov Cov.auto⟩
  · have HF := Lib.hid (show RS = (({ m with e := if c = 2 then m.e else c }, p), false) by rw [← hRS, stepM, hst])
    clear hst hRS
    go_enter_defers Try.func26, Try.ntmps26
    go_upto_region 3 with ((first | ((with_reducible refine at_slot (N := 1) rfl ?_); (with_reducible refine at_box rfl ?_); refine wpList_does rfl (kd_box K _ _ rfl (by conv => lhs; whnf)) ?_; clear K; rintro _ w1 ⟨g1, rfl, K⟩; (try dsimp only [Value.cells] at K)) | ((with_reducible refine at_slot (N := 2) rfl ?_); (with_reducible refine at_alloc rfl ?_); refine wpList_does rfl (kd_alloc K _ rfl rfl) ?_; clear K; rintro _ w1 ⟨g2, rfl, K⟩; (try dsimp only [Value.cells] at K)) | ((with_reducible refine at_slot (N := 3) rfl ?_); (with_reducible refine at_alloc rfl ?_); refine wpList_does rfl (kd_alloc K _ rfl rfl) ?_; clear K; rintro _ w1 ⟨g3, rfl, K⟩; (try dsimp only [Value.cells] at K)) | (((with_reducible refine at_load rfl ?_); first | (refine wpList_reads (by rfl) (kr_load_cell K _ _ (by rfl) (by rfl) Has.auto (by decide +kernel) (if_most _)) ?_) | (refine wpList_reads (by rfl) (kr_load_cell K _ _ (by rfl) (by rfl) Has.auto (by decide +kernel) (if_out _)) ?_) | (refine wpList_reads (by rfl) (kr_load_cell K _ _ (by rfl) (by rfl) Has.auto (by decide +kernel) (if_rest _)) ?_) | (refine wpList_reads (by rfl) (kr_load_cell K _ _ (by rfl) (by rfl) Has.auto (by decide +kernel) (if_from _)) ?_) | (refine wpList_reads (by rfl) (kr_load_cell K _ _ (by rfl) (by rfl) Has.auto (by decide +kernel) (if_r _)) ?_) | (refine wpList_reads (by rfl) (kr_load_cell K _ _ (by rfl) (by rfl) Has.auto (by decide +kernel) (if_next _)) ?_) | (refine wpList_reads (by rfl) (kr_load_cell K _ _ (by rfl) (by rfl) Has.auto (by decide +kernel) (if_last _)) ?_) | (refine wpList_reads (by rfl) (kr_load_cell K _ _ (by rfl) (by rfl) Has.auto (by decide +kernel) (if_left _)) ?_) | (refine wpList_reads (by rfl) (kr_load_cell K _ _ (by rfl) (by rfl) Has.auto (by decide +kernel) (if_lit _)) ?_) | (refine wpList_reads (by rfl) (kr_load_cell K _ _ (by rfl) (by rfl) Has.auto (by decide +kernel) (if_dist _)) ?_) | (refine wpList_reads (by rfl) (kr_load_cell K _ _ (by rfl) (by rfl) Has.auto (by decide +kernel) (if_e _)) ?_)); (try dsimp only)) | (go_at_call 28; (with_reducible refine (rat_any (K.pickS (by repeat (first | with_reducible exact Sel.nil _ | with_reducible exact Sel.ap _ _ | with_reducible exact Sel.hd _ _ | with_reducible exact Sel.all _ | with_reducible apply Sel.tl | with_reducible apply Sel.sk))) hR).mono ?_); clear K; rintro e w1 ⟨rfl, K⟩) | ((with_reducible refine at_eqnil rfl ?_); refine wpList_reads rfl (kr_eqnil rfl rfl (by kernel_rfl)) ?_) | ((with_reducible refine at_box rfl ?_); refine wpList_does rfl (kd_box K _ _ rfl (by conv => lhs; whnf)) ?_; clear K; rintro _ w1 ⟨g, rfl, K⟩; (try dsimp only [Value.cells] at K)) | ((with_reducible refine at_alloc rfl ?_); refine wpList_does rfl (kd_alloc K _ rfl rfl) ?_; clear K; rintro _ w1 ⟨g, rfl, K⟩; (try dsimp only [Value.cells] at K)) | ((with_reducible refine at_buildSlice rfl ?_); refine wpList_does rfl (kd_lits (cs := _) K _ _ _ rfl (by first | rfl | (go_simp; done) | (go_simp; rfl)) (by first | rfl | (go_simp; done) | (go_simp; rfl))) ?_; clear K; rintro _ w1 ⟨g, rfl, K⟩) | ((with_reducible refine at_load rfl ?_); first | (refine wpList_reads (by rfl) (kr_load_cell K _ _ (by rfl) (by rfl) Has.auto (by decide +kernel) (by (try simp only [List.getElem?_toArray, List.getElem?_cons_succ, List.getElem?_cons_zero]); exact rfl)) ?_) | (refine wpList_reads (by rfl) (kr_load_row K _ _ (by rfl) (by rfl) Has.auto (by decide +kernel) (by kernel_rfl)) ?_)) | ((with_reducible refine at_store rfl ?_); (first | (refine wpList_does rfl (kd_store_cell K _ _ _ rfl rfl (by conv => lhs; whnf) Repl.auto rfl rfl (by kernel_rfl) (by kernel_rfl) (by first | (simp only [List.setIfInBounds_toArray, List.set_cons_succ, List.set_cons_zero]; rfl) | rfl)) ?_) | (refine wpList_does rfl (kd_store_row K _ _ _ rfl rfl rfl Repl.auto (by kernel_rfl) (by kernel_rfl) (by kernel_rfl)) ?_)); clear K; intro _ w1 K; (try simp only [Act.put]))))
    refine wp_thr (fun ch w' => ch = [{ v := .iface 77 (.agg #[.int .i64 c]), recovered := false }] ∧ ∃ q X', Rdr gr bs q X' ∧ Known w0 w' (X' ++ (row gx (ifC x) 53 :: (Z ++ (row g3 #[.int .i64 (p : Nat)] 3 :: row g2 #[.bool false] 4 :: row g1 #[ptr' gx] 33 :: L))))) ?_ ?_
    · rintro ch a' w' hd ht ⟨rfl, q, X', hR2, K2⟩
      show Leaves _ _ _ _ a'.defers _ _
      rw [hd]
      refine leaves_cons (f := 45) (args := #[ptr' g1, ptr' g3, ptr' g2]) (by simp) (by simp [go_sem]) ?_
      refine (catch_throw (M := Z ++ L) (K2.cov Cov.auto) hR2 hr hple c [] _ rfl).mono ?_
      rintro e u' w'' ⟨rfl, rfl, X1, hR1, K⟩
      have hc : w''.cell? ⟨g2, 0, none⟩ = some (.bool false) := (K.blk (g := g2) (cs := #[.bool false]) (t := 4) Has.auto).cell 0
      have ht2 : a'.tmps.getD 2 undef = ptr' g2 := ht
      rw [HF.out]
      show Leaves Try.prog Try.f26 a'.tmps _ [] .returning w''
      refine ⟨.bool false, ?_, rfl, { x with e := if c = 2 then x.e else c }, X1, hR1, Z, ?_, ⟨rfl, rfl, rfl, rfl, rfl⟩, ?_, K.cov Cov.auto⟩
      · generalize a'.tmps = tm at ht2
        clear hd ht
        rw [Array.getD_eq_getD_getElem?] at ht2
        simp [results, Try.results26, go_sem, ht2, hc]
      · have := hI.setE (if c = 2 then m.e else c)
        rw [hI.1.e]
        exact this
      · show x.next = nxtV m.next
        rw [HH.out, hnx2]
        rfl
    · refine wp_region_GK (X := [row g1 #[ptr' gx] 33]) K Cov.auto (by kernel_rfl) (by kernel_rfl) (by kernel_rfl) (fun K hHeld => ?_)
      refine wpG_takeA 0 (v := ptr' gx) (hQ := fun _ _ _ h => thr_put (by decide) h) ?_ hHeld ?_
      · (intro w hS; first | exact kr_load_cell hS _ _ (by rfl) (by rfl) Has.auto (by kernel_rfl) (by rfl))
      try simp only [Act.put, List.setIfInBounds_toArray, List.set_cons_zero, List.set_cons_succ]
      refine wpG_takeA 1 (v := ptr' gx) (hQ := fun _ _ _ h => thr_put (by decide) h) ?_ hHeld ?_
      · (intro w hS; first | exact kr_load_cell hS _ _ (by rfl) (by rfl) Has.auto (by kernel_rfl) (by rfl))
      try simp only [Act.put, List.setIfInBounds_toArray, List.set_cons_zero, List.set_cons_succ]
      refine wpG_takeA 2 (v := ?_) (hQ := fun _ _ _ h => thr_put (by decide) h) ?_ hHeld ?_
      rotate_left
      · (intro w hS; (clear hS; go_simp); try with_reducible rfl)
      try simp only [Act.put, List.setIfInBounds_toArray, List.set_cons_zero, List.set_cons_succ]
      refine wpG_takeA 3 (v := ?_) (hQ := fun _ _ _ h => thr_put (by decide) h) ?_ hHeld ?_
      rotate_left
      · (intro w hS; (clear hS; go_simp); try with_reducible rfl)
      try simp only [Act.put, List.setIfInBounds_toArray, List.set_cons_zero, List.set_cons_succ]
      refine wpG_takeA 5 (v := ptr' gx) (hQ := fun _ _ _ h => thr_put (by decide) h) ?_ hHeld ?_
      · (intro w hS; first | exact kr_load_cell hS _ _ (by rfl) (by rfl) Has.auto (by kernel_rfl) (by rfl))
      try simp only [Act.put, List.setIfInBounds_toArray, List.set_cons_zero, List.set_cons_succ]
      refine wpG_oneA 4 (fun K9 hK => ?_)
      refine st_does (by rfl) (Does.val (kr_load_cell K _ _ (by rfl) (by rfl) Has.auto (by kernel_rfl) (if_next _)) (R := fun v w1 => v = _ ∧ w1 = _) ⟨rfl, rfl⟩) ?_
      rintro _ _ ⟨rfl, rfl⟩
      refine hK.out _ _ (K.cov Cov.auto) (fun hHeld => ?_)
      clear hK K9
      try simp only [Act.put, List.setIfInBounds_toArray, List.set_cons_zero, List.set_cons_succ]
      refine wpG_oneA 6 (fun K9 hK => ?_)
      go_simp
      (go_at_call 23; refine (ibegins_any (Z := Z) (L := row g3 #[.int .i64 (p : Nat)] 3 :: row g2 #[.bool false] 4 :: row g1 #[ptr' gx] 33 :: L) (K.cov Cov.auto) hR hr hI hn1).mono ?_); clear K; rintro e w1 hSP; rw [HST.out] at hSP; obtain ⟨rfl, q, X1, hR1, K⟩ := hSP
      exact ⟨rfl, q, X1, hR1, K⟩

set_option maxHeartbeats 1600000 in
set_option maxRecDepth 100000 in
theorem istep2_raw (K : Known w0 w (Xr ++ (row gx (ifC x) 53 :: (Z ++ L)))) (hR : Rdr gr bs p Xr) (hr : x.r = ptr' gr) (hI : Is m x Z) (hnx : x.next = nxtV m.next) (hn1 : m.next = 2) :
    Calls Try.prog 26 #[ptr' gx] w (StepP w0 gx gr bs x L (stepM bs m p)) := by
  have hmf : ∀ (fn : Fn) (first cap : Array Value) (w : World), (Instr.makeFunc fn first cap).run Try.prog w = .ok (.func fn first cap) w := fun _ _ _ _ => rfl
  have hnx2 : x.next = fnI 41 := by rw [hnx, hn1]; rfl
  clear hnx
  obtain ⟨R0, hR0⟩ : ∃ R0, rawM bs m p = R0 := ⟨_, rfl⟩
  have HST := Lib.hid hR0
  have hst : stateM bs m p = R0 := by
    rw [← hR0, stateM]
    simp [hn1]
  obtain ⟨RS, hRS⟩ : ∃ RS, stepM bs m p = RS := ⟨_, rfl⟩
  rw [hRS]
  clear hR0
  have hple := hR.le
  have HH := Lib.hid hn1
  rcases R0 with ⟨m', q⟩ | c
  · obtain ⟨nv, hnv⟩ : ∃ nv, nxtV m'.next = nv := ⟨_, rfl⟩
    by_cases h0 : m'.next = 0
    · have hnil : nv = .nilFunc := by rw [← hnv, h0]; rfl
      subst hnil
      have HNV := Lib.hid hnv
      have HF := Lib.hid (show RS = ((m', q), false) by rw [← hRS, stepM, hst]; simp [h0])
      clear hnv h0 hst hRS
      go_enter_defers Try.func26, Try.ntmps26
      go_upto_region 3 with ((first | ((with_reducible refine at_slot (N := 1) rfl ?_); (with_reducible refine at_box rfl ?_); refine wpList_does rfl (kd_box K _ _ rfl (by conv => lhs; whnf)) ?_; clear K; rintro _ w1 ⟨g1, rfl, K⟩; (try dsimp only [Value.cells] at K)) | ((with_reducible refine at_slot (N := 2) rfl ?_); (with_reducible refine at_alloc rfl ?_); refine wpList_does rfl (kd_alloc K _ rfl rfl) ?_; clear K; rintro _ w1 ⟨g2, rfl, K⟩; (try dsimp only [Value.cells] at K)) | ((with_reducible refine at_slot (N := 3) rfl ?_); (with_reducible refine at_alloc rfl ?_); refine wpList_does rfl (kd_alloc K _ rfl rfl) ?_; clear K; rintro _ w1 ⟨g3, rfl, K⟩; (try dsimp only [Value.cells] at K)) | (((with_reducible refine at_load rfl ?_); first | (refine wpList_reads (by rfl) (kr_load_cell K _ _ (by rfl) (by rfl) Has.auto (by decide +kernel) (if_most _)) ?_) | (refine wpList_reads (by rfl) (kr_load_cell K _ _ (by rfl) (by rfl) Has.auto (by decide +kernel) (if_out _)) ?_) | (refine wpList_reads (by rfl) (kr_load_cell K _ _ (by rfl) (by rfl) Has.auto (by decide +kernel) (if_rest _)) ?_) | (refine wpList_reads (by rfl) (kr_load_cell K _ _ (by rfl) (by rfl) Has.auto (by decide +kernel) (if_from _)) ?_) | (refine wpList_reads (by rfl) (kr_load_cell K _ _ (by rfl) (by rfl) Has.auto (by decide +kernel) (if_r _)) ?_) | (refine wpList_reads (by rfl) (kr_load_cell K _ _ (by rfl) (by rfl) Has.auto (by decide +kernel) (if_next _)) ?_) | (refine wpList_reads (by rfl) (kr_load_cell K _ _ (by rfl) (by rfl) Has.auto (by decide +kernel) (if_last _)) ?_) | (refine wpList_reads (by rfl) (kr_load_cell K _ _ (by rfl) (by rfl) Has.auto (by decide +kernel) (if_left _)) ?_) | (refine wpList_reads (by rfl) (kr_load_cell K _ _ (by rfl) (by rfl) Has.auto (by decide +kernel) (if_lit _)) ?_) | (refine wpList_reads (by rfl) (kr_load_cell K _ _ (by rfl) (by rfl) Has.auto (by decide +kernel) (if_dist _)) ?_) | (refine wpList_reads (by rfl) (kr_load_cell K _ _ (by rfl) (by rfl) Has.auto (by decide +kernel) (if_e _)) ?_)); (try dsimp only)) | (go_at_call 28; (with_reducible refine (rat_any (K.pickS (by repeat (first | with_reducible exact Sel.nil _ | with_reducible exact Sel.ap _ _ | with_reducible exact Sel.hd _ _ | with_reducible exact Sel.all _ | with_reducible apply Sel.tl | with_reducible apply Sel.sk))) hR).mono ?_); clear K; rintro e w1 ⟨rfl, K⟩) | ((with_reducible refine at_eqnil rfl ?_); refine wpList_reads rfl (kr_eqnil rfl rfl (by kernel_rfl)) ?_) | ((with_reducible refine at_box rfl ?_); refine wpList_does rfl (kd_box K _ _ rfl (by conv => lhs; whnf)) ?_; clear K; rintro _ w1 ⟨g, rfl, K⟩; (try dsimp only [Value.cells] at K)) | ((with_reducible refine at_alloc rfl ?_); refine wpList_does rfl (kd_alloc K _ rfl rfl) ?_; clear K; rintro _ w1 ⟨g, rfl, K⟩; (try dsimp only [Value.cells] at K)) | ((with_reducible refine at_buildSlice rfl ?_); refine wpList_does rfl (kd_lits (cs := _) K _ _ _ rfl (by first | rfl | (go_simp; done) | (go_simp; rfl)) (by first | rfl | (go_simp; done) | (go_simp; rfl))) ?_; clear K; rintro _ w1 ⟨g, rfl, K⟩) | ((with_reducible refine at_load rfl ?_); first | (refine wpList_reads (by rfl) (kr_load_cell K _ _ (by rfl) (by rfl) Has.auto (by decide +kernel) (by (try simp only [List.getElem?_toArray, List.getElem?_cons_succ, List.getElem?_cons_zero]); exact rfl)) ?_) | (refine wpList_reads (by rfl) (kr_load_row K _ _ (by rfl) (by rfl) Has.auto (by decide +kernel) (by kernel_rfl)) ?_)) | ((with_reducible refine at_store rfl ?_); (first | (refine wpList_does rfl (kd_store_cell K _ _ _ rfl rfl (by conv => lhs; whnf) Repl.auto rfl rfl (by kernel_rfl) (by kernel_rfl) (by first | (simp only [List.setIfInBounds_toArray, List.set_cons_succ, List.set_cons_zero]; rfl) | rfl)) ?_) | (refine wpList_does rfl (kd_store_row K _ _ _ rfl rfl rfl Repl.auto (by kernel_rfl) (by kernel_rfl) (by kernel_rfl)) ?_)); clear K; intro _ w1 K; (try simp only [Act.put]))))
      refine wp_norm ?_
      refine wp_region_GK (X := [row g1 #[ptr' gx] 33]) K Cov.auto (by kernel_rfl) (by kernel_rfl) (by kernel_rfl) (fun K hHeld => ?_)
      refine wpG_takeA 0 (v := ptr' gx) ?_ hHeld ?_
      · (intro w hS; first | exact kr_load_cell hS _ _ (by rfl) (by rfl) Has.auto (by kernel_rfl) (by rfl))
      try simp only [Act.put, List.setIfInBounds_toArray, List.set_cons_zero, List.set_cons_succ]
      refine wpG_takeA 1 (v := ptr' gx) ?_ hHeld ?_
      · (intro w hS; first | exact kr_load_cell hS _ _ (by rfl) (by rfl) Has.auto (by kernel_rfl) (by rfl))
      try simp only [Act.put, List.setIfInBounds_toArray, List.set_cons_zero, List.set_cons_succ]
      refine wpG_takeA 2 (v := ?_) ?_ hHeld ?_
      rotate_left
      · (intro w hS; (clear hS; go_simp); try with_reducible rfl)
      try simp only [Act.put, List.setIfInBounds_toArray, List.set_cons_zero, List.set_cons_succ]
      refine wpG_takeA 3 (v := ?_) ?_ hHeld ?_
      rotate_left
      · (intro w hS; (clear hS; go_simp); try with_reducible rfl)
      try simp only [Act.put, List.setIfInBounds_toArray, List.set_cons_zero, List.set_cons_succ]
      refine wpG_takeA 5 (v := ptr' gx) ?_ hHeld ?_
      · (intro w hS; first | exact kr_load_cell hS _ _ (by rfl) (by rfl) Has.auto (by kernel_rfl) (by rfl))
      try simp only [Act.put, List.setIfInBounds_toArray, List.set_cons_zero, List.set_cons_succ]
      refine wpG_oneA 4 (fun K9 hK => ?_)
      refine st_does (by rfl) (Does.val (kr_load_cell K _ _ (by rfl) (by rfl) Has.auto (by kernel_rfl) (if_next _)) (R := fun v w1 => v = _ ∧ w1 = _) ⟨rfl, rfl⟩) ?_
      rintro _ _ ⟨rfl, rfl⟩
      refine hK.out _ _ (K.cov Cov.auto) (fun hHeld => ?_)
      clear hK K9
      try simp only [Act.put, List.setIfInBounds_toArray, List.set_cons_zero, List.set_cons_succ]
      refine wpG_oneA 6 (fun K9 hK => ?_)
      go_simp
      (go_at_call 41; refine (iraw_any (Z := Z) (L := row g3 #[.int .i64 (p : Nat)] 3 :: row g2 #[.bool false] 4 :: row g1 #[ptr' gx] 33 :: L) (K.cov Cov.auto) hR hr hI hn1).mono ?_); clear K; rintro e w1 hSP; rw [HST.out] at hSP; obtain ⟨rfl, x1, X1, Z1, hR1, hI1, hk1, K⟩ := hSP
      rw [HNV.out]
      refine hK.out _ _ (K.cov Cov.auto) (fun hHeld => ?_)
      clear hK K9
      try simp only [Act.put, List.setIfInBounds_toArray, List.set_cons_zero, List.set_cons_succ]
      refine wpG_takeA 7 (v := ?_) ?_ hHeld ?_
      rotate_left
      · (intro w hS; (clear hS; go_simp); try with_reducible rfl)
      try simp only [Act.put, List.setIfInBounds_toArray, List.set_cons_zero, List.set_cons_succ]
      refine wpG_takeA 8 (v := ?_) ?_ hHeld ?_
      rotate_left
      · (intro w hS; (clear hS; go_simp); try with_reducible rfl)
      try simp only [Act.put, List.setIfInBounds_toArray, List.set_cons_zero, List.set_cons_succ]
      refine wpG_lastA 9 (fun K9 hK => ?_)
      refine st_does (by rfl) (kd_store_cell K _ _ _ (by rfl) (by rfl) (by conv => lhs; whnf) Repl.auto (by rfl) (by rfl) (by kernel_rfl) (by rfl) (if_s_next _ _)) ?_
      clear K; intro _ w1 K; (try dsimp only at K)
      refine hK.out _ _ ?_
      clear hK K9
      try simp only [Act.put, List.setIfInBounds_toArray, List.set_cons_zero, List.set_cons_succ]
      skip
      go_wp2_with (first | (((with_reducible refine at_load rfl ?_); first | (refine wpList_reads (by rfl) (kr_load_cell K _ _ (by rfl) (by rfl) Has.auto (by decide +kernel) (if_most _)) ?_) | (refine wpList_reads (by rfl) (kr_load_cell K _ _ (by rfl) (by rfl) Has.auto (by decide +kernel) (if_out _)) ?_) | (refine wpList_reads (by rfl) (kr_load_cell K _ _ (by rfl) (by rfl) Has.auto (by decide +kernel) (if_rest _)) ?_) | (refine wpList_reads (by rfl) (kr_load_cell K _ _ (by rfl) (by rfl) Has.auto (by decide +kernel) (if_from _)) ?_) | (refine wpList_reads (by rfl) (kr_load_cell K _ _ (by rfl) (by rfl) Has.auto (by decide +kernel) (if_r _)) ?_) | (refine wpList_reads (by rfl) (kr_load_cell K _ _ (by rfl) (by rfl) Has.auto (by decide +kernel) (if_next _)) ?_) | (refine wpList_reads (by rfl) (kr_load_cell K _ _ (by rfl) (by rfl) Has.auto (by decide +kernel) (if_last _)) ?_) | (refine wpList_reads (by rfl) (kr_load_cell K _ _ (by rfl) (by rfl) Has.auto (by decide +kernel) (if_left _)) ?_) | (refine wpList_reads (by rfl) (kr_load_cell K _ _ (by rfl) (by rfl) Has.auto (by decide +kernel) (if_lit _)) ?_) | (refine wpList_reads (by rfl) (kr_load_cell K _ _ (by rfl) (by rfl) Has.auto (by decide +kernel) (if_dist _)) ?_) | (refine wpList_reads (by rfl) (kr_load_cell K _ _ (by rfl) (by rfl) Has.auto (by decide +kernel) (if_e _)) ?_)); (try dsimp only)) | ((with_reducible refine at_bin (b := .neq) (t := 50) rfl ?_); refine wpList_reads (by rfl) (kr_fn (by rfl) (by rfl) st_neq_nil (.inr rfl)) ?_) | ((with_reducible refine at_eqnil rfl ?_); refine wpList_reads rfl (kr_eqnil rfl rfl (by kernel_rfl)) ?_) | ((with_reducible refine at_box rfl ?_); refine wpList_does rfl (kd_box K _ _ rfl (by conv => lhs; whnf)) ?_; clear K; rintro _ w1 ⟨g, rfl, K⟩; (try dsimp only [Value.cells] at K)) | ((with_reducible refine at_alloc rfl ?_); refine wpList_does rfl (kd_alloc K _ rfl rfl) ?_; clear K; rintro _ w1 ⟨g, rfl, K⟩; (try dsimp only [Value.cells] at K)) | ((with_reducible refine at_buildSlice rfl ?_); refine wpList_does rfl (kd_lits (cs := _) K _ _ _ rfl (by first | rfl | (go_simp; done) | (go_simp; rfl)) (by first | rfl | (go_simp; done) | (go_simp; rfl))) ?_; clear K; rintro _ w1 ⟨g, rfl, K⟩) | ((with_reducible refine at_load rfl ?_); first | (refine wpList_reads (by rfl) (kr_load_cell K _ _ (by rfl) (by rfl) Has.auto (by decide +kernel) (by (try simp only [List.getElem?_toArray, List.getElem?_cons_succ, List.getElem?_cons_zero]); exact rfl)) ?_) | (refine wpList_reads (by rfl) (kr_load_row K _ _ (by rfl) (by rfl) Has.auto (by decide +kernel) (by kernel_rfl)) ?_)) | ((with_reducible refine at_store rfl ?_); (first | (refine wpList_does rfl (kd_store_cell K _ _ _ rfl rfl (by conv => lhs; whnf) Repl.auto rfl rfl (by kernel_rfl) (by kernel_rfl) (by first | (simp only [List.setIfInBounds_toArray, List.set_cons_succ, List.set_cons_zero]; rfl) | rfl)) ?_) | (refine wpList_does rfl (kd_store_row K _ _ _ rfl rfl rfl Repl.auto (by kernel_rfl) (by kernel_rfl) (by kernel_rfl)) ?_)); clear K; intro _ w1 K; (try simp only [Act.put])))
      refine leaves_cons (f := 45) (args := #[ptr' g1, ptr' g3, ptr' g2]) (by simp) (by simp [go_sem]) ?_
      refine (catch_idle _ _ _ _).mono ?_
      rintro e u' w'' ⟨rfl, rfl, rfl⟩
      have hc : w''.cell? ⟨g2, 0, none⟩ = some (.bool false) := (K.blk (g := g2) (cs := #[.bool false]) (t := 4) Has.auto).cell 0
      rw [HF.out]
      simp [Leaves, settle, results, Try.results26, go_sem, hc, StepP]
      exact ⟨{ x1 with next := .nilFunc }, X1, hR1, Z1, hI1.setNext _, hk1, HNV.out.symm, K.cov Cov.auto⟩
    · obtain ⟨f2, hf2⟩ := nxtV_fn h0
      rw [hnv] at hf2
      subst hf2
      have HNV := Lib.hid hnv
      have HF := Lib.hid (show RS = ((m', q), true) by rw [← hRS, stepM, hst]; simp [h0])
      clear hnv h0 hst hRS
      go_enter_defers Try.func26, Try.ntmps26
      go_upto_region 3 with ((first | ((with_reducible refine at_slot (N := 1) rfl ?_); (with_reducible refine at_box rfl ?_); refine wpList_does rfl (kd_box K _ _ rfl (by conv => lhs; whnf)) ?_; clear K; rintro _ w1 ⟨g1, rfl, K⟩; (try dsimp only [Value.cells] at K)) | ((with_reducible refine at_slot (N := 2) rfl ?_); (with_reducible refine at_alloc rfl ?_); refine wpList_does rfl (kd_alloc K _ rfl rfl) ?_; clear K; rintro _ w1 ⟨g2, rfl, K⟩; (try dsimp only [Value.cells] at K)) | ((with_reducible refine at_slot (N := 3) rfl ?_); (with_reducible refine at_alloc rfl ?_); refine wpList_does rfl (kd_alloc K _ rfl rfl) ?_; clear K; rintro _ w1 ⟨g3, rfl, K⟩; (try dsimp only [Value.cells] at K)) | (((with_reducible refine at_load rfl ?_); first | (refine wpList_reads (by rfl) (kr_load_cell K _ _ (by rfl) (by rfl) Has.auto (by decide +kernel) (if_most _)) ?_) | (refine wpList_reads (by rfl) (kr_load_cell K _ _ (by rfl) (by rfl) Has.auto (by decide +kernel) (if_out _)) ?_) | (refine wpList_reads (by rfl) (kr_load_cell K _ _ (by rfl) (by rfl) Has.auto (by decide +kernel) (if_rest _)) ?_) | (refine wpList_reads (by rfl) (kr_load_cell K _ _ (by rfl) (by rfl) Has.auto (by decide +kernel) (if_from _)) ?_) | (refine wpList_reads (by rfl) (kr_load_cell K _ _ (by rfl) (by rfl) Has.auto (by decide +kernel) (if_r _)) ?_) | (refine wpList_reads (by rfl) (kr_load_cell K _ _ (by rfl) (by rfl) Has.auto (by decide +kernel) (if_next _)) ?_) | (refine wpList_reads (by rfl) (kr_load_cell K _ _ (by rfl) (by rfl) Has.auto (by decide +kernel) (if_last _)) ?_) | (refine wpList_reads (by rfl) (kr_load_cell K _ _ (by rfl) (by rfl) Has.auto (by decide +kernel) (if_left _)) ?_) | (refine wpList_reads (by rfl) (kr_load_cell K _ _ (by rfl) (by rfl) Has.auto (by decide +kernel) (if_lit _)) ?_) | (refine wpList_reads (by rfl) (kr_load_cell K _ _ (by rfl) (by rfl) Has.auto (by decide +kernel) (if_dist _)) ?_) | (refine wpList_reads (by rfl) (kr_load_cell K _ _ (by rfl) (by rfl) Has.auto (by decide +kernel) (if_e _)) ?_)); (try dsimp only)) | (go_at_call 28; (with_reducible refine (rat_any (K.pickS (by repeat (first | with_reducible exact Sel.nil _ | with_reducible exact Sel.ap _ _ | with_reducible exact Sel.hd _ _ | with_reducible exact Sel.all _ | with_reducible apply Sel.tl | with_reducible apply Sel.sk))) hR).mono ?_); clear K; rintro e w1 ⟨rfl, K⟩) | ((with_reducible refine at_eqnil rfl ?_); refine wpList_reads rfl (kr_eqnil rfl rfl (by kernel_rfl)) ?_) | ((with_reducible refine at_box rfl ?_); refine wpList_does rfl (kd_box K _ _ rfl (by conv => lhs; whnf)) ?_; clear K; rintro _ w1 ⟨g, rfl, K⟩; (try dsimp only [Value.cells] at K)) | ((with_reducible refine at_alloc rfl ?_); refine wpList_does rfl (kd_alloc K _ rfl rfl) ?_; clear K; rintro _ w1 ⟨g, rfl, K⟩; (try dsimp only [Value.cells] at K)) | ((with_reducible refine at_buildSlice rfl ?_); refine wpList_does rfl (kd_lits (cs := _) K _ _ _ rfl (by first | rfl | (go_simp; done) | (go_simp; rfl)) (by first | rfl | (go_simp; done) | (go_simp; rfl))) ?_; clear K; rintro _ w1 ⟨g, rfl, K⟩) | ((with_reducible refine at_load rfl ?_); first | (refine wpList_reads (by rfl) (kr_load_cell K _ _ (by rfl) (by rfl) Has.auto (by decide +kernel) (by (try simp only [List.getElem?_toArray, List.getElem?_cons_succ, List.getElem?_cons_zero]); exact rfl)) ?_) | (refine wpList_reads (by rfl) (kr_load_row K _ _ (by rfl) (by rfl) Has.auto (by decide +kernel) (by kernel_rfl)) ?_)) | ((with_reducible refine at_store rfl ?_); (first | (refine wpList_does rfl (kd_store_cell K _ _ _ rfl rfl (by conv => lhs; whnf) Repl.auto rfl rfl (by kernel_rfl) (by kernel_rfl) (by first | (simp only [List.setIfInBounds_toArray, List.set_cons_succ, List.set_cons_zero]; rfl) | rfl)) ?_) | (refine wpList_does rfl (kd_store_row K _ _ _ rfl rfl rfl Repl.auto (by kernel_rfl) (by kernel_rfl) (by kernel_rfl)) ?_)); clear K; intro _ w1 K; (try simp only [Act.put]))))
      refine wp_norm ?_
      refine wp_region_GK (X := [row g1 #[ptr' gx] 33]) K Cov.auto (by kernel_rfl) (by kernel_rfl) (by kernel_rfl) (fun K hHeld => ?_)
      refine wpG_takeA 0 (v := ptr' gx) ?_ hHeld ?_
      · (intro w hS; first | exact kr_load_cell hS _ _ (by rfl) (by rfl) Has.auto (by kernel_rfl) (by rfl))
      try simp only [Act.put, List.setIfInBounds_toArray, List.set_cons_zero, List.set_cons_succ]
      refine wpG_takeA 1 (v := ptr' gx) ?_ hHeld ?_
      · (intro w hS; first | exact kr_load_cell hS _ _ (by rfl) (by rfl) Has.auto (by kernel_rfl) (by rfl))
      try simp only [Act.put, List.setIfInBounds_toArray, List.set_cons_zero, List.set_cons_succ]
      refine wpG_takeA 2 (v := ?_) ?_ hHeld ?_
      rotate_left
      · (intro w hS; (clear hS; go_simp); try with_reducible rfl)
      try simp only [Act.put, List.setIfInBounds_toArray, List.set_cons_zero, List.set_cons_succ]
      refine wpG_takeA 3 (v := ?_) ?_ hHeld ?_
      rotate_left
      · (intro w hS; (clear hS; go_simp); try with_reducible rfl)
      try simp only [Act.put, List.setIfInBounds_toArray, List.set_cons_zero, List.set_cons_succ]
      refine wpG_takeA 5 (v := ptr' gx) ?_ hHeld ?_
      · (intro w hS; first | exact kr_load_cell hS _ _ (by rfl) (by rfl) Has.auto (by kernel_rfl) (by rfl))
      try simp only [Act.put, List.setIfInBounds_toArray, List.set_cons_zero, List.set_cons_succ]
      refine wpG_oneA 4 (fun K9 hK => ?_)
      refine st_does (by rfl) (Does.val (kr_load_cell K _ _ (by rfl) (by rfl) Has.auto (by kernel_rfl) (if_next _)) (R := fun v w1 => v = _ ∧ w1 = _) ⟨rfl, rfl⟩) ?_
      rintro _ _ ⟨rfl, rfl⟩
      refine hK.out _ _ (K.cov Cov.auto) (fun hHeld => ?_)
      clear hK K9
      try simp only [Act.put, List.setIfInBounds_toArray, List.set_cons_zero, List.set_cons_succ]
      refine wpG_oneA 6 (fun K9 hK => ?_)
      go_simp
      (go_at_call 41; refine (iraw_any (Z := Z) (L := row g3 #[.int .i64 (p : Nat)] 3 :: row g2 #[.bool false] 4 :: row g1 #[ptr' gx] 33 :: L) (K.cov Cov.auto) hR hr hI hn1).mono ?_); clear K; rintro e w1 hSP; rw [HST.out] at hSP; obtain ⟨rfl, x1, X1, Z1, hR1, hI1, hk1, K⟩ := hSP
      rw [HNV.out]
      refine hK.out _ _ (K.cov Cov.auto) (fun hHeld => ?_)
      clear hK K9
      try simp only [Act.put, List.setIfInBounds_toArray, List.set_cons_zero, List.set_cons_succ]
      refine wpG_takeA 7 (v := ?_) ?_ hHeld ?_
      rotate_left
      · (intro w hS; (clear hS; go_simp); try with_reducible rfl)
      try simp only [Act.put, List.setIfInBounds_toArray, List.set_cons_zero, List.set_cons_succ]
      refine wpG_takeA 8 (v := ?_) ?_ hHeld ?_
      rotate_left
      · (intro w hS; (clear hS; go_simp); try with_reducible rfl)
      try simp only [Act.put, List.setIfInBounds_toArray, List.set_cons_zero, List.set_cons_succ]
      refine wpG_lastA 9 (fun K9 hK => ?_)
      refine st_does (by rfl) (kd_store_cell K _ _ _ (by rfl) (by rfl) (by conv => lhs; whnf) Repl.auto (by rfl) (by rfl) (by kernel_rfl) (by rfl) (if_s_next _ _)) ?_
      clear K; intro _ w1 K; (try dsimp only at K)
      refine hK.out _ _ ?_
      clear hK K9
      try simp only [Act.put, List.setIfInBounds_toArray, List.set_cons_zero, List.set_cons_succ]
      skip
      go_wp2_with (first | (((with_reducible refine at_load rfl ?_); first | (refine wpList_reads (by rfl) (kr_load_cell K _ _ (by rfl) (by rfl) Has.auto (by decide +kernel) (if_most _)) ?_) | (refine wpList_reads (by rfl) (kr_load_cell K _ _ (by rfl) (by rfl) Has.auto (by decide +kernel) (if_out _)) ?_) | (refine wpList_reads (by rfl) (kr_load_cell K _ _ (by rfl) (by rfl) Has.auto (by decide +kernel) (if_rest _)) ?_) | (refine wpList_reads (by rfl) (kr_load_cell K _ _ (by rfl) (by rfl) Has.auto (by decide +kernel) (if_from _)) ?_) | (refine wpList_reads (by rfl) (kr_load_cell K _ _ (by rfl) (by rfl) Has.auto (by decide +kernel) (if_r _)) ?_) | (refine wpList_reads (by rfl) (kr_load_cell K _ _ (by rfl) (by rfl) Has.auto (by decide +kernel) (if_next _)) ?_) | (refine wpList_reads (by rfl) (kr_load_cell K _ _ (by rfl) (by rfl) Has.auto (by decide +kernel) (if_last _)) ?_) | (refine wpList_reads (by rfl) (kr_load_cell K _ _ (by rfl) (by rfl) Has.auto (by decide +kernel) (if_left _)) ?_) | (refine wpList_reads (by rfl) (kr_load_cell K _ _ (by rfl) (by rfl) Has.auto (by decide +kernel) (if_lit _)) ?_) | (refine wpList_reads (by rfl) (kr_load_cell K _ _ (by rfl) (by rfl) Has.auto (by decide +kernel) (if_dist _)) ?_) | (refine wpList_reads (by rfl) (kr_load_cell K _ _ (by rfl) (by rfl) Has.auto (by decide +kernel) (if_e _)) ?_)); (try dsimp only)) | ((with_reducible refine at_bin (b := .neq) (t := 50) rfl ?_); refine wpList_reads (by rfl) (kr_fn (by rfl) (by rfl) st_neq_fn (.inr rfl)) ?_) | ((with_reducible refine at_eqnil rfl ?_); refine wpList_reads rfl (kr_eqnil rfl rfl (by kernel_rfl)) ?_) | ((with_reducible refine at_box rfl ?_); refine wpList_does rfl (kd_box K _ _ rfl (by conv => lhs; whnf)) ?_; clear K; rintro _ w1 ⟨g, rfl, K⟩; (try dsimp only [Value.cells] at K)) | ((with_reducible refine at_alloc rfl ?_); refine wpList_does rfl (kd_alloc K _ rfl rfl) ?_; clear K; rintro _ w1 ⟨g, rfl, K⟩; (try dsimp only [Value.cells] at K)) | ((with_reducible refine at_buildSlice rfl ?_); refine wpList_does rfl (kd_lits (cs := _) K _ _ _ rfl (by first | rfl | (go_simp; done) | (go_simp; rfl)) (by first | rfl | (go_simp; done) | (go_simp; rfl))) ?_; clear K; rintro _ w1 ⟨g, rfl, K⟩) | ((with_reducible refine at_load rfl ?_); first | (refine wpList_reads (by rfl) (kr_load_cell K _ _ (by rfl) (by rfl) Has.auto (by decide +kernel) (by (try simp only [List.getElem?_toArray, List.getElem?_cons_succ, List.getElem?_cons_zero]); exact rfl)) ?_) | (refine wpList_reads (by rfl) (kr_load_row K _ _ (by rfl) (by rfl) Has.auto (by decide +kernel) (by kernel_rfl)) ?_)) | ((with_reducible refine at_store rfl ?_); (first | (refine wpList_does rfl (kd_store_cell K _ _ _ rfl rfl (by conv => lhs; whnf) Repl.auto rfl rfl (by kernel_rfl) (by kernel_rfl) (by first | (simp only [List.setIfInBounds_toArray, List.set_cons_succ, List.set_cons_zero]; rfl) | rfl)) ?_) | (refine wpList_does rfl (kd_store_row K _ _ _ rfl rfl rfl Repl.auto (by kernel_rfl) (by kernel_rfl) (by kernel_rfl)) ?_)); clear K; intro _ w1 K; (try simp only [Act.put])))
      refine leaves_cons (f := 45) (args := #[ptr' g1, ptr' g3, ptr' g2]) (by simp) (by simp [go_sem]) ?_
      refine (catch_idle _ _ _ _).mono ?_
      rintro e u' w'' ⟨rfl, rfl, rfl⟩
      have hc : w''.cell? ⟨g2, 0, none⟩ = some (.bool true) := (K.blk (g := g2) (cs := #[.bool true]) (t := 4) Has.auto).cell 0
      rw [HF.out]
      simp [Leaves, settle, results, Try.results26, go_sem, hc, StepP]
      exact ⟨{ x1 with next := fnI f2 }, X1, hR1, Z1, hI1.setNext _, hk1, HNV.out.symm, K.cov Cov.auto⟩
  · have HF := Lib.hid (show RS = (({ m with e := if c = 2 then m.e else c }, p), false) by rw [← hRS, stepM, hst])
    clear hst hRS
    go_enter_defers Try.func26, Try.ntmps26
    go_upto_region 3 with ((first | ((with_reducible refine at_slot (N := 1) rfl ?_); (with_reducible refine at_box rfl ?_); refine wpList_does rfl (kd_box K _ _ rfl (by conv => lhs; whnf)) ?_; clear K; rintro _ w1 ⟨g1, rfl, K⟩; (try dsimp only [Value.cells] at K)) | ((with_reducible refine at_slot (N := 2) rfl ?_); (with_reducible refine at_alloc rfl ?_); refine wpList_does rfl (kd_alloc K _ rfl rfl) ?_; clear K; rintro _ w1 ⟨g2, rfl, K⟩; (try dsimp only [Value.cells] at K)) | ((with_reducible refine at_slot (N := 3) rfl ?_); (with_reducible refine at_alloc rfl ?_); refine wpList_does rfl (kd_alloc K _ rfl rfl) ?_; clear K; rintro _ w1 ⟨g3, rfl, K⟩; (try dsimp only [Value.cells] at K)) | (((with_reducible refine at_load rfl ?_); first | (refine wpList_reads (by rfl) (kr_load_cell K _ _ (by rfl) (by rfl) Has.auto (by decide +kernel) (if_most _)) ?_) | (refine wpList_reads (by rfl) (kr_load_cell K _ _ (by rfl) (by rfl) Has.auto (by decide +kernel) (if_out _)) ?_) | (refine wpList_reads (by rfl) (kr_load_cell K _ _ (by rfl) (by rfl) Has.auto (by decide +kernel) (if_rest _)) ?_) | (refine wpList_reads (by rfl) (kr_load_cell K _ _ (by rfl) (by rfl) Has.auto (by decide +kernel) (if_from _)) ?_) | (refine wpList_reads (by rfl) (kr_load_cell K _ _ (by rfl) (by rfl) Has.auto (by decide +kernel) (if_r _)) ?_) | (refine wpList_reads (by rfl) (kr_load_cell K _ _ (by rfl) (by rfl) Has.auto (by decide +kernel) (if_next _)) ?_) | (refine wpList_reads (by rfl) (kr_load_cell K _ _ (by rfl) (by rfl) Has.auto (by decide +kernel) (if_last _)) ?_) | (refine wpList_reads (by rfl) (kr_load_cell K _ _ (by rfl) (by rfl) Has.auto (by decide +kernel) (if_left _)) ?_) | (refine wpList_reads (by rfl) (kr_load_cell K _ _ (by rfl) (by rfl) Has.auto (by decide +kernel) (if_lit _)) ?_) | (refine wpList_reads (by rfl) (kr_load_cell K _ _ (by rfl) (by rfl) Has.auto (by decide +kernel) (if_dist _)) ?_) | (refine wpList_reads (by rfl) (kr_load_cell K _ _ (by rfl) (by rfl) Has.auto (by decide +kernel) (if_e _)) ?_)); (try dsimp only)) | (go_at_call 28; (with_reducible refine (rat_any (K.pickS (by repeat (first | with_reducible exact Sel.nil _ | with_reducible exact Sel.ap _ _ | with_reducible exact Sel.hd _ _ | with_reducible exact Sel.all _ | with_reducible apply Sel.tl | with_reducible apply Sel.sk))) hR).mono ?_); clear K; rintro e w1 ⟨rfl, K⟩) | ((with_reducible refine at_eqnil rfl ?_); refine wpList_reads rfl (kr_eqnil rfl rfl (by kernel_rfl)) ?_) | ((with_reducible refine at_box rfl ?_); refine wpList_does rfl (kd_box K _ _ rfl (by conv => lhs; whnf)) ?_; clear K; rintro _ w1 ⟨g, rfl, K⟩; (try dsimp only [Value.cells] at K)) | ((with_reducible refine at_alloc rfl ?_); refine wpList_does rfl (kd_alloc K _ rfl rfl) ?_; clear K; rintro _ w1 ⟨g, rfl, K⟩; (try dsimp only [Value.cells] at K)) | ((with_reducible refine at_buildSlice rfl ?_); refine wpList_does rfl (kd_lits (cs := _) K _ _ _ rfl (by first | rfl | (go_simp; done) | (go_simp; rfl)) (by first | rfl | (go_simp; done) | (go_simp; rfl))) ?_; clear K; rintro _ w1 ⟨g, rfl, K⟩) | ((with_reducible refine at_load rfl ?_); first | (refine wpList_reads (by rfl) (kr_load_cell K _ _ (by rfl) (by rfl) Has.auto (by decide +kernel) (by (try simp only [List.getElem?_toArray, List.getElem?_cons_succ, List.getElem?_cons_zero]); exact rfl)) ?_) | (refine wpList_reads (by rfl) (kr_load_row K _ _ (by rfl) (by rfl) Has.auto (by decide +kernel) (by kernel_rfl)) ?_)) | ((with_reducible refine at_store rfl ?_); (first | (refine wpList_does rfl (kd_store_cell K _ _ _ rfl rfl (by conv => lhs; whnf) Repl.auto rfl rfl (by kernel_rfl) (by kernel_rfl) (by first | (simp only [List.setIfInBounds_toArray, List.set_cons_succ, List.set_cons_zero]; rfl) | rfl)) ?_) | (refine wpList_does rfl (kd_store_row K _ _ _ rfl rfl rfl Repl.auto (by kernel_rfl) (by kernel_rfl) (by kernel_rfl)) ?_)); clear K; intro _ w1 K; (try simp only [Act.put]))))
    refine wp_thr (fun ch w' => ch = [{ v := .iface 77 (.agg #[.int .i64 c]), recovered := false }] ∧ ∃ q X', Rdr gr bs q X' ∧ Known w0 w' (X' ++ (row gx (ifC x) 53 :: (Z ++ (row g3 #[.int .i64 (p : Nat)] 3 :: row g2 #[.bool false] 4 :: row g1 #[ptr' gx] 33 :: L))))) ?_ ?_
    · rintro ch a' w' hd ht ⟨rfl, q, X', hR2, K2⟩
      show Leaves _ _ _ _ a'.defers _ _
      rw [hd]
      refine leaves_cons (f := 45) (args := #[ptr' g1, ptr' g3, ptr' g2]) (by simp) (by simp [go_sem]) ?_
      refine (catch_throw (M := Z ++ L) (K2.cov Cov.auto) hR2 hr hple c [] _ rfl).mono ?_
      rintro e u' w'' ⟨rfl, rfl, X1, hR1, K⟩
      have hc : w''.cell? ⟨g2, 0, none⟩ = some (.bool false) := (K.blk (g := g2) (cs := #[.bool false]) (t := 4) Has.auto).cell 0
      have ht2 : a'.tmps.getD 2 undef = ptr' g2 := ht
      rw [HF.out]
      show Leaves Try.prog Try.f26 a'.tmps _ [] .returning w''
      refine ⟨.bool false, ?_, rfl, { x with e := if c = 2 then x.e else c }, X1, hR1, Z, ?_, ⟨rfl, rfl, rfl, rfl, rfl⟩, ?_, K.cov Cov.auto⟩
      · generalize a'.tmps = tm at ht2
        clear hd ht
        rw [Array.getD_eq_getD_getElem?] at ht2
        simp [results, Try.results26, go_sem, ht2, hc]
      · have := hI.setE (if c = 2 then m.e else c)
        rw [hI.1.e]
        exact this
      · show x.next = nxtV m.next
        rw [HH.out, hnx2]
        rfl
    · refine wp_region_GK (X := [row g1 #[ptr' gx] 33]) K Cov.auto (by kernel_rfl) (by kernel_rfl) (by kernel_rfl) (fun K hHeld => ?_)
      refine wpG_takeA 0 (v := ptr' gx) (hQ := fun _ _ _ h => thr_put (by decide) h) ?_ hHeld ?_
      · (intro w hS; first | exact kr_load_cell hS _ _ (by rfl) (by rfl) Has.auto (by kernel_rfl) (by rfl))
      try simp only [Act.put, List.setIfInBounds_toArray, List.set_cons_zero, List.set_cons_succ]
      refine wpG_takeA 1 (v := ptr' gx) (hQ := fun _ _ _ h => thr_put (by decide) h) ?_ hHeld ?_
      · (intro w hS; first | exact kr_load_cell hS _ _ (by rfl) (by rfl) Has.auto (by kernel_rfl) (by rfl))
      try simp only [Act.put, List.setIfInBounds_toArray, List.set_cons_zero, List.set_cons_succ]
      refine wpG_takeA 2 (v := ?_) (hQ := fun _ _ _ h => thr_put (by decide) h) ?_ hHeld ?_
      rotate_left
      · (intro w hS; (clear hS; go_simp); try with_reducible rfl)
      try simp only [Act.put, List.setIfInBounds_toArray, List.set_cons_zero, List.set_cons_succ]
      refine wpG_takeA 3 (v := ?_) (hQ := fun _ _ _ h => thr_put (by decide) h) ?_ hHeld ?_
      rotate_left
      · (intro w hS; (clear hS; go_simp); try with_reducible rfl)
      try simp only [Act.put, List.setIfInBounds_toArray, List.set_cons_zero, List.set_cons_succ]
      refine wpG_takeA 5 (v := ptr' gx) (hQ := fun _ _ _ h => thr_put (by decide) h) ?_ hHeld ?_
      · (intro w hS; first | exact kr_load_cell hS _ _ (by rfl) (by rfl) Has.auto (by kernel_rfl) (by rfl))
      try simp only [Act.put, List.setIfInBounds_toArray, List.set_cons_zero, List.set_cons_succ]
      refine wpG_oneA 4 (fun K9 hK => ?_)
      refine st_does (by rfl) (Does.val (kr_load_cell K _ _ (by rfl) (by rfl) Has.auto (by kernel_rfl) (if_next _)) (R := fun v w1 => v = _ ∧ w1 = _) ⟨rfl, rfl⟩) ?_
      rintro _ _ ⟨rfl, rfl⟩
      refine hK.out _ _ (K.cov Cov.auto) (fun hHeld => ?_)
      clear hK K9
      try simp only [Act.put, List.setIfInBounds_toArray, List.set_cons_zero, List.set_cons_succ]
      refine wpG_oneA 6 (fun K9 hK => ?_)
      go_simp
      (go_at_call 41; refine (iraw_any (Z := Z) (L := row g3 #[.int .i64 (p : Nat)] 3 :: row g2 #[.bool false] 4 :: row g1 #[ptr' gx] 33 :: L) (K.cov Cov.auto) hR hr hI hn1).mono ?_); clear K; rintro e w1 hSP; rw [HST.out] at hSP; obtain ⟨rfl, q, X1, hR1, K⟩ := hSP
      exact ⟨rfl, q, X1, hR1, K⟩

set_option maxHeartbeats 1600000 in
set_option maxRecDepth 100000 in
theorem istep2_symbols (K : Known w0 w (Xr ++ (row gx (ifC x) 53 :: (Z ++ L)))) (hR : Rdr gr bs p Xr) (hr : x.r = ptr' gr) (hI : Is m x Z) (hnx : x.next = nxtV m.next) (hn1 : m.next = 3) :
    Calls Try.prog 26 #[ptr' gx] w (StepP w0 gx gr bs x L (stepM bs m p)) := by
  have hmf : ∀ (fn : Fn) (first cap : Array Value) (w : World), (Instr.makeFunc fn first cap).run Try.prog w = .ok (.func fn first cap) w := fun _ _ _ _ => rfl
  have hnx2 : x.next = fnI 44 := by rw [hnx, hn1]; rfl
  clear hnx
  obtain ⟨R0, hR0⟩ : ∃ R0, symbolsM (ofBytes bs) m p = R0 := ⟨_, rfl⟩
  have HST := Lib.hid hR0
  have hst : stateM bs m p = R0 := by
    rw [← hR0, stateM]
    simp [hn1]
  obtain ⟨RS, hRS⟩ : ∃ RS, stepM bs m p = RS := ⟨_, rfl⟩
  rw [hRS]
  clear hR0
  have hple := hR.le
  have HH := Lib.hid hn1
  rcases R0 with ⟨m', q⟩ | c
  · obtain ⟨nv, hnv⟩ : ∃ nv, nxtV m'.next = nv := ⟨_, rfl⟩
    by_cases h0 : m'.next = 0
    · have hnil : nv = .nilFunc := by rw [← hnv, h0]; rfl
      subst hnil
      have HNV := Lib.hid hnv
      have HF := Lib.hid (show RS = ((m', q), false) by rw [← hRS, stepM, hst]; simp [h0])
      clear hnv h0 hst hRS
      go_enter_defers Try.func26, Try.ntmps26
      go_upto_region 3 with ((first | ((with_reducible refine at_slot (N := 1) rfl ?_); (with_reducible refine at_box rfl ?_); refine wpList_does rfl (kd_box K _ _ rfl (by conv => lhs; whnf)) ?_; clear K; rintro _ w1 ⟨g1, rfl, K⟩; (try dsimp only [Value.cells] at K)) | ((with_reducible refine at_slot (N := 2) rfl ?_); (with_reducible refine at_alloc rfl ?_); refine wpList_does rfl (kd_alloc K _ rfl rfl) ?_; clear K; rintro _ w1 ⟨g2, rfl, K⟩; (try dsimp only [Value.cells] at K)) | ((with_reducible refine at_slot (N := 3) rfl ?_); (with_reducible refine at_alloc rfl ?_); refine wpList_does rfl (kd_alloc K _ rfl rfl) ?_; clear K; rintro _ w1 ⟨g3, rfl, K⟩; (try dsimp only [Value.cells] at K)) | (((with_reducible refine at_load rfl ?_); first | (refine wpList_reads (by rfl) (kr_load_cell K _ _ (by rfl) (by rfl) Has.auto (by decide +kernel) (if_most _)) ?_) | (refine wpList_reads (by rfl) (kr_load_cell K _ _ (by rfl) (by rfl) Has.auto (by decide +kernel) (if_out _)) ?_) | (refine wpList_reads (by rfl) (kr_load_cell K _ _ (by rfl) (by rfl) Has.auto (by decide +kernel) (if_rest _)) ?_) | (refine wpList_reads (by rfl) (kr_load_cell K _ _ (by rfl) (by rfl) Has.auto (by decide +kernel) (if_from _)) ?_) | (refine wpList_reads (by rfl) (kr_load_cell K _ _ (by rfl) (by rfl) Has.auto (by decide +kernel) (if_r _)) ?_) | (refine wpList_reads (by rfl) (kr_load_cell K _ _ (by rfl) (by rfl) Has.auto (by decide +kernel) (if_next _)) ?_) | (refine wpList_reads (by rfl) (kr_load_cell K _ _ (by rfl) (by rfl) Has.auto (by decide +kernel) (if_last _)) ?_) | (refine wpList_reads (by rfl) (kr_load_cell K _ _ (by rfl) (by rfl) Has.auto (by decide +kernel) (if_left _)) ?_) | (refine wpList_reads (by rfl) (kr_load_cell K _ _ (by rfl) (by rfl) Has.auto (by decide +kernel) (if_lit _)) ?_) | (refine wpList_reads (by rfl) (kr_load_cell K _ _ (by rfl) (by rfl) Has.auto (by decide +kernel) (if_dist _)) ?_) | (refine wpList_reads (by rfl) (kr_load_cell K _ _ (by rfl) (by rfl) Has.auto (by decide +kernel) (if_e _)) ?_)); (try dsimp only)) | (go_at_call 28; (with_reducible refine (rat_any (K.pickS (by repeat (first | with_reducible exact Sel.nil _ | with_reducible exact Sel.ap _ _ | with_reducible exact Sel.hd _ _ | with_reducible exact Sel.all _ | with_reducible apply Sel.tl | with_reducible apply Sel.sk))) hR).mono ?_); clear K; rintro e w1 ⟨rfl, K⟩) | ((with_reducible refine at_eqnil rfl ?_); refine wpList_reads rfl (kr_eqnil rfl rfl (by kernel_rfl)) ?_) | ((with_reducible refine at_box rfl ?_); refine wpList_does rfl (kd_box K _ _ rfl (by conv => lhs; whnf)) ?_; clear K; rintro _ w1 ⟨g, rfl, K⟩; (try dsimp only [Value.cells] at K)) | ((with_reducible refine at_alloc rfl ?_); refine wpList_does rfl (kd_alloc K _ rfl rfl) ?_; clear K; rintro _ w1 ⟨g, rfl, K⟩; (try dsimp only [Value.cells] at K)) | ((with_reducible refine at_buildSlice rfl ?_); refine wpList_does rfl (kd_lits (cs := _) K _ _ _ rfl (by first | rfl | (go_simp; done) | (go_simp; rfl)) (by first | rfl | (go_simp; done) | (go_simp; rfl))) ?_; clear K; rintro _ w1 ⟨g, rfl, K⟩) | ((with_reducible refine at_load rfl ?_); first | (refine wpList_reads (by rfl) (kr_load_cell K _ _ (by rfl) (by rfl) Has.auto (by decide +kernel) (by (try simp only [List.getElem?_toArray, List.getElem?_cons_succ, List.getElem?_cons_zero]); exact rfl)) ?_) | (refine wpList_reads (by rfl) (kr_load_row K _ _ (by rfl) (by rfl) Has.auto (by decide +kernel) (by kernel_rfl)) ?_)) | ((with_reducible refine at_store rfl ?_); (first | (refine wpList_does rfl (kd_store_cell K _ _ _ rfl rfl (by conv => lhs; whnf) Repl.auto rfl rfl (by kernel_rfl) (by kernel_rfl) (by first | (simp only [List.setIfInBounds_toArray, List.set_cons_succ, List.set_cons_zero]; rfl) | rfl)) ?_) | (refine wpList_does rfl (kd_store_row K _ _ _ rfl rfl rfl Repl.auto (by kernel_rfl) (by kernel_rfl) (by kernel_rfl)) ?_)); clear K; intro _ w1 K; (try simp only [Act.put]))))
      refine wp_norm ?_
      refine wp_region_GK (X := [row g1 #[ptr' gx] 33]) K Cov.auto (by kernel_rfl) (by kernel_rfl) (by kernel_rfl) (fun K hHeld => ?_)
      refine wpG_takeA 0 (v := ptr' gx) ?_ hHeld ?_
      · (intro w hS; first | exact kr_load_cell hS _ _ (by rfl) (by rfl) Has.auto (by kernel_rfl) (by rfl))
      try simp only [Act.put, List.setIfInBounds_toArray, List.set_cons_zero, List.set_cons_succ]
      refine wpG_takeA 1 (v := ptr' gx) ?_ hHeld ?_
      · (intro w hS; first | exact kr_load_cell hS _ _ (by rfl) (by rfl) Has.auto (by kernel_rfl) (by rfl))
      try simp only [Act.put, List.setIfInBounds_toArray, List.set_cons_zero, List.set_cons_succ]
      refine wpG_takeA 2 (v := ?_) ?_ hHeld ?_
      rotate_left
      · (intro w hS; (clear hS; go_simp); try with_reducible rfl)
      try simp only [Act.put, List.setIfInBounds_toArray, List.set_cons_zero, List.set_cons_succ]
      refine wpG_takeA 3 (v := ?_) ?_ hHeld ?_
      rotate_left
      · (intro w hS; (clear hS; go_simp); try with_reducible rfl)
      try simp only [Act.put, List.setIfInBounds_toArray, List.set_cons_zero, List.set_cons_succ]
      refine wpG_takeA 5 (v := ptr' gx) ?_ hHeld ?_
      · (intro w hS; first | exact kr_load_cell hS _ _ (by rfl) (by rfl) Has.auto (by kernel_rfl) (by rfl))
      try simp only [Act.put, List.setIfInBounds_toArray, List.set_cons_zero, List.set_cons_succ]
      refine wpG_oneA 4 (fun K9 hK => ?_)
      refine st_does (by rfl) (Does.val (kr_load_cell K _ _ (by rfl) (by rfl) Has.auto (by kernel_rfl) (if_next _)) (R := fun v w1 => v = _ ∧ w1 = _) ⟨rfl, rfl⟩) ?_
      rintro _ _ ⟨rfl, rfl⟩
      refine hK.out _ _ (K.cov Cov.auto) (fun hHeld => ?_)
      clear hK K9
      try simp only [Act.put, List.setIfInBounds_toArray, List.set_cons_zero, List.set_cons_succ]
      refine wpG_oneA 6 (fun K9 hK => ?_)
      go_simp
      (go_at_call 44; refine (isymbols_any (Z := Z) (L := row g3 #[.int .i64 (p : Nat)] 3 :: row g2 #[.bool false] 4 :: row g1 #[ptr' gx] 33 :: L) (K.cov Cov.auto) hR hr hI hn1).mono ?_); clear K; rintro e w1 hSP; rw [HST.out] at hSP; obtain ⟨rfl, x1, X1, Z1, hR1, hI1, hk1, K⟩ := hSP
      rw [HNV.out]
      refine hK.out _ _ (K.cov Cov.auto) (fun hHeld => ?_)
      clear hK K9
      try simp only [Act.put, List.setIfInBounds_toArray, List.set_cons_zero, List.set_cons_succ]
      refine wpG_takeA 7 (v := ?_) ?_ hHeld ?_
      rotate_left
      · (intro w hS; (clear hS; go_simp); try with_reducible rfl)
      try simp only [Act.put, List.setIfInBounds_toArray, List.set_cons_zero, List.set_cons_succ]
      refine wpG_takeA 8 (v := ?_) ?_ hHeld ?_
      rotate_left
      · (intro w hS; (clear hS; go_simp); try with_reducible rfl)
      try simp only [Act.put, List.setIfInBounds_toArray, List.set_cons_zero, List.set_cons_succ]
      refine wpG_lastA 9 (fun K9 hK => ?_)
      refine st_does (by rfl) (kd_store_cell K _ _ _ (by rfl) (by rfl) (by conv => lhs; whnf) Repl.auto (by rfl) (by rfl) (by kernel_rfl) (by rfl) (if_s_next _ _)) ?_
      clear K; intro _ w1 K; (try dsimp only at K)
      refine hK.out _ _ ?_
      clear hK K9
      try simp only [Act.put, List.setIfInBounds_toArray, List.set_cons_zero, List.set_cons_succ]
      skip
      go_wp2_with (first | (((with_reducible refine at_load rfl ?_); first | (refine wpList_reads (by rfl) (kr_load_cell K _ _ (by rfl) (by rfl) Has.auto (by decide +kernel) (if_most _)) ?_) | (refine wpList_reads (by rfl) (kr_load_cell K _ _ (by rfl) (by rfl) Has.auto (by decide +kernel) (if_out _)) ?_) | (refine wpList_reads (by rfl) (kr_load_cell K _ _ (by rfl) (by rfl) Has.auto (by decide +kernel) (if_rest _)) ?_) | (refine wpList_reads (by rfl) (kr_load_cell K _ _ (by rfl) (by rfl) Has.auto (by decide +kernel) (if_from _)) ?_) | (refine wpList_reads (by rfl) (kr_load_cell K _ _ (by rfl) (by rfl) Has.auto (by decide +kernel) (if_r _)) ?_) | (refine wpList_reads (by rfl) (kr_load_cell K _ _ (by rfl) (by rfl) Has.auto (by decide +kernel) (if_next _)) ?_) | (refine wpList_reads (by rfl) (kr_load_cell K _ _ (by rfl) (by rfl) Has.auto (by decide +kernel) (if_last _)) ?_) | (refine wpList_reads (by rfl) (kr_load_cell K _ _ (by rfl) (by rfl) Has.auto (by decide +kernel) (if_left _)) ?_) | (refine wpList_reads (by rfl) (kr_load_cell K _ _ (by rfl) (by rfl) Has.auto (by decide +kernel) (if_lit _)) ?_) | (refine wpList_reads (by rfl) (kr_load_cell K _ _ (by rfl) (by rfl) Has.auto (by decide +kernel) (if_dist _)) ?_) | (refine wpList_reads (by rfl) (kr_load_cell K _ _ (by rfl) (by rfl) Has.auto (by decide +kernel) (if_e _)) ?_)); (try dsimp only)) | ((with_reducible refine at_bin (b := .neq) (t := 50) rfl ?_); refine wpList_reads (by rfl) (kr_fn (by rfl) (by rfl) st_neq_nil (.inr rfl)) ?_) | ((with_reducible refine at_eqnil rfl ?_); refine wpList_reads rfl (kr_eqnil rfl rfl (by kernel_rfl)) ?_) | ((with_reducible refine at_box rfl ?_); refine wpList_does rfl (kd_box K _ _ rfl (by conv => lhs; whnf)) ?_; clear K; rintro _ w1 ⟨g, rfl, K⟩; (try dsimp only [Value.cells] at K)) | ((with_reducible refine at_alloc rfl ?_); refine wpList_does rfl (kd_alloc K _ rfl rfl) ?_; clear K; rintro _ w1 ⟨g, rfl, K⟩; (try dsimp only [Value.cells] at K)) | ((with_reducible refine at_buildSlice rfl ?_); refine wpList_does rfl (kd_lits (cs := _) K _ _ _ rfl (by first | rfl | (go_simp; done) | (go_simp; rfl)) (by first | rfl | (go_simp; done) | (go_simp; rfl))) ?_; clear K; rintro _ w1 ⟨g, rfl, K⟩) | ((with_reducible refine at_load rfl ?_); first | (refine wpList_reads (by rfl) (kr_load_cell K _ _ (by rfl) (by rfl) Has.auto (by decide +kernel) (by (try simp only [List.getElem?_toArray, List.getElem?_cons_succ, List.getElem?_cons_zero]); exact rfl)) ?_) | (refine wpList_reads (by rfl) (kr_load_row K _ _ (by rfl) (by rfl) Has.auto (by decide +kernel) (by kernel_rfl)) ?_)) | ((with_reducible refine at_store rfl ?_); (first | (refine wpList_does rfl (kd_store_cell K _ _ _ rfl rfl (by conv => lhs; whnf) Repl.auto rfl rfl (by kernel_rfl) (by kernel_rfl) (by first | (simp only [List.setIfInBounds_toArray, List.set_cons_succ, List.set_cons_zero]; rfl) | rfl)) ?_) | (refine wpList_does rfl (kd_store_row K _ _ _ rfl rfl rfl Repl.auto (by kernel_rfl) (by kernel_rfl) (by kernel_rfl)) ?_)); clear K; intro _ w1 K; (try simp only [Act.put])))
      refine leaves_cons (f := 45) (args := #[ptr' g1, ptr' g3, ptr' g2]) (by simp) (by simp [go_sem]) ?_
      refine (catch_idle _ _ _ _).mono ?_
      rintro e u' w'' ⟨rfl, rfl, rfl⟩
      have hc : w''.cell? ⟨g2, 0, none⟩ = some (.bool false) := (K.blk (g := g2) (cs := #[.bool false]) (t := 4) Has.auto).cell 0
      rw [HF.out]
      simp [Leaves, settle, results, Try.results26, go_sem, hc, StepP]
      exact ⟨{ x1 with next := .nilFunc }, X1, hR1, Z1, hI1.setNext _, hk1, HNV.out.symm, K.cov Cov.auto⟩
    · obtain ⟨f2, hf2⟩ := nxtV_fn h0
      rw [hnv] at hf2
      subst hf2
      have HNV := Lib.hid hnv
      have HF := Lib.hid (show RS = ((m', q), true) by rw [← hRS, stepM, hst]; simp [h0])
      clear hnv h0 hst hRS
      go_enter_defers Try.func26, Try.ntmps26
      go_upto_region 3 with ((first | ((with_reducible refine at_slot (N := 1) rfl ?_); (with_reducible refine at_box rfl ?_); refine wpList_does rfl (kd_box K _ _ rfl (by conv => lhs; whnf)) ?_; clear K; rintro _ w1 ⟨g1, rfl, K⟩; (try dsimp only [Value.cells] at K)) | ((with_reducible refine at_slot (N := 2) rfl ?_); (with_reducible refine at_alloc rfl ?_); refine wpList_does rfl (kd_alloc K _ rfl rfl) ?_; clear K; rintro _ w1 ⟨g2, rfl, K⟩; (try dsimp only [Value.cells] at K)) | ((with_reducible refine at_slot (N := 3) rfl ?_); (with_reducible refine at_alloc rfl ?_); refine wpList_does rfl (kd_alloc K _ rfl rfl) ?_; clear K; rintro _ w1 ⟨g3, rfl, K⟩; (try dsimp only [Value.cells] at K)) | (((with_reducible refine at_load rfl ?_); first | (refine wpList_reads (by rfl) (kr_load_cell K _ _ (by rfl) (by rfl) Has.auto (by decide +kernel) (if_most _)) ?_) | (refine wpList_reads (by rfl) (kr_load_cell K _ _ (by rfl) (by rfl) Has.auto (by decide +kernel) (if_out _)) ?_) | (refine wpList_reads (by rfl) (kr_load_cell K _ _ (by rfl) (by rfl) Has.auto (by decide +kernel) (if_rest _)) ?_) | (refine wpList_reads (by rfl) (kr_load_cell K _ _ (by rfl) (by rfl) Has.auto (by decide +kernel) (if_from _)) ?_) | (refine wpList_reads (by rfl) (kr_load_cell K _ _ (by rfl) (by rfl) Has.auto (by decide +kernel) (if_r _)) ?_) | (refine wpList_reads (by rfl) (kr_load_cell K _ _ (by rfl) (by rfl) Has.auto (by decide +kernel) (if_next _)) ?_) | (refine wpList_reads (by rfl) (kr_load_cell K _ _ (by rfl) (by rfl) Has.auto (by decide +kernel) (if_last _)) ?_) | (refine wpList_reads (by rfl) (kr_load_cell K _ _ (by rfl) (by rfl) Has.auto (by decide +kernel) (if_left _)) ?_) | (refine wpList_reads (by rfl) (kr_load_cell K _ _ (by rfl) (by rfl) Has.auto (by decide +kernel) (if_lit _)) ?_) | (refine wpList_reads (by rfl) (kr_load_cell K _ _ (by rfl) (by rfl) Has.auto (by decide +kernel) (if_dist _)) ?_) | (refine wpList_reads (by rfl) (kr_load_cell K _ _ (by rfl) (by rfl) Has.auto (by decide +kernel) (if_e _)) ?_)); (try dsimp only)) | (go_at_call 28; (with_reducible refine (rat_any (K.pickS (by repeat (first | with_reducible exact Sel.nil _ | with_reducible exact Sel.ap _ _ | with_reducible exact Sel.hd _ _ | with_reducible exact Sel.all _ | with_reducible apply Sel.tl | with_reducible apply Sel.sk))) hR).mono ?_); clear K; rintro e w1 ⟨rfl, K⟩) | ((with_reducible refine at_eqnil rfl ?_); refine wpList_reads rfl (kr_eqnil rfl rfl (by kernel_rfl)) ?_) | ((with_reducible refine at_box rfl ?_); refine wpList_does rfl (kd_box K _ _ rfl (by conv => lhs; whnf)) ?_; clear K; rintro _ w1 ⟨g, rfl, K⟩; (try dsimp only [Value.cells] at K)) | ((with_reducible refine at_alloc rfl ?_); refine wpList_does rfl (kd_alloc K _ rfl rfl) ?_; clear K; rintro _ w1 ⟨g, rfl, K⟩; (try dsimp only [Value.cells] at K)) | ((with_reducible refine at_buildSlice rfl ?_); refine wpList_does rfl (kd_lits (cs := _) K _ _ _ rfl (by first | rfl | (go_simp; done) | (go_simp; rfl)) (by first | rfl | (go_simp; done) | (go_simp; rfl))) ?_; clear K; rintro _ w1 ⟨g, rfl, K⟩) | ((with_reducible refine at_load rfl ?_); first | (refine wpList_reads (by rfl) (kr_load_cell K _ _ (by rfl) (by rfl) Has.auto (by decide +kernel) (by (try simp only [List.getElem?_toArray, List.getElem?_cons_succ, List.getElem?_cons_zero]); exact rfl)) ?_) | (refine wpList_reads (by rfl) (kr_load_row K _ _ (by rfl) (by rfl) Has.auto (by decide +kernel) (by kernel_rfl)) ?_)) | ((with_reducible refine at_store rfl ?_); (first | (refine wpList_does rfl (kd_store_cell K _ _ _ rfl rfl (by conv => lhs; whnf) Repl.auto rfl rfl (by kernel_rfl) (by kernel_rfl) (by first | (simp only [List.setIfInBounds_toArray, List.set_cons_succ, List.set_cons_zero]; rfl) | rfl)) ?_) | (refine wpList_does rfl (kd_store_row K _ _ _ rfl rfl rfl Repl.auto (by kernel_rfl) (by kernel_rfl) (by kernel_rfl)) ?_)); clear K; intro _ w1 K; (try simp only [Act.put]))))
      refine wp_norm ?_
      refine wp_region_GK (X := [row g1 #[ptr' gx] 33]) K Cov.auto (by kernel_rfl) (by kernel_rfl) (by kernel_rfl) (fun K hHeld => ?_)
      refine wpG_takeA 0 (v := ptr' gx) ?_ hHeld ?_
      · (intro w hS; first | exact kr_load_cell hS _ _ (by rfl) (by rfl) Has.auto (by kernel_rfl) (by rfl))
      try simp only [Act.put, List.setIfInBounds_toArray, List.set_cons_zero, List.set_cons_succ]
      refine wpG_takeA 1 (v := ptr' gx) ?_ hHeld ?_
      · (intro w hS; first | exact kr_load_cell hS _ _ (by rfl) (by rfl) Has.auto (by kernel_rfl) (by rfl))
      try simp only [Act.put, List.setIfInBounds_toArray, List.set_cons_zero, List.set_cons_succ]
      refine wpG_takeA 2 (v := ?_) ?_ hHeld ?_
      rotate_left
      · (intro w hS; (clear hS; go_simp); try with_reducible rfl)
      try simp only [Act.put, List.setIfInBounds_toArray, List.set_cons_zero, List.set_cons_succ]
      refine wpG_takeA 3 (v := ?_) ?_ hHeld ?_
      rotate_left
      · (intro w hS; (clear hS; go_simp); try with_reducible rfl)
      try simp only [Act.put, List.setIfInBounds_toArray, List.set_cons_zero, List.set_cons_succ]
      refine wpG_takeA 5 (v := ptr' gx) ?_ hHeld ?_
      · (intro w hS; first | exact kr_load_cell hS _ _ (by rfl) (by rfl) Has.auto (by kernel_rfl) (by rfl))
      try simp only [Act.put, List.setIfInBounds_toArray, List.set_cons_zero, List.set_cons_succ]
      refine wpG_oneA 4 (fun K9 hK => ?_)
      refine st_does (by rfl) (Does.val (kr_load_cell K _ _ (by rfl) (by rfl) Has.auto (by kernel_rfl) (if_next _)) (R := fun v w1 => v = _ ∧ w1 = _) ⟨rfl, rfl⟩) ?_
      rintro _ _ ⟨rfl, rfl⟩
      refine hK.out _ _ (K.cov Cov.auto) (fun hHeld => ?_)
      clear hK K9
      try simp only [Act.put, List.setIfInBounds_toArray, List.set_cons_zero, List.set_cons_succ]
      refine wpG_oneA 6 (fun K9 hK => ?_)
      go_simp
      (go_at_call 44; refine (isymbols_any (Z := Z) (L := row g3 #[.int .i64 (p : Nat)] 3 :: row g2 #[.bool false] 4 :: row g1 #[ptr' gx] 33 :: L) (K.cov Cov.auto) hR hr hI hn1).mono ?_); clear K; rintro e w1 hSP; rw [HST.out] at hSP; obtain ⟨rfl, x1, X1, Z1, hR1, hI1, hk1, K⟩ := hSP
      rw [HNV.out]
      refine hK.out _ _ (K.cov Cov.auto) (fun hHeld => ?_)
      clear hK K9
      try simp only [Act.put, List.setIfInBounds_toArray, List.set_cons_zero, List.set_cons_succ]
      refine wpG_takeA 7 (v := ?_) ?_ hHeld ?_
      rotate_left
      · (intro w hS; (clear hS; go_simp); try with_reducible rfl)
      try simp only [Act.put, List.setIfInBounds_toArray, List.set_cons_zero, List.set_cons_succ]
      refine wpG_takeA 8 (v := ?_) ?_ hHeld ?_
      rotate_left
      · (intro w hS; (clear hS; go_simp); try with_reducible rfl)
      try simp only [Act.put, List.setIfInBounds_toArray, List.set_cons_zero, List.set_cons_succ]
      refine wpG_lastA 9 (fun K9 hK => ?_)
      refine st_does (by rfl) (kd_store_cell K _ _ _ (by rfl) (by rfl) (by conv => lhs; whnf) Repl.auto (by rfl) (by rfl) (by kernel_rfl) (by rfl) (if_s_next _ _)) ?_
      clear K; intro _ w1 K; (try dsimp only at K)
      refine hK.out _ _ ?_
      clear hK K9
      try simp only [Act.put, List.setIfInBounds_toArray, List.set_cons_zero, List.set_cons_succ]
      skip
      go_wp2_with (first | (((with_reducible refine at_load rfl ?_); first | (refine wpList_reads (by rfl) (kr_load_cell K _ _ (by rfl) (by rfl) Has.auto (by decide +kernel) (if_most _)) ?_) | (refine wpList_reads (by rfl) (kr_load_cell K _ _ (by rfl) (by rfl) Has.auto (by decide +kernel) (if_out _)) ?_) | (refine wpList_reads (by rfl) (kr_load_cell K _ _ (by rfl) (by rfl) Has.auto (by decide +kernel) (if_rest _)) ?_) | (refine wpList_reads (by rfl) (kr_load_cell K _ _ (by rfl) (by rfl) Has.auto (by decide +kernel) (if_from _)) ?_) | (refine wpList_reads (by rfl) (kr_load_cell K _ _ (by rfl) (by rfl) Has.auto (by decide +kernel) (if_r _)) ?_) | (refine wpList_reads (by rfl) (kr_load_cell K _ _ (by rfl) (by rfl) Has.auto (by decide +kernel) (if_next _)) ?_) | (refine wpList_reads (by rfl) (kr_load_cell K _ _ (by rfl) (by rfl) Has.auto (by decide +kernel) (if_last _)) ?_) | (refine wpList_reads (by rfl) (kr_load_cell K _ _ (by rfl) (by rfl) Has.auto (by decide +kernel) (if_left _)) ?_) | (refine wpList_reads (by rfl) (kr_load_cell K _ _ (by rfl) (by rfl) Has.auto (by decide +kernel) (if_lit _)) ?_) | (refine wpList_reads (by rfl) (kr_load_cell K _ _ (by rfl) (by rfl) Has.auto (by decide +kernel) (if_dist _)) ?_) | (refine wpList_reads (by rfl) (kr_load_cell K _ _ (by rfl) (by rfl) Has.auto (by decide +kernel) (if_e _)) ?_)); (try dsimp only)) | ((with_reducible refine at_bin (b := .neq) (t := 50) rfl ?_); refine wpList_reads (by rfl) (kr_fn (by rfl) (by rfl) st_neq_fn (.inr rfl)) ?_) | ((with_reducible refine at_eqnil rfl ?_); refine wpList_reads rfl (kr_eqnil rfl rfl (by kernel_rfl)) ?_) | ((with_reducible refine at_box rfl ?_); refine wpList_does rfl (kd_box K _ _ rfl (by conv => lhs; whnf)) ?_; clear K; rintro _ w1 ⟨g, rfl, K⟩; (try dsimp only [Value.cells] at K)) | ((with_reducible refine at_alloc rfl ?_); refine wpList_does rfl (kd_alloc K _ rfl rfl) ?_; clear K; rintro _ w1 ⟨g, rfl, K⟩; (try dsimp only [Value.cells] at K)) | ((with_reducible refine at_buildSlice rfl ?_); refine wpList_does rfl (kd_lits (cs := _) K _ _ _ rfl (by first | rfl | (go_simp; done) | (go_simp; rfl)) (by first | rfl | (go_simp; done) | (go_simp; rfl))) ?_; clear K; rintro _ w1 ⟨g, rfl, K⟩) | ((with_reducible refine at_load rfl ?_); first | (refine wpList_reads (by rfl) (kr_load_cell K _ _ (by rfl) (by rfl) Has.auto (by decide +kernel) (by (try simp only [List.getElem?_toArray, List.getElem?_cons_succ, List.getElem?_cons_zero]); exact rfl)) ?_) | (refine wpList_reads (by rfl) (kr_load_row K _ _ (by rfl) (by rfl) Has.auto (by decide +kernel) (by kernel_rfl)) ?_)) | ((with_reducible refine at_store rfl ?_); (first | (refine wpList_does rfl (kd_store_cell K _ _ _ rfl rfl (by conv => lhs; whnf) Repl.auto rfl rfl (by kernel_rfl) (by kernel_rfl) (by first | (simp only [List.setIfInBounds_toArray, List.set_cons_succ, List.set_cons_zero]; rfl) | rfl)) ?_) | (refine wpList_does rfl (kd_store_row K _ _ _ rfl rfl rfl Repl.auto (by kernel_rfl) (by kernel_rfl) (by kernel_rfl)) ?_)); clear K; intro _ w1 K; (try simp only [Act.put])))
      refine leaves_cons (f := 45) (args := #[ptr' g1, ptr' g3, ptr' g2]) (by simp) (by simp [go_sem]) ?_
      refine (catch_idle _ _ _ _).mono ?_
      rintro e u' w'' ⟨rfl, rfl, rfl⟩
      have hc : w''.cell? ⟨g2, 0, none⟩ = some (.bool true) := (K.blk (g := g2) (cs := #[.bool true]) (t := 4) Has.auto).cell 0
      rw [HF.out]
      simp [Leaves, settle, results, Try.results26, go_sem, hc, StepP]
      exact ⟨{ x1 with next := fnI f2 }, X1, hR1, Z1, hI1.setNext _, hk1, HNV.out.symm, K.cov Cov.auto⟩
  · have HF := Lib.hid (show RS = (({ m with e := if c = 2 then m.e else c }, p), false) by rw [← hRS, stepM, hst])
    clear hst hRS
    go_enter_defers Try.func26, Try.ntmps26
    go_upto_region 3 with ((first | ((with_reducible refine at_slot (N := 1) rfl ?_); (with_reducible refine at_box rfl ?_); refine wpList_does rfl (kd_box K _ _ rfl (by conv => lhs; whnf)) ?_; clear K; rintro _ w1 ⟨g1, rfl, K⟩; (try dsimp only [Value.cells] at K)) | ((with_reducible refine at_slot (N := 2) rfl ?_); (with_reducible refine at_alloc rfl ?_); refine wpList_does rfl (kd_alloc K _ rfl rfl) ?_; clear K; rintro _ w1 ⟨g2, rfl, K⟩; (try dsimp only [Value.cells] at K)) | ((with_reducible refine at_slot (N := 3) rfl ?_); (with_reducible refine at_alloc rfl ?_); refine wpList_does rfl (kd_alloc K _ rfl rfl) ?_; clear K; rintro _ w1 ⟨g3, rfl, K⟩; (try dsimp only [Value.cells] at K)) | (((with_reducible refine at_load rfl ?_); first | (refine wpList_reads (by rfl) (kr_load_cell K _ _ (by rfl) (by rfl) Has.auto (by decide +kernel) (if_most _)) ?_) | (refine wpList_reads (by rfl) (kr_load_cell K _ _ (by rfl) (by rfl) Has.auto (by decide +kernel) (if_out _)) ?_) | (refine wpList_reads (by rfl) (kr_load_cell K _ _ (by rfl) (by rfl) Has.auto (by decide +kernel) (if_rest _)) ?_) | (refine wpList_reads (by rfl) (kr_load_cell K _ _ (by rfl) (by rfl) Has.auto (by decide +kernel) (if_from _)) ?_) | (refine wpList_reads (by rfl) (kr_load_cell K _ _ (by rfl) (by rfl) Has.auto (by decide +kernel) (if_r _)) ?_) | (refine wpList_reads (by rfl) (kr_load_cell K _ _ (by rfl) (by rfl) Has.auto (by decide +kernel) (if_next _)) ?_) | (refine wpList_reads (by rfl) (kr_load_cell K _ _ (by rfl) (by rfl) Has.auto (by decide +kernel) (if_last _)) ?_) | (refine wpList_reads (by rfl) (kr_load_cell K _ _ (by rfl) (by rfl) Has.auto (by decide +kernel) (if_left _)) ?_) | (refine wpList_reads (by rfl) (kr_load_cell K _ _ (by rfl) (by rfl) Has.auto (by decide +kernel) (if_lit _)) ?_) | (refine wpList_reads (by rfl) (kr_load_cell K _ _ (by rfl) (by rfl) Has.auto (by decide +kernel) (if_dist _)) ?_) | (refine wpList_reads (by rfl) (kr_load_cell K _ _ (by rfl) (by rfl) Has.auto (by decide +kernel) (if_e _)) ?_)); (try dsimp only)) | (go_at_call 28; (with_reducible refine (rat_any (K.pickS (by repeat (first | with_reducible exact Sel.nil _ | with_reducible exact Sel.ap _ _ | with_reducible exact Sel.hd _ _ | with_reducible exact Sel.all _ | with_reducible apply Sel.tl | with_reducible apply Sel.sk))) hR).mono ?_); clear K; rintro e w1 ⟨rfl, K⟩) | ((with_reducible refine at_eqnil rfl ?_); refine wpList_reads rfl (kr_eqnil rfl rfl (by kernel_rfl)) ?_) | ((with_reducible refine at_box rfl ?_); refine wpList_does rfl (kd_box K _ _ rfl (by conv => lhs; whnf)) ?_; clear K; rintro _ w1 ⟨g, rfl, K⟩; (try dsimp only [Value.cells] at K)) | ((with_reducible refine at_alloc rfl ?_); refine wpList_does rfl (kd_alloc K _ rfl rfl) ?_; clear K; rintro _ w1 ⟨g, rfl, K⟩; (try dsimp only [Value.cells] at K)) | ((with_reducible refine at_buildSlice rfl ?_); refine wpList_does rfl (kd_lits (cs := _) K _ _ _ rfl (by first | rfl | (go_simp; done) | (go_simp; rfl)) (by first | rfl | (go_simp; done) | (go_simp; rfl))) ?_; clear K; rintro _ w1 ⟨g, rfl, K⟩) | ((with_reducible refine at_load rfl ?_); first | (refine wpList_reads (by rfl) (kr_load_cell K _ _ (by rfl) (by rfl) Has.auto (by decide +kernel) (by (try simp only [List.getElem?_toArray, List.getElem?_cons_succ, List.getElem?_cons_zero]); exact rfl)) ?_) | (refine wpList_reads (by rfl) (kr_load_row K _ _ (by rfl) (by rfl) Has.auto (by decide +kernel) (by kernel_rfl)) ?_)) | ((with_reducible refine at_store rfl ?_); (first | (refine wpList_does rfl (kd_store_cell K _ _ _ rfl rfl (by conv => lhs; whnf) Repl.auto rfl rfl (by kernel_rfl) (by kernel_rfl) (by first | (simp only [List.setIfInBounds_toArray, List.set_cons_succ, List.set_cons_zero]; rfl) | rfl)) ?_) | (refine wpList_does rfl (kd_store_row K _ _ _ rfl rfl rfl Repl.auto (by kernel_rfl) (by kernel_rfl) (by kernel_rfl)) ?_)); clear K; intro _ w1 K; (try simp only [Act.put]))))
    refine wp_thr (fun ch w' => ch = [{ v := .iface 77 (.agg #[.int .i64 c]), recovered := false }] ∧ ∃ q X', Rdr gr bs q X' ∧ Known w0 w' (X' ++ (row gx (ifC x) 53 :: (Z ++ (row g3 #[.int .i64 (p : Nat)] 3 :: row g2 #[.bool false] 4 :: row g1 #[ptr' gx] 33 :: L))))) ?_ ?_
    · rintro ch a' w' hd ht ⟨rfl, q, X', hR2, K2⟩
      show Leaves _ _ _ _ a'.defers _ _
      rw [hd]
      refine leaves_cons (f := 45) (args := #[ptr' g1, ptr' g3, ptr' g2]) (by simp) (by simp [go_sem]) ?_
      refine (catch_throw (M := Z ++ L) (K2.cov Cov.auto) hR2 hr hple c [] _ rfl).mono ?_
      rintro e u' w'' ⟨rfl, rfl, X1, hR1, K⟩
      have hc : w''.cell? ⟨g2, 0, none⟩ = some (.bool false) := (K.blk (g := g2) (cs := #[.bool false]) (t := 4) Has.auto).cell 0
      have ht2 : a'.tmps.getD 2 undef = ptr' g2 := ht
      rw [HF.out]
      show Leaves Try.prog Try.f26 a'.tmps _ [] .returning w''
      refine ⟨.bool false, ?_, rfl, { x with e := if c = 2 then x.e else c }, X1, hR1, Z, ?_, ⟨rfl, rfl, rfl, rfl, rfl⟩, ?_, K.cov Cov.auto⟩
      · generalize a'.tmps = tm at ht2
        clear hd ht
        rw [Array.getD_eq_getD_getElem?] at ht2
        simp [results, Try.results26, go_sem, ht2, hc]
      · have := hI.setE (if c = 2 then m.e else c)
        rw [hI.1.e]
        exact this
      · show x.next = nxtV m.next
        rw [HH.out, hnx2]
        rfl
    · refine wp_region_GK (X := [row g1 #[ptr' gx] 33]) K Cov.auto (by kernel_rfl) (by kernel_rfl) (by kernel_rfl) (fun K hHeld => ?_)
      refine wpG_takeA 0 (v := ptr' gx) (hQ := fun _ _ _ h => thr_put (by decide) h) ?_ hHeld ?_
      · (intro w hS; first | exact kr_load_cell hS _ _ (by rfl) (by rfl) Has.auto (by kernel_rfl) (by rfl))
      try simp only [Act.put, List.setIfInBounds_toArray, List.set_cons_zero, List.set_cons_succ]
      refine wpG_takeA 1 (v := ptr' gx) (hQ := fun _ _ _ h => thr_put (by decide) h) ?_ hHeld ?_
      · (intro w hS; first | exact kr_load_cell hS _ _ (by rfl) (by rfl) Has.auto (by kernel_rfl) (by rfl))
      try simp only [Act.put, List.setIfInBounds_toArray, List.set_cons_zero, List.set_cons_succ]
      refine wpG_takeA 2 (v := ?_) (hQ := fun _ _ _ h => thr_put (by decide) h) ?_ hHeld ?_
      rotate_left
      · (intro w hS; (clear hS; go_simp); try with_reducible rfl)
      try simp only [Act.put, List.setIfInBounds_toArray, List.set_cons_zero, List.set_cons_succ]
      refine wpG_takeA 3 (v := ?_) (hQ := fun _ _ _ h => thr_put (by decide) h) ?_ hHeld ?_
      rotate_left
      · (intro w hS; (clear hS; go_simp); try with_reducible rfl)
      try simp only [Act.put, List.setIfInBounds_toArray, List.set_cons_zero, List.set_cons_succ]
      refine wpG_takeA 5 (v := ptr' gx) (hQ := fun _ _ _ h => thr_put (by decide) h) ?_ hHeld ?_
      · (intro w hS; first | exact kr_load_cell hS _ _ (by rfl) (by rfl) Has.auto (by kernel_rfl) (by rfl))
      try simp only [Act.put, List.setIfInBounds_toArray, List.set_cons_zero, List.set_cons_succ]
      refine wpG_oneA 4 (fun K9 hK => ?_)
      refine st_does (by rfl) (Does.val (kr_load_cell K _ _ (by rfl) (by rfl) Has.auto (by kernel_rfl) (if_next _)) (R := fun v w1 => v = _ ∧ w1 = _) ⟨rfl, rfl⟩) ?_
      rintro _ _ ⟨rfl, rfl⟩
      refine hK.out _ _ (K.cov Cov.auto) (fun hHeld => ?_)
      clear hK K9
      try simp only [Act.put, List.setIfInBounds_toArray, List.set_cons_zero, List.set_cons_succ]
      refine wpG_oneA 6 (fun K9 hK => ?_)
      go_simp
      (go_at_call 44; refine (isymbols_any (Z := Z) (L := row g3 #[.int .i64 (p : Nat)] 3 :: row g2 #[.bool false] 4 :: row g1 #[ptr' gx] 33 :: L) (K.cov Cov.auto) hR hr hI hn1).mono ?_); clear K; rintro e w1 hSP; rw [HST.out] at hSP; obtain ⟨rfl, q, X1, hR1, K⟩ := hSP
      exact ⟨rfl, q, X1, hR1, K⟩

theorem istep_all (K : Known w0 w (Xr ++ (row gx (ifC x) 53 :: (Z ++ L)))) (hR : Rdr gr bs p Xr) (hr : x.r = ptr' gr) (hI : Is m x Z) (hnx : x.next = nxtV m.next) (hn0 : m.next ≠ 0) (hn3 : m.next ≤ 3) :
    Calls Try.prog 26 #[ptr' gx] w (StepP w0 gx gr bs x L (stepM bs m p)) := by
  have h : m.next = 1 ∨ m.next = 2 ∨ m.next = 3 := by omega
  rcases h with h | h | h
  · exact istep2_begins K hR hr hI hnx h
  · exact istep2_raw K hR hr hI hnx h
  · exact istep2_symbols K hR hr hI hnx h
end
end Go.Proofs.Ytemnahimheffgaa
