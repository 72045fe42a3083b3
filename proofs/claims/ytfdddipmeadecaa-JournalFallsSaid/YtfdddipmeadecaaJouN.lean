/-
  drogherlaw24: JournalFalls (walk).
-/
import Derived.Test.YtfdddipmeadecaaJouM
set_option linter.unusedVariables false
set_option linter.unusedSimpArgs false
namespace Go.Proofs.Ytfdddipmeadecaa
open Go.RowKit
theorem kr_eqlI {P : Program} {o : Oper} {a : Act} {W : World} {T U : TypeId} {x y : Operand} (ho : o.op = .binOp .eql T x y U) {k : IntKind} {u v : Int} (hx : a.eval x = .int k u) (hy : a.eval y = .int k v) {b : Bool} (hb : (u == v) = b) : (execOp a.eval o).run P W = .ok (.value (.bool b)) W := by
  subst hb
  unfold execOp
  simp only [ho, hx, hy]
  simp [eqGuard, binOp, go_sem, Sem.run_bind]
theorem kr_eqR {o : Oper} {a : Act} {W : World} {U : TypeId} {x y : Operand} (ho : o.op = .binOp .eql 41 x y U) {r s : Rec} (hx : a.eval x = .agg (recC r)) (hy : a.eval y = .agg (recC s)) (hr : r.man.length = 32) (hs : s.man.length = 32) {b : Bool} (hb : recEq r s = b) : (execOp a.eval o).run Try.prog W = .ok (.value (.bool b)) W := by
  subst hb
  unfold execOp
  simp only [ho, hx, hy, Sem.run_bind, run_eqGuard_agg (P := Try.prog) W .eql 41 x y (recC r) (recC s) (by kernel_rfl), Result.andThen_ok, eql_rec r s hr hs]
  rfl
theorem recEq_ne {r s : Rec} (h : r.seq ≠ s.seq) : recEq r s = false := by
  cases hq : recEq r s
  · rfl
  · exact absurd (congrArg Rec.seq ((recEq_iff r s).1 hq)) h

section
variable {w0 w : World} {L : List Ent} {A P : Option Addr} {n cc np cp : Nat} {l : List Rec} {r : Rec} {fuse : Int} {ps : List Int}
set_option maxHeartbeats 3200000 in
set_option maxRecDepth 100000 in
theorem journalFalls_any (K : Known w0 w L) (R : RdM w0 [] recL 44 A n l) (hc : n ≤ cc) (hs : ∀ r ∈ l, RecOk r) (hro0 : RecOk r) (hfb : -9223372036854775808 ≤ fuse ∧ fuse ≤ 9223372036854775807) (RP : RdS w0 [] .u8 P np ps) (hcp : np ≤ cp) : Calls Try.prog 5 #[.slice A n cc, .agg (recC r), .int .i64 fuse, .slice P np cp] w fun e w' => e = .returned (.bool true) ∧ Known w0 w' L := by
  have HL0 := Lib.hid jLast_new
  have HC4 := Lib.hid (show 2 ≤ (Dev.new 128 4).count by decide)
  have HMN := Lib.hid hro0.man
  by_cases h30 : n ≤ 30
  rotate_left
  · have h' : 30 < (n : Int) := by omega
    go_enter Try.func5, Try.ntmps5
    go_wp2_with (first | ((with_reducible refine at_slot (N := 5) rfl ?_); (with_reducible refine at_box rfl ?_); refine wpList_does rfl (kd_box K _ _ rfl (by conv => lhs; whnf)) ?_; clear K; rintro _ w1 ⟨gr, rfl, K⟩; (try dsimp only [Value.cells] at K)) | (go_at_call 6; (with_reducible refine (snew_J K).mono ?_); clear K; rintro e w1 ⟨g, rfl, X0, HD0, K⟩) | (go_at_call 8; (with_reducible refine (places_any K).mono ?_); clear K; rintro e w1 ⟨rfl, K⟩) | (go_at_call 7; (with_reducible refine (jopen_any (K.sel (by repeat (first | with_reducible exact Sel.nil _ | with_reducible exact Sel.ap _ _ | with_reducible exact Sel.hd _ _ | with_reducible exact Sel.all _ | with_reducible apply Sel.tl | with_reducible apply Sel.sk))) HD0 HC4.out rfl).mono ?_); clear K; rintro e w1 ⟨gj, gp, gq, rfl, K⟩; rw [HL0.out] at K) | (go_at_call 9; (with_reducible refine (awake24K K).mono ?_); clear K; rintro e w1 ⟨rfl, K⟩))
    go_ret
    exact ⟨rfl, K.cov Cov.auto⟩
  have h' : ¬ 30 < (n : Int) := by omega
  by_cases h60 : np ≤ 60
  rotate_left
  · have h'' : 60 < (np : Int) := by omega
    go_enter Try.func5, Try.ntmps5
    go_wp2_with (first | ((with_reducible refine at_slot (N := 5) rfl ?_); (with_reducible refine at_box rfl ?_); refine wpList_does rfl (kd_box K _ _ rfl (by conv => lhs; whnf)) ?_; clear K; rintro _ w1 ⟨gr, rfl, K⟩; (try dsimp only [Value.cells] at K)) | (go_at_call 6; (with_reducible refine (snew_J K).mono ?_); clear K; rintro e w1 ⟨g, rfl, X0, HD0, K⟩) | (go_at_call 8; (with_reducible refine (places_any K).mono ?_); clear K; rintro e w1 ⟨rfl, K⟩) | (go_at_call 7; (with_reducible refine (jopen_any (K.sel (by repeat (first | with_reducible exact Sel.nil _ | with_reducible exact Sel.ap _ _ | with_reducible exact Sel.hd _ _ | with_reducible exact Sel.all _ | with_reducible apply Sel.tl | with_reducible apply Sel.sk))) HD0 HC4.out rfl).mono ?_); clear K; rintro e w1 ⟨gj, gp, gq, rfl, K⟩; rw [HL0.out] at K) | (go_at_call 9; (with_reducible refine (awake24K K).mono ?_); clear K; rintro e w1 ⟨rfl, K⟩))
    go_ret
    exact ⟨rfl, K.cov Cov.auto⟩
  have h'' : ¬ 60 < (np : Int) := by omega
  have hlen := R.len
  have HS := Lib.hid hs
  have HRO0 := Lib.hid hro0
  clear hs hro0
  go_enter Try.func5, Try.ntmps5
  go_upto_region 6 with ((first | ((with_reducible refine at_slot (N := 5) rfl ?_); (with_reducible refine at_box rfl ?_); refine wpList_does rfl (kd_box K _ _ rfl (by conv => lhs; whnf)) ?_; clear K; rintro _ w1 ⟨gr, rfl, K⟩; (try dsimp only [Value.cells] at K)) | (go_at_call 6; (with_reducible refine (snew_J K).mono ?_); clear K; rintro e w1 ⟨g, rfl, X0, HD0, K⟩) | (go_at_call 8; (with_reducible refine (places_any K).mono ?_); clear K; rintro e w1 ⟨rfl, K⟩) | (go_at_call 7; (with_reducible refine (jopen_any (K.sel (by repeat (first | with_reducible exact Sel.nil _ | with_reducible exact Sel.ap _ _ | with_reducible exact Sel.hd _ _ | with_reducible exact Sel.all _ | with_reducible apply Sel.tl | with_reducible apply Sel.sk))) HD0 HC4.out rfl).mono ?_); clear K; rintro e w1 ⟨gj, gp, gq, rfl, K⟩; rw [HL0.out] at K) | (go_at_call 9; (with_reducible refine (awake24K K).mono ?_); clear K; rintro e w1 ⟨rfl, K⟩)))
  go_loopg [13] n (fun d v13 wr => ∃ (i : Nat) (D : Dev) (X : List Ent) (lr : Rec), v13 = .int .i64 i ∧ i + d = n ∧ 0 ≤ lr.seq ∧ lr.seq ≤ i ∧ DevIs w0 g D X ∧ DJ D ∧ KInv D.kept lr ∧ RecOk lr ∧ D.fuse = -1 ∧ D.offs = 0 ∧ D.writes ≤ i ∧ Known w0 wr (X ++ (jrow gj g gp gq lr :: prow gp g 0 1 :: prow gq g 1 1 :: row gr (recC r) 41 :: L)))
  case atStart => exact ⟨0, _, X0, rec0, by go_num, by omega, by decide, by decide, HD0, dj_new, kinv_new, rec0_ok, rfl, rfl, by decide, K.cov Cov.auto⟩
  case round =>
    clear K HD0
    obtain ⟨i, D, X, lr, rfl, hid, hq0, hq1, HD, hdj, hki, hro, hfu, hof, hwr, K⟩ := hrel
    have HLO := Lib.hid hro
    have HML := Lib.hid hro.man
    have i1 := IntWalk.u64_in (lr.seq + 1) (by omega)
    by_cases hin : i < n
    · have h2 : (i : Int) < n := by omega
      obtain ⟨b, off, rfl⟩ := R.form (K.cov (Cov.nil _)) (by omega)
      have HR := Lib.hid R
      obtain ⟨rr, hrr⟩ : ∃ rr, l[i]? = some rr := ⟨l[i]'(by omega), List.getElem?_eq_getElem (by omega)⟩
      have HRO := Lib.hid (HS.out rr (List.mem_of_getElem? hrr))
      have HMR := Lib.hid HRO.out.man
      have HE := Lib.hid (show encAt recL l i = recL rr by simp [encAt, hrr])
      have HIN := Lib.hid hin
      clear hrr hro
      cases hv : mayR rr
      · have HV := Lib.hid hv
        clear hv
        go_wp2_with (first | ((with_reducible refine at_slot (N := 71) rfl ?_); refine wpList_reads (by rfl) (kr_load_R K _ _ (by rfl) i rr (by rfl) (HR.out.cov (Cov.nil _)) HIN.out HE.out rfl (by kernel_rfl) (by kernel_rfl) HMR.out) ?_) | (go_at_call 11; (with_reducible refine (jwrite_no (X := X) (gj := gj) (g := g) (gp := gp) (gq := gq) (l := lr) (L := row gr (recC r) 41 :: L) (K.cov Cov.auto) HRO.out HLO.out (by omega) HV.out).mono ?_); clear K; rintro e w1 ⟨rfl, K⟩))
        go_roundg (gk - 1)
        case measure => omega
        case rel => exact ⟨i + 1, D, X, lr, by go_num, by omega, hq0, by omega, HD, hdj, hki, HLO.out, hfu, hof, by omega, K.cov Cov.auto⟩
      · have HV := Lib.hid hv
        obtain ⟨s, hse⟩ : ∃ s, s = { rr with seq := lr.seq + 1 } := ⟨_, rfl⟩
        have hvs : mayR s = true := by rw [hse]; exact hv
        have hsq : s.seq = lr.seq + 1 := by rw [hse]
        have hso : RecOk s := by rw [hse]; exact ⟨⟨by show 0 ≤ lr.seq + 1 ∧ lr.seq + 1 ≤ _; omega, HRO.out.u64.2⟩, HRO.out.u8, HMR.out, HRO.out.byte⟩
        obtain ⟨e1, D1, l1, hjw, g1, g2, g3, g4, g5, g6⟩ := jw_facts hdj hv hse
        obtain ⟨rfl, q2, q3⟩ := g5 (by omega)
        obtain ⟨_, rfl, g7, g8, g9⟩ | ⟨g7, _⟩ := g6
        rotate_left
        · exact absurd rfl g7
        have HJW := Lib.hid hjw
        have HKI := Lib.hid (show KInv D1.kept l1 by rw [g9, ← hsq]; exact kinv_next hki hso hvs hsq)
        have HDJ := Lib.hid (show DJ D1 from ⟨g1, g2, g7, g8⟩)
        have HSO := Lib.hid hso
        have HSQ := Lib.hid hsq
        have HQ2 := Lib.hid q2
        have HQ3 := Lib.hid q3
        clear hv hse hvs hso hjw g1 g2 g5 g7 g8 g9 hki hdj hsq q2 q3
        go_wp2_with (first | ((with_reducible refine at_slot (N := 71) rfl ?_); refine wpList_reads (by rfl) (kr_load_R K _ _ (by rfl) i rr (by rfl) (HR.out.cov (Cov.nil _)) HIN.out HE.out rfl (by kernel_rfl) (by kernel_rfl) HMR.out) ?_) | (go_at_call 11; (with_reducible refine (jwrite_yes (X := X) (gj := gj) (g := g) (gp := gp) (gq := gq) (l := lr) (L := row gr (recC r) 41 :: L) (K.cov Cov.auto) HD HRO.out HLO.out (by omega) HV.out (by omega) (by omega)).mono ?_); clear K; rintro e w1 ⟨rfl, X1, HD1, K⟩; rw [HJW.out]; rw [HJW.out] at HD1 K))
        have hsq := HSQ.out
        have hq2 := HQ2.out
        have hq3 := HQ3.out
        go_roundg (gk - 1)
        case measure => omega
        case rel => exact ⟨i + 1, D1, X1, l1, by go_num, by omega, by omega, by omega, HD1, HDJ.out, HKI.out, HSO.out, by omega, by omega, by omega, K.cov Cov.auto⟩
    have h2 : ¬ (i : Int) < n := by omega
    obtain ⟨s, hse⟩ : ∃ s, s = { r with seq := lr.seq + 1 } := ⟨_, rfl⟩
    have HSE := Lib.hid (show (recC r).setIfInBounds 0 (.int .u64 (lr.seq + 1)) = recC s by rw [hse]; exact recC_set0 _ _)
    have hss : s = { s with seq := lr.seq + 1 } := by rw [hse]
    have hsq : s.seq = lr.seq + 1 := by rw [hse]
    have hso : RecOk s := by rw [hse]; exact ⟨⟨by show 0 ≤ lr.seq + 1 ∧ lr.seq + 1 ≤ _; omega, HRO0.out.u64.2⟩, HRO0.out.u8, HMN.out, HRO0.out.byte⟩
    have HSO := Lib.hid hso
    have HMS := Lib.hid hso.man
    have HNE := Lib.hid (recEq_ne (r := s) (s := lr) (by omega))
    have hdj1 : DJ (dfuse D fuse) := ⟨hdj.size, hdj.count, hdj.off, hdj.waits⟩
    have HF1 := Lib.hid (show (dfuse D fuse).offs < 1000000000000 by show D.offs < _; omega)
    have HF2 := Lib.hid (show (dfuse D fuse).writes < 999999999000 by show D.writes < _; omega)
    clear hse hro
    cases hv : mayR s
    · have HVS := Lib.hid hv
      have hdb : DJ (dback (dfuse D fuse) ps) := by
        refine ⟨?_, ?_, rfl, rfl⟩
        · show (dfall (dfuse D fuse)).size = 128
          rw [dfall, if_neg (by rw [hdj1.off]; simp)]
          exact hdj1.size
        · show (dfall (dfuse D fuse)).count = 4
          rw [dfall, if_neg (by rw [hdj1.off]; simp)]
          exact hdj1.count
      have HL3 := Lib.hid (show lastJ (dback (dfuse D fuse) ps) = lr from kinv_last hdb (by
        show KInv (bkeep (dfuse D fuse).waits ps D.kept) lr
        rw [hdj1.waits]
        exact hki))
      have HC3 := Lib.hid (show 2 ≤ (dback (dfuse D fuse) ps).count by rw [hdb.count]; decide)
      have HO3 := Lib.hid (show (dback (dfuse D fuse) ps).off = false from rfl)
      clear hv hki hdj hdj1 hdb hss hsq hso
      go_upto_region 17 with ((first | (go_at_call 10; (with_reducible refine (jlast_any K Has.auto HML.out).mono ?_); clear K; rintro e w1 ⟨rfl, K⟩) | ((with_reducible refine at_slot (N := 14) rfl ?_); (with_reducible refine at_alloc rfl ?_); refine wpList_does rfl (kd_alloc (z := (.agg (recC rec0))) K _ rfl (by kernel_rfl)) ?_; clear K; rintro _ w1 ⟨gl, rfl, K⟩; (try dsimp only [Value.cells] at K)) | ((with_reducible refine at_store rfl ?_); refine wpList_does (by rfl) (kd_store_row K _ _ _ (by rfl) (by rfl) (by rfl) Repl.auto (by rw [recC_size _ HML.out]; kernel_rfl) (by rw [recC_size _ man0_len, recC_size _ HML.out]; rfl) (recC_one _)) ?_; clear K; intro _ w1 K; (try simp only [Act.put])) | ((with_reducible refine at_load (t := 37) rfl ?_); refine wpList_reads (by rfl) (kr_load_cell K _ _ (by rfl) (by rfl) Has.auto (by kernel_rfl) (recC_0 _)) ?_) | ((with_reducible refine at_store (t := 37) rfl ?_); refine wpList_does rfl (kd_store_cell K _ _ _ rfl rfl (by conv => lhs; whnf) Repl.auto rfl rfl (by kernel_rfl) (by rw [recC_size _ HMN.out]; rfl) HSE.out) ?_; clear K; intro _ w1 K) | (go_at_call 20; (with_reducible refine (sfuse_any (K.sel (by repeat (first | with_reducible exact Sel.nil _ | with_reducible exact Sel.ap _ _ | with_reducible exact Sel.hd _ _ | with_reducible exact Sel.all _ | with_reducible apply Sel.tl | with_reducible apply Sel.sk))) HD _ hfb.2).mono ?_); clear K; rintro e w1 ⟨rfl, X1, HD1, K⟩) | ((with_reducible refine at_slot (N := 83) rfl ?_); ((with_reducible refine at_load (t := 41) rfl ?_); refine wpList_reads (by rfl) (kr_load_row K _ _ (by rfl) (by rfl) Has.auto (by kernel_rfl) (by rw [recC_size _ HMS.out]; kernel_rfl)) ?_)) | (go_at_call 8; (with_reducible refine (places_any K).mono ?_); clear K; rintro e w1 ⟨rfl, K⟩) | (go_at_call 7; (with_reducible refine (jopen_any (K.sel (by repeat (first | with_reducible exact Sel.nil _ | with_reducible exact Sel.ap _ _ | with_reducible exact Sel.hd _ _ | with_reducible exact Sel.all _ | with_reducible apply Sel.tl | with_reducible apply Sel.sk))) HD3 HC3.out HO3.out).mono ?_); clear K; rintro e w1 ⟨gj2, gp2, gq2, rfl, K⟩; rw [HL3.out] at K) | (go_at_call 11; (with_reducible refine (jwrite_no (X := X1) (gj := gj) (g := g) (gp := gp) (gq := gq) (l := lr) (L := row gl (recC lr) 41 :: row gr (recC s) 41 :: L) (K.cov Cov.auto) HSO.out HLO.out (by omega) HVS.out).mono ?_); clear K; rintro e w1 ⟨rfl, K⟩) | (go_at_call 16; (with_reducible refine (sback_any (K.sel (by repeat (first | with_reducible exact Sel.nil _ | with_reducible exact Sel.ap _ _ | with_reducible exact Sel.hd _ _ | with_reducible exact Sel.all _ | with_reducible apply Sel.tl | with_reducible apply Sel.sk))) HD1 HF1.out (RP.cov (Cov.nil _)) hcp (by omega)).mono ?_); clear K; rintro e w1 ⟨rfl, X3, HD3, K⟩)))
      refine wp_region_GK K (Cov.all _) (by kernel_rfl) (by kernel_rfl) (by kernel_rfl) (fun K hHeld => ?_)
      refine wpG_takeA 0 (v := ?_) ?_ hHeld ?_
      rotate_left
      · (intro w hS; (clear hS; go_simp); try with_reducible rfl)
      try simp only [Act.put, List.setIfInBounds_toArray, List.set_cons_zero, List.set_cons_succ]
      refine wpG_takeA 1 (v := ?_) ?_ hHeld ?_
      rotate_left
      · (intro w hS; (clear hS; go_simp); try with_reducible rfl)
      try simp only [Act.put, List.setIfInBounds_toArray, List.set_cons_zero, List.set_cons_succ]
      refine wpG_takeA 2 (v := ?_) ?_ hHeld ?_
      rotate_left
      · (intro w hS; (clear hS; go_simp); try with_reducible rfl)
      try simp only [Act.put, List.setIfInBounds_toArray, List.set_cons_zero, List.set_cons_succ]
      refine wpG_offA 3 hHeld ?_
      try simp only [Act.put, List.setIfInBounds_toArray, List.set_cons_zero, List.set_cons_succ]
      refine wpG_offA 4 hHeld ?_
      try simp only [Act.put, List.setIfInBounds_toArray, List.set_cons_zero, List.set_cons_succ]
      refine wpG_offA 5 hHeld ?_
      try simp only [Act.put, List.setIfInBounds_toArray, List.set_cons_zero, List.set_cons_succ]
      refine wpG_offA 6 hHeld ?_
      try simp only [Act.put, List.setIfInBounds_toArray, List.set_cons_zero, List.set_cons_succ]
      refine wpG_takeA 7 (v := ?_) ?_ hHeld ?_
      rotate_left
      · (intro w hS; (clear hS; go_simp); try with_reducible rfl)
      try simp only [Act.put, List.setIfInBounds_toArray, List.set_cons_zero, List.set_cons_succ]
      refine wpG_done (by kernel_rfl) ?_
      skip
      go_upto_region 19 with (fail)
      refine wp_region_GK K (Cov.all _) (by kernel_rfl) (by kernel_rfl) (by kernel_rfl) (fun K hHeld => ?_)
      refine wpG_takeA 0 (v := ?_) ?_ hHeld ?_
      rotate_left
      · (intro w hS; (clear hS; go_simp); try with_reducible rfl)
      try simp only [Act.put, List.setIfInBounds_toArray, List.set_cons_zero, List.set_cons_succ]
      refine wpG_takeA 2 (v := .agg (recC lr)) ?_ hHeld ?_
      · (intro w hS; first | exact kr_load_row hS _ _ (by rfl) (by rfl) Has.auto (by kernel_rfl) (by rw [recC_size _ HML.out]; kernel_rfl))
      try simp only [Act.put, List.setIfInBounds_toArray, List.set_cons_zero, List.set_cons_succ]
      refine wpG_oneA 1 (fun K9 hK => ?_)
      go_simp
      (go_at_call 10; (with_reducible refine (jlast_any K Has.auto HML.out).mono ?_); clear K; rintro e w1 ⟨rfl, K⟩)
      refine hK.out _ _ (K.cov Cov.auto) (fun hHeld => ?_)
      clear hK K9
      try simp only [Act.put, List.setIfInBounds_toArray, List.set_cons_zero, List.set_cons_succ]
      refine wpG_takeA 3 (v := .bool true) ?_ hHeld ?_
      · (intro w hS; first | exact kr_eqR (by rfl) (by rfl) (by rfl) HML.out HML.out (recEq_self _))
      try simp only [Act.put, List.setIfInBounds_toArray, List.set_cons_zero, List.set_cons_succ]
      refine wpG_takeA 4 (v := ?_) ?_ hHeld ?_
      rotate_left
      · (intro w hS; (clear hS; go_simp); try with_reducible rfl)
      try simp only [Act.put, List.setIfInBounds_toArray, List.set_cons_zero, List.set_cons_succ]
      refine wpG_offA 5 hHeld ?_
      try simp only [Act.put, List.setIfInBounds_toArray, List.set_cons_zero, List.set_cons_succ]
      refine wpG_offA 6 hHeld ?_
      try simp only [Act.put, List.setIfInBounds_toArray, List.set_cons_zero, List.set_cons_succ]
      refine wpG_offA 7 hHeld ?_
      try simp only [Act.put, List.setIfInBounds_toArray, List.set_cons_zero, List.set_cons_succ]
      refine wpG_offA 8 hHeld ?_
      try simp only [Act.put, List.setIfInBounds_toArray, List.set_cons_zero, List.set_cons_succ]
      refine wpG_takeA 9 (v := ?_) ?_ hHeld ?_
      rotate_left
      · (intro w hS; (clear hS; go_simp); try with_reducible rfl)
      try simp only [Act.put, List.setIfInBounds_toArray, List.set_cons_zero, List.set_cons_succ]
      refine wpG_takeA 10 (v := ?_) ?_ hHeld ?_
      rotate_left
      · (intro w hS; (clear hS; go_simp); try with_reducible rfl)
      try simp only [Act.put, List.setIfInBounds_toArray, List.set_cons_zero, List.set_cons_succ]
      refine wpG_oneA 11 (fun K9 hK => ?_)
      go_simp
      (go_at_call 9; (with_reducible refine (awake24K K).mono ?_); clear K; rintro e w1 ⟨rfl, K⟩)
      refine hK.out _ _ (K.cov Cov.auto) (fun hHeld => ?_)
      clear hK K9
      try simp only [Act.put, List.setIfInBounds_toArray, List.set_cons_zero, List.set_cons_succ]
      refine wpG_takeA 12 (v := ?_) ?_ hHeld ?_
      rotate_left
      · (intro w hS; (clear hS; go_simp); try with_reducible rfl)
      try simp only [Act.put, List.setIfInBounds_toArray, List.set_cons_zero, List.set_cons_succ]
      refine wpG_takeA 13 (v := ?_) ?_ hHeld ?_
      rotate_left
      · (intro w hS; (clear hS; go_simp); try with_reducible rfl)
      try simp only [Act.put, List.setIfInBounds_toArray, List.set_cons_zero, List.set_cons_succ]
      refine wpG_done (by kernel_rfl) ?_
      skip
      go_wp2
      go_ret
      exact ⟨rfl, K.cov Cov.auto⟩
    obtain ⟨e1, D2, l2, hjw, g1, g2, g3, g4, _, g6⟩ := jw_facts hdj1 hv hss
    have HVS := Lib.hid hv
    have HJW := Lib.hid hjw
    have HF3 := Lib.hid (show D2.offs < 1000000000000 by have h3 : D2.offs ≤ D.offs + 1 := g3; omega)
    obtain ⟨hdb, hb⟩ := back_any (D := dfuse D fuse) ps (show KInv (dfuse D fuse).kept lr from hki) hso hv hsq g1 g2 g6
    have HC3 := Lib.hid (show 2 ≤ (dback D2 ps).count by rw [hdb.count]; decide)
    have HO3 := Lib.hid (show (dback D2 ps).off = false from rfl)
    clear hv hki hdj hdj1 hdb hss hsq hso hjw g1 g2 g3 g4 g6
    obtain ⟨rfl, hl⟩ | ⟨he, hl | hl⟩ := hb
    · have HL3 := Lib.hid hl
      clear hl
      go_upto_region 17 with ((first | (go_at_call 10; (with_reducible refine (jlast_any K Has.auto HML.out).mono ?_); clear K; rintro e w1 ⟨rfl, K⟩) | ((with_reducible refine at_slot (N := 14) rfl ?_); (with_reducible refine at_alloc rfl ?_); refine wpList_does rfl (kd_alloc (z := (.agg (recC rec0))) K _ rfl (by kernel_rfl)) ?_; clear K; rintro _ w1 ⟨gl, rfl, K⟩; (try dsimp only [Value.cells] at K)) | ((with_reducible refine at_store rfl ?_); refine wpList_does (by rfl) (kd_store_row K _ _ _ (by rfl) (by rfl) (by rfl) Repl.auto (by rw [recC_size _ HML.out]; kernel_rfl) (by rw [recC_size _ man0_len, recC_size _ HML.out]; rfl) (recC_one _)) ?_; clear K; intro _ w1 K; (try simp only [Act.put])) | ((with_reducible refine at_load (t := 37) rfl ?_); refine wpList_reads (by rfl) (kr_load_cell K _ _ (by rfl) (by rfl) Has.auto (by kernel_rfl) (recC_0 _)) ?_) | ((with_reducible refine at_store (t := 37) rfl ?_); refine wpList_does rfl (kd_store_cell K _ _ _ rfl rfl (by conv => lhs; whnf) Repl.auto rfl rfl (by kernel_rfl) (by rw [recC_size _ HMN.out]; rfl) HSE.out) ?_; clear K; intro _ w1 K) | (go_at_call 20; (with_reducible refine (sfuse_any (K.sel (by repeat (first | with_reducible exact Sel.nil _ | with_reducible exact Sel.ap _ _ | with_reducible exact Sel.hd _ _ | with_reducible exact Sel.all _ | with_reducible apply Sel.tl | with_reducible apply Sel.sk))) HD _ hfb.2).mono ?_); clear K; rintro e w1 ⟨rfl, X1, HD1, K⟩) | ((with_reducible refine at_slot (N := 83) rfl ?_); ((with_reducible refine at_load (t := 41) rfl ?_); refine wpList_reads (by rfl) (kr_load_row K _ _ (by rfl) (by rfl) Has.auto (by kernel_rfl) (by rw [recC_size _ HMS.out]; kernel_rfl)) ?_)) | (go_at_call 8; (with_reducible refine (places_any K).mono ?_); clear K; rintro e w1 ⟨rfl, K⟩) | (go_at_call 7; (with_reducible refine (jopen_any (K.sel (by repeat (first | with_reducible exact Sel.nil _ | with_reducible exact Sel.ap _ _ | with_reducible exact Sel.hd _ _ | with_reducible exact Sel.all _ | with_reducible apply Sel.tl | with_reducible apply Sel.sk))) HD3 HC3.out HO3.out).mono ?_); clear K; rintro e w1 ⟨gj2, gp2, gq2, rfl, K⟩; rw [HL3.out] at K) | (go_at_call 11; (with_reducible refine (jwrite_yes (X := X1) (gj := gj) (g := g) (gp := gp) (gq := gq) (l := lr) (L := row gl (recC lr) 41 :: row gr (recC s) 41 :: L) (K.cov Cov.auto) HD1 HSO.out HLO.out (by omega) HVS.out HF1.out HF2.out).mono ?_); clear K; rintro e w1 ⟨rfl, X2, HD2, K⟩; rw [HJW.out]; rw [HJW.out] at HD2 K) | (go_at_call 16; (with_reducible refine (sback_any (K.sel (by repeat (first | with_reducible exact Sel.nil _ | with_reducible exact Sel.ap _ _ | with_reducible exact Sel.hd _ _ | with_reducible exact Sel.all _ | with_reducible apply Sel.tl | with_reducible apply Sel.sk))) HD2 HF3.out (RP.cov (Cov.nil _)) hcp (by omega)).mono ?_); clear K; rintro e w1 ⟨rfl, X3, HD3, K⟩)))
      refine wp_region_GK K (Cov.all _) (by kernel_rfl) (by kernel_rfl) (by kernel_rfl) (fun K hHeld => ?_)
      refine wpG_takeA 0 (v := ?_) ?_ hHeld ?_
      rotate_left
      · (intro w hS; (clear hS; go_simp); try with_reducible rfl)
      try simp only [Act.put, List.setIfInBounds_toArray, List.set_cons_zero, List.set_cons_succ]
      refine wpG_takeA 1 (v := ?_) ?_ hHeld ?_
      rotate_left
      · (intro w hS; (clear hS; go_simp); try with_reducible rfl)
      try simp only [Act.put, List.setIfInBounds_toArray, List.set_cons_zero, List.set_cons_succ]
      refine wpG_takeA 2 (v := ?_) ?_ hHeld ?_
      rotate_left
      · (intro w hS; (clear hS; go_simp); try with_reducible rfl)
      try simp only [Act.put, List.setIfInBounds_toArray, List.set_cons_zero, List.set_cons_succ]
      refine wpG_takeA 3 (v := ?_) ?_ hHeld ?_
      rotate_left
      · (intro w hS; (clear hS; go_simp); try with_reducible rfl)
      try simp only [Act.put, List.setIfInBounds_toArray, List.set_cons_zero, List.set_cons_succ]
      refine wpG_takeA 5 (v := .agg (recC s)) ?_ hHeld ?_
      · (intro w hS; first | exact kr_load_row hS _ _ (by rfl) (by rfl) Has.auto (by kernel_rfl) (by rw [recC_size _ HMS.out]; kernel_rfl))
      try simp only [Act.put, List.setIfInBounds_toArray, List.set_cons_zero, List.set_cons_succ]
      refine wpG_oneA 4 (fun K9 hK => ?_)
      go_simp
      (go_at_call 10; (with_reducible refine (jlast_any K Has.auto HMS.out).mono ?_); clear K; rintro e w1 ⟨rfl, K⟩)
      refine hK.out _ _ (K.cov Cov.auto) (fun hHeld => ?_)
      clear hK K9
      try simp only [Act.put, List.setIfInBounds_toArray, List.set_cons_zero, List.set_cons_succ]
      refine wpG_takeA 6 (v := .bool false) ?_ hHeld ?_
      · (intro w hS; first | exact kr_neqR (by rfl) (by rfl) (by rfl) HMS.out rfl)
      try simp only [Act.put, List.setIfInBounds_toArray, List.set_cons_zero, List.set_cons_succ]
      refine wpG_takeA 7 (v := ?_) ?_ hHeld ?_
      rotate_left
      · (intro w hS; (clear hS; go_simp); try with_reducible rfl)
      try simp only [Act.put, List.setIfInBounds_toArray, List.set_cons_zero, List.set_cons_succ]
      refine wpG_done (by kernel_rfl) ?_
      skip
      go_upto_region 19 with (fail)
      refine wp_region_GK K (Cov.all _) (by kernel_rfl) (by kernel_rfl) (by kernel_rfl) (fun K hHeld => ?_)
      refine wpG_takeA 0 (v := ?_) ?_ hHeld ?_
      rotate_left
      · (intro w hS; (clear hS; go_simp); try with_reducible rfl)
      try simp only [Act.put, List.setIfInBounds_toArray, List.set_cons_zero, List.set_cons_succ]
      refine wpG_takeA 2 (v := .agg (recC lr)) ?_ hHeld ?_
      · (intro w hS; first | exact kr_load_row hS _ _ (by rfl) (by rfl) Has.auto (by kernel_rfl) (by rw [recC_size _ HML.out]; kernel_rfl))
      try simp only [Act.put, List.setIfInBounds_toArray, List.set_cons_zero, List.set_cons_succ]
      refine wpG_oneA 1 (fun K9 hK => ?_)
      go_simp
      (go_at_call 10; (with_reducible refine (jlast_any K Has.auto HMS.out).mono ?_); clear K; rintro e w1 ⟨rfl, K⟩)
      refine hK.out _ _ (K.cov Cov.auto) (fun hHeld => ?_)
      clear hK K9
      try simp only [Act.put, List.setIfInBounds_toArray, List.set_cons_zero, List.set_cons_succ]
      refine wpG_takeA 3 (v := .bool false) ?_ hHeld ?_
      · (intro w hS; first | exact kr_eqR (by rfl) (by rfl) (by rfl) HMS.out HML.out HNE.out)
      try simp only [Act.put, List.setIfInBounds_toArray, List.set_cons_zero, List.set_cons_succ]
      refine wpG_takeA 4 (v := ?_) ?_ hHeld ?_
      rotate_left
      · (intro w hS; (clear hS; go_simp); try with_reducible rfl)
      try simp only [Act.put, List.setIfInBounds_toArray, List.set_cons_zero, List.set_cons_succ]
      refine wpG_takeA 5 (v := ?_) ?_ hHeld ?_
      rotate_left
      · (intro w hS; (clear hS; go_simp); try with_reducible rfl)
      try simp only [Act.put, List.setIfInBounds_toArray, List.set_cons_zero, List.set_cons_succ]
      refine wpG_takeA 7 (v := .agg (recC s)) ?_ hHeld ?_
      · (intro w hS; first | exact kr_load_row hS _ _ (by rfl) (by rfl) Has.auto (by kernel_rfl) (by rw [recC_size _ HMS.out]; kernel_rfl))
      try simp only [Act.put, List.setIfInBounds_toArray, List.set_cons_zero, List.set_cons_succ]
      refine wpG_oneA 6 (fun K9 hK => ?_)
      go_simp
      (go_at_call 10; (with_reducible refine (jlast_any K Has.auto HMS.out).mono ?_); clear K; rintro e w1 ⟨rfl, K⟩)
      refine hK.out _ _ (K.cov Cov.auto) (fun hHeld => ?_)
      clear hK K9
      try simp only [Act.put, List.setIfInBounds_toArray, List.set_cons_zero, List.set_cons_succ]
      refine wpG_takeA 8 (v := .bool true) ?_ hHeld ?_
      · (intro w hS; first | exact kr_eqR (by rfl) (by rfl) (by rfl) HMS.out HMS.out (recEq_self _))
      try simp only [Act.put, List.setIfInBounds_toArray, List.set_cons_zero, List.set_cons_succ]
      refine wpG_takeA 9 (v := ?_) ?_ hHeld ?_
      rotate_left
      · (intro w hS; (clear hS; go_simp); try with_reducible rfl)
      try simp only [Act.put, List.setIfInBounds_toArray, List.set_cons_zero, List.set_cons_succ]
      refine wpG_takeA 10 (v := ?_) ?_ hHeld ?_
      rotate_left
      · (intro w hS; (clear hS; go_simp); try with_reducible rfl)
      try simp only [Act.put, List.setIfInBounds_toArray, List.set_cons_zero, List.set_cons_succ]
      refine wpG_oneA 11 (fun K9 hK => ?_)
      go_simp
      (go_at_call 9; (with_reducible refine (awake24K K).mono ?_); clear K; rintro e w1 ⟨rfl, K⟩)
      refine hK.out _ _ (K.cov Cov.auto) (fun hHeld => ?_)
      clear hK K9
      try simp only [Act.put, List.setIfInBounds_toArray, List.set_cons_zero, List.set_cons_succ]
      refine wpG_takeA 12 (v := ?_) ?_ hHeld ?_
      rotate_left
      · (intro w hS; (clear hS; go_simp); try with_reducible rfl)
      try simp only [Act.put, List.setIfInBounds_toArray, List.set_cons_zero, List.set_cons_succ]
      refine wpG_takeA 13 (v := ?_) ?_ hHeld ?_
      rotate_left
      · (intro w hS; (clear hS; go_simp); try with_reducible rfl)
      try simp only [Act.put, List.setIfInBounds_toArray, List.set_cons_zero, List.set_cons_succ]
      refine wpG_done (by kernel_rfl) ?_
      skip
      go_wp2
      go_ret
      exact ⟨rfl, K.cov Cov.auto⟩
    · have HL3 := Lib.hid hl
      have HEZ := Lib.hid (show (e1 == 0) = false by simpa using he)
      clear hl he
      go_upto_region 17 with ((first | (go_at_call 10; (with_reducible refine (jlast_any K Has.auto HML.out).mono ?_); clear K; rintro e w1 ⟨rfl, K⟩) | ((with_reducible refine at_slot (N := 14) rfl ?_); (with_reducible refine at_alloc rfl ?_); refine wpList_does rfl (kd_alloc (z := (.agg (recC rec0))) K _ rfl (by kernel_rfl)) ?_; clear K; rintro _ w1 ⟨gl, rfl, K⟩; (try dsimp only [Value.cells] at K)) | ((with_reducible refine at_store rfl ?_); refine wpList_does (by rfl) (kd_store_row K _ _ _ (by rfl) (by rfl) (by rfl) Repl.auto (by rw [recC_size _ HML.out]; kernel_rfl) (by rw [recC_size _ man0_len, recC_size _ HML.out]; rfl) (recC_one _)) ?_; clear K; intro _ w1 K; (try simp only [Act.put])) | ((with_reducible refine at_load (t := 37) rfl ?_); refine wpList_reads (by rfl) (kr_load_cell K _ _ (by rfl) (by rfl) Has.auto (by kernel_rfl) (recC_0 _)) ?_) | ((with_reducible refine at_store (t := 37) rfl ?_); refine wpList_does rfl (kd_store_cell K _ _ _ rfl rfl (by conv => lhs; whnf) Repl.auto rfl rfl (by kernel_rfl) (by rw [recC_size _ HMN.out]; rfl) HSE.out) ?_; clear K; intro _ w1 K) | (go_at_call 20; (with_reducible refine (sfuse_any (K.sel (by repeat (first | with_reducible exact Sel.nil _ | with_reducible exact Sel.ap _ _ | with_reducible exact Sel.hd _ _ | with_reducible exact Sel.all _ | with_reducible apply Sel.tl | with_reducible apply Sel.sk))) HD _ hfb.2).mono ?_); clear K; rintro e w1 ⟨rfl, X1, HD1, K⟩) | ((with_reducible refine at_slot (N := 83) rfl ?_); ((with_reducible refine at_load (t := 41) rfl ?_); refine wpList_reads (by rfl) (kr_load_row K _ _ (by rfl) (by rfl) Has.auto (by kernel_rfl) (by rw [recC_size _ HMS.out]; kernel_rfl)) ?_)) | (go_at_call 8; (with_reducible refine (places_any K).mono ?_); clear K; rintro e w1 ⟨rfl, K⟩) | (go_at_call 7; (with_reducible refine (jopen_any (K.sel (by repeat (first | with_reducible exact Sel.nil _ | with_reducible exact Sel.ap _ _ | with_reducible exact Sel.hd _ _ | with_reducible exact Sel.all _ | with_reducible apply Sel.tl | with_reducible apply Sel.sk))) HD3 HC3.out HO3.out).mono ?_); clear K; rintro e w1 ⟨gj2, gp2, gq2, rfl, K⟩; rw [HL3.out] at K) | (go_at_call 11; (with_reducible refine (jwrite_yes (X := X1) (gj := gj) (g := g) (gp := gp) (gq := gq) (l := lr) (L := row gl (recC lr) 41 :: row gr (recC s) 41 :: L) (K.cov Cov.auto) HD1 HSO.out HLO.out (by omega) HVS.out HF1.out HF2.out).mono ?_); clear K; rintro e w1 ⟨rfl, X2, HD2, K⟩; rw [HJW.out]; rw [HJW.out] at HD2 K) | (go_at_call 16; (with_reducible refine (sback_any (K.sel (by repeat (first | with_reducible exact Sel.nil _ | with_reducible exact Sel.ap _ _ | with_reducible exact Sel.hd _ _ | with_reducible exact Sel.all _ | with_reducible apply Sel.tl | with_reducible apply Sel.sk))) HD2 HF3.out (RP.cov (Cov.nil _)) hcp (by omega)).mono ?_); clear K; rintro e w1 ⟨rfl, X3, HD3, K⟩)))
      refine wp_region_GK K (Cov.all _) (by kernel_rfl) (by kernel_rfl) (by kernel_rfl) (fun K hHeld => ?_)
      refine wpG_takeA 0 (v := ?_) ?_ hHeld ?_
      rotate_left
      · (intro w hS; (clear hS; go_simp); try with_reducible rfl)
      try simp only [Act.put, List.setIfInBounds_toArray, List.set_cons_zero, List.set_cons_succ]
      refine wpG_takeA 1 (v := .bool false) ?_ hHeld ?_
      · (intro w hS; first | exact kr_eqlI (by rfl) (by rfl) (by rfl) HEZ.out)
      try simp only [Act.put, List.setIfInBounds_toArray, List.set_cons_zero, List.set_cons_succ]
      refine wpG_takeA 2 (v := ?_) ?_ hHeld ?_
      rotate_left
      · (intro w hS; (clear hS; go_simp); try with_reducible rfl)
      try simp only [Act.put, List.setIfInBounds_toArray, List.set_cons_zero, List.set_cons_succ]
      refine wpG_offA 3 hHeld ?_
      try simp only [Act.put, List.setIfInBounds_toArray, List.set_cons_zero, List.set_cons_succ]
      refine wpG_offA 4 hHeld ?_
      try simp only [Act.put, List.setIfInBounds_toArray, List.set_cons_zero, List.set_cons_succ]
      refine wpG_offA 5 hHeld ?_
      try simp only [Act.put, List.setIfInBounds_toArray, List.set_cons_zero, List.set_cons_succ]
      refine wpG_offA 6 hHeld ?_
      try simp only [Act.put, List.setIfInBounds_toArray, List.set_cons_zero, List.set_cons_succ]
      refine wpG_takeA 7 (v := ?_) ?_ hHeld ?_
      rotate_left
      · (intro w hS; (clear hS; go_simp); try with_reducible rfl)
      try simp only [Act.put, List.setIfInBounds_toArray, List.set_cons_zero, List.set_cons_succ]
      refine wpG_done (by kernel_rfl) ?_
      skip
      go_upto_region 19 with (fail)
      refine wp_region_GK K (Cov.all _) (by kernel_rfl) (by kernel_rfl) (by kernel_rfl) (fun K hHeld => ?_)
      refine wpG_takeA 0 (v := ?_) ?_ hHeld ?_
      rotate_left
      · (intro w hS; (clear hS; go_simp); try with_reducible rfl)
      try simp only [Act.put, List.setIfInBounds_toArray, List.set_cons_zero, List.set_cons_succ]
      refine wpG_takeA 2 (v := .agg (recC lr)) ?_ hHeld ?_
      · (intro w hS; first | exact kr_load_row hS _ _ (by rfl) (by rfl) Has.auto (by kernel_rfl) (by rw [recC_size _ HML.out]; kernel_rfl))
      try simp only [Act.put, List.setIfInBounds_toArray, List.set_cons_zero, List.set_cons_succ]
      refine wpG_oneA 1 (fun K9 hK => ?_)
      go_simp
      (go_at_call 10; (with_reducible refine (jlast_any K Has.auto HML.out).mono ?_); clear K; rintro e w1 ⟨rfl, K⟩)
      refine hK.out _ _ (K.cov Cov.auto) (fun hHeld => ?_)
      clear hK K9
      try simp only [Act.put, List.setIfInBounds_toArray, List.set_cons_zero, List.set_cons_succ]
      refine wpG_takeA 3 (v := .bool true) ?_ hHeld ?_
      · (intro w hS; first | exact kr_eqR (by rfl) (by rfl) (by rfl) HML.out HML.out (recEq_self _))
      try simp only [Act.put, List.setIfInBounds_toArray, List.set_cons_zero, List.set_cons_succ]
      refine wpG_takeA 4 (v := ?_) ?_ hHeld ?_
      rotate_left
      · (intro w hS; (clear hS; go_simp); try with_reducible rfl)
      try simp only [Act.put, List.setIfInBounds_toArray, List.set_cons_zero, List.set_cons_succ]
      refine wpG_offA 5 hHeld ?_
      try simp only [Act.put, List.setIfInBounds_toArray, List.set_cons_zero, List.set_cons_succ]
      refine wpG_offA 6 hHeld ?_
      try simp only [Act.put, List.setIfInBounds_toArray, List.set_cons_zero, List.set_cons_succ]
      refine wpG_offA 7 hHeld ?_
      try simp only [Act.put, List.setIfInBounds_toArray, List.set_cons_zero, List.set_cons_succ]
      refine wpG_offA 8 hHeld ?_
      try simp only [Act.put, List.setIfInBounds_toArray, List.set_cons_zero, List.set_cons_succ]
      refine wpG_takeA 9 (v := ?_) ?_ hHeld ?_
      rotate_left
      · (intro w hS; (clear hS; go_simp); try with_reducible rfl)
      try simp only [Act.put, List.setIfInBounds_toArray, List.set_cons_zero, List.set_cons_succ]
      refine wpG_takeA 10 (v := ?_) ?_ hHeld ?_
      rotate_left
      · (intro w hS; (clear hS; go_simp); try with_reducible rfl)
      try simp only [Act.put, List.setIfInBounds_toArray, List.set_cons_zero, List.set_cons_succ]
      refine wpG_oneA 11 (fun K9 hK => ?_)
      go_simp
      (go_at_call 9; (with_reducible refine (awake24K K).mono ?_); clear K; rintro e w1 ⟨rfl, K⟩)
      refine hK.out _ _ (K.cov Cov.auto) (fun hHeld => ?_)
      clear hK K9
      try simp only [Act.put, List.setIfInBounds_toArray, List.set_cons_zero, List.set_cons_succ]
      refine wpG_takeA 12 (v := ?_) ?_ hHeld ?_
      rotate_left
      · (intro w hS; (clear hS; go_simp); try with_reducible rfl)
      try simp only [Act.put, List.setIfInBounds_toArray, List.set_cons_zero, List.set_cons_succ]
      refine wpG_takeA 13 (v := ?_) ?_ hHeld ?_
      rotate_left
      · (intro w hS; (clear hS; go_simp); try with_reducible rfl)
      try simp only [Act.put, List.setIfInBounds_toArray, List.set_cons_zero, List.set_cons_succ]
      refine wpG_done (by kernel_rfl) ?_
      skip
      go_wp2
      go_ret
      exact ⟨rfl, K.cov Cov.auto⟩
    · have HL3 := Lib.hid hl
      have HEZ := Lib.hid (show (e1 == 0) = false by simpa using he)
      clear hl he
      go_upto_region 17 with ((first | (go_at_call 10; (with_reducible refine (jlast_any K Has.auto HML.out).mono ?_); clear K; rintro e w1 ⟨rfl, K⟩) | ((with_reducible refine at_slot (N := 14) rfl ?_); (with_reducible refine at_alloc rfl ?_); refine wpList_does rfl (kd_alloc (z := (.agg (recC rec0))) K _ rfl (by kernel_rfl)) ?_; clear K; rintro _ w1 ⟨gl, rfl, K⟩; (try dsimp only [Value.cells] at K)) | ((with_reducible refine at_store rfl ?_); refine wpList_does (by rfl) (kd_store_row K _ _ _ (by rfl) (by rfl) (by rfl) Repl.auto (by rw [recC_size _ HML.out]; kernel_rfl) (by rw [recC_size _ man0_len, recC_size _ HML.out]; rfl) (recC_one _)) ?_; clear K; intro _ w1 K; (try simp only [Act.put])) | ((with_reducible refine at_load (t := 37) rfl ?_); refine wpList_reads (by rfl) (kr_load_cell K _ _ (by rfl) (by rfl) Has.auto (by kernel_rfl) (recC_0 _)) ?_) | ((with_reducible refine at_store (t := 37) rfl ?_); refine wpList_does rfl (kd_store_cell K _ _ _ rfl rfl (by conv => lhs; whnf) Repl.auto rfl rfl (by kernel_rfl) (by rw [recC_size _ HMN.out]; rfl) HSE.out) ?_; clear K; intro _ w1 K) | (go_at_call 20; (with_reducible refine (sfuse_any (K.sel (by repeat (first | with_reducible exact Sel.nil _ | with_reducible exact Sel.ap _ _ | with_reducible exact Sel.hd _ _ | with_reducible exact Sel.all _ | with_reducible apply Sel.tl | with_reducible apply Sel.sk))) HD _ hfb.2).mono ?_); clear K; rintro e w1 ⟨rfl, X1, HD1, K⟩) | ((with_reducible refine at_slot (N := 83) rfl ?_); ((with_reducible refine at_load (t := 41) rfl ?_); refine wpList_reads (by rfl) (kr_load_row K _ _ (by rfl) (by rfl) Has.auto (by kernel_rfl) (by rw [recC_size _ HMS.out]; kernel_rfl)) ?_)) | (go_at_call 8; (with_reducible refine (places_any K).mono ?_); clear K; rintro e w1 ⟨rfl, K⟩) | (go_at_call 7; (with_reducible refine (jopen_any (K.sel (by repeat (first | with_reducible exact Sel.nil _ | with_reducible exact Sel.ap _ _ | with_reducible exact Sel.hd _ _ | with_reducible exact Sel.all _ | with_reducible apply Sel.tl | with_reducible apply Sel.sk))) HD3 HC3.out HO3.out).mono ?_); clear K; rintro e w1 ⟨gj2, gp2, gq2, rfl, K⟩; rw [HL3.out] at K) | (go_at_call 11; (with_reducible refine (jwrite_yes (X := X1) (gj := gj) (g := g) (gp := gp) (gq := gq) (l := lr) (L := row gl (recC lr) 41 :: row gr (recC s) 41 :: L) (K.cov Cov.auto) HD1 HSO.out HLO.out (by omega) HVS.out HF1.out HF2.out).mono ?_); clear K; rintro e w1 ⟨rfl, X2, HD2, K⟩; rw [HJW.out]; rw [HJW.out] at HD2 K) | (go_at_call 16; (with_reducible refine (sback_any (K.sel (by repeat (first | with_reducible exact Sel.nil _ | with_reducible exact Sel.ap _ _ | with_reducible exact Sel.hd _ _ | with_reducible exact Sel.all _ | with_reducible apply Sel.tl | with_reducible apply Sel.sk))) HD2 HF3.out (RP.cov (Cov.nil _)) hcp (by omega)).mono ?_); clear K; rintro e w1 ⟨rfl, X3, HD3, K⟩)))
      refine wp_region_GK K (Cov.all _) (by kernel_rfl) (by kernel_rfl) (by kernel_rfl) (fun K hHeld => ?_)
      refine wpG_takeA 0 (v := ?_) ?_ hHeld ?_
      rotate_left
      · (intro w hS; (clear hS; go_simp); try with_reducible rfl)
      try simp only [Act.put, List.setIfInBounds_toArray, List.set_cons_zero, List.set_cons_succ]
      refine wpG_takeA 1 (v := .bool false) ?_ hHeld ?_
      · (intro w hS; first | exact kr_eqlI (by rfl) (by rfl) (by rfl) HEZ.out)
      try simp only [Act.put, List.setIfInBounds_toArray, List.set_cons_zero, List.set_cons_succ]
      refine wpG_takeA 2 (v := ?_) ?_ hHeld ?_
      rotate_left
      · (intro w hS; (clear hS; go_simp); try with_reducible rfl)
      try simp only [Act.put, List.setIfInBounds_toArray, List.set_cons_zero, List.set_cons_succ]
      refine wpG_offA 3 hHeld ?_
      try simp only [Act.put, List.setIfInBounds_toArray, List.set_cons_zero, List.set_cons_succ]
      refine wpG_offA 4 hHeld ?_
      try simp only [Act.put, List.setIfInBounds_toArray, List.set_cons_zero, List.set_cons_succ]
      refine wpG_offA 5 hHeld ?_
      try simp only [Act.put, List.setIfInBounds_toArray, List.set_cons_zero, List.set_cons_succ]
      refine wpG_offA 6 hHeld ?_
      try simp only [Act.put, List.setIfInBounds_toArray, List.set_cons_zero, List.set_cons_succ]
      refine wpG_takeA 7 (v := ?_) ?_ hHeld ?_
      rotate_left
      · (intro w hS; (clear hS; go_simp); try with_reducible rfl)
      try simp only [Act.put, List.setIfInBounds_toArray, List.set_cons_zero, List.set_cons_succ]
      refine wpG_done (by kernel_rfl) ?_
      skip
      go_upto_region 19 with (fail)
      refine wp_region_GK K (Cov.all _) (by kernel_rfl) (by kernel_rfl) (by kernel_rfl) (fun K hHeld => ?_)
      refine wpG_takeA 0 (v := ?_) ?_ hHeld ?_
      rotate_left
      · (intro w hS; (clear hS; go_simp); try with_reducible rfl)
      try simp only [Act.put, List.setIfInBounds_toArray, List.set_cons_zero, List.set_cons_succ]
      refine wpG_takeA 2 (v := .agg (recC lr)) ?_ hHeld ?_
      · (intro w hS; first | exact kr_load_row hS _ _ (by rfl) (by rfl) Has.auto (by kernel_rfl) (by rw [recC_size _ HML.out]; kernel_rfl))
      try simp only [Act.put, List.setIfInBounds_toArray, List.set_cons_zero, List.set_cons_succ]
      refine wpG_oneA 1 (fun K9 hK => ?_)
      go_simp
      (go_at_call 10; (with_reducible refine (jlast_any K Has.auto HMS.out).mono ?_); clear K; rintro e w1 ⟨rfl, K⟩)
      refine hK.out _ _ (K.cov Cov.auto) (fun hHeld => ?_)
      clear hK K9
      try simp only [Act.put, List.setIfInBounds_toArray, List.set_cons_zero, List.set_cons_succ]
      refine wpG_takeA 3 (v := .bool false) ?_ hHeld ?_
      · (intro w hS; first | exact kr_eqR (by rfl) (by rfl) (by rfl) HMS.out HML.out HNE.out)
      try simp only [Act.put, List.setIfInBounds_toArray, List.set_cons_zero, List.set_cons_succ]
      refine wpG_takeA 4 (v := ?_) ?_ hHeld ?_
      rotate_left
      · (intro w hS; (clear hS; go_simp); try with_reducible rfl)
      try simp only [Act.put, List.setIfInBounds_toArray, List.set_cons_zero, List.set_cons_succ]
      refine wpG_takeA 5 (v := ?_) ?_ hHeld ?_
      rotate_left
      · (intro w hS; (clear hS; go_simp); try with_reducible rfl)
      try simp only [Act.put, List.setIfInBounds_toArray, List.set_cons_zero, List.set_cons_succ]
      refine wpG_takeA 7 (v := .agg (recC s)) ?_ hHeld ?_
      · (intro w hS; first | exact kr_load_row hS _ _ (by rfl) (by rfl) Has.auto (by kernel_rfl) (by rw [recC_size _ HMS.out]; kernel_rfl))
      try simp only [Act.put, List.setIfInBounds_toArray, List.set_cons_zero, List.set_cons_succ]
      refine wpG_oneA 6 (fun K9 hK => ?_)
      go_simp
      (go_at_call 10; (with_reducible refine (jlast_any K Has.auto HMS.out).mono ?_); clear K; rintro e w1 ⟨rfl, K⟩)
      refine hK.out _ _ (K.cov Cov.auto) (fun hHeld => ?_)
      clear hK K9
      try simp only [Act.put, List.setIfInBounds_toArray, List.set_cons_zero, List.set_cons_succ]
      refine wpG_takeA 8 (v := .bool true) ?_ hHeld ?_
      · (intro w hS; first | exact kr_eqR (by rfl) (by rfl) (by rfl) HMS.out HMS.out (recEq_self _))
      try simp only [Act.put, List.setIfInBounds_toArray, List.set_cons_zero, List.set_cons_succ]
      refine wpG_takeA 9 (v := ?_) ?_ hHeld ?_
      rotate_left
      · (intro w hS; (clear hS; go_simp); try with_reducible rfl)
      try simp only [Act.put, List.setIfInBounds_toArray, List.set_cons_zero, List.set_cons_succ]
      refine wpG_takeA 10 (v := ?_) ?_ hHeld ?_
      rotate_left
      · (intro w hS; (clear hS; go_simp); try with_reducible rfl)
      try simp only [Act.put, List.setIfInBounds_toArray, List.set_cons_zero, List.set_cons_succ]
      refine wpG_oneA 11 (fun K9 hK => ?_)
      go_simp
      (go_at_call 9; (with_reducible refine (awake24K K).mono ?_); clear K; rintro e w1 ⟨rfl, K⟩)
      refine hK.out _ _ (K.cov Cov.auto) (fun hHeld => ?_)
      clear hK K9
      try simp only [Act.put, List.setIfInBounds_toArray, List.set_cons_zero, List.set_cons_succ]
      refine wpG_takeA 12 (v := ?_) ?_ hHeld ?_
      rotate_left
      · (intro w hS; (clear hS; go_simp); try with_reducible rfl)
      try simp only [Act.put, List.setIfInBounds_toArray, List.set_cons_zero, List.set_cons_succ]
      refine wpG_takeA 13 (v := ?_) ?_ hHeld ?_
      rotate_left
      · (intro w hS; (clear hS; go_simp); try with_reducible rfl)
      try simp only [Act.put, List.setIfInBounds_toArray, List.set_cons_zero, List.set_cons_succ]
      refine wpG_done (by kernel_rfl) ?_
      skip
      go_wp2
      go_ret
      exact ⟨rfl, K.cov Cov.auto⟩
end
end Go.Proofs.Ytfdddipmeadecaa
