/-
  drogherlaw24: JournalKeeps (walk).
-/
import Derived.Test.YtfdddipmeadecaaJouL
set_option linter.unusedVariables false
set_option linter.unusedSimpArgs false
namespace Go.Proofs.Ytfdddipmeadecaa
open Go.RowKit

section
variable {w0 w : World} {L : List Ent} {A : Option Addr} {n cc : Nat} {l : List Rec}
theorem jLast_new : lastJ (Dev.new 128 4) = rec0 := kinv_last dj_new kinv_new
set_option maxHeartbeats 3200000 in
set_option maxRecDepth 100000 in
theorem journalKeeps_any (K : Known w0 w L) (R : RdM w0 [] recL 44 A n l) (hc : n ≤ cc) (hs : ∀ r ∈ l, RecOk r) : Calls Try.prog 3 #[.slice A n cc] w fun e w' => e = .returned (.bool true) ∧ Known w0 w' L := by
  have HL0 := Lib.hid jLast_new
  have HC4 := Lib.hid (show 2 ≤ (Dev.new 128 4).count by decide)
  by_cases h30 : n ≤ 30
  rotate_left
  · have h' : 30 < (n : Int) := by omega
    go_enter Try.func3, Try.ntmps3
    go_wp2_with (first | (go_at_call 6; (with_reducible refine (snew_J K).mono ?_); clear K; rintro e w1 ⟨g, rfl, X0, HD0, K⟩) | (go_at_call 8; (with_reducible refine (places_any K).mono ?_); clear K; rintro e w1 ⟨rfl, K⟩) | (go_at_call 7; (with_reducible refine (jopen_any K HD0 HC4.out rfl).mono ?_); clear K; rintro e w1 ⟨gj, gp, gq, rfl, K⟩; rw [HL0.out] at K) | (go_at_call 9; (with_reducible refine (awake24K K).mono ?_); clear K; rintro e w1 ⟨rfl, K⟩))
    go_ret
    exact ⟨rfl, K.cov Cov.auto⟩
  have h' : ¬ 30 < (n : Int) := by omega
  have hlen := R.len
  have HS := Lib.hid hs
  clear hs
  go_enter Try.func3, Try.ntmps3
  go_upto_region 7 with ((first | (go_at_call 6; (with_reducible refine (snew_J K).mono ?_); clear K; rintro e w1 ⟨g, rfl, X0, HD0, K⟩) | (go_at_call 8; (with_reducible refine (places_any K).mono ?_); clear K; rintro e w1 ⟨rfl, K⟩) | (go_at_call 7; (with_reducible refine (jopen_any K HD0 HC4.out rfl).mono ?_); clear K; rintro e w1 ⟨gj, gp, gq, rfl, K⟩; rw [HL0.out] at K) | (go_at_call 9; (with_reducible refine (awake24K K).mono ?_); clear K; rintro e w1 ⟨rfl, K⟩)))
  go_loopg [7, 8] n (fun d v7 v8 wr => ∃ (i : Nat) (D : Dev) (X : List Ent) (lr : Rec), v7 = .int .u64 lr.seq ∧ v8 = .int .i64 i ∧ i + d = n ∧ 0 ≤ lr.seq ∧ lr.seq ≤ i ∧ DevIs w0 g D X ∧ DJ D ∧ KInv D.kept lr ∧ RecOk lr ∧ D.fuse = -1 ∧ D.offs = 0 ∧ D.writes ≤ i ∧ Known w0 wr (X ++ (jrow gj g gp gq lr :: prow gp g 0 1 :: prow gq g 1 1 :: L)))
  case atStart => exact ⟨0, _, X0, rec0, rfl, by go_num, by omega, by decide, by decide, HD0, dj_new, kinv_new, rec0_ok, rfl, rfl, by decide, K⟩
  case round =>
    clear K HD0
    obtain ⟨i, D, X, lr, rfl, rfl, hid, hq0, hq1, HD, hdj, hki, hro, hfu, hof, hwr, K⟩ := hrel
    by_cases hin : i < n
    rotate_left
    · have h2 : ¬ (i : Int) < n := by omega
      go_wp2_with (first | (go_at_call 9; (with_reducible refine (awake24K K).mono ?_); clear K; rintro e w1 ⟨rfl, K⟩))
      go_ret
      exact ⟨rfl, K.cov Cov.auto⟩
    have h2 : (i : Int) < n := by omega
    obtain ⟨b, off, rfl⟩ := R.form (K.cov (Cov.nil _)) (by omega)
    have HR := Lib.hid R
    obtain ⟨rr, hrr⟩ : ∃ rr, l[i]? = some rr := ⟨l[i]'(by omega), List.getElem?_eq_getElem (by omega)⟩
    have HRO := Lib.hid (HS.out rr (List.mem_of_getElem? hrr))
    have HMR := Lib.hid HRO.out.man
    have HE := Lib.hid (show encAt recL l i = recL rr by simp [encAt, hrr])
    have HIN := Lib.hid hin
    have HLO := Lib.hid hro
    have HML := Lib.hid hro.man
    have i1 := IntWalk.u64_in (lr.seq + 1) (by omega)
    obtain ⟨s, hse⟩ : ∃ s, s = { rr with seq := lr.seq + 1 } := ⟨_, rfl⟩
    have HSE := Lib.hid (show (recC rr).setIfInBounds 0 (.int .u64 (lr.seq + 1)) = recC s by rw [hse]; exact recC_set0 _ _)
    have HMS := Lib.hid (show s.man.length = 32 by rw [hse]; exact HMR.out)
    clear hrr hro
    cases hv : mayR rr
    · have HV := Lib.hid hv
      have HVS := Lib.hid (show mayR s = false by rw [hse]; exact hv)
      clear hv hse
      go_upto_region 14 with ((first | (go_at_call 10; (with_reducible refine (jlast_any K Has.auto HML.out).mono ?_); clear K; rintro e w1 ⟨rfl, K⟩) | ((with_reducible refine at_slot (N := 9) rfl ?_); (with_reducible refine at_alloc rfl ?_); refine wpList_does rfl (kd_alloc (z := (.agg (recC rec0))) K _ rfl (by kernel_rfl)) ?_; clear K; rintro _ w1 ⟨gl, rfl, K⟩; (try dsimp only [Value.cells] at K)) | ((with_reducible refine at_slot (N := 10) rfl ?_); (with_reducible refine at_alloc rfl ?_); refine wpList_does rfl (kd_alloc (z := (.agg (recC rec0))) K _ rfl (by kernel_rfl)) ?_; clear K; rintro _ w1 ⟨gr, rfl, K⟩; (try dsimp only [Value.cells] at K)) | ((with_reducible refine at_slot (N := 63) rfl ?_); refine wpList_reads (by rfl) (kr_load_R K _ _ (by rfl) i rr (by rfl) (HR.out.cov (Cov.nil _)) HIN.out HE.out rfl (by kernel_rfl) (by kernel_rfl) HMR.out) ?_) | ((with_reducible refine at_slot (N := 65) rfl ?_); ((with_reducible refine at_load (t := 41) rfl ?_); refine wpList_reads (by rfl) (kr_load_row K _ _ (by rfl) (by rfl) Has.auto (by kernel_rfl) (by rw [recC_size _ HMR.out]; kernel_rfl)) ?_)) | ((with_reducible refine at_slot (N := 70) rfl ?_); ((with_reducible refine at_load (t := 41) rfl ?_); refine wpList_reads (by rfl) (kr_load_row K _ _ (by rfl) (by rfl) Has.auto (by kernel_rfl) (by rw [recC_size _ HMS.out]; kernel_rfl)) ?_)) | ((with_reducible refine at_store rfl ?_); refine wpList_does (by rfl) (kd_store_row K _ _ _ (by rfl) (by rfl) (by rfl) Repl.auto (by rw [recC_size _ HML.out]; kernel_rfl) (by rw [recC_size _ man0_len, recC_size _ HML.out]; rfl) (recC_one _)) ?_; clear K; intro _ w1 K; (try simp only [Act.put])) | ((with_reducible refine at_store rfl ?_); refine wpList_does (by rfl) (kd_store_row K _ _ _ (by rfl) (by rfl) (by rfl) Repl.auto (by rw [recC_size _ HMR.out]; kernel_rfl) (by rw [recC_size _ man0_len, recC_size _ HMR.out]; rfl) (recC_one _)) ?_; clear K; intro _ w1 K; (try simp only [Act.put])) | (go_at_call 11; (with_reducible refine (jwrite_no (X := X) (gj := gj) (g := g) (gp := gp) (gq := gq) (l := lr) (L := row gr (recC rr) 41 :: row gl (recC lr) 41 :: L) (K.cov Cov.auto) HRO.out HLO.out (by omega) HV.out).mono ?_); clear K; rintro e w1 ⟨rfl, K⟩) | ((with_reducible refine at_store (t := 37) rfl ?_); refine wpList_does rfl (kd_store_cell K _ _ _ rfl rfl (by conv => lhs; whnf) Repl.auto rfl rfl (by kernel_rfl) (by rw [recC_size _ HMR.out]; rfl) HSE.out) ?_; clear K; intro _ w1 K) | (go_at_call 12; (with_reducible refine (rjmay_any K _ HVS.out HMS.out).mono ?_); clear K; rintro e w1 ⟨rfl, K⟩)))
      refine wp_region_GK K (Cov.all _) (by kernel_rfl) (by kernel_rfl) (by kernel_rfl) (fun K hHeld => ?_)
      refine wpG_takeA 0 (v := ?_) ?_ hHeld ?_
      rotate_left
      · (intro w hS; (clear hS; go_simp); try with_reducible rfl)
      try simp only [Act.put, List.setIfInBounds_toArray, List.set_cons_zero, List.set_cons_succ]
      refine wpG_takeA 1 (v := ?_) ?_ hHeld ?_
      rotate_left
      · (intro w hS; (clear hS; go_simp); try with_reducible rfl)
      try simp only [Act.put, List.setIfInBounds_toArray, List.set_cons_zero, List.set_cons_succ]
      refine wpG_takeA 2 (v := ?_) ?_ hHeld ?_
      rotate_left
      · (intro w hS; (clear hS; go_simp); try with_reducible rfl)
      try simp only [Act.put, List.setIfInBounds_toArray, List.set_cons_zero, List.set_cons_succ]
      refine wpG_takeA 3 (v := ?_) ?_ hHeld ?_
      rotate_left
      · (intro w hS; (clear hS; go_simp); try with_reducible rfl)
      try simp only [Act.put, List.setIfInBounds_toArray, List.set_cons_zero, List.set_cons_succ]
      refine wpG_takeA 5 (v := .agg (recC lr)) ?_ hHeld ?_
      · (intro w hS; first | exact kr_load_row hS _ _ (by rfl) (by rfl) Has.auto (by kernel_rfl) (by rw [recC_size _ HML.out]; kernel_rfl))
      try simp only [Act.put, List.setIfInBounds_toArray, List.set_cons_zero, List.set_cons_succ]
      refine wpG_oneA 4 (fun K9 hK => ?_)
      go_simp
      (go_at_call 10; (with_reducible refine (jlast_any K Has.auto HML.out).mono ?_); clear K; rintro e w1 ⟨rfl, K⟩)
      refine hK.out _ _ (K.cov Cov.auto) (fun hHeld => ?_)
      clear hK K9
      try simp only [Act.put, List.setIfInBounds_toArray, List.set_cons_zero, List.set_cons_succ]
      refine wpG_takeA 6 (v := .bool false) ?_ hHeld ?_
      · (intro w hS; first | exact kr_neqR (by rfl) (by rfl) (by rfl) HML.out rfl)
      try simp only [Act.put, List.setIfInBounds_toArray, List.set_cons_zero, List.set_cons_succ]
      refine wpG_takeA 7 (v := ?_) ?_ hHeld ?_
      rotate_left
      · (intro w hS; (clear hS; go_simp); try with_reducible rfl)
      try simp only [Act.put, List.setIfInBounds_toArray, List.set_cons_zero, List.set_cons_succ]
      refine wpG_done (by kernel_rfl) ?_
      skip
      go_wp2
      go_roundg (gk - 1)
      case measure => omega
      case rel => exact ⟨i + 1, D, X, lr, rfl, by go_num, by omega, hq0, by omega, HD, hdj, hki, HLO.out, hfu, hof, by omega, K.cov Cov.auto⟩
    · have HV := Lib.hid hv
      have hvs : mayR s = true := by rw [hse]; exact hv
      have HVS := Lib.hid hvs
      have hsq : s.seq = lr.seq + 1 := by rw [hse]
      have hso : RecOk s := by rw [hse]; exact ⟨⟨by show 0 ≤ lr.seq + 1 ∧ lr.seq + 1 ≤ _; omega, HRO.out.u64.2⟩, HRO.out.u8, HMR.out, HRO.out.byte⟩
      obtain ⟨e1, D1, l1, hjw, g1, g2, g3, g4, g5, g6⟩ := jw_facts hdj hv hse
      obtain ⟨rfl, q2, q3⟩ := g5 (by omega)
      obtain ⟨_, rfl, g7, g8, g9⟩ | ⟨g7, _⟩ := g6
      rotate_left
      · exact absurd rfl g7
      have HJW := Lib.hid hjw
      have hdj1 : DJ D1 := ⟨g1, g2, g7, g8⟩
      have hki1 : KInv D1.kept l1 := by
        rw [g9, ← hsq]
        exact kinv_next hki hso hvs hsq
      have HL1 := Lib.hid (kinv_last hdj1 hki1)
      have HC1 := Lib.hid (show 2 ≤ D1.count by rw [g2]; decide)
      have HO1 := Lib.hid g7
      have HKI := Lib.hid hki1
      have HDJ := Lib.hid hdj1
      have HSO := Lib.hid hso
      have HSQ := Lib.hid hsq
      have HQ2 := Lib.hid q2
      have HQ3 := Lib.hid q3
      clear hv hse hvs hso hjw g1 g2 g5 g7 g8 g9 hki1 hdj1 hki hdj hsq q2 q3
      go_upto_region 18 with ((first | (go_at_call 10; (with_reducible refine (jlast_any K Has.auto HML.out).mono ?_); clear K; rintro e w1 ⟨rfl, K⟩) | ((with_reducible refine at_slot (N := 9) rfl ?_); (with_reducible refine at_alloc rfl ?_); refine wpList_does rfl (kd_alloc (z := (.agg (recC rec0))) K _ rfl (by kernel_rfl)) ?_; clear K; rintro _ w1 ⟨gl, rfl, K⟩; (try dsimp only [Value.cells] at K)) | ((with_reducible refine at_slot (N := 10) rfl ?_); (with_reducible refine at_alloc rfl ?_); refine wpList_does rfl (kd_alloc (z := (.agg (recC rec0))) K _ rfl (by kernel_rfl)) ?_; clear K; rintro _ w1 ⟨gr, rfl, K⟩; (try dsimp only [Value.cells] at K)) | ((with_reducible refine at_slot (N := 63) rfl ?_); refine wpList_reads (by rfl) (kr_load_R K _ _ (by rfl) i rr (by rfl) (HR.out.cov (Cov.nil _)) HIN.out HE.out rfl (by kernel_rfl) (by kernel_rfl) HMR.out) ?_) | ((with_reducible refine at_slot (N := 65) rfl ?_); ((with_reducible refine at_load (t := 41) rfl ?_); refine wpList_reads (by rfl) (kr_load_row K _ _ (by rfl) (by rfl) Has.auto (by kernel_rfl) (by rw [recC_size _ HMR.out]; kernel_rfl)) ?_)) | ((with_reducible refine at_slot (N := 70) rfl ?_); ((with_reducible refine at_load (t := 41) rfl ?_); refine wpList_reads (by rfl) (kr_load_row K _ _ (by rfl) (by rfl) Has.auto (by kernel_rfl) (by rw [recC_size _ HMS.out]; kernel_rfl)) ?_)) | ((with_reducible refine at_store rfl ?_); refine wpList_does (by rfl) (kd_store_row K _ _ _ (by rfl) (by rfl) (by rfl) Repl.auto (by rw [recC_size _ HML.out]; kernel_rfl) (by rw [recC_size _ man0_len, recC_size _ HML.out]; rfl) (recC_one _)) ?_; clear K; intro _ w1 K; (try simp only [Act.put])) | ((with_reducible refine at_store rfl ?_); refine wpList_does (by rfl) (kd_store_row K _ _ _ (by rfl) (by rfl) (by rfl) Repl.auto (by rw [recC_size _ HMR.out]; kernel_rfl) (by rw [recC_size _ man0_len, recC_size _ HMR.out]; rfl) (recC_one _)) ?_; clear K; intro _ w1 K; (try simp only [Act.put])) | (go_at_call 11; (with_reducible refine (jwrite_yes (X := X) (gj := gj) (g := g) (gp := gp) (gq := gq) (l := lr) (L := row gr (recC rr) 41 :: row gl (recC lr) 41 :: L) (K.cov Cov.auto) HD HRO.out HLO.out (by omega) HV.out (by omega) (by omega)).mono ?_); clear K; rintro e w1 ⟨rfl, X1, HD1, K⟩; rw [HJW.out]; rw [HJW.out] at HD1 K) | ((with_reducible refine at_store (t := 37) rfl ?_); refine wpList_does rfl (kd_store_cell K _ _ _ rfl rfl (by conv => lhs; whnf) Repl.auto rfl rfl (by kernel_rfl) (by rw [recC_size _ HMR.out]; rfl) HSE.out) ?_; clear K; intro _ w1 K) | (go_at_call 12; (with_reducible refine (rjmay_any K _ HVS.out HMS.out).mono ?_); clear K; rintro e w1 ⟨rfl, K⟩) | (go_at_call 8; (with_reducible refine (places_any K).mono ?_); clear K; rintro e w1 ⟨rfl, K⟩) | (go_at_call 7; (with_reducible refine (jopen_any (K.sel (by repeat (first | with_reducible exact Sel.nil _ | with_reducible exact Sel.ap _ _ | with_reducible exact Sel.hd _ _ | with_reducible exact Sel.all _ | with_reducible apply Sel.tl | with_reducible apply Sel.sk))) HD1 HC1.out HO1.out).mono ?_); clear K; rintro e w1 ⟨gj2, gp2, gq2, rfl, K⟩; rw [HL1.out] at K)))
      refine wp_region_GK K (Cov.all _) (by kernel_rfl) (by kernel_rfl) (by kernel_rfl) (fun K hHeld => ?_)
      refine wpG_takeA 0 (v := ?_) ?_ hHeld ?_
      rotate_left
      · (intro w hS; (clear hS; go_simp); try with_reducible rfl)
      try simp only [Act.put, List.setIfInBounds_toArray, List.set_cons_zero, List.set_cons_succ]
      refine wpG_takeA 1 (v := ?_) ?_ hHeld ?_
      rotate_left
      · (intro w hS; (clear hS; go_simp); try with_reducible rfl)
      try simp only [Act.put, List.setIfInBounds_toArray, List.set_cons_zero, List.set_cons_succ]
      refine wpG_takeA 2 (v := ?_) ?_ hHeld ?_
      rotate_left
      · (intro w hS; (clear hS; go_simp); try with_reducible rfl)
      try simp only [Act.put, List.setIfInBounds_toArray, List.set_cons_zero, List.set_cons_succ]
      refine wpG_takeA 3 (v := ?_) ?_ hHeld ?_
      rotate_left
      · (intro w hS; (clear hS; go_simp); try with_reducible rfl)
      try simp only [Act.put, List.setIfInBounds_toArray, List.set_cons_zero, List.set_cons_succ]
      refine wpG_takeA 5 (v := .agg (recC l1)) ?_ hHeld ?_
      · (intro w hS; first | exact kr_load_row hS _ _ (by rfl) (by rfl) Has.auto (by kernel_rfl) (by rw [recC_size _ HMS.out]; kernel_rfl))
      try simp only [Act.put, List.setIfInBounds_toArray, List.set_cons_zero, List.set_cons_succ]
      refine wpG_oneA 4 (fun K9 hK => ?_)
      go_simp
      (go_at_call 10; (with_reducible refine (jlast_any K Has.auto HMS.out).mono ?_); clear K; rintro e w1 ⟨rfl, K⟩)
      refine hK.out _ _ (K.cov Cov.auto) (fun hHeld => ?_)
      clear hK K9
      try simp only [Act.put, List.setIfInBounds_toArray, List.set_cons_zero, List.set_cons_succ]
      refine wpG_takeA 6 (v := .bool false) ?_ hHeld ?_
      · (intro w hS; first | exact kr_neqR (by rfl) (by rfl) (by rfl) HMS.out rfl)
      try simp only [Act.put, List.setIfInBounds_toArray, List.set_cons_zero, List.set_cons_succ]
      refine wpG_takeA 7 (v := ?_) ?_ hHeld ?_
      rotate_left
      · (intro w hS; (clear hS; go_simp); try with_reducible rfl)
      try simp only [Act.put, List.setIfInBounds_toArray, List.set_cons_zero, List.set_cons_succ]
      refine wpG_takeA 8 (v := ?_) ?_ hHeld ?_
      rotate_left
      · (intro w hS; (clear hS; go_simp); try with_reducible rfl)
      try simp only [Act.put, List.setIfInBounds_toArray, List.set_cons_zero, List.set_cons_succ]
      refine wpG_takeA 9 (v := ?_) ?_ hHeld ?_
      rotate_left
      · (intro w hS; (clear hS; go_simp); try with_reducible rfl)
      try simp only [Act.put, List.setIfInBounds_toArray, List.set_cons_zero, List.set_cons_succ]
      refine wpG_takeA 10 (v := ?_) ?_ hHeld ?_
      rotate_left
      · (intro w hS; (clear hS; go_simp); try with_reducible rfl)
      try simp only [Act.put, List.setIfInBounds_toArray, List.set_cons_zero, List.set_cons_succ]
      refine wpG_takeA 11 (v := ?_) ?_ hHeld ?_
      rotate_left
      · (intro w hS; (clear hS; go_simp); try with_reducible rfl)
      try simp only [Act.put, List.setIfInBounds_toArray, List.set_cons_zero, List.set_cons_succ]
      refine wpG_takeA 12 (v := ?_) ?_ hHeld ?_
      rotate_left
      · (intro w hS; (clear hS; go_simp); try with_reducible rfl)
      try simp only [Act.put, List.setIfInBounds_toArray, List.set_cons_zero, List.set_cons_succ]
      refine wpG_takeA 13 (v := ?_) ?_ hHeld ?_
      rotate_left
      · (intro w hS; (clear hS; go_simp); try with_reducible rfl)
      try simp only [Act.put, List.setIfInBounds_toArray, List.set_cons_zero, List.set_cons_succ]
      refine wpG_takeA 14 (v := ?_) ?_ hHeld ?_
      rotate_left
      · (intro w hS; (clear hS; go_simp); try with_reducible rfl)
      try simp only [Act.put, List.setIfInBounds_toArray, List.set_cons_zero, List.set_cons_succ]
      refine wpG_takeA 15 (v := ?_) ?_ hHeld ?_
      rotate_left
      · (intro w hS; (clear hS; go_simp); try with_reducible rfl)
      try simp only [Act.put, List.setIfInBounds_toArray, List.set_cons_zero, List.set_cons_succ]
      refine wpG_takeA 16 (v := ?_) ?_ hHeld ?_
      rotate_left
      · (intro w hS; (clear hS; go_simp); try with_reducible rfl)
      try simp only [Act.put, List.setIfInBounds_toArray, List.set_cons_zero, List.set_cons_succ]
      refine wpG_takeA 17 (v := ?_) ?_ hHeld ?_
      rotate_left
      · (intro w hS; (clear hS; go_simp); try with_reducible rfl)
      try simp only [Act.put, List.setIfInBounds_toArray, List.set_cons_zero, List.set_cons_succ]
      refine wpG_takeA 19 (v := .agg (recC l1)) ?_ hHeld ?_
      · (intro w hS; first | exact kr_load_row hS _ _ (by rfl) (by rfl) Has.auto (by kernel_rfl) (by rw [recC_size _ HMS.out]; kernel_rfl))
      try simp only [Act.put, List.setIfInBounds_toArray, List.set_cons_zero, List.set_cons_succ]
      refine wpG_oneA 18 (fun K9 hK => ?_)
      go_simp
      (go_at_call 10; (with_reducible refine (jlast_any K Has.auto HMS.out).mono ?_); clear K; rintro e w1 ⟨rfl, K⟩)
      refine hK.out _ _ (K.cov Cov.auto) (fun hHeld => ?_)
      clear hK K9
      try simp only [Act.put, List.setIfInBounds_toArray, List.set_cons_zero, List.set_cons_succ]
      refine wpG_takeA 20 (v := .bool false) ?_ hHeld ?_
      · (intro w hS; first | exact kr_neqR (by rfl) (by rfl) (by rfl) HMS.out rfl)
      try simp only [Act.put, List.setIfInBounds_toArray, List.set_cons_zero, List.set_cons_succ]
      refine wpG_takeA 21 (v := ?_) ?_ hHeld ?_
      rotate_left
      · (intro w hS; (clear hS; go_simp); try with_reducible rfl)
      try simp only [Act.put, List.setIfInBounds_toArray, List.set_cons_zero, List.set_cons_succ]
      refine wpG_done (by kernel_rfl) ?_
      skip
      go_wp2
      have hsq := HSQ.out
      have hq2 := HQ2.out
      have hq3 := HQ3.out
      go_roundg (gk - 1)
      case measure => omega
      case rel => exact ⟨i + 1, D1, X1, l1, by rw [hsq], by go_num, by omega, by omega, by omega, HD1, HDJ.out, HKI.out, HSO.out, by omega, by omega, by omega, K.cov Cov.auto⟩
end
end Go.Proofs.Ytfdddipmeadecaa
