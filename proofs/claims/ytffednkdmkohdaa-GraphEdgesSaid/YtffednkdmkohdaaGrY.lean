/-
  graph: Edges (contract): the walk.
-/
import Derived.Test.YtffednkdmkohdaaGrX
set_option linter.unusedVariables false
set_option linter.unusedSimpArgs false
namespace Go.Proofs.Ytffednkdmkohdaa
open Go.RowKit

theorem Grid.nil (w0 : World) : Grid w0 [] none 0 [] := ⟨RdM.nil _ _ _ _ _, by simp⟩
def gedgesE (rs : List (List Ast)) (block : Int) : List (List Int) × Int := if gmayB block rs.length then if rs.all (·.all rightB) then (gedges rs block, 0) else ([], 3) else ([], 1)
/-- what a step leaves of the rows -/
theorem erows_step {n i : Nat} {G : List Orow} {r' : Orow} {f : Nat → List Int} (hk : i < n) (hn : G.length = n) (hx : G.map Orow.xs = (List.range n).map fun q => if q < i then f q else []) (hr : r'.xs = f i) :
    (G.set i r').map Orow.xs = (List.range n).map fun q => if q < i + 1 then f q else [] := by
  rw [List.map_set, hx, hr]
  apply List.ext_getElem?
  intro q
  rw [List.getElem?_set]
  by_cases hq : q < n
  · by_cases hqk : i = q
    · subst hqk
      simp [hk]
    · rw [if_neg hqk]
      simp only [List.getElem?_map, List.getElem?_range hq, Option.map_some]
      by_cases h : q < i
      · rw [if_pos h, if_pos (by omega)]
      · rw [if_neg h, if_neg (by omega)]
  · rw [if_neg (by omega)]
    simp [show ¬ q < n from hq]
section
variable {w0 w : World} {L : List Ent} {A : Option Addr} {n c : Nat} {rows : List (Arow Ast)} {block : Int}
set_option maxHeartbeats 1600000 in
set_option maxRecDepth 100000 in
theorem gedges_yes (K : Known w0 w L) (G : Plans w0 [] A n rows) (hc : n ≤ c) (hm : gmayB block n = true) (h6 : ∀ r ∈ rows, r.n ≤ 60) : Calls Try.prog 25 #[.slice A n c, .int .i64 block] w fun e w' => ∃ A' n' c', e = .returned (.tuple #[.slice A' n' c', .int .i64 (gedgesE (rows.map (·.l)) block).2]) ∧ n' ≤ c' ∧ ∃ (rows' : List (Arow Int)), rows'.map (·.l) = (gedgesE (rows.map (·.l)) block).1 ∧ ∃ X, Grid w0 X A' n' rows' ∧ (∀ r ∈ rows', r.n ≤ n) ∧ Known w0 w' (X ++ L) := by
  have hl := G.R.len
  have hmn := (gmayB_iff.1 hm).2.2
  have HM := Lib.hid hm
  clear hm
  go_enter Try.func25, Try.ntmps25
  go_upto_region 5 with ((first | (go_at_call 45; (with_reducible refine (gmay_any _ _ _).mono ?_); rintro e w' ⟨rfl, rfl⟩; rw [HM.out]) | ((with_reducible refine at_makeSlice rfl ?_); refine wpList_does rfl (kd_make (z := .slice none 0 0) (bytes := 24) K 33 25 rfl Try.underlying33 (by kernel_rfl) rfl n n rfl rfl (Nat.le_refl _) (by omega) (by omega)) ?_; clear K; rintro _ w1 ⟨gb, rfl, K⟩)))
  obtain ⟨G0, hG0⟩ : ∃ G0, G0 = List.replicate n (⟨none, 0, 0, [], []⟩ : Orow) := ⟨_, rfl⟩
  have hcs : Array.replicate n (Value.slice none 0 0) = hdrs G0 := by rw [hG0]; simp [hdrs, Orow.hdr]
  have hbk : blks G0 = [] := by rw [hG0]; simp [blks]
  replace K : Known w0 w1 (row gb (hdrs G0) 25 :: (blks G0 ++ L)) := by rw [hbk, ← hcs]; exact K
  go_loopg [21] n (fun q v wr => ∃ (i : Nat) (GO : List Orow), v = .int .i64 i ∧ i + q = n ∧ Hid (GO.length = n) ∧ Hid (((rows.map (·.l)).take i).all (·.all rightB) = true) ∧ (∀ r ∈ GO, OwnL 3 1 r.A r.n r.c (r.xs.map (Value.int .i64)) r.X) ∧ Hid (GO.map Orow.xs = (List.range n).map fun q => if q < i then gedge ((rows.map (·.l)).getD q []) block n q else []) ∧ Known w0 wr (row gb (hdrs GO) 25 :: (blks GO ++ L)))
  case atStart => exact ⟨0, G0, by go_num, by omega, Lib.hid (by rw [hG0, List.length_replicate]), Lib.hid rfl, fun r hr => by rw [hG0] at hr; rw [(List.mem_replicate.1 hr).2]; exact OwnL.nil _ _, Lib.hid (by rw [hG0]; apply List.ext_getElem <;> simp), K⟩
  case round =>
    clear K hcs hbk hG0
    obtain ⟨i, GO, rfl, hdi, HLN, HAL, hgo, HXS, K⟩ := hrel
    by_cases hi : i < n
    · have hi2 : decide ((i : Int) < (n : Int)) = true := decide_eq_true (by omega)
      have hii : (0 : Int) ≤ (i : Int) ∧ (i : Int) < (n : Int) := by omega
      have i1 := IntWalk.i64_in ((i : Int) + 1) (by omega)
      obtain ⟨b, off, rfl⟩ := G.R.form (K.cov (Cov.nil _)) (by omega)
      obtain ⟨⟨rA, rn, rc, rl⟩, hp⟩ : ∃ r, r = rows[i]'(by omega) := ⟨_, rfl⟩
      have hpm : (⟨rA, rn, rc, rl⟩ : Arow Ast) ∈ rows := by rw [hp]; exact List.getElem_mem _
      have HP := Lib.hid (show encAt arC rows i = [.slice rA rn rc] by rw [encAt_get (by omega), ← hp]; rfl)
      have HRL := Lib.hid (show (rows.map (·.l)).getD i [] = rl by simp [List.getD, show i < rows.length by omega, ← hp])
      obtain ⟨RR, hrc, hrs⟩ := G.row _ hpm
      have hrn : rn ≤ 100000 := by have := h6 _ hpm; simp only at this; omega
      simp only at RR hrc hrs
      have HT := Lib.hid (show ((rows.map (·.l)).take (i + 1)).all (·.all rightB) = (((rows.map (·.l)).take i).all (·.all rightB) && rl.all rightB) by
        rw [List.take_succ_eq_append_getElem (by rw [List.length_map]; omega), List.all_append]
        simp [← hp])
      cases hra : rl.all rightB
      · have HG := Lib.hid (show greads rl block n = ([], 3) by rw [greads, HM.out, if_pos rfl, if_neg (by rw [hra]; exact Bool.false_ne_true)])
        have HNA := Lib.hid (show gedgesE (rows.map (·.l)) block = ([], 3) by
          rw [gedgesE, List.length_map, hl, HM.out, if_pos rfl, if_neg]
          rw [Bool.not_eq_true, List.all_eq_false]
          exact ⟨rl, List.mem_map.2 ⟨_, hpm, rfl⟩, by rw [hra]; exact Bool.false_ne_true⟩)
        clear hp hpm hra
        go_wp2_with (first | ((with_reducible refine at_load rfl ?_); refine wpList_reads (by rfl) (kr_load_rcell K _ _ (by rfl) (i) 0 (by rfl) (G.R.cov Cov.auto) (by omega) HP.out (by rfl) (by omega) (by kernel_rfl)) ?_) | (go_at_call 16; (with_reducible refine (greads_any K (RR.cov (Cov.nil _)) hrc hrn hrs _ _).mono ?_); clear K; rintro e w1 ⟨A3, n3, c3, rfl, hn3, X3, O3, K⟩; rw [HG.out]; rw [HG.out] at O3 hn3) | ((with_reducible refine at_slot (N := 7) rfl ?_); (with_reducible refine at_alloc rfl ?_); refine wpList_does rfl (kd_alloc K _ rfl rfl) ?_; clear K; rintro _ w1 ⟨g, rfl, K⟩; (try dsimp only [Value.cells] at K)) | ((with_reducible refine at_eqnil rfl ?_); refine wpList_reads rfl (kr_eqnil rfl rfl (by kernel_rfl)) ?_) | ((with_reducible refine at_box rfl ?_); refine wpList_does rfl (kd_box K _ _ rfl (by conv => lhs; whnf)) ?_; clear K; rintro _ w1 ⟨g, rfl, K⟩; (try dsimp only [Value.cells] at K)) | ((with_reducible refine at_alloc rfl ?_); refine wpList_does rfl (kd_alloc K _ rfl rfl) ?_; clear K; rintro _ w1 ⟨g, rfl, K⟩; (try dsimp only [Value.cells] at K)) | ((with_reducible refine at_buildSlice rfl ?_); refine wpList_does rfl (kd_lits (cs := _) K _ _ _ rfl (by first | rfl | (go_simp; done) | (go_simp; rfl)) (by first | rfl | (go_simp; done) | (go_simp; rfl))) ?_; clear K; rintro _ w1 ⟨g, rfl, K⟩) | ((with_reducible refine at_load rfl ?_); first | (refine wpList_reads (by rfl) (kr_load_cell K _ _ (by rfl) (by rfl) Has.auto (by decide +kernel) (by (try simp only [List.getElem?_toArray, List.getElem?_cons_succ, List.getElem?_cons_zero]); exact rfl)) ?_) | (refine wpList_reads (by rfl) (kr_load_row K _ _ (by rfl) (by rfl) Has.auto (by decide +kernel) (by kernel_rfl)) ?_)) | ((with_reducible refine at_store rfl ?_); (first | (refine wpList_does rfl (kd_store_cell K _ _ _ rfl rfl (by conv => lhs; whnf) Repl.auto rfl rfl (by kernel_rfl) (by kernel_rfl) (by first | (simp only [List.setIfInBounds_toArray, List.set_cons_succ, List.set_cons_zero]; rfl) | rfl)) ?_) | (refine wpList_does rfl (kd_store_row K _ _ _ rfl rfl rfl Repl.auto (by kernel_rfl) (by kernel_rfl) (by kernel_rfl)) ?_)); clear K; intro _ w1 K; (try simp only [Act.put])))
        go_ret2
        exact ⟨none, 0, 0, by rw [HNA.out]; rfl, Nat.le_refl _, [], by rw [HNA.out]; rfl, [], Grid.nil _, (by simp), K.cov Cov.auto⟩
      have HRA := Lib.hid hra
      have HG := Lib.hid (show greads rl block n = (gset rl block n, 0) by rw [greads, HM.out, if_pos rfl, if_pos hra, Int.toNat_natCast])
      have HND := Lib.hid (gset_nodup rl block n)
      have hkl : i < GO.length := by rw [HLN.out]; exact hi
      have HSZ := Lib.hid (show i < (hdrs GO).size by rw [hdrs_size]; exact hkl)
      have h5 := gset_len rl block n
      obtain ⟨P, hP⟩ : ∃ P, P = blks (GO.take i) := ⟨_, rfl⟩
      obtain ⟨S, hS⟩ : ∃ S, S = blks (GO.drop (i + 1)) := ⟨_, rfl⟩
      obtain ⟨Xr, hXr⟩ : ∃ Xr, Xr = (GO[i]'hkl).X := ⟨_, rfl⟩
      have hfm : blks GO = P ++ (Xr ++ S) := by rw [blks_at hkl, ← hXr, hP, hS]
      have HBS := Lib.hid (fun (r : Orow) => show blks (GO.set i r) = P ++ (r.X ++ S) by rw [blks_set hkl, hP, hS])
      rw [hfm] at K
      simp only [List.append_assoc] at K
      clear hp hpm hP hS hfm hXr hra
      go_upto_region 10 with ((first | ((with_reducible refine at_load rfl ?_); refine wpList_reads (by rfl) (kr_load_rcell K _ _ (by rfl) (i) 0 (by rfl) (G.R.cov Cov.auto) (by omega) HP.out (by rfl) (by omega) (by kernel_rfl)) ?_) | (go_at_call 16; (with_reducible refine (greads_any K (RR.cov (Cov.nil _)) hrc hrn hrs _ _).mono ?_); clear K; rintro e w1 ⟨A3, n3, c3, rfl, hn3, X3, O3, K⟩; rw [HG.out]; rw [HG.out] at O3 hn3) | ((with_reducible refine at_slot (N := 7) rfl ?_); (with_reducible refine at_alloc rfl ?_); refine wpList_does rfl (kd_alloc K _ rfl rfl) ?_; clear K; rintro _ w1 ⟨g, rfl, K⟩; (try dsimp only [Value.cells] at K)) | ((with_reducible refine at_eqnil rfl ?_); refine wpList_reads rfl (kr_eqnil rfl rfl (by kernel_rfl)) ?_) | ((with_reducible refine at_box rfl ?_); refine wpList_does rfl (kd_box K _ _ rfl (by conv => lhs; whnf)) ?_; clear K; rintro _ w1 ⟨g, rfl, K⟩; (try dsimp only [Value.cells] at K)) | ((with_reducible refine at_alloc rfl ?_); refine wpList_does rfl (kd_alloc K _ rfl rfl) ?_; clear K; rintro _ w1 ⟨g, rfl, K⟩; (try dsimp only [Value.cells] at K)) | ((with_reducible refine at_buildSlice rfl ?_); refine wpList_does rfl (kd_lits (cs := _) K _ _ _ rfl (by first | rfl | (go_simp; done) | (go_simp; rfl)) (by first | rfl | (go_simp; done) | (go_simp; rfl))) ?_; clear K; rintro _ w1 ⟨g, rfl, K⟩) | ((with_reducible refine at_load rfl ?_); first | (refine wpList_reads (by rfl) (kr_load_cell K _ _ (by rfl) (by rfl) Has.auto (by decide +kernel) (by (try simp only [List.getElem?_toArray, List.getElem?_cons_succ, List.getElem?_cons_zero]); exact rfl)) ?_) | (refine wpList_reads (by rfl) (kr_load_row K _ _ (by rfl) (by rfl) Has.auto (by decide +kernel) (by kernel_rfl)) ?_)) | ((with_reducible refine at_store rfl ?_); (first | (refine wpList_does rfl (kd_store_cell K _ _ _ rfl rfl (by conv => lhs; whnf) Repl.auto rfl rfl (by kernel_rfl) (by kernel_rfl) (by first | (simp only [List.setIfInBounds_toArray, List.set_cons_succ, List.set_cons_zero]; rfl) | rfl)) ?_) | (refine wpList_does rfl (kd_store_row K _ _ _ rfl rfl rfl Repl.auto (by kernel_rfl) (by kernel_rfl) (by kernel_rfl)) ?_)); clear K; intro _ w1 K; (try simp only [Act.put]))))
      have hn4 : n3 ≤ 1000000000 := by have := hn3.out; omega
      refine wp_region_GK (X := [row g #[.int .i64 i] 3]) K Cov.auto (by kernel_rfl) (by kernel_rfl) (by kernel_rfl) (fun K hHeld => ?_)
      refine wpG_takeA 0 (v := ?_) ?_ hHeld ?_
      rotate_left
      · (intro w hS; (clear hS; go_simp); try with_reducible rfl)
      try simp only [Act.put, List.setIfInBounds_toArray, List.set_cons_zero, List.set_cons_succ]
      refine wpG_takeA 1 (v := ?_) ?_ hHeld ?_
      rotate_left
      · (intro w hS; first | exact kr_load_cell hS _ _ (by rfl) (by rfl) Has.auto (by decide +kernel) (by (try simp only [List.getElem?_toArray, List.getElem?_cons_succ, List.getElem?_cons_zero]); exact rfl) | exact kr_load_row hS _ _ (by rfl) (by rfl) Has.auto (by decide +kernel) (by kernel_rfl))
      try simp only [Act.put, List.setIfInBounds_toArray, List.set_cons_zero, List.set_cons_succ]
      refine wpG_takeA 2 (v := ?_) ?_ hHeld ?_
      rotate_left
      · (intro w hS; (clear hS; go_simp); try with_reducible rfl)
      try simp only [Act.put, List.setIfInBounds_toArray, List.set_cons_zero, List.set_cons_succ]
      refine wpG_takeA 3 (v := ?_) ?_ hHeld ?_
      rotate_left
      · (intro w hS; (clear hS; go_simp); try with_reducible rfl)
      try simp only [Act.put, List.setIfInBounds_toArray, List.set_cons_zero, List.set_cons_succ]
      refine wpG_oneA 4 (fun K9 hK => ?_)
      go_simp
      (go_at_call 53; (with_reducible refine (delete_any K Has.auto O3 (by omega) HND.out).mono ?_); clear K; rintro e w1 ⟨m, hm, rfl, X4, O4, K⟩)
      refine hK.out _ _ (K.cov Cov.auto) (fun hHeld => ?_)
      clear hK K9
      try simp only [Act.put, List.setIfInBounds_toArray, List.set_cons_zero, List.set_cons_succ]
      refine wpG_takeA 5 (v := ?_) ?_ hHeld ?_
      rotate_left
      · (intro w hS; (clear hS; go_simp); try with_reducible rfl)
      try simp only [Act.put, List.setIfInBounds_toArray, List.set_cons_zero, List.set_cons_succ]
      refine wpG_lastA 6 (fun K9 hK => ?_)
      refine st_does (by rfl) (kd_store_cell K _ _ _ (by rfl) (by rfl) (by conv => lhs; whnf) Repl.auto (by rfl) (by rfl) (by kernel_rfl) (decide_eq_true HSZ.out) (by rfl)) ?_
      clear K; intro _ w1 K
      refine hK.out _ _ ?_
      clear hK K9
      try simp only [Act.put, List.setIfInBounds_toArray, List.set_cons_zero, List.set_cons_succ]
      skip
      go_wp2
      have HES := erows_step (r' := ⟨A3, m, c3, but i (gset rl block n), X4⟩) hi HLN.out HXS.out (by rw [HRL.out]; rfl)
      go_roundg (gk - 1)
      case measure => omega
      case rel => exact ⟨i + 1, GO.set i ⟨A3, m, c3, but i (gset rl block n), X4⟩, by go_num, by omega, Lib.hid (by rw [List.length_set]; exact HLN.out), Lib.hid (by rw [HT.out, HAL.out, HRA.out]; rfl), (by
        intro r hr
        rcases List.mem_or_eq_of_mem_set hr with hr | hr
        · exact hgo _ hr
        · rw [hr]
          exact O4), Lib.hid HES, by
        rw [HBS.out, ← hdrs_set]
        simp only [List.append_assoc, Orow.hdr]
        exact K.cov Cov.auto⟩
    · have hi2 : decide ((i : Int) < (n : Int)) = false := decide_eq_false (by omega)
      obtain rfl : n = i := by omega
      go_wp2
      go_ret2
      have hxs : GO.map Orow.xs = gedges (rows.map (·.l)) block := by
        rw [HXS.out, gedges, List.length_map, hl]
        exact List.map_congr_left fun q hq => if_pos (List.mem_range.1 hq)
      have HAA : (rows.map (·.l)).all (·.all rightB) = true := by have := HAL.out; rw [List.take_of_length_le (by rw [List.length_map]; omega)] at this; exact this
      have HNA : gedgesE (rows.map (·.l)) block = (gedges (rows.map (·.l)) block, 0) := by rw [gedgesE, List.length_map, hl, HM.out, if_pos rfl, if_pos HAA]
      rw [HNA]
      refine ⟨some ⟨gb, 0, none⟩, n, n, rfl, Nat.le_refl _, GO.map Orow.row, ?_, row gb (hdrs GO) 25 :: blks GO, ⟨?_, ?_⟩, ?_, K⟩
      · rw [← hxs, List.map_map]; rfl
      · have R := RdM.ofLit (w0 := w0) (enc := arC) (m := GO.map Orow.row) (Has.hd (row gb (hdrs GO) 25) (blks GO)) (hdrs_list GO) arC_len
        rw [List.length_map, HLN.out] at R
        exact R
      · intro r hr
        obtain ⟨o, ho, rfl⟩ := List.mem_map.1 hr
        obtain ⟨f, S⟩ := blks_seg ho (row gb (hdrs GO) 25)
        exact ⟨RdS.own (hgo o ho) S, (hgo o ho).le⟩
      · intro r hr
        obtain ⟨o, ho, rfl⟩ := List.mem_map.1 hr
        have h1 := (hgo o ho).len
        rw [List.length_map] at h1
        have h2 : o.xs ∈ GO.map Orow.xs := List.mem_map.2 ⟨o, ho, rfl⟩
        rw [HXS.out] at h2
        obtain ⟨q, hq, h3⟩ := List.mem_map.1 h2
        rw [if_pos (List.mem_range.1 hq)] at h3
        have h4 := List.length_filter_le (fun x => decide (x ≠ (q : Int))) (gset ((rows.map (·.l)).getD q []) block n)
        have h5 := gset_len ((rows.map (·.l)).getD q []) block n
        have h6 : o.xs.length = (gedge ((rows.map (·.l)).getD q []) block n q).length := by rw [h3]
        unfold gedge but at h6
        show o.n ≤ n
        omega
end
end Go.Proofs.Ytffednkdmkohdaa
