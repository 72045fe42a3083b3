/-
  graph: Turned (contract): the walk.
-/
import Derived.Test.YtffednkdmkohdaaGrJ
set_option linter.unusedVariables false
set_option linter.unusedSimpArgs false
namespace Go.Proofs.Ytffednkdmkohdaa
open Go.RowKit

section
variable {w0 w : World} {L : List Ent} {A : Option Addr} {n c : Nat} {rows : List (Arow Int)}
set_option maxHeartbeats 3200000 in
set_option maxRecDepth 100000 in
theorem gturned_any (K : Known w0 w L) (G : Grid w0 L A n rows) (hc : n ≤ c) (hn : n ≤ 4096) (hr9 : ∀ r ∈ rows, r.n ≤ 1000000) (hrt : rightG (rows.map (·.l)) = true) : Calls Try.prog 20 #[.slice A n c] w fun e w' => ∃ A' c', e = .returned (.tuple #[.slice A' n c', .int .i64 0]) ∧ n ≤ c' ∧ ∃ (rows' : List (Arow Int)), rows'.map (·.l) = turned (rows.map (·.l)) ∧ ∃ X, Grid w0 X A' n rows' ∧ (∀ r ∈ rows', r.n ≤ n) ∧ Known w0 w' (X ++ L) := by
  have hl := G.R.len
  have HLR := Lib.hid (show (rows.map (·.l)).length = n by rw [List.length_map, hl])
  have HRT := Lib.hid hrt
  clear hrt
  go_enter Try.func20, Try.ntmps20
  go_upto_region 5 with ((first | (go_at_call 51; (with_reducible refine (gright_any K G hc (by omega) hr9).mono ?_); rintro e w' ⟨rfl, rfl⟩; rw [HRT.out]) | ((with_reducible refine at_makeSlice rfl ?_); refine wpList_does rfl (kd_make (z := .slice none 0 0) (bytes := 24) K 33 25 rfl Try.underlying33 (by kernel_rfl) rfl n n rfl rfl (Nat.le_refl _) (by omega) (by omega)) ?_; clear K; rintro _ w1 ⟨gb, rfl, K⟩)))
  obtain ⟨G0, hG0⟩ : ∃ G0, G0 = List.replicate n (⟨none, 0, 0, [], []⟩ : Orow) := ⟨_, rfl⟩
  have hcs : Array.replicate n (Value.slice none 0 0) = hdrs G0 := by rw [hG0]; simp [hdrs, Orow.hdr]
  have hbk : blks G0 = [] := by rw [hG0]; simp [blks]
  replace K : Known w0 w1 (row gb (hdrs G0) 25 :: (blks G0 ++ L)) := by rw [hbk, ← hcs]; exact K
  go_loopg [17] n (fun q v wr => ∃ (i : Nat) (GO : List Orow), v = .int .i64 i ∧ i + q = n ∧ Hid (GO.length = n) ∧ (∀ r ∈ GO, OwnL 3 1 r.A r.n r.c (r.xs.map (Value.int .i64)) r.X) ∧ Hid (GO.map Orow.xs = (List.range n).map fun k => readers (rows.map (·.l)) k i) ∧ Known w0 wr (row gb (hdrs GO) 25 :: (blks GO ++ L)))
  case atStart => exact ⟨0, G0, by go_num, by omega, Lib.hid (by rw [hG0, List.length_replicate]), fun r hr => by rw [hG0] at hr; rw [(List.mem_replicate.1 hr).2]; exact OwnL.nil _ _, Lib.hid (by rw [hG0]; apply List.ext_getElem <;> simp [readers]), K⟩
  case round =>
    clear K hcs hbk hG0
    obtain ⟨i, GO, rfl, hdi, HLN, hgo, HXS, K⟩ := hrel
    by_cases hi : i < n
    · have hi2 : decide ((i : Int) < (n : Int)) = true := decide_eq_true (by omega)
      have hii : (0 : Int) ≤ (i : Int) ∧ (i : Int) < (n : Int) := by omega
      have i1 := IntWalk.i64_in ((i : Int) + 1) (by omega)
      obtain ⟨b, off, rfl⟩ := G.R.form (K.cov Cov.auto) (by omega)
      obtain ⟨⟨rA, rn, rc, rl⟩, hp⟩ : ∃ r, r = rows[i]'(by omega) := ⟨_, rfl⟩
      have hpm : (⟨rA, rn, rc, rl⟩ : Arow Int) ∈ rows := by rw [hp]; exact List.getElem_mem _
      have HP := Lib.hid (show encAt arC rows i = [.slice rA rn rc] by rw [encAt_get (by omega), ← hp]; rfl)
      have HRL := Lib.hid (show (rows.map (·.l)).getD i [] = rl by simp [List.getD, show i < rows.length by omega, ← hp])
      have HOK := Lib.hid (show okRow n i rl = true by rw [← HRL.out]; have := rightG_row HRT.out (i := i) (by rw [HLR.out]; exact hi); rw [HLR.out] at this; exact this)
      have RR := (G.row _ hpm).1
      have hrc := (G.row _ hpm).2
      have hrn := hr9 _ hpm
      have hrl := RR.len
      simp only at RR hrc hrn hrl
      clear hp hpm
      go_upto_region 8 with ((first | ((with_reducible refine at_load rfl ?_); refine wpList_reads (by rfl) (kr_load_rcell K _ _ (by rfl) (i) 0 (by rfl) (G.R.cov Cov.auto) (by omega) HP.out (by rfl) (by omega) (by kernel_rfl)) ?_)))
      obtain ⟨og, hog⟩ : ∃ og, og = gk := ⟨_, rfl⟩
      go_loopg [24] rn (fun q v w2 => ∃ (p : Nat) (GO : List Orow), v = .int .i64 p ∧ p + q = rn ∧ Hid (GO.length = n) ∧ (∀ r ∈ GO, OwnL 3 1 r.A r.n r.c (r.xs.map (Value.int .i64)) r.X) ∧ Hid (GO.map Orow.xs = (List.range n).map fun k => readers (rows.map (·.l)) k i ++ (if (k : Int) ∈ rl.take p then [(i : Int)] else [])) ∧ Known w0 w2 (row gb (hdrs GO) 25 :: (blks GO ++ L)))
      case atStart => exact ⟨0, GO, by go_num, by omega, HLN, hgo, Lib.hid (by rw [HXS.out]; simp), K⟩
      case round =>
        clear K HXS hgo HLN
        obtain ⟨p, GO, rfl, hdp, HLN, hgo, HXS, K⟩ := hrel
        by_cases hpp : p < rn
        · have hp2 : decide ((p : Int) < (rn : Int)) = true := decide_eq_true (by omega)
          have hp3 : (0 : Int) ≤ (p : Int) ∧ (p : Int) < (rn : Int) := by omega
          have i2 := IntWalk.i64_in ((p : Int) + 1) (by omega)
          have hok := okAt_yes (okRow_at HOK.out (k := p) (by omega))
          obtain ⟨k, hk⟩ : ∃ k : Nat, rl.getD p 0 = (k : Int) := ⟨(rl.getD p 0).toNat, by omega⟩
          have hkn : k < n := by omega
          have hkk : (0 : Int) ≤ (k : Int) ∧ (k : Int) < (n : Int) := by omega
          have HX := Lib.hid hk
          have HNW := Lib.hid (show (k : Int) ∉ rl.take p by rw [← hk]; exact okRow_new HOK.out (by omega))
          obtain ⟨b2, off2, rfl⟩ := RR.form (K.cov Cov.auto) (by omega)
          have hkl : k < GO.length := by rw [HLN.out]; exact hkn
          obtain ⟨⟨Ar, nr, cr, xr, Xr⟩, hr⟩ : ∃ r, r = GO[k]'hkl := ⟨_, rfl⟩
          have hrm : (⟨Ar, nr, cr, xr, Xr⟩ : Orow) ∈ GO := by rw [hr]; exact List.getElem_mem _
          have OR := hgo _ hrm
          have hnr := rows_n1 HXS.out hrm
          simp only at OR hnr
          have hol := OR.len
          rw [List.length_map] at hol
          have HHD := Lib.hid (show (hdrs GO)[k]? = some (.slice Ar nr cr) by rw [hdrs_get hkl, ← hr]; rfl)
          have HSZ := Lib.hid (show k < (hdrs GO).size by rw [hdrs_size]; exact hkl)
          obtain ⟨P, hP⟩ : ∃ P, P = blks (GO.take k) := ⟨_, rfl⟩
          obtain ⟨S, hS⟩ : ∃ S, S = blks (GO.drop (k + 1)) := ⟨_, rfl⟩
          have hfm : blks GO = P ++ (Xr ++ S) := by rw [blks_at hkl, ← hr, hP, hS]
          have HBS := Lib.hid (fun (r : Orow) => show blks (GO.set k r) = P ++ (r.X ++ S) by rw [blks_set hkl, hP, hS])
          have HRX := Lib.hid (show (GO[k]'hkl).xs = xr by rw [← hr])
          rw [hfm] at K
          simp only [List.append_assoc] at K
          have hnb : nr + 1 ≤ 34000000000 := by omega
          clear hok hk hr hrm hP hS hfm
          go_wp2_with (first | ((with_reducible refine at_load rfl ?_); refine wpList_reads (by rfl) (kr_load_fact _ _ (by rfl) (by rfl) (RR.cell (j := p) (K.cov Cov.auto) (by omega) HX.out rfl) (by decide +kernel)) ?_) | ((with_reducible refine at_load rfl ?_); refine wpList_reads (by rfl) (kr_load_cell K _ _ (by rfl) (by rfl) Has.auto (by decide +kernel) HHD.out) ?_) | (at_builtin; refine wpList_does rfl (kd_appendN K _ _ rfl rfl rfl (by with_reducible assumption) Seg.auto (Rd.ofBlk (n := 1) (xs := [_]) (K.blk Has.auto) rfl rfl) (by kernel_rfl) (by kernel_rfl) (by omega)) ?_; clear K; rintro _ w1 ⟨A1, c1, X1, rfl, OR, K⟩; (try simp only [Nat.zero_add, List.nil_append] at OR)) | ((with_reducible refine at_store rfl ?_); refine wpList_does rfl (kd_store_cell K _ _ _ rfl rfl (by conv => lhs; whnf) Repl.auto rfl rfl (by kernel_rfl) (decide_eq_true HSZ.out) rfl) ?_; clear K; intro _ w1 K) | ((with_reducible refine at_eqnil rfl ?_); refine wpList_reads rfl (kr_eqnil rfl rfl (by kernel_rfl)) ?_) | ((with_reducible refine at_box rfl ?_); refine wpList_does rfl (kd_box K _ _ rfl (by conv => lhs; whnf)) ?_; clear K; rintro _ w1 ⟨g, rfl, K⟩; (try dsimp only [Value.cells] at K)) | ((with_reducible refine at_alloc rfl ?_); refine wpList_does rfl (kd_alloc K _ rfl rfl) ?_; clear K; rintro _ w1 ⟨g, rfl, K⟩; (try dsimp only [Value.cells] at K)) | ((with_reducible refine at_buildSlice rfl ?_); refine wpList_does rfl (kd_lits (cs := _) K _ _ _ rfl (by first | rfl | (go_simp; done) | (go_simp; rfl)) (by first | rfl | (go_simp; done) | (go_simp; rfl))) ?_; clear K; rintro _ w1 ⟨g, rfl, K⟩) | ((with_reducible refine at_load rfl ?_); first | (refine wpList_reads (by rfl) (kr_load_cell K _ _ (by rfl) (by rfl) Has.auto (by decide +kernel) (by (try simp only [List.getElem?_toArray, List.getElem?_cons_succ, List.getElem?_cons_zero]); exact rfl)) ?_) | (refine wpList_reads (by rfl) (kr_load_row K _ _ (by rfl) (by rfl) Has.auto (by decide +kernel) (by kernel_rfl)) ?_)) | ((with_reducible refine at_store rfl ?_); (first | (refine wpList_does rfl (kd_store_cell K _ _ _ rfl rfl (by conv => lhs; whnf) Repl.auto rfl rfl (by kernel_rfl) (by kernel_rfl) (by first | (simp only [List.setIfInBounds_toArray, List.set_cons_succ, List.set_cons_zero]; rfl) | rfl)) ?_) | (refine wpList_does rfl (kd_store_row K _ _ _ rfl rfl rfl Repl.auto (by kernel_rfl) (by kernel_rfl) (by kernel_rfl)) ?_)); clear K; intro _ w1 K; (try simp only [Act.put])))
          have HRS := rows_step (r' := ⟨A1, nr + 1, c1, xr ++ [(i : Int)], X1⟩) hkn HLN.out HXS.out (by omega) HX.out HNW.out (by rw [HRX.out])
          go_roundg (gk - 1)
          case measure => omega
          case rel => exact ⟨p + 1, GO.set k ⟨A1, nr + 1, c1, xr ++ [(i : Int)], X1⟩, by go_num, by omega, Lib.hid (by rw [List.length_set]; exact HLN.out), (by
            intro r hr
            rcases List.mem_or_eq_of_mem_set hr with hr | hr
            · exact hgo _ hr
            · rw [hr]
              simpa using OR), Lib.hid HRS, by
            rw [HBS.out, ← hdrs_set]
            simp only [List.append_assoc, Orow.hdr]
            exact K.cov Cov.auto⟩
        · have hp2 : decide ((p : Int) < (rn : Int)) = false := decide_eq_false (by omega)
          have hpr : rl.take p = rl := List.take_of_length_le (by omega)
          rw [hpr] at HXS
          clear hpr
          go_wp2
          go_roundg (og - 1)
          case measure => omega
          case rel => exact ⟨i + 1, GO, by go_num, by omega, HLN, hgo, Lib.hid (by
            rw [HXS.out]
            apply List.map_congr_left
            intro k _
            rw [readers_succ, HRL.out]), K⟩
    · have hi2 : decide ((i : Int) < (n : Int)) = false := decide_eq_false (by omega)
      obtain rfl : n = i := by omega
      go_wp2
      go_ret2
      refine ⟨some ⟨gb, 0, none⟩, n, rfl, Nat.le_refl _, GO.map Orow.row, ?_, row gb (hdrs GO) 25 :: blks GO, ⟨?_, ?_⟩, ?_, K⟩
      · rw [turned, HLR.out, ← HXS.out, List.map_map]; rfl
      · have R := RdM.ofLit (w0 := w0) (enc := arC) (m := GO.map Orow.row) (Has.hd (row gb (hdrs GO) 25) (blks GO)) (hdrs_list GO) arC_len
        rw [List.length_map, HLN.out] at R
        exact R
      · intro r hr
        obtain ⟨o, ho, rfl⟩ := List.mem_map.1 hr
        obtain ⟨f, S⟩ := blks_seg ho (row gb (hdrs GO) 25)
        exact ⟨RdS.own (hgo o ho) S, (hgo o ho).le⟩
      · intro r hr
        obtain ⟨o, ho, rfl⟩ := List.mem_map.1 hr
        have h1 := (hgo o ho).len
        rw [List.length_map] at h1
        have h2 := rows_n0 HXS.out ho
        show o.n ≤ n
        omega
end
end Go.Proofs.Ytffednkdmkohdaa
