/-
  safe: Check (contract).
-/
import Derived.Test.YtffednkdmkohdaaSfG
set_option linter.unusedVariables false
set_option linter.unusedSimpArgs false
namespace Go.Proofs.Ytffednkdmkohdaa
open Go.RowKit
theorem checkE_ne {ps : List (List Ast)} {os : List Int} {block old new : Int} (h : aheadE ps.length os block old new ≠ 0) : checkE ps os block old new = aheadE ps.length os block old new := by rw [checkE, if_neg h]
theorem checkE_eq {ps : List (List Ast)} {os : List Int} {block old new : Int} (h : aheadE ps.length os block old new = 0) : checkE ps os block old new = firstNZ (oneAt ps os block old new) os.length := by rw [checkE, if_pos h]
theorem oneE_cases (l : List Ast) (ws : List Int) (block old want : Int) : oneE l ws block old want = 0 ∨ (oneE l ws block old want ≠ 0 ∧ 0 ≤ oneE l ws block old want ∧ oneE l ws block old want ≤ 23) := by
  unfold oneE
  repeat' split
  all_goals omega

section
variable {w0 w : World} {L : List Ent} {A B : Option Addr} {n c m d : Nat} {rows : List (Arow Ast)} {os : List Int} {block old new : Int}
set_option maxHeartbeats 1600000 in
set_option maxRecDepth 100000 in
theorem scheck_any (K : Known w0 w L) (G : Plans w0 [] A n rows) (hc : n ≤ c) (R : RdS w0 [] .i64 B m os) (hd : m ≤ d) (hm : m ≤ 1000000) (hn : n ≤ 4096) (h6 : ∀ r ∈ rows, r.n ≤ 60) :
    Calls Try.prog 28 #[.slice A n c, .slice B m d, .int .i64 block, .int .i64 old, .int .i64 new] w fun e w' => e = .returned (.int .i64 (checkE (rows.map (·.l)) os block old new)) ∧ Known w0 w' L := by
  have hl := G.R.len
  have hol := R.len
  have hpl : (rows.map (·.l)).length = n := by rw [List.length_map, hl]
  obtain ⟨ae, hae⟩ : ∃ ae, aheadE n os block old new = ae := ⟨_, rfl⟩
  have HAE := Lib.hid hae
  by_cases h0 : ae = 0
  · subst h0
    obtain ⟨hmy, -, hon⟩ := aheadE_zero hae
    obtain ⟨hb, ho, hnw⟩ := mayS_yes hmy
    have hmn : m = n := by rw [← hol]; exact once_len hon
    subst hmn
    have HCE := Lib.hid (checkE_eq (ps := rows.map (·.l)) (by rw [hpl]; exact hae))
    have HON := Lib.hid hon
    have HOL := Lib.hid hol
    have HL := Lib.hid hl
    clear hmy hae hon hol hpl hl
    go_enter Try.func28, Try.ntmps28
    go_upto_region 6 with ((first | (go_at_call 55; (with_reducible refine (sahead_any K (R.cov (Cov.nil _)) hd hm A hc).mono ?_); clear K; rintro e w1 ⟨rfl, K⟩; rw [HAE.out]) | ((with_reducible refine at_makeSlice rfl ?_); refine wpList_does rfl (kd_make (z := .bool false) (bytes := 1) K 85 4 rfl Try.underlying85 (by kernel_rfl) rfl m m rfl rfl (Nat.le_refl _) (by omega) (by omega)) ?_; clear K; rintro _ w1 ⟨gw, rfl, K⟩) | ((with_reducible refine at_eqnil rfl ?_); refine wpList_reads rfl (kr_eqnil rfl rfl (by kernel_rfl)) ?_) | ((with_reducible refine at_box rfl ?_); refine wpList_does rfl (kd_box K _ _ rfl (by conv => lhs; whnf)) ?_; clear K; rintro _ w1 ⟨g, rfl, K⟩; (try dsimp only [Value.cells] at K)) | ((with_reducible refine at_alloc rfl ?_); refine wpList_does rfl (kd_alloc K _ rfl rfl) ?_; clear K; rintro _ w1 ⟨g, rfl, K⟩; (try dsimp only [Value.cells] at K)) | ((with_reducible refine at_buildSlice rfl ?_); refine wpList_does rfl (kd_lits (cs := _) K _ _ _ rfl (by first | rfl | (go_simp; done) | (go_simp; rfl)) (by first | rfl | (go_simp; done) | (go_simp; rfl))) ?_; clear K; rintro _ w1 ⟨g, rfl, K⟩) | ((with_reducible refine at_load rfl ?_); first | (refine wpList_reads (by rfl) (kr_load_cell K _ _ (by rfl) (by rfl) Has.auto (by decide +kernel) (by (try simp only [List.getElem?_toArray, List.getElem?_cons_succ, List.getElem?_cons_zero]); exact rfl)) ?_) | (refine wpList_reads (by rfl) (kr_load_row K _ _ (by rfl) (by rfl) Has.auto (by decide +kernel) (by kernel_rfl)) ?_)) | ((with_reducible refine at_store rfl ?_); (first | (refine wpList_does rfl (kd_store_cell K _ _ _ rfl rfl (by conv => lhs; whnf) Repl.auto rfl rfl (by kernel_rfl) (by kernel_rfl) (by first | (simp only [List.setIfInBounds_toArray, List.set_cons_succ, List.set_cons_zero]; rfl) | rfl)) ?_) | (refine wpList_does rfl (kd_store_row K _ _ _ rfl rfl rfl Repl.auto (by kernel_rfl) (by kernel_rfl) (by kernel_rfl)) ?_)); clear K; intro _ w1 K; (try simp only [Act.put]))))
    rw [marks_nil] at K
    go_loopg [34] m (fun q v wr => ∃ (k : Nat), v = .int .i64 k ∧ k + q = m ∧ Hid (firstNZ (oneAt (rows.map (·.l)) os block old new) k = 0) ∧ Known w0 wr (ckRow g gw m block old :: (wkRow gw m (os.take k) :: L)))
    case atStart => exact ⟨0, by go_num, by omega, Lib.hid rfl, K⟩
    case round =>
      clear K
      obtain ⟨k, rfl, hdk, HZ, K⟩ := hrel
      by_cases hk : k < m
      · have hk2 : decide ((k : Int) < (m : Int)) = true := decide_eq_true (by omega)
        have hkk : (0 : Int) ≤ (k : Int) ∧ (k : Int) < (m : Int) := by omega
        have i1 := IntWalk.i64_in ((k : Int) + 1) (by omega)
        have hkl : k < os.length := by have := HOL.out; omega
        have hx0 := (once_mem HON.out).1 (getD_mem hkl)
        obtain ⟨i, hx⟩ : ∃ i : Nat, os.getD k 0 = (i : Int) := ⟨(os.getD k 0).toNat, by omega⟩
        rw [hx] at hx0
        have hii : (0 : Int) ≤ (i : Int) ∧ (i : Int) < (m : Int) := by omega
        have HX := Lib.hid hx
        have hil : i < rows.length := by have := HL.out; omega
        obtain ⟨⟨rA, rn, rc, rl⟩, hp⟩ : ∃ r, r = rows[i]'hil := ⟨_, rfl⟩
        have hpm : (⟨rA, rn, rc, rl⟩ : Arow Ast) ∈ rows := by rw [hp]; exact List.getElem_mem _
        have HP := Lib.hid (show encAt arC rows i = [.slice rA rn rc] by rw [encAt_get hil, ← hp]; rfl)
        have HRL := Lib.hid (show (rows.map (·.l)).getD i [] = rl by simp [List.getD, hil, ← hp])
        obtain ⟨RR, hrc, hrs⟩ := G.row _ hpm
        have hrn : rn ≤ 100000 := by have := h6 _ hpm; simp only at this; omega
        simp only at RR hrc hrs
        have HTK := Lib.hid (show os.take (k + 1) = os.take k ++ [(i : Int)] by rw [take_getD hkl, hx])
        have HWS := Lib.hid (show ∀ x ∈ os.take k, 0 ≤ x ∧ x < (m : Int) from fun x hx => (once_mem HON.out).1 (List.mem_of_mem_take hx))
        have HF := Lib.hid (show oneAt (rows.map (·.l)) os block old new k = oneE rl (os.take k) block old (sizeS i block new) by rw [oneAt, hx, Int.toNat_natCast, HRL.out])
        have HSZ := Lib.hid (show i < (marks m (os.take k)).size by rw [marks_size]; omega)
        obtain ⟨b, off, rfl⟩ := R.form (K.cov (Cov.nil _)) (by omega)
        obtain ⟨b2, off2, rfl⟩ := G.R.form (K.cov (Cov.nil _)) (by omega)
        obtain ⟨fk, hfk⟩ : ∃ fk, oneAt (rows.map (·.l)) os block old new k = fk := ⟨_, rfl⟩
        rw [hfk] at HF
        have HFK := Lib.hid hfk
        clear hp hpm hx
        by_cases hz : fk = 0
        · subst hz
          clear hfk
          go_upto_region 8 with ((first | ((with_reducible refine at_load rfl ?_); first | (refine wpList_reads (by rfl) (kr_load_cell K _ _ (by rfl) (by rfl) Has.auto (by decide +kernel) (by (try simp only [List.getElem?_toArray, List.getElem?_cons_succ, List.getElem?_cons_zero]); exact rfl)) ?_) | (refine wpList_reads (by rfl) (kr_load_row K _ _ (by rfl) (by rfl) Has.auto (by decide +kernel) (by kernel_rfl)) ?_) | (refine wpList_reads (by rfl) (kr_load_fact _ _ (by rfl) (by rfl) (R.cell (K.cov (Cov.nil _)) (by omega) HX.out rfl) (by decide +kernel)) ?_))))
          refine wp_region_GK K (Cov.all _) (by kernel_rfl) (by kernel_rfl) (by kernel_rfl) (fun K hHeld => ?_)
          refine wpG_takeA 0 (v := ?_) ?_ hHeld ?_
          rotate_left
          · (intro w hS; (clear hS; go_simp); try with_reducible rfl)
          try simp only [Act.put, List.setIfInBounds_toArray, List.set_cons_zero, List.set_cons_succ]
          refine wpG_takeA 1 (v := ?_) ?_ hHeld ?_
          rotate_left
          · (intro w hS; (clear hS; go_simp); try with_reducible rfl)
          try simp only [Act.put, List.setIfInBounds_toArray, List.set_cons_zero, List.set_cons_succ]
          refine wpG_takeA 2 (v := ?_) ?_ hHeld ?_
          rotate_left
          · (intro w hS; (clear hS; go_simp); try with_reducible rfl)
          try simp only [Act.put, List.setIfInBounds_toArray, List.set_cons_zero, List.set_cons_succ]
          refine wpG_takeA 3 (v := ?_) ?_ hHeld ?_
          rotate_left
          · (intro w hS; (clear hS; go_simp); try with_reducible rfl)
          try simp only [Act.put, List.setIfInBounds_toArray, List.set_cons_zero, List.set_cons_succ]
          refine wpG_takeA 4 (v := .slice rA rn rc) ?_ hHeld ?_
          · (intro w hS; first | exact kr_load_rcell hS _ _ (by rfl) (i) 0 (by rfl) (G.R.cov (Cov.nil _)) (by omega) HP.out (by rfl) (by omega) (by kernel_rfl))
          try simp only [Act.put, List.setIfInBounds_toArray, List.set_cons_zero, List.set_cons_succ]
          refine wpG_takeA 5 (v := ?_) ?_ hHeld ?_
          rotate_left
          · (intro w hS; (clear hS; go_simp); try with_reducible rfl)
          try simp only [Act.put, List.setIfInBounds_toArray, List.set_cons_zero, List.set_cons_succ]
          refine wpG_takeA 6 (v := ?_) ?_ hHeld ?_
          rotate_left
          · (intro w hS; (clear hS; go_simp); try with_reducible rfl)
          try simp only [Act.put, List.setIfInBounds_toArray, List.set_cons_zero, List.set_cons_succ]
          refine wpG_takeA 7 (v := ?_) ?_ hHeld ?_
          rotate_left
          · (intro w hS; (clear hS; go_simp); try with_reducible rfl)
          try simp only [Act.put, List.setIfInBounds_toArray, List.set_cons_zero, List.set_cons_succ]
          refine wpG_takeC (i := 8) (x := { dst := some 46, op := Op.call { callee := Callee.value (Operand.func 57), args := #[Operand.tmp 43, Operand.tmp 44, Operand.tmp 45], argTypes := #[3, 3, 3] }, type := 3, pos := "safe.go:110", after := #[{ on := 5, ground := Ground.data }, { on := 6, ground := Ground.data }, { on := 7, ground := Ground.data }], guard := none }) (v := .int .i64 (sizeS i block new)) (f := 57) (args := ?_) rfl (by kernel_rfl) (fun _ _ _ h => h) (by rfl) ?_ ?_ hHeld ?_
          rotate_left
          · (intro w; go_simp; try with_reducible rfl)
          · (intro w hS; exact (ssize_any (i := (i : Int)) (block := block) (new := new) (by omega) (by omega) (by omega) _))
          try simp only [Act.put, List.setIfInBounds_toArray, List.set_cons_zero, List.set_cons_succ]
          refine wpG_oneA 9 (fun K9 hK => ?_)
          go_simp
          (go_at_call 56; (with_reducible refine (cplan_any K (Has.hd _ _) (Has.tl _ (Has.hd _ _)) (RR.cov (Cov.nil _)) hrc hrn hb (by omega) hn HWS.out _).mono ?_); clear K; rintro e w1 ⟨rfl, K⟩; rw [← HF.out])
          refine hK.out _ _ (K.cov Cov.auto) (fun hHeld => ?_)
          clear hK K9
          try simp only [Act.put, List.setIfInBounds_toArray, List.set_cons_zero, List.set_cons_succ]
          refine wpG_takeA 10 (v := ?_) ?_ hHeld ?_
          rotate_left
          · (intro w hS; (clear hS; go_simp); try with_reducible rfl)
          try simp only [Act.put, List.setIfInBounds_toArray, List.set_cons_zero, List.set_cons_succ]
          refine wpG_done (by kernel_rfl) ?_
          skip
          go_wp2_with (first | ((with_reducible refine at_load rfl ?_); refine wpList_reads (by rfl) (kr_load_cell K _ _ (by rfl) (by rfl) Has.auto (by kernel_rfl) (by rfl)) ?_) | ((with_reducible refine at_store rfl ?_); refine wpList_does rfl (kd_store_cell K _ _ _ rfl rfl (by conv => lhs; whnf) Repl.auto rfl rfl (by kernel_rfl) (decide_eq_true HSZ.out) rfl) ?_; clear K; intro _ w1 K))
          go_roundg (gk - 1)
          case measure => omega
          case rel => exact ⟨k + 1, by go_num, by omega, Lib.hid (firstNZ_step HZ.out HFK.out), by rw [HTK.out, wkRow, ← marks_set _ (by omega)]; exact K.cov Cov.auto⟩
        · have e1 : (fk == 0) = false := by simpa using hz
          have HR := Lib.hid (show checkE (rows.map (·.l)) os block old new = fk by rw [HCE.out, firstNZ_at HZ.out hkl (by rw [hfk]; exact hz), hfk])
          clear hfk
          go_upto_region 8 with ((first | ((with_reducible refine at_load rfl ?_); first | (refine wpList_reads (by rfl) (kr_load_cell K _ _ (by rfl) (by rfl) Has.auto (by decide +kernel) (by (try simp only [List.getElem?_toArray, List.getElem?_cons_succ, List.getElem?_cons_zero]); exact rfl)) ?_) | (refine wpList_reads (by rfl) (kr_load_row K _ _ (by rfl) (by rfl) Has.auto (by decide +kernel) (by kernel_rfl)) ?_) | (refine wpList_reads (by rfl) (kr_load_fact _ _ (by rfl) (by rfl) (R.cell (K.cov (Cov.nil _)) (by omega) HX.out rfl) (by decide +kernel)) ?_))))
          refine wp_region_GK K (Cov.all _) (by kernel_rfl) (by kernel_rfl) (by kernel_rfl) (fun K hHeld => ?_)
          refine wpG_takeA 0 (v := ?_) ?_ hHeld ?_
          rotate_left
          · (intro w hS; (clear hS; go_simp); try with_reducible rfl)
          try simp only [Act.put, List.setIfInBounds_toArray, List.set_cons_zero, List.set_cons_succ]
          refine wpG_takeA 1 (v := ?_) ?_ hHeld ?_
          rotate_left
          · (intro w hS; (clear hS; go_simp); try with_reducible rfl)
          try simp only [Act.put, List.setIfInBounds_toArray, List.set_cons_zero, List.set_cons_succ]
          refine wpG_takeA 2 (v := ?_) ?_ hHeld ?_
          rotate_left
          · (intro w hS; (clear hS; go_simp); try with_reducible rfl)
          try simp only [Act.put, List.setIfInBounds_toArray, List.set_cons_zero, List.set_cons_succ]
          refine wpG_takeA 3 (v := ?_) ?_ hHeld ?_
          rotate_left
          · (intro w hS; (clear hS; go_simp); try with_reducible rfl)
          try simp only [Act.put, List.setIfInBounds_toArray, List.set_cons_zero, List.set_cons_succ]
          refine wpG_takeA 4 (v := .slice rA rn rc) ?_ hHeld ?_
          · (intro w hS; first | exact kr_load_rcell hS _ _ (by rfl) (i) 0 (by rfl) (G.R.cov (Cov.nil _)) (by omega) HP.out (by rfl) (by omega) (by kernel_rfl))
          try simp only [Act.put, List.setIfInBounds_toArray, List.set_cons_zero, List.set_cons_succ]
          refine wpG_takeA 5 (v := ?_) ?_ hHeld ?_
          rotate_left
          · (intro w hS; (clear hS; go_simp); try with_reducible rfl)
          try simp only [Act.put, List.setIfInBounds_toArray, List.set_cons_zero, List.set_cons_succ]
          refine wpG_takeA 6 (v := ?_) ?_ hHeld ?_
          rotate_left
          · (intro w hS; (clear hS; go_simp); try with_reducible rfl)
          try simp only [Act.put, List.setIfInBounds_toArray, List.set_cons_zero, List.set_cons_succ]
          refine wpG_takeA 7 (v := ?_) ?_ hHeld ?_
          rotate_left
          · (intro w hS; (clear hS; go_simp); try with_reducible rfl)
          try simp only [Act.put, List.setIfInBounds_toArray, List.set_cons_zero, List.set_cons_succ]
          refine wpG_takeC (i := 8) (x := { dst := some 46, op := Op.call { callee := Callee.value (Operand.func 57), args := #[Operand.tmp 43, Operand.tmp 44, Operand.tmp 45], argTypes := #[3, 3, 3] }, type := 3, pos := "safe.go:110", after := #[{ on := 5, ground := Ground.data }, { on := 6, ground := Ground.data }, { on := 7, ground := Ground.data }], guard := none }) (v := .int .i64 (sizeS i block new)) (f := 57) (args := ?_) rfl (by kernel_rfl) (fun _ _ _ h => h) (by rfl) ?_ ?_ hHeld ?_
          rotate_left
          · (intro w; go_simp; try with_reducible rfl)
          · (intro w hS; exact (ssize_any (i := (i : Int)) (block := block) (new := new) (by omega) (by omega) (by omega) _))
          try simp only [Act.put, List.setIfInBounds_toArray, List.set_cons_zero, List.set_cons_succ]
          refine wpG_oneA 9 (fun K9 hK => ?_)
          go_simp
          (go_at_call 56; (with_reducible refine (cplan_any K (Has.hd _ _) (Has.tl _ (Has.hd _ _)) (RR.cov (Cov.nil _)) hrc hrn hb (by omega) hn HWS.out _).mono ?_); clear K; rintro e w1 ⟨rfl, K⟩; rw [← HF.out])
          refine hK.out _ _ (K.cov Cov.auto) (fun hHeld => ?_)
          clear hK K9
          try simp only [Act.put, List.setIfInBounds_toArray, List.set_cons_zero, List.set_cons_succ]
          refine wpG_takeA 10 (v := ?_) ?_ hHeld ?_
          rotate_left
          · (intro w hS; (clear hS; go_simp); try with_reducible rfl)
          try simp only [Act.put, List.setIfInBounds_toArray, List.set_cons_zero, List.set_cons_succ]
          refine wpG_done (by kernel_rfl) ?_
          skip
          go_wp2
          go_ret
          exact ⟨by rw [HR.out]; rfl, K.cov Cov.auto⟩
      · have hk2 : decide ((k : Int) < (m : Int)) = false := decide_eq_false (by omega)
        have HR := Lib.hid (show checkE (rows.map (·.l)) os block old new = 0 by rw [HCE.out, HOL.out, show m = k by omega]; exact HZ.out)
        go_wp2
        go_ret
        exact ⟨by rw [HR.out]; rfl, K.cov Cov.auto⟩
  · have e1 : (ae == 0) = false := by simpa using h0
    have HR := Lib.hid (show checkE (rows.map (·.l)) os block old new = ae by rw [checkE_ne (by rw [hpl, hae]; exact h0), hpl, hae])
    clear hae hpl hl hol
    go_enter Try.func28, Try.ntmps28
    go_wp2_with (first | (go_at_call 55; (with_reducible refine (sahead_any K (R.cov (Cov.nil _)) hd hm A hc).mono ?_); clear K; rintro e w1 ⟨rfl, K⟩; rw [HAE.out]))
    go_ret
    exact ⟨by rw [HR.out]; rfl, K.cov Cov.auto⟩
end
end Go.Proofs.Ytffednkdmkohdaa
