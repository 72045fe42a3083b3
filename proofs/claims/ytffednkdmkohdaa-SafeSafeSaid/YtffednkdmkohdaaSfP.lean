/-
  safe: Fold (contract).
-/
import Derived.Test.YtffednkdmkohdaaSfN
set_option linter.unusedVariables false
set_option linter.unusedSimpArgs false
namespace Go.Proofs.Ytffednkdmkohdaa
open Go.RowKit
theorem RdS.u8row {w0 : World} {L : List Ent} {g n : Nat} {xs : List Int} {t : TypeId} (h : Has (row g (u8s xs) t) L) (hl : xs.length = n) : RdS w0 L .u8 (some ⟨g, 0, none⟩) n xs :=
  RdS.ofRow h hl (by rw [List.drop_zero, List.take_of_length_le (by simp [u8s, hl])]; simp [u8s])
theorem RdS.cut00 {k : IntKind} {w0 : World} {L : List Ent} {A : Option Addr} {n c : Nat} {xs : List Int} (hR : RdS w0 L k A n xs) (m : Nat) (h : m ≤ n) (hc : n ≤ c) : RdS w0 L k (cutA A c 0) m (xs.take m) := by
  have := hR.cut 0 m (by omega) hc
  rwa [List.drop_zero] at this
theorem splice_write {img xs : List Int} {at_ m : Nat} (hm : xs.length ≤ m) (h : at_ + xs.length ≤ img.length) : splice (u8s img) at_ ((xs.take m).map (Value.int .u8)) = u8s (writeAt img at_ xs) := by
  rw [List.take_of_length_le hm]
  unfold splice u8s writeAt
  simp [List.map_take, List.map_drop]
theorem splice_pad {bs : List Int} {M : Nat} (h : bs.length ≤ M) : splice (Array.replicate M (Value.int .u8 0)) 0 ((bs.take M).map (Value.int .u8)) = u8s (padTo M bs) := by
  rw [List.take_of_length_le h]
  unfold splice u8s padTo
  simp
section
variable {P : Program} {w0 W : World} {L : List Ent} {o : Oper} {a : Act}
theorem kr_tail {T e : TypeId} {x y : Operand} (ho : o.op = .slice T x (some y) none none) {g n c m : Nat} (hx : a.eval x = .slice (some ⟨g, 0, none⟩) n c) (hy : a.eval y = .int .i64 m) (h : m < n) (hc : n ≤ c) (hT : P.underlying T = some (.slice e)) (hs : sizeIs P e 1 = true) :
    (execOp a.eval o).run P W = .ok (.value (.slice (some ⟨g, m, none⟩) (n - m) (c - m))) W := by
  unfold execOp
  have h1 := run_sliceAt (W := W) (A := some ⟨g, 0, none⟩) (n := n) (c := c) (i := m) (j := n) hT hs (some (a.eval y)) none (.inr (by rw [hy])) (.inl ⟨rfl, rfl⟩) (by omega) (by omega) hc
  rw [if_neg (by omega)] at h1
  simp only [ho, hx, Option.map_none, Option.map_some, h1, Sem.run_bind, Result.andThen_ok, Sem.run_pure]
  simp [Addr.add]
  try (intro h; omega)
theorem kr_front3 {T e : TypeId} {x y z : Operand} (ho : o.op = .slice T x none (some y) (some z)) {g n c m : Nat} (hx : a.eval x = .slice (some ⟨g, 0, none⟩) n c) (hy : a.eval y = .int .i64 m) (hz : a.eval z = .int .i64 m) (h : m ≤ c) (hT : P.underlying T = some (.slice e)) (hs : sizeIs P e 1 = true) :
    (execOp a.eval o).run P W = .ok (.value (.slice (some ⟨g, 0, none⟩) m m)) W := by
  have b1 : (Instr.sliceBound (.int .i64 (m : Int)) c .slice3Acap).run P W = .ok m W := by
    rw [run_sliceBound W .i64 (m : Int) c .slice3Acap (by omega) (by omega)]; simp
  have b2 : (Instr.sliceBound (.int .i64 (m : Int)) m .slice3B).run P W = .ok m W := by
    rw [run_sliceBound W .i64 (m : Int) m .slice3B (by omega) (by omega)]; simp
  have b3 : (Instr.sliceAt T (.slice (some ⟨g, 0, none⟩) n c) none (some (.int .i64 m)) (some (.int .i64 m))).run P W = .ok (.slice (some ⟨g, 0, none⟩) m m) W := by
    unfold Instr.sliceAt
    simp [run_underlying hT, Instr.slice, Instr.sliceBounds, b1, b2, sizeIs_run hs, Sem.run_bind, Addr.add]
  unfold execOp
  simp only [ho, hx, hy, hz, Option.map_none, Option.map_some, b3, Sem.run_bind, Result.andThen_ok, Sem.run_pure]
theorem kr_iface {T e : TypeId} {x : Operand} (ho : o.op = .makeInterface T x) {v : Value} (hx : a.eval x = v) (hT : P.underlying T = some (.slice e)) : (execOp a.eval o).run P W = .ok (.value (.iface T v)) W := by
  unfold execOp
  simp [ho, hx, Instr.makeInterface, run_underlying hT, Sem.run_bind]
end
theorem foldE_ne {b : List Int} {ps : List (List Ast)} {os : List Int} {block new ae : Int} (h : aheadE ps.length os block b.length new = ae) (h0 : ae ≠ 0) : foldE b ps os block new = ([], ae) := by rw [foldE, if_neg (by rw [h]; exact h0), h]
theorem foldSt_step {ps : List (List Ast)} {os : List Int} {block new : Int} {no : Nat} {img0 img : List Int} {k i : Nat} {rl xs : List Int} {l : List Ast} {er : Int} (h : foldSt ps os block new no img0 k = (img, 0)) (hx : os.getD k 0 = (i : Int)) (hl : ps.getD i [] = l) (he : evalE l (img.take no) (sizeS i block new) = (xs, er)) :
    foldSt ps os block new no img0 (k + 1) = if er = 0 then (writeAt img ((i : Int) * block).toNat xs, 0) else ([], er) := by
  rw [foldSt]
  simp only [h, if_true, hx, Int.toNat_natCast, hl, he]

section
variable {w0 w : World} {L : List Ent} {bA A B : Option Addr} {bn bc n c m d : Nat} {bs : List Int} {rows : List (Arow Ast)} {os : List Int} {block new : Int}
set_option maxHeartbeats 3200000 in
set_option maxRecDepth 100000 in
theorem sfold_any (K : Known w0 w L) (Rb : RdS w0 L .u8 bA bn bs) (hbc : bn ≤ bc) (hbn : bn ≤ 100000) (G : Plans w0 [] A n rows) (hc : n ≤ c) (R : RdS w0 [] .i64 B m os) (hd : m ≤ d) (hm : m ≤ 1000) (hn : n ≤ 4096) (h6 : ∀ r ∈ rows, r.n ≤ 60) (hnew : new ≤ 100000) :
    Calls Try.prog 30 #[.slice bA bn bc, .slice A n c, .slice B m d, .int .i64 block, .int .i64 new] w fun e w' => ∃ A' k c', e = .returned (.tuple #[.slice A' k c', .int .i64 (foldE bs (rows.map (·.l)) os block new).2]) ∧ k ≤ c' ∧ Hid (k = (foldE bs (rows.map (·.l)) os block new).1.length) ∧ ∃ X, RdS w0 X .u8 A' k (foldE bs (rows.map (·.l)) os block new).1 ∧ Known w0 w' (X ++ L) := by
  have HL := Lib.hid G.R.len
  have hol := R.len
  have HBL := Lib.hid Rb.len
  have hpl : (rows.map (·.l)).length = n := by rw [List.length_map, G.R.len]
  obtain ⟨ae, hae⟩ : ∃ ae, aheadE n os block bn new = ae := ⟨_, rfl⟩
  have HAE := Lib.hid hae
  have hae2 : aheadE (rows.map (·.l)).length os block bs.length new = ae := by rw [hpl, HBL.out, hae]
  by_cases h0 : ae = 0
  rotate_left
  · have e1 : (ae == 0) = false := by simpa using h0
    have HR := Lib.hid (foldE_ne hae2 h0)
    clear hae hae2 hpl hol
    go_enter Try.func30, Try.ntmps30
    go_wp2_with (first | (go_at_call 55; (with_reducible refine (sahead_any K (R.cov (Cov.nil _)) hd (by omega) A hc).mono ?_); clear K; rintro e w1 ⟨rfl, K⟩; rw [HAE.out]))
    go_ret2
    exact ⟨none, 0, 0, by rw [HR.out]; rfl, Nat.le_refl _, Lib.hid (by rw [HR.out]; rfl), [], by rw [HR.out]; exact RdS.nil _ _ _ _, K⟩
  subst h0
  obtain ⟨hmy, -, hon⟩ := aheadE_zero hae
  obtain ⟨hb, ho, hnw⟩ := mayS_yes hmy
  have hnb := (aheadE_zero hae).2.1
  obtain ⟨nw, rfl⟩ : ∃ nw : Nat, new = (nw : Int) := ⟨new.toNat, by omega⟩
  have hmn : m = n := by rw [← hol]; exact once_len hon
  subst hmn
  obtain ⟨M, hM⟩ : ∃ M, M = max bn nw := ⟨_, rfl⟩
  have hM2 : max (bn : Int) (nw : Int) = (M : Int) := by omega
  have hMb : bn ≤ M ∧ nw ≤ M ∧ M ≤ 100000 := by omega
  obtain ⟨img0, him0⟩ : ∃ img0, img0 = padTo M bs := ⟨_, rfl⟩
  have HIM0 := Lib.hid (show img0.length = M by rw [him0]; exact padTo_len (by have := HBL.out; omega))
  have HFE := Lib.hid (show foldE bs (rows.map (·.l)) os block nw = (if (foldSt (rows.map (·.l)) os block nw bn img0 m).2 = 0 then ((foldSt (rows.map (·.l)) os block nw bn img0 m).1.take nw, 0) else ([], (foldSt (rows.map (·.l)) os block nw bn img0 m).2)) by
    rw [foldE, if_pos hae2, HBL.out, Int.toNat_natCast, ← hM, ← him0, hol])
  have HON := Lib.hid hon
  have HOL := Lib.hid hol
  have HNB := Lib.hid hnb
  have HIP := Lib.hid him0
  clear hmy hae hae2 hon hol hpl him0 hnb hM
  go_enter Try.func30, Try.ntmps30
  go_upto_region 8 with ((first | (go_at_call 55; (with_reducible refine (sahead_any K (R.cov (Cov.nil _)) hd (by omega) A hc).mono ?_); clear K; rintro e w1 ⟨rfl, K⟩; rw [HAE.out]) | ((with_reducible refine at_makeSlice rfl ?_); refine wpList_does rfl (kd_make (z := .int .u8 0) (bytes := 1) K 48 5 rfl Try.underlying48 (by kernel_rfl) rfl M M rfl rfl (Nat.le_refl _) (by omega) (by omega)) ?_; clear K; rintro _ w1 ⟨gi, rfl, K⟩) | ((with_reducible refine at_copy rfl ?_); refine wpList_does rfl (kd_copy K rfl rfl rfl ((Rb.cov Cov.auto).at_ _ K) Try.underlying48 (by kernel_rfl) Repl.auto (by rw [Array.size_replicate]; omega)) ?_; clear K; rintro _ w1 ⟨rfl, K⟩; rw [splice_pad (by have := HBL.out; omega)] at K) | ((with_reducible refine at_eqnil rfl ?_); refine wpList_reads rfl (kr_eqnil rfl rfl (by kernel_rfl)) ?_) | ((with_reducible refine at_box rfl ?_); refine wpList_does rfl (kd_box K _ _ rfl (by conv => lhs; whnf)) ?_; clear K; rintro _ w1 ⟨g, rfl, K⟩; (try dsimp only [Value.cells] at K)) | ((with_reducible refine at_alloc rfl ?_); refine wpList_does rfl (kd_alloc K _ rfl rfl) ?_; clear K; rintro _ w1 ⟨g, rfl, K⟩; (try dsimp only [Value.cells] at K)) | ((with_reducible refine at_buildSlice rfl ?_); refine wpList_does rfl (kd_lits (cs := _) K _ _ _ rfl (by first | rfl | (go_simp; done) | (go_simp; rfl)) (by first | rfl | (go_simp; done) | (go_simp; rfl))) ?_; clear K; rintro _ w1 ⟨g, rfl, K⟩) | ((with_reducible refine at_load rfl ?_); first | (refine wpList_reads (by rfl) (kr_load_cell K _ _ (by rfl) (by rfl) Has.auto (by decide +kernel) (by (try simp only [List.getElem?_toArray, List.getElem?_cons_succ, List.getElem?_cons_zero]); exact rfl)) ?_) | (refine wpList_reads (by rfl) (kr_load_row K _ _ (by rfl) (by rfl) Has.auto (by decide +kernel) (by kernel_rfl)) ?_)) | ((with_reducible refine at_store rfl ?_); (first | (refine wpList_does rfl (kd_store_cell K _ _ _ rfl rfl (by conv => lhs; whnf) Repl.auto rfl rfl (by kernel_rfl) (by kernel_rfl) (by first | (simp only [List.setIfInBounds_toArray, List.set_cons_succ, List.set_cons_zero]; rfl) | rfl)) ?_) | (refine wpList_does rfl (kd_store_row K _ _ _ rfl rfl rfl Repl.auto (by kernel_rfl) (by kernel_rfl) (by kernel_rfl)) ?_)); clear K; intro _ w1 K; (try simp only [Act.put]))))
  rw [← HIP.out] at K
  go_loopg [39] m (fun q v wr => ∃ (k : Nat) (img : List Int) (Z : List Ent), v = .int .i64 k ∧ k + q = m ∧ Hid (img.length = M) ∧ Hid (foldSt (rows.map (·.l)) os block nw bn img0 k = (img, 0)) ∧ Known w0 wr (Z ++ (row gi (u8s img) 5 :: L)))
  case atStart => exact ⟨0, img0, [], by go_num, by omega, HIM0, Lib.hid rfl, K⟩
  case round =>
    clear K
    obtain ⟨k, img, Z, rfl, hdk, HIM, HZ, K⟩ := hrel
    by_cases hk : k < m
    · have hk2 : decide ((k : Int) < (m : Int)) = true := decide_eq_true (by omega)
      have hkk : (0 : Int) ≤ (k : Int) ∧ (k : Int) < (m : Int) := by omega
      have i1 := IntWalk.i64_in ((k : Int) + 1) (by omega)
      have hkl : k < os.length := by have := HOL.out; omega
      have hx0 := (once_mem HON.out).1 (getD_mem hkl)
      obtain ⟨i, hx⟩ : ∃ i : Nat, os.getD k 0 = (i : Int) := ⟨(os.getD k 0).toNat, by omega⟩
      rw [hx] at hx0
      have hii : (0 : Int) ≤ (i : Int) ∧ (i : Int) < (m : Int) := by omega
      have HX := Lib.hid hx
      have hil : i < rows.length := by have := HL.out; omega
      obtain ⟨⟨rA, rn, rc, rl⟩, hp⟩ : ∃ r, r = rows[i]'hil := ⟨_, rfl⟩
      have hpm : (⟨rA, rn, rc, rl⟩ : Arow Ast) ∈ rows := by rw [hp]; exact List.getElem_mem _
      have HP := Lib.hid (show encAt arC rows i = [.slice rA rn rc] by rw [encAt_get hil, ← hp]; rfl)
      have HRL := Lib.hid (show (rows.map (·.l)).getD i [] = rl by simp [List.getD, hil, ← hp])
      obtain ⟨RR, hrc, hrs⟩ := G.row _ hpm
      have hrn := h6 _ hpm
      simp only at RR hrc hrs hrn
      have hib0 := blocksN_below (n := (nw : Int)) (block := block) (i := (i : Int)) (by omega) (by omega) (by have := HNB.out; omega)
      have hib1 : 0 ≤ (i : Int) * block := Int.mul_nonneg (by omega) (by omega)
      obtain ⟨ib, hib⟩ : ∃ ib : Nat, (i : Int) * block = (ib : Int) := ⟨((i : Int) * block).toNat, by omega⟩
      rw [hib] at hib0
      have i2 := IntWalk.i64_in (ib : Int) (by omega)
      obtain ⟨xs, er, hev⟩ : ∃ xs er, evalE rl (img.take bn) (sizeS i block nw) = (xs, er) := ⟨_, _, rfl⟩
      have HEV := Lib.hid hev
      have HST := Lib.hid (foldSt_step (rl := []) HZ.out hx HRL.out hev)
      have HXL := Lib.hid (show er = 0 → ib + xs.length ≤ nw from fun h => by
        rcases evalE_cases rl (img.take bn) (sizeS i block nw) with ⟨h1, h2, h3, h4, h5⟩ | ⟨h1, -⟩
        · rw [hev] at h5
          simp only at h5
          have h6 := makeB_len (old := img.take bn) h2 hrs
          rw [← h5, h3, sizeS, hib] at h6
          split at h6 <;> omega
        · rw [hev] at h1
          exact absurd h h1)
      obtain ⟨b, off, rfl⟩ := R.form (K.cov (Cov.nil _)) (by omega)
      obtain ⟨b2, off2, rfl⟩ := G.R.form (K.cov (Cov.nil _)) (by omega)
      have HRO := Lib.hid ((RdS.u8row (w0 := w0) (Has.hd (row gi (u8s img) 5) []) HIM.out).cut00 bn (by omega) (Nat.le_refl M))
      clear hp hpm hx hev hib1
      by_cases hz : er = 0
      · subst hz
        have hxl := HXL.out rfl
        have HSP := Lib.hid (splice_write (img := img) (xs := xs) (at_ := ib) (m := M - ib) (by omega) (by have := HIM.out; omega))
        have HWL := Lib.hid (show (writeAt img ib xs).length = M by rw [writeAt_len (by have := HIM.out; omega)]; exact HIM.out)
        have HIB := Lib.hid (show ((i : Int) * block).toNat = ib by omega)
        go_upto_region 10 with ((first | ((with_reducible refine at_load rfl ?_); first | (refine wpList_reads (by rfl) (kr_load_cell K _ _ (by rfl) (by rfl) Has.auto (by decide +kernel) (by (try simp only [List.getElem?_toArray, List.getElem?_cons_succ, List.getElem?_cons_zero]); exact rfl)) ?_) | (refine wpList_reads (by rfl) (kr_load_row K _ _ (by rfl) (by rfl) Has.auto (by decide +kernel) (by kernel_rfl)) ?_) | (refine wpList_reads (by rfl) (kr_load_fact _ _ (by rfl) (by rfl) (R.cell (K.cov (Cov.nil _)) (by omega) HX.out rfl) (by decide +kernel)) ?_))))
        refine wp_region_GK (X := [row gi (u8s img) 5]) K Cov.auto (by kernel_rfl) (by kernel_rfl) (by kernel_rfl) (fun K hHeld => ?_)
        refine wpG_takeA 0 (v := ?_) ?_ hHeld ?_
        rotate_left
        · (intro w hS; (clear hS; go_simp); try with_reducible rfl)
        try simp only [Act.put, List.setIfInBounds_toArray, List.set_cons_zero, List.set_cons_succ]
        refine wpG_takeA 1 (v := ?_) ?_ hHeld ?_
        rotate_left
        · (intro w hS; (clear hS; go_simp); try with_reducible rfl)
        try simp only [Act.put, List.setIfInBounds_toArray, List.set_cons_zero, List.set_cons_succ]
        refine wpG_takeA 2 (v := ?_) ?_ hHeld ?_
        rotate_left
        · (intro w hS; (clear hS; go_simp); try with_reducible rfl)
        try simp only [Act.put, List.setIfInBounds_toArray, List.set_cons_zero, List.set_cons_succ]
        refine wpG_takeA 3 (v := .slice rA rn rc) ?_ hHeld ?_
        · (intro w hS; first | exact kr_load_rcell hS _ _ (by rfl) (i) 0 (by rfl) (G.R.cov (Cov.nil _)) (by omega) HP.out (by rfl) (by omega) (by kernel_rfl))
        try simp only [Act.put, List.setIfInBounds_toArray, List.set_cons_zero, List.set_cons_succ]
        refine wpG_takeA 4 (v := ?_) ?_ hHeld ?_
        rotate_left
        · (intro w hS; (clear hS; go_simp); try with_reducible rfl)
        try simp only [Act.put, List.setIfInBounds_toArray, List.set_cons_zero, List.set_cons_succ]
        refine wpG_takeA 5 (v := ?_) ?_ hHeld ?_
        rotate_left
        · (intro w hS; (clear hS; go_simp); try with_reducible rfl)
        try simp only [Act.put, List.setIfInBounds_toArray, List.set_cons_zero, List.set_cons_succ]
        refine wpG_takeA 6 (v := .slice (cutA ((some ⟨gi, 0, none⟩)) (M) (0)) (bn) (M - (0))) ?_ hHeld ?_
        · (intro w hS; first | exact kr_cut (by rfl) (by rfl) (0) (bn) (.inl ⟨by rfl, by omega⟩) (.inr ⟨_, _, by rfl, by rfl, by omega⟩) (by omega) (by omega) Try.underlying48 (by kernel_rfl))
        try simp only [Act.put, List.setIfInBounds_toArray, List.set_cons_zero, List.set_cons_succ]
        refine wpG_takeA 7 (v := .iface 92 (.slice (cutA (some ⟨gi, 0, none⟩) M 0) bn (M - 0))) ?_ hHeld ?_
        · (intro w hS; first | exact kr_iface (by rfl) (by rfl) Try.underlying92)
        try simp only [Act.put, List.setIfInBounds_toArray, List.set_cons_zero, List.set_cons_succ]
        refine wpG_takeA 8 (v := ?_) ?_ hHeld ?_
        rotate_left
        · (intro w hS; (clear hS; go_simp); try with_reducible rfl)
        try simp only [Act.put, List.setIfInBounds_toArray, List.set_cons_zero, List.set_cons_succ]
        refine wpG_takeA 9 (v := ?_) ?_ hHeld ?_
        rotate_left
        · (intro w hS; (clear hS; go_simp); try with_reducible rfl)
        try simp only [Act.put, List.setIfInBounds_toArray, List.set_cons_zero, List.set_cons_succ]
        refine wpG_takeA 10 (v := ?_) ?_ hHeld ?_
        rotate_left
        · (intro w hS; (clear hS; go_simp); try with_reducible rfl)
        try simp only [Act.put, List.setIfInBounds_toArray, List.set_cons_zero, List.set_cons_succ]
        refine wpG_takeC (i := 11) (x := { dst := some 55, op := Op.call { callee := Callee.value (Operand.func 57), args := #[Operand.tmp 52, Operand.tmp 53, Operand.tmp 54], argTypes := #[3, 3, 3] }, type := 3, pos := "safe.go:127", after := #[{ on := 8, ground := Ground.data }, { on := 9, ground := Ground.data }, { on := 10, ground := Ground.data }], guard := none }) (v := .int .i64 (sizeS i block nw)) (f := 57) (args := ?_) rfl (by kernel_rfl) (fun _ _ _ h => h) (by rfl) ?_ ?_ hHeld ?_
        rotate_left
        · (intro w; go_simp; try with_reducible rfl)
        · (intro w hS; exact (ssize_any (i := (i : Int)) (block := block) (new := (nw : Int)) (by omega) (by omega) (by omega) _))
        try simp only [Act.put, List.setIfInBounds_toArray, List.set_cons_zero, List.set_cons_succ]
        refine wpG_oneA 12 (fun K9 hK => ?_)
        go_simp
        (go_at_call 61; (with_reducible refine (peval_any K RR hrc (by omega) hrs ((HRO.out).cov Cov.auto) (by omega) (by omega)).mono ?_); clear K; rintro e w1 ⟨A1, k1, c1, rfl, hk1, X1, O1, K⟩; rw [HEV.out]; rw [HEV.out] at hk1 O1)
        refine hK.out _ _ (K.cov Cov.auto) (fun hHeld => ?_)
        clear hK K9
        try simp only [Act.put, List.setIfInBounds_toArray, List.set_cons_zero, List.set_cons_succ]
        refine wpG_takeA 13 (v := ?_) ?_ hHeld ?_
        rotate_left
        · (intro w hS; (clear hS; go_simp); try with_reducible rfl)
        try simp only [Act.put, List.setIfInBounds_toArray, List.set_cons_zero, List.set_cons_succ]
        refine wpG_takeA 14 (v := ?_) ?_ hHeld ?_
        rotate_left
        · (intro w hS; (clear hS; go_simp); try with_reducible rfl)
        try simp only [Act.put, List.setIfInBounds_toArray, List.set_cons_zero, List.set_cons_succ]
        refine wpG_takeA 15 (v := ?_) ?_ hHeld ?_
        rotate_left
        · (intro w hS; (clear hS; go_simp); try with_reducible rfl)
        try simp only [Act.put, List.setIfInBounds_toArray, List.set_cons_zero, List.set_cons_succ]
        refine wpG_takeA 16 (v := ?_) ?_ hHeld ?_
        rotate_left
        · (intro w hS; (clear hS; go_simp); try with_reducible rfl)
        try simp only [Act.put, List.setIfInBounds_toArray, List.set_cons_zero, List.set_cons_succ]
        refine wpG_takeA 17 (v := ?_) ?_ hHeld ?_
        rotate_left
        · (intro w hS; (clear hS; go_simp); try with_reducible rfl)
        try simp only [Act.put, List.setIfInBounds_toArray, List.set_cons_zero, List.set_cons_succ]
        refine wpG_done (by kernel_rfl) ?_
        skip
        go_wp2_with (first | ((with_reducible refine at_slice rfl ?_); refine wpList_reads rfl (kr_tail (m := ib) rfl rfl (by rfl) (by omega) (by omega) Try.underlying48 (by kernel_rfl)) ?_) | ((with_reducible refine at_copy rfl ?_); refine wpList_does rfl (kd_copy K rfl rfl rfl ((RdS.own (L := _) O1 Seg.auto).at_ _ K) Try.underlying48 (by kernel_rfl) Repl.auto (by rw [u8s_size]; have := HIM.out; omega)) ?_; clear K; rintro _ w1 ⟨rfl, K⟩; rw [HSP.out] at K))
        go_roundg (gk - 1)
        case measure => omega
        case rel => exact ⟨k + 1, writeAt img ib xs, X1 ++ Z, by go_num, by omega, HWL, Lib.hid (by rw [HST.out, HIB.out]; simp), by rw [List.append_assoc]; exact K.cov Cov.auto⟩
      · have e1 : (er == 0) = false := by simpa using hz
        have HR := Lib.hid (show foldE bs (rows.map (·.l)) os block nw = ([], er) by
          have h1 : (foldSt (rows.map (·.l)) os block nw bn img0 (k + 1)).2 = er := by rw [HST.out, if_neg hz]
          have h2 := foldSt_stop (ps := rows.map (·.l)) (os := os) (block := block) (new := nw) (no := bn) (img := img0) (k := k + 1) (n := m) (by omega) (by rw [h1]; exact hz)
          rw [HFE.out, h2, h1, if_neg hz])
        go_upto_region 10 with ((first | ((with_reducible refine at_load rfl ?_); first | (refine wpList_reads (by rfl) (kr_load_cell K _ _ (by rfl) (by rfl) Has.auto (by decide +kernel) (by (try simp only [List.getElem?_toArray, List.getElem?_cons_succ, List.getElem?_cons_zero]); exact rfl)) ?_) | (refine wpList_reads (by rfl) (kr_load_row K _ _ (by rfl) (by rfl) Has.auto (by decide +kernel) (by kernel_rfl)) ?_) | (refine wpList_reads (by rfl) (kr_load_fact _ _ (by rfl) (by rfl) (R.cell (K.cov (Cov.nil _)) (by omega) HX.out rfl) (by decide +kernel)) ?_))))
        refine wp_region_GK (X := [row gi (u8s img) 5]) K Cov.auto (by kernel_rfl) (by kernel_rfl) (by kernel_rfl) (fun K hHeld => ?_)
        refine wpG_takeA 0 (v := ?_) ?_ hHeld ?_
        rotate_left
        · (intro w hS; (clear hS; go_simp); try with_reducible rfl)
        try simp only [Act.put, List.setIfInBounds_toArray, List.set_cons_zero, List.set_cons_succ]
        refine wpG_takeA 1 (v := ?_) ?_ hHeld ?_
        rotate_left
        · (intro w hS; (clear hS; go_simp); try with_reducible rfl)
        try simp only [Act.put, List.setIfInBounds_toArray, List.set_cons_zero, List.set_cons_succ]
        refine wpG_takeA 2 (v := ?_) ?_ hHeld ?_
        rotate_left
        · (intro w hS; (clear hS; go_simp); try with_reducible rfl)
        try simp only [Act.put, List.setIfInBounds_toArray, List.set_cons_zero, List.set_cons_succ]
        refine wpG_takeA 3 (v := .slice rA rn rc) ?_ hHeld ?_
        · (intro w hS; first | exact kr_load_rcell hS _ _ (by rfl) (i) 0 (by rfl) (G.R.cov (Cov.nil _)) (by omega) HP.out (by rfl) (by omega) (by kernel_rfl))
        try simp only [Act.put, List.setIfInBounds_toArray, List.set_cons_zero, List.set_cons_succ]
        refine wpG_takeA 4 (v := ?_) ?_ hHeld ?_
        rotate_left
        · (intro w hS; (clear hS; go_simp); try with_reducible rfl)
        try simp only [Act.put, List.setIfInBounds_toArray, List.set_cons_zero, List.set_cons_succ]
        refine wpG_takeA 5 (v := ?_) ?_ hHeld ?_
        rotate_left
        · (intro w hS; (clear hS; go_simp); try with_reducible rfl)
        try simp only [Act.put, List.setIfInBounds_toArray, List.set_cons_zero, List.set_cons_succ]
        refine wpG_takeA 6 (v := .slice (cutA ((some ⟨gi, 0, none⟩)) (M) (0)) (bn) (M - (0))) ?_ hHeld ?_
        · (intro w hS; first | exact kr_cut (by rfl) (by rfl) (0) (bn) (.inl ⟨by rfl, by omega⟩) (.inr ⟨_, _, by rfl, by rfl, by omega⟩) (by omega) (by omega) Try.underlying48 (by kernel_rfl))
        try simp only [Act.put, List.setIfInBounds_toArray, List.set_cons_zero, List.set_cons_succ]
        refine wpG_takeA 7 (v := .iface 92 (.slice (cutA (some ⟨gi, 0, none⟩) M 0) bn (M - 0))) ?_ hHeld ?_
        · (intro w hS; first | exact kr_iface (by rfl) (by rfl) Try.underlying92)
        try simp only [Act.put, List.setIfInBounds_toArray, List.set_cons_zero, List.set_cons_succ]
        refine wpG_takeA 8 (v := ?_) ?_ hHeld ?_
        rotate_left
        · (intro w hS; (clear hS; go_simp); try with_reducible rfl)
        try simp only [Act.put, List.setIfInBounds_toArray, List.set_cons_zero, List.set_cons_succ]
        refine wpG_takeA 9 (v := ?_) ?_ hHeld ?_
        rotate_left
        · (intro w hS; (clear hS; go_simp); try with_reducible rfl)
        try simp only [Act.put, List.setIfInBounds_toArray, List.set_cons_zero, List.set_cons_succ]
        refine wpG_takeA 10 (v := ?_) ?_ hHeld ?_
        rotate_left
        · (intro w hS; (clear hS; go_simp); try with_reducible rfl)
        try simp only [Act.put, List.setIfInBounds_toArray, List.set_cons_zero, List.set_cons_succ]
        refine wpG_takeC (i := 11) (x := { dst := some 55, op := Op.call { callee := Callee.value (Operand.func 57), args := #[Operand.tmp 52, Operand.tmp 53, Operand.tmp 54], argTypes := #[3, 3, 3] }, type := 3, pos := "safe.go:127", after := #[{ on := 8, ground := Ground.data }, { on := 9, ground := Ground.data }, { on := 10, ground := Ground.data }], guard := none }) (v := .int .i64 (sizeS i block nw)) (f := 57) (args := ?_) rfl (by kernel_rfl) (fun _ _ _ h => h) (by rfl) ?_ ?_ hHeld ?_
        rotate_left
        · (intro w; go_simp; try with_reducible rfl)
        · (intro w hS; exact (ssize_any (i := (i : Int)) (block := block) (new := (nw : Int)) (by omega) (by omega) (by omega) _))
        try simp only [Act.put, List.setIfInBounds_toArray, List.set_cons_zero, List.set_cons_succ]
        refine wpG_oneA 12 (fun K9 hK => ?_)
        go_simp
        (go_at_call 61; (with_reducible refine (peval_any K RR hrc (by omega) hrs ((HRO.out).cov Cov.auto) (by omega) (by omega)).mono ?_); clear K; rintro e w1 ⟨A1, k1, c1, rfl, hk1, X1, O1, K⟩; rw [HEV.out]; rw [HEV.out] at hk1 O1)
        refine hK.out _ _ (K.cov Cov.auto) (fun hHeld => ?_)
        clear hK K9
        try simp only [Act.put, List.setIfInBounds_toArray, List.set_cons_zero, List.set_cons_succ]
        refine wpG_takeA 13 (v := ?_) ?_ hHeld ?_
        rotate_left
        · (intro w hS; (clear hS; go_simp); try with_reducible rfl)
        try simp only [Act.put, List.setIfInBounds_toArray, List.set_cons_zero, List.set_cons_succ]
        refine wpG_takeA 14 (v := ?_) ?_ hHeld ?_
        rotate_left
        · (intro w hS; (clear hS; go_simp); try with_reducible rfl)
        try simp only [Act.put, List.setIfInBounds_toArray, List.set_cons_zero, List.set_cons_succ]
        refine wpG_takeA 15 (v := ?_) ?_ hHeld ?_
        rotate_left
        · (intro w hS; (clear hS; go_simp); try with_reducible rfl)
        try simp only [Act.put, List.setIfInBounds_toArray, List.set_cons_zero, List.set_cons_succ]
        refine wpG_takeA 16 (v := ?_) ?_ hHeld ?_
        rotate_left
        · (intro w hS; (clear hS; go_simp); try with_reducible rfl)
        try simp only [Act.put, List.setIfInBounds_toArray, List.set_cons_zero, List.set_cons_succ]
        refine wpG_takeA 17 (v := ?_) ?_ hHeld ?_
        rotate_left
        · (intro w hS; (clear hS; go_simp); try with_reducible rfl)
        try simp only [Act.put, List.setIfInBounds_toArray, List.set_cons_zero, List.set_cons_succ]
        refine wpG_done (by kernel_rfl) ?_
        skip
        go_wp2
        go_ret2
        exact ⟨none, 0, 0, by rw [HR.out]; rfl, Nat.le_refl _, Lib.hid (by rw [HR.out]; rfl), [], by rw [HR.out]; exact RdS.nil _ _ _ _, K.cov Cov.auto⟩
    · have hk2 : decide ((k : Int) < (m : Int)) = false := decide_eq_false (by omega)
      obtain rfl : m = k := by omega
      have HR := Lib.hid (show foldE bs (rows.map (·.l)) os block nw = (img.take nw, 0) by rw [HFE.out, HZ.out]; rfl)
      have RI := (RdS.u8row (w0 := w0) (Has.hd (row gi (u8s img) 5) []) HIM.out).part (i := 0) (j := nw) (c := M) (by omega) (by omega) (Nat.le_refl M)
      rw [List.drop_zero, Nat.sub_zero] at RI
      go_wp2_with (first | ((with_reducible refine at_slice rfl ?_); refine wpList_reads rfl (kr_front3 (m := nw) rfl rfl (by rfl) (by rfl) (by omega) Try.underlying48 (by kernel_rfl)) ?_))
      go_ret2
      refine ⟨some ⟨gi, 0, none⟩, nw, nw, by rw [HR.out]; rfl, Nat.le_refl _, Lib.hid (by rw [HR.out]; have := HIM.out; simp; omega), [row gi (u8s img) 5], ?_, K.cov Cov.auto⟩
      rw [HR.out]
      have e9 : (if M = 0 then some (⟨gi, 0, none⟩ : Addr) else Option.map (fun x : Addr => x.add (0 * 1)) (some (⟨gi, 0, none⟩ : Addr))) = some (⟨gi, 0, none⟩ : Addr) := by split <;> simp [Addr.add]
      rw [e9] at RI
      exact RI
end
end Go.Proofs.Ytffednkdmkohdaa
