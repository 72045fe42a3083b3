/-
  The document's Fold (contract).
-/
import Derived.Test.YtffednkdmkohdaaSfQ
set_option linter.unusedVariables false
set_option linter.unusedSimpArgs false
namespace Go.Proofs.Ytffednkdmkohdaa
open Go.RowKit
theorem take_pads {a b nw : Nat} {l : List Int} (ha : nw ≤ a) (hb : nw ≤ b) : (padTo a l).take nw = (padTo b l).take nw := by
  apply list_ext_getD
  · simp [padTo]; omega
  · intro p hp
    have h1 : p < nw := by simp at hp; omega
    have e : ∀ m, nw ≤ m → ((padTo m l).take nw).getD p 0 = l.getD p 0 := fun m hm => by
      rw [← padTo_get m l p]
      simp [List.getD, List.getElem?_take, h1]
    rw [e a ha, e b hb]

section
variable {w0 w : World} {L : List Ent} {bA A B : Option Addr} {bn bc n c m d : Nat} {bs : List Int} {rows : List (Arow Ast)} {os : List Int} {block new : Int}
set_option maxHeartbeats 3200000 in
set_option maxRecDepth 100000 in
theorem rfold_any (K : Known w0 w L) (Rb : RdS w0 L .u8 bA bn bs) (hbc : bn ≤ bc) (hbn : bn ≤ 100000) (G : Plans w0 [] A n rows) (hc : n ≤ c) (R : RdS w0 [] .i64 B m os) (hd : m ≤ d) (hm : m ≤ 1000) (hn : n ≤ 4096) (h6 : ∀ r ∈ rows, r.n ≤ 60) (hnew : new ≤ 100000) :
    Calls Try.prog 31 #[.slice bA bn bc, .slice A n c, .slice B m d, .int .i64 block, .int .i64 new] w fun e w' => ∃ A' k c', e = .returned (.tuple #[.slice A' k c', .int .i64 (foldE bs (rows.map (·.l)) os block new).2]) ∧ k ≤ c' ∧ Hid (k = (foldE bs (rows.map (·.l)) os block new).1.length) ∧ ∃ X, RdS w0 X .u8 A' k (foldE bs (rows.map (·.l)) os block new).1 ∧ Known w0 w' (X ++ L) := by
  have HL := Lib.hid G.R.len
  have hol := R.len
  have HBL := Lib.hid Rb.len
  have hpl : (rows.map (·.l)).length = n := by rw [List.length_map, G.R.len]
  obtain ⟨ae, hae⟩ : ∃ ae, aheadE n os block bn new = ae := ⟨_, rfl⟩
  have HAE := Lib.hid hae
  have hae2 : aheadE (rows.map (·.l)).length os block bs.length new = ae := by rw [hpl, HBL.out, hae]
  by_cases h0 : ae = 0
  rotate_left
  · have e1 : (ae == 0) = false := by simpa using h0
    have HR := Lib.hid (foldE_ne hae2 h0)
    clear hae hae2 hpl hol
    go_enter Try.func31, Try.ntmps31
    go_wp2_with (first | (go_at_call 58; (with_reducible refine (rahead_any K (R.cov (Cov.nil _)) hd (by omega) A hc).mono ?_); clear K; rintro e w1 ⟨rfl, K⟩; rw [HAE.out]) | ((with_reducible refine at_slot (N := 27) rfl ?_); (with_reducible refine at_buildSlice (n := 0) rfl ?_); refine wpList_does rfl (kd_lit0 K _ 5 1 rfl Try.underlying48 (by kernel_rfl)) ?_; clear K; rintro _ w1 ⟨ge, rfl, K⟩))
    go_ret2
    exact ⟨_, 0, _, by rw [HR.out]; rfl, Nat.le_refl _, Lib.hid (by rw [HR.out]; rfl), [], by rw [HR.out]; exact RdS.nil _ _ _ _, K.cov Cov.auto⟩
  subst h0
  obtain ⟨hmy, -, hon⟩ := aheadE_zero hae
  obtain ⟨hb, ho, hnw⟩ := mayS_yes hmy
  have hnb := (aheadE_zero hae).2.1
  obtain ⟨nw, rfl⟩ : ∃ nw : Nat, new = (nw : Int) := ⟨new.toNat, by omega⟩
  have hmn : m = n := by rw [← hol]; exact once_len hon
  subst hmn
  obtain ⟨M, hM⟩ : ∃ M, M = max bn nw := ⟨_, rfl⟩
  have hMb : bn ≤ M ∧ nw ≤ M ∧ M ≤ 100000 := by omega
  obtain ⟨img0, him0⟩ : ∃ img0, img0 = padTo M bs := ⟨_, rfl⟩
  have HFE := Lib.hid (show foldE bs (rows.map (·.l)) os block nw = (if (foldSt (rows.map (·.l)) os block nw bn img0 m).2 = 0 then ((foldSt (rows.map (·.l)) os block nw bn img0 m).1.take nw, 0) else ([], (foldSt (rows.map (·.l)) os block nw bn img0 m).2)) by
    rw [foldE, if_pos hae2, HBL.out, Int.toNat_natCast, ← hM, ← him0, hol])
  have HON := Lib.hid hon
  have HOL := Lib.hid hol
  have HNB := Lib.hid hnb
  have HIP := Lib.hid him0
  clear hmy hae hae2 hon hol hpl him0 hnb hM
  go_enter Try.func31, Try.ntmps31
  go_upto_region 7 with ((first | (go_at_call 58; (with_reducible refine (rahead_any K (R.cov (Cov.nil _)) hd (by omega) A hc).mono ?_); clear K; rintro e w1 ⟨rfl, K⟩; rw [HAE.out]) | ((with_reducible refine at_slot (N := 29) rfl ?_); (with_reducible refine at_buildSlice (n := 0) rfl ?_); refine wpList_does rfl (kd_lit0 K _ 5 1 rfl Try.underlying48 (by kernel_rfl)) ?_; clear K; rintro _ w1 ⟨go, rfl, K⟩; have O : OwnL 5 1 (some ⟨go, 0, none⟩) 0 0 (([] : List Int).map (Value.int .u8)) [row go #[] 5] := OwnL.lit0 _ _) | (at_builtin; refine wpList_does rfl (kd_appendN K _ _ rfl rfl rfl (by with_reducible assumption) Seg.auto ((Rb.cov Cov.auto).get K (Cov.all _)) (by kernel_rfl) (by kernel_rfl) (by omega)) ?_; clear K; rintro _ w1 ⟨Ai, ci, Xi, rfl, O, K⟩; (try simp only [Nat.zero_add, List.nil_append] at O)) | ((with_reducible refine at_eqnil rfl ?_); refine wpList_reads rfl (kr_eqnil rfl rfl (by kernel_rfl)) ?_) | ((with_reducible refine at_box rfl ?_); refine wpList_does rfl (kd_box K _ _ rfl (by conv => lhs; whnf)) ?_; clear K; rintro _ w1 ⟨g, rfl, K⟩; (try dsimp only [Value.cells] at K)) | ((with_reducible refine at_alloc rfl ?_); refine wpList_does rfl (kd_alloc K _ rfl rfl) ?_; clear K; rintro _ w1 ⟨g, rfl, K⟩; (try dsimp only [Value.cells] at K)) | ((with_reducible refine at_buildSlice rfl ?_); refine wpList_does rfl (kd_lits (cs := _) K _ _ _ rfl (by first | rfl | (go_simp; done) | (go_simp; rfl)) (by first | rfl | (go_simp; done) | (go_simp; rfl))) ?_; clear K; rintro _ w1 ⟨g, rfl, K⟩) | ((with_reducible refine at_load rfl ?_); first | (refine wpList_reads (by rfl) (kr_load_cell K _ _ (by rfl) (by rfl) Has.auto (by decide +kernel) (by (try simp only [List.getElem?_toArray, List.getElem?_cons_succ, List.getElem?_cons_zero]); exact rfl)) ?_) | (refine wpList_reads (by rfl) (kr_load_row K _ _ (by rfl) (by rfl) Has.auto (by decide +kernel) (by kernel_rfl)) ?_)) | ((with_reducible refine at_store rfl ?_); (first | (refine wpList_does rfl (kd_store_cell K _ _ _ rfl rfl (by conv => lhs; whnf) Repl.auto rfl rfl (by kernel_rfl) (by kernel_rfl) (by first | (simp only [List.setIfInBounds_toArray, List.set_cons_succ, List.set_cons_zero]; rfl) | rfl)) ?_) | (refine wpList_does rfl (kd_store_row K _ _ _ rfl rfl rfl Repl.auto (by kernel_rfl) (by kernel_rfl) (by kernel_rfl)) ?_)); clear K; intro _ w1 K; (try simp only [Act.put]))))
  replace K : Known w0 _ ([] ++ (Xi ++ L)) := K.cov Cov.auto
  go_loopg [13, 35] m (fun q v13 v wr => ∃ (k kl : Nat) (Ai : Option Addr) (ci : Nat) (Xi : List Ent) (im : List Int) (Z : List Ent), v13 = .slice Ai kl ci ∧ v = .int .i64 k ∧ k + q = m ∧ (bn ≤ kl ∧ kl ≤ M) ∧ OwnL 5 1 Ai kl ci (im.map (Value.int .u8)) Xi ∧ Hid (foldSt (rows.map (·.l)) os block nw bn img0 k = (padTo M im, 0)) ∧ Known w0 wr (Z ++ (Xi ++ L)))
  case atStart => exact ⟨0, bn, Ai, ci, Xi, bs, [], by go_num, by go_num, by omega, by omega, O, Lib.hid (by rw [foldSt, HIP.out]), K⟩
  case round =>
    clear K O
    obtain ⟨k, kl, Ai, ci, Xi, im, Z, rfl, rfl, hdk, hkl2, O, HZ, K⟩ := hrel
    have himl := O.len
    rw [List.length_map, Nat.mul_one] at himl
    have HIM := Lib.hid himl
    have hci := O.le
    clear himl
    by_cases hk : k < m
    · have hk2 : decide ((k : Int) < (m : Int)) = true := decide_eq_true (by omega)
      have hkk : (0 : Int) ≤ (k : Int) ∧ (k : Int) < (m : Int) := by omega
      have i1 := IntWalk.i64_in ((k : Int) + 1) (by omega)
      have hkl : k < os.length := by have := HOL.out; omega
      have hx0 := (once_mem HON.out).1 (getD_mem hkl)
      obtain ⟨i, hx⟩ : ∃ i : Nat, os.getD k 0 = (i : Int) := ⟨(os.getD k 0).toNat, by omega⟩
      rw [hx] at hx0
      have hii : (0 : Int) ≤ (i : Int) ∧ (i : Int) < (m : Int) := by omega
      have HX := Lib.hid hx
      have hil : i < rows.length := by have := HL.out; omega
      obtain ⟨⟨rA, rn, rc, rl⟩, hp⟩ : ∃ r, r = rows[i]'hil := ⟨_, rfl⟩
      have hpm : (⟨rA, rn, rc, rl⟩ : Arow Ast) ∈ rows := by rw [hp]; exact List.getElem_mem _
      have HP := Lib.hid (show encAt arC rows i = [.slice rA rn rc] by rw [encAt_get hil, ← hp]; rfl)
      have HRL := Lib.hid (show (rows.map (·.l)).getD i [] = rl by simp [List.getD, hil, ← hp])
      obtain ⟨RR, hrc, hrs⟩ := G.row _ hpm
      have hrn := h6 _ hpm
      simp only at RR hrc hrs hrn
      have hib0 := blocksN_below (n := (nw : Int)) (block := block) (i := (i : Int)) (by omega) (by omega) (by have := HNB.out; omega)
      have hib1 : 0 ≤ (i : Int) * block := Int.mul_nonneg (by omega) (by omega)
      obtain ⟨ib, hib⟩ : ∃ ib : Nat, (i : Int) * block = (ib : Int) := ⟨((i : Int) * block).toNat, by omega⟩
      rw [hib] at hib0
      have i2 := IntWalk.i64_in (ib : Int) (by omega)
      obtain ⟨xs, er, hev⟩ : ∃ xs er, evalE rl (im.take bn) (sizeS i block nw) = (xs, er) := ⟨_, _, rfl⟩
      have HEV := Lib.hid hev
      have HST := Lib.hid (foldSt_step (rl := []) (xs := xs) (er := er) HZ.out hx HRL.out (by rw [take_padTo (by have := HIM.out; omega)]; exact hev))
      have HXL := Lib.hid (show er = 0 → ib + xs.length ≤ nw from fun h => by
        rcases evalE_cases rl (im.take bn) (sizeS i block nw) with ⟨h1, h2, h3, h4, h5⟩ | ⟨h1, -⟩
        · rw [hev] at h5
          simp only at h5
          have h6 := makeB_len (old := im.take bn) h2 hrs
          rw [← h5, h3, sizeS, hib] at h6
          split at h6 <;> omega
        · rw [hev] at h1
          exact absurd h h1)
      obtain ⟨b, off, rfl⟩ := R.form (K.cov (Cov.nil _)) (by omega)
      obtain ⟨b2, off2, rfl⟩ := G.R.form (K.cov (Cov.nil _)) (by omega)
      have HRO := Lib.hid ((RdS.own (w0 := w0) O (Seg.all Xi)).cut00 bn (by omega) hci)
      clear hp hpm hx hev hib1
      by_cases hz : er = 0
      · subst hz
        have hxl := HXL.out rfl
        have HPW := Lib.hid (pad_write (M := M) (at_ := ib) (img := im) (x := xs) (by have := HIM.out; omega) (by omega))
        have HIB := Lib.hid (show ((i : Int) * block).toNat = ib by omega)
        go_upto_region 10 with ((first | ((with_reducible refine at_load rfl ?_); first | (refine wpList_reads (by rfl) (kr_load_cell K _ _ (by rfl) (by rfl) Has.auto (by decide +kernel) (by (try simp only [List.getElem?_toArray, List.getElem?_cons_succ, List.getElem?_cons_zero]); exact rfl)) ?_) | (refine wpList_reads (by rfl) (kr_load_row K _ _ (by rfl) (by rfl) Has.auto (by decide +kernel) (by kernel_rfl)) ?_) | (refine wpList_reads (by rfl) (kr_load_fact _ _ (by rfl) (by rfl) (R.cell (K.cov (Cov.nil _)) (by omega) HX.out rfl) (by decide +kernel)) ?_))))
        refine wp_region_GK (X := Xi) K Cov.auto (by kernel_rfl) (by kernel_rfl) (by kernel_rfl) (fun K hHeld => ?_)
        refine wpG_takeA 0 (v := ?_) ?_ hHeld ?_
        rotate_left
        · (intro w hS; (clear hS; go_simp); try with_reducible rfl)
        try simp only [Act.put, List.setIfInBounds_toArray, List.set_cons_zero, List.set_cons_succ]
        refine wpG_takeA 1 (v := ?_) ?_ hHeld ?_
        rotate_left
        · (intro w hS; (clear hS; go_simp); try with_reducible rfl)
        try simp only [Act.put, List.setIfInBounds_toArray, List.set_cons_zero, List.set_cons_succ]
        refine wpG_takeA 2 (v := ?_) ?_ hHeld ?_
        rotate_left
        · (intro w hS; (clear hS; go_simp); try with_reducible rfl)
        try simp only [Act.put, List.setIfInBounds_toArray, List.set_cons_zero, List.set_cons_succ]
        refine wpG_takeA 3 (v := .slice rA rn rc) ?_ hHeld ?_
        · (intro w hS; first | exact kr_load_rcell hS _ _ (by rfl) (i) 0 (by rfl) (G.R.cov (Cov.nil _)) (by omega) HP.out (by rfl) (by omega) (by kernel_rfl))
        try simp only [Act.put, List.setIfInBounds_toArray, List.set_cons_zero, List.set_cons_succ]
        refine wpG_takeA 4 (v := ?_) ?_ hHeld ?_
        rotate_left
        · (intro w hS; (clear hS; go_simp); try with_reducible rfl)
        try simp only [Act.put, List.setIfInBounds_toArray, List.set_cons_zero, List.set_cons_succ]
        refine wpG_takeA 5 (v := ?_) ?_ hHeld ?_
        rotate_left
        · (intro w hS; (clear hS; go_simp); try with_reducible rfl)
        try simp only [Act.put, List.setIfInBounds_toArray, List.set_cons_zero, List.set_cons_succ]
        refine wpG_takeA 6 (v := ?_) ?_ hHeld ?_
        rotate_left
        · (intro w hS; (clear hS; go_simp); try with_reducible rfl)
        try simp only [Act.put, List.setIfInBounds_toArray, List.set_cons_zero, List.set_cons_succ]
        refine wpG_takeA 7 (v := .slice (cutA (Ai) (ci) (0)) (bn) (ci - (0))) ?_ hHeld ?_
        · (intro w hS; first | exact kr_cut (by rfl) (by rfl) (0) (bn) (.inl ⟨by rfl, by omega⟩) (.inr ⟨_, _, by rfl, by rfl, by omega⟩) (by omega) (by omega) Try.underlying48 (by kernel_rfl))
        try simp only [Act.put, List.setIfInBounds_toArray, List.set_cons_zero, List.set_cons_succ]
        refine wpG_takeA 8 (v := ?_) ?_ hHeld ?_
        rotate_left
        · (intro w hS; (clear hS; go_simp); try with_reducible rfl)
        try simp only [Act.put, List.setIfInBounds_toArray, List.set_cons_zero, List.set_cons_succ]
        refine wpG_takeA 9 (v := ?_) ?_ hHeld ?_
        rotate_left
        · (intro w hS; (clear hS; go_simp); try with_reducible rfl)
        try simp only [Act.put, List.setIfInBounds_toArray, List.set_cons_zero, List.set_cons_succ]
        refine wpG_takeA 10 (v := ?_) ?_ hHeld ?_
        rotate_left
        · (intro w hS; (clear hS; go_simp); try with_reducible rfl)
        try simp only [Act.put, List.setIfInBounds_toArray, List.set_cons_zero, List.set_cons_succ]
        refine wpG_takeC (i := 11) (x := { dst := some 54, op := Op.call { callee := Callee.value (Operand.func 60), args := #[Operand.tmp 51, Operand.tmp 52, Operand.tmp 53], argTypes := #[3, 3, 3] }, type := 3, pos := "ref.go:115", after := #[{ on := 8, ground := Ground.data }, { on := 9, ground := Ground.data }, { on := 10, ground := Ground.data }], guard := none }) (v := .int .i64 (sizeS i block nw)) (f := 60) (args := ?_) rfl (by kernel_rfl) (fun _ _ _ h => h) (by rfl) ?_ ?_ hHeld ?_
        rotate_left
        · (intro w; go_simp; try with_reducible rfl)
        · (intro w hS; exact (rsize_any (i := (i : Int)) (block := block) (new := (nw : Int)) (by omega) (by omega) (by omega) _))
        try simp only [Act.put, List.setIfInBounds_toArray, List.set_cons_zero, List.set_cons_succ]
        refine wpG_oneA 12 (fun K9 hK => ?_)
        go_simp
        (go_at_call 33; (with_reducible refine (reval_any K RR hrc (by omega) hrs ((HRO.out).cov Cov.auto) (by omega) (by omega)).mono ?_); clear K; rintro e w1 ⟨A1, k1, c1, rfl, hk1, X1, O1, K⟩; rw [HEV.out]; rw [HEV.out] at hk1 O1)
        refine hK.out _ _ (K.cov Cov.auto) (fun hHeld => ?_)
        clear hK K9
        try simp only [Act.put, List.setIfInBounds_toArray, List.set_cons_zero, List.set_cons_succ]
        refine wpG_takeA 13 (v := ?_) ?_ hHeld ?_
        rotate_left
        · (intro w hS; (clear hS; go_simp); try with_reducible rfl)
        try simp only [Act.put, List.setIfInBounds_toArray, List.set_cons_zero, List.set_cons_succ]
        refine wpG_takeA 14 (v := ?_) ?_ hHeld ?_
        rotate_left
        · (intro w hS; (clear hS; go_simp); try with_reducible rfl)
        try simp only [Act.put, List.setIfInBounds_toArray, List.set_cons_zero, List.set_cons_succ]
        refine wpG_takeA 15 (v := ?_) ?_ hHeld ?_
        rotate_left
        · (intro w hS; (clear hS; go_simp); try with_reducible rfl)
        try simp only [Act.put, List.setIfInBounds_toArray, List.set_cons_zero, List.set_cons_succ]
        refine wpG_takeA 16 (v := ?_) ?_ hHeld ?_
        rotate_left
        · (intro w hS; (clear hS; go_simp); try with_reducible rfl)
        try simp only [Act.put, List.setIfInBounds_toArray, List.set_cons_zero, List.set_cons_succ]
        refine wpG_takeA 17 (v := ?_) ?_ hHeld ?_
        rotate_left
        · (intro w hS; (clear hS; go_simp); try with_reducible rfl)
        try simp only [Act.put, List.setIfInBounds_toArray, List.set_cons_zero, List.set_cons_succ]
        refine wpG_done (by kernel_rfl) ?_
        skip
        go_wp2_with (first | (go_at_call 62; (with_reducible refine (rwrite_any K ((RdS.own (w0 := w0) O (Seg.all Xi)).cov Cov.auto) (by omega) ib (by omega) ((RdS.own (w0 := w0) O1 (Seg.all X1)).cov Cov.auto) O1.le (by have := hk1.out; omega)).mono ?_); clear K; rintro e w1 ⟨A2, k2, c2, X2, rfl, hk2, O2, K⟩))
        go_roundg (gk - 1)
        case measure => omega
        case rel => exact ⟨k + 1, k2, A2, c2, X2, refWrite im ib xs, X1 ++ Z, by go_num, by go_num, by omega, by have h1 := hk1.out; omega, O2, Lib.hid (by rw [HST.out, HIB.out, HPW.out]; simp), by rw [List.append_assoc]; exact K.cov Cov.auto⟩
      · have e1 : (er == 0) = false := by simpa using hz
        have HR := Lib.hid (show foldE bs (rows.map (·.l)) os block nw = ([], er) by
          have h1 : (foldSt (rows.map (·.l)) os block nw bn img0 (k + 1)).2 = er := by rw [HST.out, if_neg hz]
          have h2 := foldSt_stop (ps := rows.map (·.l)) (os := os) (block := block) (new := nw) (no := bn) (img := img0) (k := k + 1) (n := m) (by omega) (by rw [h1]; exact hz)
          rw [HFE.out, h2, h1, if_neg hz])
        go_upto_region 10 with ((first | ((with_reducible refine at_load rfl ?_); first | (refine wpList_reads (by rfl) (kr_load_cell K _ _ (by rfl) (by rfl) Has.auto (by decide +kernel) (by (try simp only [List.getElem?_toArray, List.getElem?_cons_succ, List.getElem?_cons_zero]); exact rfl)) ?_) | (refine wpList_reads (by rfl) (kr_load_row K _ _ (by rfl) (by rfl) Has.auto (by decide +kernel) (by kernel_rfl)) ?_) | (refine wpList_reads (by rfl) (kr_load_fact _ _ (by rfl) (by rfl) (R.cell (K.cov (Cov.nil _)) (by omega) HX.out rfl) (by decide +kernel)) ?_))))
        refine wp_region_GK (X := Xi) K Cov.auto (by kernel_rfl) (by kernel_rfl) (by kernel_rfl) (fun K hHeld => ?_)
        refine wpG_takeA 0 (v := ?_) ?_ hHeld ?_
        rotate_left
        · (intro w hS; (clear hS; go_simp); try with_reducible rfl)
        try simp only [Act.put, List.setIfInBounds_toArray, List.set_cons_zero, List.set_cons_succ]
        refine wpG_takeA 1 (v := ?_) ?_ hHeld ?_
        rotate_left
        · (intro w hS; (clear hS; go_simp); try with_reducible rfl)
        try simp only [Act.put, List.setIfInBounds_toArray, List.set_cons_zero, List.set_cons_succ]
        refine wpG_takeA 2 (v := ?_) ?_ hHeld ?_
        rotate_left
        · (intro w hS; (clear hS; go_simp); try with_reducible rfl)
        try simp only [Act.put, List.setIfInBounds_toArray, List.set_cons_zero, List.set_cons_succ]
        refine wpG_takeA 3 (v := .slice rA rn rc) ?_ hHeld ?_
        · (intro w hS; first | exact kr_load_rcell hS _ _ (by rfl) (i) 0 (by rfl) (G.R.cov (Cov.nil _)) (by omega) HP.out (by rfl) (by omega) (by kernel_rfl))
        try simp only [Act.put, List.setIfInBounds_toArray, List.set_cons_zero, List.set_cons_succ]
        refine wpG_takeA 4 (v := ?_) ?_ hHeld ?_
        rotate_left
        · (intro w hS; (clear hS; go_simp); try with_reducible rfl)
        try simp only [Act.put, List.setIfInBounds_toArray, List.set_cons_zero, List.set_cons_succ]
        refine wpG_takeA 5 (v := ?_) ?_ hHeld ?_
        rotate_left
        · (intro w hS; (clear hS; go_simp); try with_reducible rfl)
        try simp only [Act.put, List.setIfInBounds_toArray, List.set_cons_zero, List.set_cons_succ]
        refine wpG_takeA 6 (v := ?_) ?_ hHeld ?_
        rotate_left
        · (intro w hS; (clear hS; go_simp); try with_reducible rfl)
        try simp only [Act.put, List.setIfInBounds_toArray, List.set_cons_zero, List.set_cons_succ]
        refine wpG_takeA 7 (v := .slice (cutA (Ai) (ci) (0)) (bn) (ci - (0))) ?_ hHeld ?_
        · (intro w hS; first | exact kr_cut (by rfl) (by rfl) (0) (bn) (.inl ⟨by rfl, by omega⟩) (.inr ⟨_, _, by rfl, by rfl, by omega⟩) (by omega) (by omega) Try.underlying48 (by kernel_rfl))
        try simp only [Act.put, List.setIfInBounds_toArray, List.set_cons_zero, List.set_cons_succ]
        refine wpG_takeA 8 (v := ?_) ?_ hHeld ?_
        rotate_left
        · (intro w hS; (clear hS; go_simp); try with_reducible rfl)
        try simp only [Act.put, List.setIfInBounds_toArray, List.set_cons_zero, List.set_cons_succ]
        refine wpG_takeA 9 (v := ?_) ?_ hHeld ?_
        rotate_left
        · (intro w hS; (clear hS; go_simp); try with_reducible rfl)
        try simp only [Act.put, List.setIfInBounds_toArray, List.set_cons_zero, List.set_cons_succ]
        refine wpG_takeA 10 (v := ?_) ?_ hHeld ?_
        rotate_left
        · (intro w hS; (clear hS; go_simp); try with_reducible rfl)
        try simp only [Act.put, List.setIfInBounds_toArray, List.set_cons_zero, List.set_cons_succ]
        refine wpG_takeC (i := 11) (x := { dst := some 54, op := Op.call { callee := Callee.value (Operand.func 60), args := #[Operand.tmp 51, Operand.tmp 52, Operand.tmp 53], argTypes := #[3, 3, 3] }, type := 3, pos := "ref.go:115", after := #[{ on := 8, ground := Ground.data }, { on := 9, ground := Ground.data }, { on := 10, ground := Ground.data }], guard := none }) (v := .int .i64 (sizeS i block nw)) (f := 60) (args := ?_) rfl (by kernel_rfl) (fun _ _ _ h => h) (by rfl) ?_ ?_ hHeld ?_
        rotate_left
        · (intro w; go_simp; try with_reducible rfl)
        · (intro w hS; exact (rsize_any (i := (i : Int)) (block := block) (new := (nw : Int)) (by omega) (by omega) (by omega) _))
        try simp only [Act.put, List.setIfInBounds_toArray, List.set_cons_zero, List.set_cons_succ]
        refine wpG_oneA 12 (fun K9 hK => ?_)
        go_simp
        (go_at_call 33; (with_reducible refine (reval_any K RR hrc (by omega) hrs ((HRO.out).cov Cov.auto) (by omega) (by omega)).mono ?_); clear K; rintro e w1 ⟨A1, k1, c1, rfl, hk1, X1, O1, K⟩; rw [HEV.out]; rw [HEV.out] at hk1 O1)
        refine hK.out _ _ (K.cov Cov.auto) (fun hHeld => ?_)
        clear hK K9
        try simp only [Act.put, List.setIfInBounds_toArray, List.set_cons_zero, List.set_cons_succ]
        refine wpG_takeA 13 (v := ?_) ?_ hHeld ?_
        rotate_left
        · (intro w hS; (clear hS; go_simp); try with_reducible rfl)
        try simp only [Act.put, List.setIfInBounds_toArray, List.set_cons_zero, List.set_cons_succ]
        refine wpG_takeA 14 (v := ?_) ?_ hHeld ?_
        rotate_left
        · (intro w hS; (clear hS; go_simp); try with_reducible rfl)
        try simp only [Act.put, List.setIfInBounds_toArray, List.set_cons_zero, List.set_cons_succ]
        refine wpG_takeA 15 (v := ?_) ?_ hHeld ?_
        rotate_left
        · (intro w hS; (clear hS; go_simp); try with_reducible rfl)
        try simp only [Act.put, List.setIfInBounds_toArray, List.set_cons_zero, List.set_cons_succ]
        refine wpG_takeA 16 (v := ?_) ?_ hHeld ?_
        rotate_left
        · (intro w hS; (clear hS; go_simp); try with_reducible rfl)
        try simp only [Act.put, List.setIfInBounds_toArray, List.set_cons_zero, List.set_cons_succ]
        refine wpG_takeA 17 (v := ?_) ?_ hHeld ?_
        rotate_left
        · (intro w hS; (clear hS; go_simp); try with_reducible rfl)
        try simp only [Act.put, List.setIfInBounds_toArray, List.set_cons_zero, List.set_cons_succ]
        refine wpG_done (by kernel_rfl) ?_
        skip
        go_wp2_with (first | ((with_reducible refine at_slot (N := 60) rfl ?_); (with_reducible refine at_buildSlice (n := 0) rfl ?_); refine wpList_does rfl (kd_lit0 K _ 5 1 rfl Try.underlying48 (by kernel_rfl)) ?_; clear K; rintro _ w1 ⟨ge, rfl, K⟩))
        go_ret2
        exact ⟨_, 0, _, by rw [HR.out]; rfl, Nat.le_refl _, Lib.hid (by rw [HR.out]; rfl), [], by rw [HR.out]; exact RdS.nil _ _ _ _, K.cov Cov.auto⟩
    · have hk2 : decide ((k : Int) < (m : Int)) = false := decide_eq_false (by omega)
      obtain rfl : m = k := by omega
      have HR := Lib.hid (show foldE bs (rows.map (·.l)) os block nw = ((padTo M im).take nw, 0) by rw [HFE.out, HZ.out]; rfl)
      go_upto_region 15 with (fail)
      go_loopg [13] (nw - kl) (fun q v wr => ∃ (k2 : Nat) (A2 : Option Addr) (c2 : Nat) (X2 : List Ent) (l2 : List Int), v = .slice A2 k2 c2 ∧ kl ≤ k2 ∧ (k2 = kl ∨ k2 ≤ nw) ∧ nw - k2 ≤ q ∧ OwnL 5 1 A2 k2 c2 (l2.map (Value.int .u8)) X2 ∧ Hid (l2.length = k2) ∧ Hid (padTo nw l2 = padTo nw im) ∧ Known w0 wr (Z ++ (X2 ++ L)))
      case atStart => exact ⟨kl, Ai, ci, Xi, im, by go_num, by omega, by omega, by omega, O, HIM, Lib.hid rfl, K⟩
      case round =>
        clear K O hci
        obtain ⟨k2, A2, c2, X2, l2, rfl, hk1, hk3, hkq, O, HLL, HPD, K⟩ := hrel
        by_cases hk4 : k2 < nw
        · have d1 : decide ((k2 : Int) < (nw : Int)) = true := decide_eq_true (by omega)
          go_wp2_with (first | (at_builtin; refine wpList_does rfl (kd_appendN K _ _ rfl rfl rfl (by with_reducible assumption) Seg.auto (Rd.ofBlk (n := 1) (xs := [_]) (K.blk Has.auto) rfl rfl) (by kernel_rfl) (by kernel_rfl) (by omega)) ?_; clear K; rintro _ w1 ⟨A2, c2, X2, rfl, O, K⟩; (try simp only [Nat.zero_add, List.nil_append] at O)) | ((with_reducible refine at_eqnil rfl ?_); refine wpList_reads rfl (kr_eqnil rfl rfl (by kernel_rfl)) ?_) | ((with_reducible refine at_box rfl ?_); refine wpList_does rfl (kd_box K _ _ rfl (by conv => lhs; whnf)) ?_; clear K; rintro _ w1 ⟨g, rfl, K⟩; (try dsimp only [Value.cells] at K)) | ((with_reducible refine at_alloc rfl ?_); refine wpList_does rfl (kd_alloc K _ rfl rfl) ?_; clear K; rintro _ w1 ⟨g, rfl, K⟩; (try dsimp only [Value.cells] at K)) | ((with_reducible refine at_buildSlice rfl ?_); refine wpList_does rfl (kd_lits (cs := _) K _ _ _ rfl (by first | rfl | (go_simp; done) | (go_simp; rfl)) (by first | rfl | (go_simp; done) | (go_simp; rfl))) ?_; clear K; rintro _ w1 ⟨g, rfl, K⟩) | ((with_reducible refine at_load rfl ?_); first | (refine wpList_reads (by rfl) (kr_load_cell K _ _ (by rfl) (by rfl) Has.auto (by decide +kernel) (by (try simp only [List.getElem?_toArray, List.getElem?_cons_succ, List.getElem?_cons_zero]); exact rfl)) ?_) | (refine wpList_reads (by rfl) (kr_load_row K _ _ (by rfl) (by rfl) Has.auto (by decide +kernel) (by kernel_rfl)) ?_)) | ((with_reducible refine at_store rfl ?_); (first | (refine wpList_does rfl (kd_store_cell K _ _ _ rfl rfl (by conv => lhs; whnf) Repl.auto rfl rfl (by kernel_rfl) (by kernel_rfl) (by first | (simp only [List.setIfInBounds_toArray, List.set_cons_succ, List.set_cons_zero]; rfl) | rfl)) ?_) | (refine wpList_does rfl (kd_store_row K _ _ _ rfl rfl rfl Repl.auto (by kernel_rfl) (by kernel_rfl) (by kernel_rfl)) ?_)); clear K; intro _ w1 K; (try simp only [Act.put])))
          go_roundg (gk - 1)
          case measure => omega
          case rel => exact ⟨k2 + 1, _, _, _, l2 ++ [0], rfl, by omega, by omega, by omega, O, Lib.hid (by rw [List.length_append, HLL.out]; rfl), Lib.hid (by rw [padTo_step (by have := HLL.out; omega)]; exact HPD.out), K.cov Cov.auto⟩
        · have d1 : decide ((k2 : Int) < (nw : Int)) = false := decide_eq_false (by omega)
          have hci := O.le
          have RI := (RdS.own (w0 := w0) O (Seg.all X2)).cut00 nw (by omega) hci
          have HTK := Lib.hid (show l2.take nw = (padTo M im).take nw by
            rw [take_pads (a := M) (b := nw) (by omega) (Nat.le_refl _), ← HPD.out, padTo_ge (by have := HLL.out; omega)])
          go_wp2_with (first | ((with_reducible refine at_slice (l := none) (h := some _) rfl ?_); refine wpList_reads rfl (kr_cut rfl rfl (0) (nw) (.inl ⟨by rfl, by omega⟩) (.inr ⟨_, _, by rfl, by rfl, by omega⟩) (by omega) (by omega) Try.underlying48 (by kernel_rfl)) ?_))
          go_ret2
          exact ⟨_, nw, _, by rw [HR.out]; rfl, by omega, Lib.hid (by rw [HR.out, ← HTK.out, List.length_take, HLL.out]; omega), X2, by rw [HR.out, ← HTK.out]; exact RI, K.cov Cov.auto⟩
end
end Go.Proofs.Ytffednkdmkohdaa
