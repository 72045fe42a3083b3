/-
  sector: Back (contract).
-/
import Derived.Test.YtokbloddaoakgaaSecS
import Derived.Deep.Cut
set_option linter.unusedVariables false
set_option linter.unusedSimpArgs false
namespace Go.Proofs.Ytokbloddaoakgaa
open Go.RowKit
theorem rising_len : ∀ {l : AMap} {lo hi : Int}, Rising l → (∀ p ∈ l, lo ≤ p.1 ∧ p.1 < hi) → lo ≤ hi → (l.length : Int) ≤ hi - lo
  | [], lo, hi, _, _, h => by simp; omega
  | p :: l, lo, hi, hr, hm, h => by
    obtain ⟨h1, h2⟩ := List.pairwise_cons.1 hr
    have hp := hm p (List.mem_cons_self ..)
    have := rising_len (l := l) (lo := p.1 + 1) (hi := hi) h2 (fun q hq => by have := h1 q hq; have := hm q (List.mem_cons_of_mem _ hq); omega) (by omega)
    simp only [List.length_cons]
    omega
theorem waits_len {D : Dev} (h : DevOk D) : D.waits.length ≤ D.count := by
  have := rising_len (lo := 0) (hi := D.count) h.rw_ (fun p hp => (h.fw p hp).2) (by omega)
  omega
theorem keys_get {l : AMap} {j : Nat} (h : j < l.length) : (l.map (·.1)).getD j 0 = l[j].1 := by simp [List.getD, h]
theorem afind_get {l : AMap} (hr : Rising l) {j : Nat} (h : j < l.length) : afind l l[j].1 = some l[j].2 := by
  have h1 : (l[j].1, l[j].2) ∈ l := List.getElem_mem h
  cases hq : afind l l[j].1 with
  | none => exact absurd rfl (afind_none hq _ h1)
  | some f =>
    have h2 := afind_mem hq
    have hp := (List.pairwise_map.2 (hr.imp fun h => Int.ne_of_lt h) : (l.map (·.1)).Nodup)
    have : ∀ {l : AMap} {p q : Int × Face}, (l.map (·.1)).Nodup → p ∈ l → q ∈ l → p.1 = q.1 → p = q := by
      intro l
      induction l with
      | nil => intro p q _ hp; cases hp
      | cons a l ih =>
        intro p q hn hp hq he
        simp only [List.map_cons, List.nodup_cons] at hn
        rcases List.mem_cons.1 hp with rfl | hp' <;> rcases List.mem_cons.1 hq with rfl | hq'
        · rfl
        · exact absurd (show p.1 ∈ l.map (·.1) by rw [he]; exact List.mem_map_of_mem (f := (·.1)) hq') hn.1
        · exact absurd (show q.1 ∈ l.map (·.1) by rw [← he]; exact List.mem_map_of_mem (f := (·.1)) hp') hn.1
        · exact ih hn.2 hp' hq' he
    have := this hp h2 h1 rfl
    injection this with _ this
    rw [this]
section
variable {P : Program} {w0 W : World} {L : List Ent} {o : Oper} {a : Act}
theorem kr_lookup1 (K : Known w0 W L) {T kt et : TypeId} {m x : Operand} (ho : o.op = .lookup T m x false) {g c : Nat} {l : List ME} (z : Value) {i : Int} {v : Value} (hm : a.eval m = .map (some g)) (hx : a.eval x = .int .i64 i) (hb : Has (mrow g l c) L)
    (hT : P.underlying T = some (.map kt et)) (hk : P.underlying kt = some (.int .i64)) (hz : (P.info? et).bind (·.zero) = some z) (hv : (mget l i).getD z = v) : (execOp a.eval o).run P W = .ok (.value v) W := by
  have := kr_lookup (P := P) K ho hm hx hb hT hk hz
  rw [hv] at this
  exact this
end

section
variable {w0 w : World} {L X : List Ent} {g : Nat} {D : Dev} {A : Option Addr} {n c : Nat} {ps : List Int}
set_option maxHeartbeats 1600000 in
set_option maxRecDepth 100000 in
theorem sback_any (K : Known w0 w (X ++ L)) (hD : DevIs w0 g D X) (ho : D.offs < 1000000000000) (R : RdS w0 L .u8 A n ps) (hc : n ≤ c) (hn9 : n ≤ 1000000000) : Calls Try.prog 34 #[.pointer (some ⟨g, 0, none⟩), .slice A n c] w fun e w' => e = .returned (.tuple #[]) ∧ ∃ X', DevIs w0 g (dback D ps) X' ∧ Known w0 w' (X' ++ L) := by
  have HOK := Lib.hid (dback_ok hD.ok ho ps)
  have hps := R.len
  obtain ⟨D1, hD1⟩ : ∃ D1, D1 = dfall D := ⟨_, rfl⟩
  have HDE := Lib.hid hD1
  have hke : D1.kept = D.kept := by rw [hD1]; unfold dfall; split <;> rfl
  have hwe : D1.waits = D.waits := by rw [hD1]; unfold dfall; split <;> rfl
  have HR := Lib.hid (show dback D ps = { D1 with kept := bkeep D1.waits ps D1.kept, waits := [], fuse := -1, off := false } by rw [hke, hwe, hD1]; rfl)
  clear hke hwe hD1
  go_enter Try.func34, Try.ntmps34
  go_upto_region 2 with ((first | (go_at_call 33; (with_reducible refine (soff_any K hD ho).mono ?_); clear K; rintro e w1 ⟨rfl, X1, HD1, K⟩; rw [← HDE.out] at HD1)))
  have hk1 := HD1.ok.rk
  have hw1 := HD1.ok.rw_
  have hlc := waits_len HD1.ok
  have hct := HD1.ok.count
  have hl9 : D1.waits.length ≤ 100000000 := by omega
  obtain ⟨mk, mw, lk, ck, lw, cw, fz, Y, rfl, hfz, HK, HW⟩ := HD1.out
  simp only [List.cons_append] at K
  rw [← HW.len] at hl9
  have HWF := Lib.hid (show ∀ e ∈ lw, (Lit.int .i64 e.k).wf = true from fun e he => by
    obtain ⟨f, hf, _⟩ := HW.ent he
    have h2 := (HD1.ok.fw _ (afind_mem hf)).2
    have h3 := HD1.ok.count
    simp only at h2
    have h4 : IntKind.i64.min = -9223372036854775808 := rfl
    have h5 : IntKind.i64.max = 9223372036854775807 := rfl
    simp [Lit.wf]
    omega)
  go_upto_region 3 with ((first | (go_at_call 69; (with_reducible refine (mkeys_any K mw).mono ?_); clear K; rintro e w1 ⟨gb, rfl, K⟩) | (go_at_call 68; (with_reducible refine (msorted_any K (Has.hd _ _) (Has.tl _ (Has.tl _ (Has.tl _ (Has.hd _ _)))) hl9 HW.lt HW.born HW.nd HWF.out).mono ?_); clear K; rintro e w1 ⟨A3, n3, c3, rfl, X3, rfl, O3, K⟩) | ((with_reducible refine at_eqnil rfl ?_); refine wpList_reads rfl (kr_eqnil rfl rfl (by kernel_rfl)) ?_) | ((with_reducible refine at_box rfl ?_); refine wpList_does rfl (kd_box K _ _ rfl (by conv => lhs; whnf)) ?_; clear K; rintro _ w1 ⟨g, rfl, K⟩; (try dsimp only [Value.cells] at K)) | ((with_reducible refine at_alloc rfl ?_); refine wpList_does rfl (kd_alloc K _ rfl rfl) ?_; clear K; rintro _ w1 ⟨g, rfl, K⟩; (try dsimp only [Value.cells] at K)) | ((with_reducible refine at_buildSlice rfl ?_); refine wpList_does rfl (kd_lits (cs := _) K _ _ _ rfl (by first | rfl | (go_simp; done) | (go_simp; rfl)) (by first | rfl | (go_simp; done) | (go_simp; rfl))) ?_; clear K; rintro _ w1 ⟨g, rfl, K⟩) | ((with_reducible refine at_load rfl ?_); first | (refine wpList_reads (by rfl) (kr_load_cell K _ _ (by rfl) (by rfl) (by repeat (first | with_reducible exact Has.hd _ _ | with_reducible refine Has.tl _ ?_ | with_reducible refine Has.ap _ ?_)) (by decide +kernel) (by (try simp only [List.getElem?_toArray, List.getElem?_cons_succ, List.getElem?_cons_zero]); exact rfl)) ?_) | (refine wpList_reads (by rfl) (kr_load_row K _ _ (by rfl) (by rfl) (by repeat (first | with_reducible exact Has.hd _ _ | with_reducible refine Has.tl _ ?_ | with_reducible refine Has.ap _ ?_)) (by decide +kernel) (by kernel_rfl)) ?_)) | ((with_reducible refine at_store rfl ?_); (first | (refine wpList_does rfl (kd_store_cell K _ _ _ rfl rfl (by conv => lhs; whnf) (by repeat (first | with_reducible exact Repl.hd _ _ _ | with_reducible apply Repl.tl | with_reducible apply Repl.ap)) rfl rfl (by kernel_rfl) (by kernel_rfl) (by first | (simp only [List.setIfInBounds_toArray, List.set_cons_succ, List.set_cons_zero]; rfl) | rfl)) ?_) | (refine wpList_does rfl (kd_store_row K _ _ _ rfl rfl rfl (by repeat (first | with_reducible exact Repl.hd _ _ _ | with_reducible apply Repl.tl | with_reducible apply Repl.ap)) (by kernel_rfl) (by kernel_rfl) (by kernel_rfl)) ?_)); clear K; intro _ w1 K; (try simp only [Act.put]))))
  have hso := HW.sorted hw1
  rw [hso] at O3
  have hlw1 : lw.length ≤ D1.waits.length := by rw [HW.len]; exact Nat.le_refl _
  have hlw2 : D1.waits.length ≤ lw.length := by rw [HW.len]; exact Nat.le_refl _
  clear hso HD1 hD
  go_loopg [17] D1.waits.length (fun d v wr => ∃ (j : Nat) (l1 : List ME) (c1 : Nat) (m1 : AMap), v = .int .i64 j ∧ j + d = D1.waits.length ∧ MapIs w0 Y l1 c1 m1 ∧ Rising m1 ∧ Hid (bkeep D1.waits ps D1.kept = bkeep (D1.waits.drop j) (ps.drop j) m1) ∧ Known w0 wr (X3 ++ (row gb #[.map (some mw)] 106 :: row g #[.int .i64 (D1.size : Nat), .int .i64 (D1.count : Nat), .map (some mk), .map (some mw), .bool D1.off, .int .i64 D1.offs, .bool (decide (0 ≤ D1.fuse)), .int .i64 fz, .int .u64 D1.writes] 108 :: mrow mk l1 c1 :: mrow mw lw cw :: (Y ++ L))))
  case atStart => exact ⟨0, lk, ck, D1.kept, by go_num, by omega, HK, hk1, Lib.hid rfl, K⟩
  case round =>
    clear K
    obtain ⟨j, l1, c1, m1, rfl, hd, HM, hr1, HE, K⟩ := hrel
    by_cases hj0 : j < lw.length
    · have hj : j < D1.waits.length := by omega
      have hj' : (j : Int) < (lw.length : Int) := by omega
      have hj2 : decide ((j : Int) < (lw.length : Int)) = true := decide_eq_true hj'
      by_cases hp : j < n
      · have RK := RdS.own (w0 := w0) (L := X3 ++ (row gb #[.map (some mw)] 106 :: row g #[.int .i64 (D1.size : Nat), .int .i64 (D1.count : Nat), .map (some mk), .map (some mw), .bool D1.off, .int .i64 D1.offs, .bool (decide (0 ≤ D1.fuse)), .int .i64 fz, .int .u64 D1.writes] 108 :: mrow mk l1 c1 :: mrow mw lw cw :: (Y ++ L))) O3 (by repeat (first | with_reducible exact Seg.nil _ | with_reducible exact Seg.all _ | with_reducible exact Seg.ap _ _ | with_reducible exact Seg.hd _ _ | with_reducible apply Seg.tl | with_reducible apply Seg.sk))
        obtain ⟨b, off, rfl⟩ := RK.form K (by omega)
        obtain ⟨b2, off2, rfl⟩ := R.form (K.cov (by repeat (first | with_reducible exact Cov.all _ | with_reducible exact Cov.left _ _ | with_reducible exact Cov.nil _ | (with_reducible apply Cov.app; (· repeat (first | with_reducible exact Sel.nil _ | with_reducible exact Sel.ap _ _ | with_reducible exact Sel.hd _ _ | with_reducible exact Sel.all _ | with_reducible apply Sel.tl | with_reducible apply Sel.sk))) | (with_reducible apply Cov.cons; (· repeat (first | with_reducible exact Sel.nil _ | with_reducible exact Sel.ap _ _ | with_reducible exact Sel.hd _ _ | with_reducible exact Sel.all _ | with_reducible apply Sel.tl | with_reducible apply Sel.sk))) | with_reducible refine Cov.drop _ ?_ | with_reducible refine Cov.skip _ ?_))) (by omega)
        have RP := R
        obtain ⟨q, hq⟩ : ∃ q, q = D1.waits[j].1 := ⟨_, rfl⟩
        obtain ⟨p, hpv⟩ : ∃ p, p = ps.getD j 0 := ⟨_, rfl⟩
        have HKV := Lib.hid (show (D1.waits.map (·.1)).getD j 0 = q by rw [keys_get hj, hq])
        have HPV := Lib.hid hpv.symm
        have hfi := afind_get hw1 hj
        rw [← hq] at hfi
        obtain ⟨v, hv, A2, n2, c2, rfl, RR, hcc⟩ := HW.some_ _ _ hfi
        have HV := Lib.hid (show (mget lw q).getD (.agg #[.slice none 0 0, .bool false]) = .agg #[.slice A2 n2 c2, .bool D1.waits[j].2.torn] by rw [hv]; rfl)
        have HQ := Lib.hid hq.symm
        clear hv hfi hpv hq
        have hp2 : decide ((n : Int) ≤ (j : Int)) = false := decide_eq_false (by omega)
        have hjj : (0 : Int) ≤ (j : Int) ∧ (j : Int) < (n : Int) := by omega
        have i1 := IntWalk.i64_in ((j : Int) + 1) (by omega)
        by_cases hp1 : p = 1
        · have e1 : (p == 1) = true := by simpa using hp1
          go_upto_region 8 with ((first | ((with_reducible refine at_load rfl ?_); first | (refine wpList_reads (by rfl) (kr_load_cell K _ _ (by rfl) (by rfl) (by repeat (first | with_reducible exact Has.hd _ _ | with_reducible refine Has.tl _ ?_ | with_reducible refine Has.ap _ ?_)) (by decide +kernel) (by (try simp only [List.getElem?_toArray, List.getElem?_cons_succ, List.getElem?_cons_zero]); exact rfl)) ?_) | (refine wpList_reads (by rfl) (kr_load_row K _ _ (by rfl) (by rfl) (by repeat (first | with_reducible exact Has.hd _ _ | with_reducible refine Has.tl _ ?_ | with_reducible refine Has.ap _ ?_)) (by decide +kernel) (by kernel_rfl)) ?_) | (refine wpList_reads (by rfl) (kr_load_fact _ _ (by rfl) (by rfl) (RP.cell (K.cov (by repeat (first | with_reducible exact Cov.all _ | with_reducible exact Cov.left _ _ | with_reducible exact Cov.nil _ | (with_reducible apply Cov.app; (· repeat (first | with_reducible exact Sel.nil _ | with_reducible exact Sel.ap _ _ | with_reducible exact Sel.hd _ _ | with_reducible exact Sel.all _ | with_reducible apply Sel.tl | with_reducible apply Sel.sk))) | (with_reducible apply Cov.cons; (· repeat (first | with_reducible exact Sel.nil _ | with_reducible exact Sel.ap _ _ | with_reducible exact Sel.hd _ _ | with_reducible exact Sel.all _ | with_reducible apply Sel.tl | with_reducible apply Sel.sk))) | with_reducible refine Cov.drop _ ?_ | with_reducible refine Cov.skip _ ?_))) (by omega) HPV.out rfl) (by decide +kernel)) ?_) | (refine wpList_reads (by rfl) (kr_load_fact _ _ (by rfl) (by rfl) (RK.cell K (by omega) HKV.out rfl) (by decide +kernel)) ?_))))
          refine wp_region_QLK K (by kernel_rfl) (by kernel_rfl) ?_
          clear K
          refine wpQL_step (k := 0) (x := { dst := some 32, op := Op.move (Operand.tmp 0), type := 36, pos := "sector.go:153", after := #[], guard := none }) (v := ?_) rfl (by kernel_rfl) (by rfl) ?_ ?_
          rotate_left
          · (intro w hS; refine quiet_value ?_; (clear hS; go_simp); try with_reducible rfl)
          try simp only [Act.put, List.setIfInBounds_toArray, List.set_cons_zero, List.set_cons_succ]
          refine wpQL_step (k := 1) (x := { dst := some 33, op := Op.nilCheck (Operand.tmp 32), type := 0, pos := "sector.go:153", after := #[{ on := 0, ground := Ground.data }], guard := none }) (v := ?_) rfl (by kernel_rfl) (by rfl) ?_ ?_
          rotate_left
          · (intro w hS; refine quiet_value ?_; (clear hS; go_simp); try with_reducible rfl)
          try simp only [Act.put, List.setIfInBounds_toArray, List.set_cons_zero, List.set_cons_succ]
          refine wpQL_step (k := 2) (x := { dst := some 34, op := Op.fieldAddr 108 (Operand.tmp 33) 2, type := 0, pos := "sector.go:153", after := #[{ on := 1, ground := Ground.data }], guard := none }) (v := ?_) rfl (by kernel_rfl) (by rfl) ?_ ?_
          rotate_left
          · (intro w hS; refine quiet_value ?_; (clear hS; go_simp); try with_reducible rfl)
          try simp only [Act.put, List.setIfInBounds_toArray, List.set_cons_zero, List.set_cons_succ]
          refine wpQL_step (k := 3) (x := { dst := some 35, op := Op.load 106 (Operand.tmp 34), type := 106, pos := "sector.go:153", after := #[{ on := 2, ground := Ground.data }], guard := none }) (v := .map (some mk)) rfl (by kernel_rfl) (by rfl) ?_ ?_
          · (intro w hS; refine quiet_value ?_; first | exact kr_load_cell hS _ _ (by rfl) (by rfl) (by repeat (first | with_reducible exact Has.hd _ _ | with_reducible refine Has.tl _ ?_ | with_reducible refine Has.ap _ ?_)) (by kernel_rfl) (by rfl))
          try simp only [Act.put, List.setIfInBounds_toArray, List.set_cons_zero, List.set_cons_succ]
          refine wpQL_step (k := 4) (x := { dst := some 36, op := Op.move (Operand.tmp 5), type := 3, pos := "sector.go:153", after := #[], guard := none }) (v := ?_) rfl (by kernel_rfl) (by rfl) ?_ ?_
          rotate_left
          · (intro w hS; refine quiet_value ?_; (clear hS; go_simp); try with_reducible rfl)
          try simp only [Act.put, List.setIfInBounds_toArray, List.set_cons_zero, List.set_cons_succ]
          refine wpQL_step (k := 5) (x := { dst := some 37, op := Op.move (Operand.tmp 0), type := 36, pos := "sector.go:153", after := #[], guard := none }) (v := ?_) rfl (by kernel_rfl) (by rfl) ?_ ?_
          rotate_left
          · (intro w hS; refine quiet_value ?_; (clear hS; go_simp); try with_reducible rfl)
          try simp only [Act.put, List.setIfInBounds_toArray, List.set_cons_zero, List.set_cons_succ]
          refine wpQL_step (k := 6) (x := { dst := some 38, op := Op.nilCheck (Operand.tmp 37), type := 0, pos := "sector.go:153", after := #[{ on := 5, ground := Ground.data }], guard := none }) (v := ?_) rfl (by kernel_rfl) (by rfl) ?_ ?_
          rotate_left
          · (intro w hS; refine quiet_value ?_; (clear hS; go_simp); try with_reducible rfl)
          try simp only [Act.put, List.setIfInBounds_toArray, List.set_cons_zero, List.set_cons_succ]
          refine wpQL_step (k := 7) (x := { dst := some 39, op := Op.fieldAddr 108 (Operand.tmp 38) 3, type := 0, pos := "sector.go:153", after := #[{ on := 6, ground := Ground.data }], guard := none }) (v := ?_) rfl (by kernel_rfl) (by rfl) ?_ ?_
          rotate_left
          · (intro w hS; refine quiet_value ?_; (clear hS; go_simp); try with_reducible rfl)
          try simp only [Act.put, List.setIfInBounds_toArray, List.set_cons_zero, List.set_cons_succ]
          refine wpQL_step (k := 8) (x := { dst := some 40, op := Op.load 106 (Operand.tmp 39), type := 106, pos := "sector.go:153", after := #[{ on := 7, ground := Ground.data }], guard := none }) (v := .map (some mw)) rfl (by kernel_rfl) (by rfl) ?_ ?_
          · (intro w hS; refine quiet_value ?_; first | exact kr_load_cell hS _ _ (by rfl) (by rfl) (by repeat (first | with_reducible exact Has.hd _ _ | with_reducible refine Has.tl _ ?_ | with_reducible refine Has.ap _ ?_)) (by kernel_rfl) (by rfl))
          try simp only [Act.put, List.setIfInBounds_toArray, List.set_cons_zero, List.set_cons_succ]
          refine wpQL_step (k := 9) (x := { dst := some 41, op := Op.move (Operand.tmp 5), type := 3, pos := "sector.go:153", after := #[], guard := none }) (v := ?_) rfl (by kernel_rfl) (by rfl) ?_ ?_
          rotate_left
          · (intro w hS; refine quiet_value ?_; (clear hS; go_simp); try with_reducible rfl)
          try simp only [Act.put, List.setIfInBounds_toArray, List.set_cons_zero, List.set_cons_succ]
          refine wpQL_step (k := 10) (x := { dst := some 42, op := Op.lookup 106 (Operand.tmp 40) (Operand.tmp 41) false, type := 129, pos := "sector.go:153", after := #[{ on := 8, ground := Ground.data }, { on := 9, ground := Ground.data }], guard := none }) (v := .agg #[.slice A2 n2 c2, .bool D1.waits[j].2.torn]) rfl (by kernel_rfl) (by rfl) ?_ ?_
          · (intro w hS; refine quiet_value ?_; first | exact kr_lookup1 hS (by rfl) (.agg #[.slice none 0 0, .bool false]) (by rfl) (by rfl) (by repeat (first | with_reducible exact Has.hd _ _ | with_reducible refine Has.tl _ ?_ | with_reducible refine Has.ap _ ?_)) Try.underlying106 Try.underlying3 (by kernel_rfl) HV.out)
          try simp only [Act.put, List.setIfInBounds_toArray, List.set_cons_zero, List.set_cons_succ]
          refine wpQL_end (k := 11) (x := { dst := none, op := Op.mapUpdate 106 (Operand.tmp 35) (Operand.tmp 36) (Operand.tmp 42), type := 0, pos := "sector.go:153", after := #[{ on := 3, ground := Ground.data }, { on := 4, ground := Ground.data }, { on := 10, ground := Ground.data }, { on := 0, ground := Ground.phase }, { on := 1, ground := Ground.phase }, { on := 2, ground := Ground.phase }, { on := 3, ground := Ground.phase }, { on := 4, ground := Ground.phase }, { on := 5, ground := Ground.phase }, { on := 6, ground := Ground.phase }, { on := 7, ground := Ground.phase }, { on := 8, ground := Ground.phase }, { on := 9, ground := Ground.phase }, { on := 10, ground := Ground.phase }], guard := none }) rfl (by kernel_rfl) (fun w1 K K9 hK => ?_)
          refine st_does (by rfl) (kd_mapUpdate K (by rfl) (by rfl) (by rfl) (by conv => lhs; whnf) (by repeat (first | with_reducible exact Repl.hd _ _ _ | with_reducible apply Repl.tl | with_reducible apply Repl.ap)) Try.underlying106 Try.underlying3) ?_
          clear K; intro _ w1 K
          refine hK.out _ _ ?_
          clear hK K9
          try simp only [Act.put, List.setIfInBounds_toArray, List.set_cons_zero, List.set_cons_succ]
          skip
          go_wp2
          go_roundg (gk - 1)
          case measure => omega
          case rel => exact ⟨j + 1, _, _, aput m1 q D1.waits[j].2, by go_num, by omega, HM.put hr1 ⟨A2, n2, c2, rfl, RR, hcc⟩, rising_put hr1, Lib.hid (by rw [HE.out, bkeep_step hj, HPV.out, HQ.out, if_pos hp1]), K⟩
        · have e1 : (p == 1) = false := by simpa using hp1
          by_cases hp3 : p = 2
          · have e2 : (p == 2) = true := by simpa using hp3
            go_wp2_with (first | ((with_reducible refine at_mapUpdate1 rfl ?_); refine wpList_does (by rfl) (kd_mapUpdate K (by rfl) (by rfl) (by rfl) (by conv => lhs; whnf) (by repeat (first | with_reducible exact Repl.hd _ _ _ | with_reducible apply Repl.tl | with_reducible apply Repl.ap)) Try.underlying106 Try.underlying3) ?_; clear K; intro _ w1 K) | ((with_reducible refine at_load rfl ?_); first | (refine wpList_reads (by rfl) (kr_load_cell K _ _ (by rfl) (by rfl) (by repeat (first | with_reducible exact Has.hd _ _ | with_reducible refine Has.tl _ ?_ | with_reducible refine Has.ap _ ?_)) (by decide +kernel) (by (try simp only [List.getElem?_toArray, List.getElem?_cons_succ, List.getElem?_cons_zero]); exact rfl)) ?_) | (refine wpList_reads (by rfl) (kr_load_row K _ _ (by rfl) (by rfl) (by repeat (first | with_reducible exact Has.hd _ _ | with_reducible refine Has.tl _ ?_ | with_reducible refine Has.ap _ ?_)) (by decide +kernel) (by kernel_rfl)) ?_) | (refine wpList_reads (by rfl) (kr_load_fact _ _ (by rfl) (by rfl) (RP.cell (K.cov (by repeat (first | with_reducible exact Cov.all _ | with_reducible exact Cov.left _ _ | with_reducible exact Cov.nil _ | (with_reducible apply Cov.app; (· repeat (first | with_reducible exact Sel.nil _ | with_reducible exact Sel.ap _ _ | with_reducible exact Sel.hd _ _ | with_reducible exact Sel.all _ | with_reducible apply Sel.tl | with_reducible apply Sel.sk))) | (with_reducible apply Cov.cons; (· repeat (first | with_reducible exact Sel.nil _ | with_reducible exact Sel.ap _ _ | with_reducible exact Sel.hd _ _ | with_reducible exact Sel.all _ | with_reducible apply Sel.tl | with_reducible apply Sel.sk))) | with_reducible refine Cov.drop _ ?_ | with_reducible refine Cov.skip _ ?_))) (by omega) HPV.out rfl) (by decide +kernel)) ?_) | (refine wpList_reads (by rfl) (kr_load_fact _ _ (by rfl) (by rfl) (RK.cell K (by omega) HKV.out rfl) (by decide +kernel)) ?_)) | ((with_reducible refine at_eqnil rfl ?_); refine wpList_reads rfl (kr_eqnil rfl rfl (by kernel_rfl)) ?_) | ((with_reducible refine at_box rfl ?_); refine wpList_does rfl (kd_box K _ _ rfl (by conv => lhs; whnf)) ?_; clear K; rintro _ w1 ⟨g, rfl, K⟩; (try dsimp only [Value.cells] at K)) | ((with_reducible refine at_alloc rfl ?_); refine wpList_does rfl (kd_alloc K _ rfl rfl) ?_; clear K; rintro _ w1 ⟨g, rfl, K⟩; (try dsimp only [Value.cells] at K)) | ((with_reducible refine at_buildSlice rfl ?_); refine wpList_does rfl (kd_lits (cs := _) K _ _ _ rfl (by first | rfl | (go_simp; done) | (go_simp; rfl)) (by first | rfl | (go_simp; done) | (go_simp; rfl))) ?_; clear K; rintro _ w1 ⟨g, rfl, K⟩) | ((with_reducible refine at_load rfl ?_); first | (refine wpList_reads (by rfl) (kr_load_cell K _ _ (by rfl) (by rfl) (by repeat (first | with_reducible exact Has.hd _ _ | with_reducible refine Has.tl _ ?_ | with_reducible refine Has.ap _ ?_)) (by decide +kernel) (by (try simp only [List.getElem?_toArray, List.getElem?_cons_succ, List.getElem?_cons_zero]); exact rfl)) ?_) | (refine wpList_reads (by rfl) (kr_load_row K _ _ (by rfl) (by rfl) (by repeat (first | with_reducible exact Has.hd _ _ | with_reducible refine Has.tl _ ?_ | with_reducible refine Has.ap _ ?_)) (by decide +kernel) (by kernel_rfl)) ?_)) | ((with_reducible refine at_store rfl ?_); (first | (refine wpList_does rfl (kd_store_cell K _ _ _ rfl rfl (by conv => lhs; whnf) (by repeat (first | with_reducible exact Repl.hd _ _ _ | with_reducible apply Repl.tl | with_reducible apply Repl.ap)) rfl rfl (by kernel_rfl) (by kernel_rfl) (by first | (simp only [List.setIfInBounds_toArray, List.set_cons_succ, List.set_cons_zero]; rfl) | rfl)) ?_) | (refine wpList_does rfl (kd_store_row K _ _ _ rfl rfl rfl (by repeat (first | with_reducible exact Repl.hd _ _ _ | with_reducible apply Repl.tl | with_reducible apply Repl.ap)) (by kernel_rfl) (by kernel_rfl) (by kernel_rfl)) ?_)); clear K; intro _ w1 K; (try simp only [Act.put])))
            go_roundg (gk - 1)
            case measure => omega
            case rel => exact ⟨j + 1, _, _, aput m1 q ⟨[], true⟩, by go_num, by omega, HM.put hr1 ⟨none, 0, 0, rfl, RdS.nil _ _ _ _, Nat.le_refl _⟩, rising_put hr1, Lib.hid (by rw [HE.out, bkeep_step hj, HPV.out, HQ.out, if_neg hp1, if_pos hp3]), K⟩
          · have e2 : (p == 2) = false := by simpa using hp3
            go_wp2_with (first | ((with_reducible refine at_mapUpdate1 rfl ?_); refine wpList_does (by rfl) (kd_mapUpdate K (by rfl) (by rfl) (by rfl) (by conv => lhs; whnf) (by repeat (first | with_reducible exact Repl.hd _ _ _ | with_reducible apply Repl.tl | with_reducible apply Repl.ap)) Try.underlying106 Try.underlying3) ?_; clear K; intro _ w1 K) | ((with_reducible refine at_load rfl ?_); first | (refine wpList_reads (by rfl) (kr_load_cell K _ _ (by rfl) (by rfl) (by repeat (first | with_reducible exact Has.hd _ _ | with_reducible refine Has.tl _ ?_ | with_reducible refine Has.ap _ ?_)) (by decide +kernel) (by (try simp only [List.getElem?_toArray, List.getElem?_cons_succ, List.getElem?_cons_zero]); exact rfl)) ?_) | (refine wpList_reads (by rfl) (kr_load_row K _ _ (by rfl) (by rfl) (by repeat (first | with_reducible exact Has.hd _ _ | with_reducible refine Has.tl _ ?_ | with_reducible refine Has.ap _ ?_)) (by decide +kernel) (by kernel_rfl)) ?_) | (refine wpList_reads (by rfl) (kr_load_fact _ _ (by rfl) (by rfl) (RP.cell (K.cov (by repeat (first | with_reducible exact Cov.all _ | with_reducible exact Cov.left _ _ | with_reducible exact Cov.nil _ | (with_reducible apply Cov.app; (· repeat (first | with_reducible exact Sel.nil _ | with_reducible exact Sel.ap _ _ | with_reducible exact Sel.hd _ _ | with_reducible exact Sel.all _ | with_reducible apply Sel.tl | with_reducible apply Sel.sk))) | (with_reducible apply Cov.cons; (· repeat (first | with_reducible exact Sel.nil _ | with_reducible exact Sel.ap _ _ | with_reducible exact Sel.hd _ _ | with_reducible exact Sel.all _ | with_reducible apply Sel.tl | with_reducible apply Sel.sk))) | with_reducible refine Cov.drop _ ?_ | with_reducible refine Cov.skip _ ?_))) (by omega) HPV.out rfl) (by decide +kernel)) ?_) | (refine wpList_reads (by rfl) (kr_load_fact _ _ (by rfl) (by rfl) (RK.cell K (by omega) HKV.out rfl) (by decide +kernel)) ?_)) | ((with_reducible refine at_eqnil rfl ?_); refine wpList_reads rfl (kr_eqnil rfl rfl (by kernel_rfl)) ?_) | ((with_reducible refine at_box rfl ?_); refine wpList_does rfl (kd_box K _ _ rfl (by conv => lhs; whnf)) ?_; clear K; rintro _ w1 ⟨g, rfl, K⟩; (try dsimp only [Value.cells] at K)) | ((with_reducible refine at_alloc rfl ?_); refine wpList_does rfl (kd_alloc K _ rfl rfl) ?_; clear K; rintro _ w1 ⟨g, rfl, K⟩; (try dsimp only [Value.cells] at K)) | ((with_reducible refine at_buildSlice rfl ?_); refine wpList_does rfl (kd_lits (cs := _) K _ _ _ rfl (by first | rfl | (go_simp; done) | (go_simp; rfl)) (by first | rfl | (go_simp; done) | (go_simp; rfl))) ?_; clear K; rintro _ w1 ⟨g, rfl, K⟩) | ((with_reducible refine at_load rfl ?_); first | (refine wpList_reads (by rfl) (kr_load_cell K _ _ (by rfl) (by rfl) (by repeat (first | with_reducible exact Has.hd _ _ | with_reducible refine Has.tl _ ?_ | with_reducible refine Has.ap _ ?_)) (by decide +kernel) (by (try simp only [List.getElem?_toArray, List.getElem?_cons_succ, List.getElem?_cons_zero]); exact rfl)) ?_) | (refine wpList_reads (by rfl) (kr_load_row K _ _ (by rfl) (by rfl) (by repeat (first | with_reducible exact Has.hd _ _ | with_reducible refine Has.tl _ ?_ | with_reducible refine Has.ap _ ?_)) (by decide +kernel) (by kernel_rfl)) ?_)) | ((with_reducible refine at_store rfl ?_); (first | (refine wpList_does rfl (kd_store_cell K _ _ _ rfl rfl (by conv => lhs; whnf) (by repeat (first | with_reducible exact Repl.hd _ _ _ | with_reducible apply Repl.tl | with_reducible apply Repl.ap)) rfl rfl (by kernel_rfl) (by kernel_rfl) (by first | (simp only [List.setIfInBounds_toArray, List.set_cons_succ, List.set_cons_zero]; rfl) | rfl)) ?_) | (refine wpList_does rfl (kd_store_row K _ _ _ rfl rfl rfl (by repeat (first | with_reducible exact Repl.hd _ _ _ | with_reducible apply Repl.tl | with_reducible apply Repl.ap)) (by kernel_rfl) (by kernel_rfl) (by kernel_rfl)) ?_)); clear K; intro _ w1 K; (try simp only [Act.put])))
            go_roundg (gk - 1)
            case measure => omega
            case rel => exact ⟨j + 1, _, _, m1, by go_num, by omega, HM, hr1, Lib.hid (by rw [HE.out, bkeep_step hj, HPV.out, HQ.out, if_neg hp1, if_neg hp3]), K⟩
      · have HF := Lib.hid (show bkeep D1.waits ps D1.kept = m1 by rw [HE.out, List.drop_eq_nil_of_le (by omega : ps.length ≤ j), bkeep_nil])
        have hp2 : decide ((n : Int) ≤ (j : Int)) = true := decide_eq_true (by omega)
        have RK := RdS.own (w0 := w0) (L := X3 ++ (row gb #[.map (some mw)] 106 :: row g #[.int .i64 (D1.size : Nat), .int .i64 (D1.count : Nat), .map (some mk), .map (some mw), .bool D1.off, .int .i64 D1.offs, .bool (decide (0 ≤ D1.fuse)), .int .i64 fz, .int .u64 D1.writes] 108 :: mrow mk l1 c1 :: mrow mw lw cw :: (Y ++ L))) O3 (by repeat (first | with_reducible exact Seg.nil _ | with_reducible exact Seg.all _ | with_reducible exact Seg.ap _ _ | with_reducible exact Seg.hd _ _ | with_reducible apply Seg.tl | with_reducible apply Seg.sk))
        obtain ⟨b, off, rfl⟩ := RK.form K (by omega)
        obtain ⟨q, hq⟩ : ∃ q, q = D1.waits[j].1 := ⟨_, rfl⟩
        have HKV := Lib.hid (show (D1.waits.map (·.1)).getD j 0 = q by rw [keys_get hj, hq])
        clear hq
        go_wp2_with (first | ((with_reducible refine at_clear1 (t := 106) rfl ?_); refine wpList_does rfl (kd_clear K rfl rfl (by repeat (first | with_reducible exact Repl.hd _ _ _ | with_reducible apply Repl.tl | with_reducible apply Repl.ap)) Try.underlying106) ?_; clear K; intro _ w1 K) | ((with_reducible refine at_load rfl ?_); first | (refine wpList_reads (by rfl) (kr_load_cell K _ _ (by rfl) (by rfl) (by repeat (first | with_reducible exact Has.hd _ _ | with_reducible refine Has.tl _ ?_ | with_reducible refine Has.ap _ ?_)) (by decide +kernel) (by (try simp only [List.getElem?_toArray, List.getElem?_cons_succ, List.getElem?_cons_zero]); exact rfl)) ?_) | (refine wpList_reads (by rfl) (kr_load_row K _ _ (by rfl) (by rfl) (by repeat (first | with_reducible exact Has.hd _ _ | with_reducible refine Has.tl _ ?_ | with_reducible refine Has.ap _ ?_)) (by decide +kernel) (by kernel_rfl)) ?_) | (refine wpList_reads (by rfl) (kr_load_fact _ _ (by rfl) (by rfl) (RP.cell (K.cov (by repeat (first | with_reducible exact Cov.all _ | with_reducible exact Cov.left _ _ | with_reducible exact Cov.nil _ | (with_reducible apply Cov.app; (· repeat (first | with_reducible exact Sel.nil _ | with_reducible exact Sel.ap _ _ | with_reducible exact Sel.hd _ _ | with_reducible exact Sel.all _ | with_reducible apply Sel.tl | with_reducible apply Sel.sk))) | (with_reducible apply Cov.cons; (· repeat (first | with_reducible exact Sel.nil _ | with_reducible exact Sel.ap _ _ | with_reducible exact Sel.hd _ _ | with_reducible exact Sel.all _ | with_reducible apply Sel.tl | with_reducible apply Sel.sk))) | with_reducible refine Cov.drop _ ?_ | with_reducible refine Cov.skip _ ?_))) (by omega) HPV.out rfl) (by decide +kernel)) ?_) | (refine wpList_reads (by rfl) (kr_load_fact _ _ (by rfl) (by rfl) (RK.cell K (by omega) HKV.out rfl) (by decide +kernel)) ?_)) | ((with_reducible refine at_eqnil rfl ?_); refine wpList_reads rfl (kr_eqnil rfl rfl (by kernel_rfl)) ?_) | ((with_reducible refine at_box rfl ?_); refine wpList_does rfl (kd_box K _ _ rfl (by conv => lhs; whnf)) ?_; clear K; rintro _ w1 ⟨g, rfl, K⟩; (try dsimp only [Value.cells] at K)) | ((with_reducible refine at_alloc rfl ?_); refine wpList_does rfl (kd_alloc K _ rfl rfl) ?_; clear K; rintro _ w1 ⟨g, rfl, K⟩; (try dsimp only [Value.cells] at K)) | ((with_reducible refine at_buildSlice rfl ?_); refine wpList_does rfl (kd_lits (cs := _) K _ _ _ rfl (by first | rfl | (go_simp; done) | (go_simp; rfl)) (by first | rfl | (go_simp; done) | (go_simp; rfl))) ?_; clear K; rintro _ w1 ⟨g, rfl, K⟩) | ((with_reducible refine at_load rfl ?_); first | (refine wpList_reads (by rfl) (kr_load_cell K _ _ (by rfl) (by rfl) (by repeat (first | with_reducible exact Has.hd _ _ | with_reducible refine Has.tl _ ?_ | with_reducible refine Has.ap _ ?_)) (by decide +kernel) (by (try simp only [List.getElem?_toArray, List.getElem?_cons_succ, List.getElem?_cons_zero]); exact rfl)) ?_) | (refine wpList_reads (by rfl) (kr_load_row K _ _ (by rfl) (by rfl) (by repeat (first | with_reducible exact Has.hd _ _ | with_reducible refine Has.tl _ ?_ | with_reducible refine Has.ap _ ?_)) (by decide +kernel) (by kernel_rfl)) ?_)) | ((with_reducible refine at_store rfl ?_); (first | (refine wpList_does rfl (kd_store_cell K _ _ _ rfl rfl (by conv => lhs; whnf) (by repeat (first | with_reducible exact Repl.hd _ _ _ | with_reducible apply Repl.tl | with_reducible apply Repl.ap)) rfl rfl (by kernel_rfl) (by kernel_rfl) (by first | (simp only [List.setIfInBounds_toArray, List.set_cons_succ, List.set_cons_zero]; rfl) | rfl)) ?_) | (refine wpList_does rfl (kd_store_row K _ _ _ rfl rfl rfl (by repeat (first | with_reducible exact Repl.hd _ _ _ | with_reducible apply Repl.tl | with_reducible apply Repl.ap)) (by kernel_rfl) (by kernel_rfl) (by kernel_rfl)) ?_)); clear K; intro _ w1 K; (try simp only [Act.put])))
        go_end0
        have K2 : Known w0 _ (row g #[.int .i64 (D1.size : Nat), .int .i64 (D1.count : Nat), .map (some mk), .map (some mw), .bool false, .int .i64 D1.offs, .bool false, .int .i64 fz, .int .u64 D1.writes] 108 :: mrow mk l1 c1 :: mrow mw [] cw :: (Y ++ L)) := K.cov (by repeat (first | with_reducible exact Cov.all _ | with_reducible exact Cov.left _ _ | with_reducible exact Cov.nil _ | (with_reducible apply Cov.app; (· repeat (first | with_reducible exact Sel.nil _ | with_reducible exact Sel.ap _ _ | with_reducible exact Sel.hd _ _ | with_reducible exact Sel.all _ | with_reducible apply Sel.tl | with_reducible apply Sel.sk))) | (with_reducible apply Cov.cons; (· repeat (first | with_reducible exact Sel.nil _ | with_reducible exact Sel.ap _ _ | with_reducible exact Sel.hd _ _ | with_reducible exact Sel.all _ | with_reducible apply Sel.tl | with_reducible apply Sel.sk))) | with_reducible refine Cov.drop _ ?_ | with_reducible refine Cov.skip _ ?_))
        exact ⟨rfl, _, ⟨⟨mk, mw, l1, c1, [], cw, fz, Y, rfl, by rw [HR.out]; intro h; exact absurd h (show ¬ ((0 : Int) ≤ -1) by decide), by rw [HR.out]; show MapIs w0 Y l1 c1 (bkeep D1.waits ps D1.kept); rw [HF.out]; exact HM, by rw [HR.out]; exact MapIs.nil _ _ _⟩, HOK.out⟩, by rw [HR.out]; exact K2⟩
    · have HF := Lib.hid (show bkeep D1.waits ps D1.kept = m1 by rw [HE.out, List.drop_eq_nil_of_le (by omega : D1.waits.length ≤ j)]; rfl)
      have hj2 : decide ((j : Int) < (lw.length : Int)) = false := decide_eq_false (by omega)
      go_wp2_with (first | ((with_reducible refine at_clear1 (t := 106) rfl ?_); refine wpList_does rfl (kd_clear K rfl rfl (by repeat (first | with_reducible exact Repl.hd _ _ _ | with_reducible apply Repl.tl | with_reducible apply Repl.ap)) Try.underlying106) ?_; clear K; intro _ w1 K) | ((with_reducible refine at_load rfl ?_); first | (refine wpList_reads (by rfl) (kr_load_cell K _ _ (by rfl) (by rfl) (by repeat (first | with_reducible exact Has.hd _ _ | with_reducible refine Has.tl _ ?_ | with_reducible refine Has.ap _ ?_)) (by decide +kernel) (by (try simp only [List.getElem?_toArray, List.getElem?_cons_succ, List.getElem?_cons_zero]); exact rfl)) ?_) | (refine wpList_reads (by rfl) (kr_load_row K _ _ (by rfl) (by rfl) (by repeat (first | with_reducible exact Has.hd _ _ | with_reducible refine Has.tl _ ?_ | with_reducible refine Has.ap _ ?_)) (by decide +kernel) (by kernel_rfl)) ?_) | (refine wpList_reads (by rfl) (kr_load_fact _ _ (by rfl) (by rfl) (RP.cell (K.cov (by repeat (first | with_reducible exact Cov.all _ | with_reducible exact Cov.left _ _ | with_reducible exact Cov.nil _ | (with_reducible apply Cov.app; (· repeat (first | with_reducible exact Sel.nil _ | with_reducible exact Sel.ap _ _ | with_reducible exact Sel.hd _ _ | with_reducible exact Sel.all _ | with_reducible apply Sel.tl | with_reducible apply Sel.sk))) | (with_reducible apply Cov.cons; (· repeat (first | with_reducible exact Sel.nil _ | with_reducible exact Sel.ap _ _ | with_reducible exact Sel.hd _ _ | with_reducible exact Sel.all _ | with_reducible apply Sel.tl | with_reducible apply Sel.sk))) | with_reducible refine Cov.drop _ ?_ | with_reducible refine Cov.skip _ ?_))) (by omega) HPV.out rfl) (by decide +kernel)) ?_) | (refine wpList_reads (by rfl) (kr_load_fact _ _ (by rfl) (by rfl) (RK.cell K (by omega) HKV.out rfl) (by decide +kernel)) ?_)) | ((with_reducible refine at_eqnil rfl ?_); refine wpList_reads rfl (kr_eqnil rfl rfl (by kernel_rfl)) ?_) | ((with_reducible refine at_box rfl ?_); refine wpList_does rfl (kd_box K _ _ rfl (by conv => lhs; whnf)) ?_; clear K; rintro _ w1 ⟨g, rfl, K⟩; (try dsimp only [Value.cells] at K)) | ((with_reducible refine at_alloc rfl ?_); refine wpList_does rfl (kd_alloc K _ rfl rfl) ?_; clear K; rintro _ w1 ⟨g, rfl, K⟩; (try dsimp only [Value.cells] at K)) | ((with_reducible refine at_buildSlice rfl ?_); refine wpList_does rfl (kd_lits (cs := _) K _ _ _ rfl (by first | rfl | (go_simp; done) | (go_simp; rfl)) (by first | rfl | (go_simp; done) | (go_simp; rfl))) ?_; clear K; rintro _ w1 ⟨g, rfl, K⟩) | ((with_reducible refine at_load rfl ?_); first | (refine wpList_reads (by rfl) (kr_load_cell K _ _ (by rfl) (by rfl) (by repeat (first | with_reducible exact Has.hd _ _ | with_reducible refine Has.tl _ ?_ | with_reducible refine Has.ap _ ?_)) (by decide +kernel) (by (try simp only [List.getElem?_toArray, List.getElem?_cons_succ, List.getElem?_cons_zero]); exact rfl)) ?_) | (refine wpList_reads (by rfl) (kr_load_row K _ _ (by rfl) (by rfl) (by repeat (first | with_reducible exact Has.hd _ _ | with_reducible refine Has.tl _ ?_ | with_reducible refine Has.ap _ ?_)) (by decide +kernel) (by kernel_rfl)) ?_)) | ((with_reducible refine at_store rfl ?_); (first | (refine wpList_does rfl (kd_store_cell K _ _ _ rfl rfl (by conv => lhs; whnf) (by repeat (first | with_reducible exact Repl.hd _ _ _ | with_reducible apply Repl.tl | with_reducible apply Repl.ap)) rfl rfl (by kernel_rfl) (by kernel_rfl) (by first | (simp only [List.setIfInBounds_toArray, List.set_cons_succ, List.set_cons_zero]; rfl) | rfl)) ?_) | (refine wpList_does rfl (kd_store_row K _ _ _ rfl rfl rfl (by repeat (first | with_reducible exact Repl.hd _ _ _ | with_reducible apply Repl.tl | with_reducible apply Repl.ap)) (by kernel_rfl) (by kernel_rfl) (by kernel_rfl)) ?_)); clear K; intro _ w1 K; (try simp only [Act.put])))
      go_end0
      have K2 : Known w0 _ (row g #[.int .i64 (D1.size : Nat), .int .i64 (D1.count : Nat), .map (some mk), .map (some mw), .bool false, .int .i64 D1.offs, .bool false, .int .i64 fz, .int .u64 D1.writes] 108 :: mrow mk l1 c1 :: mrow mw [] cw :: (Y ++ L)) := K.cov (by repeat (first | with_reducible exact Cov.all _ | with_reducible exact Cov.left _ _ | with_reducible exact Cov.nil _ | (with_reducible apply Cov.app; (· repeat (first | with_reducible exact Sel.nil _ | with_reducible exact Sel.ap _ _ | with_reducible exact Sel.hd _ _ | with_reducible exact Sel.all _ | with_reducible apply Sel.tl | with_reducible apply Sel.sk))) | (with_reducible apply Cov.cons; (· repeat (first | with_reducible exact Sel.nil _ | with_reducible exact Sel.ap _ _ | with_reducible exact Sel.hd _ _ | with_reducible exact Sel.all _ | with_reducible apply Sel.tl | with_reducible apply Sel.sk))) | with_reducible refine Cov.drop _ ?_ | with_reducible refine Cov.skip _ ?_))
      exact ⟨rfl, _, ⟨⟨mk, mw, l1, c1, [], cw, fz, Y, rfl, by rw [HR.out]; intro h; exact absurd h (show ¬ ((0 : Int) ≤ -1) by decide), by rw [HR.out]; show MapIs w0 Y l1 c1 (bkeep D1.waits ps D1.kept); rw [HF.out]; exact HM, by rw [HR.out]; exact MapIs.nil _ _ _⟩, HOK.out⟩, by rw [HR.out]; exact K2⟩
end
end Go.Proofs.Ytokbloddaoakgaa
