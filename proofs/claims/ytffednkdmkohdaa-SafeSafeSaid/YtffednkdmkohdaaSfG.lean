/-
  safe: the checker's plan (contract).
-/
import Derived.Test.YtffednkdmkohdaaSfF
set_option linter.unusedVariables false
set_option linter.unusedSimpArgs false
namespace Go.Proofs.Ytffednkdmkohdaa
open Go.RowKit

section
variable {w0 w : World} {L : List Ent} {gc gw n : Nat} {ws : List Int} {block old : Int}
set_option maxHeartbeats 1600000 in
set_option maxRecDepth 100000 in
theorem cplan_any {A : Option Addr} {m c : Nat} {l : List Ast} (K : Known w0 w L) (hg : Has (ckRow gc gw n block old) L) (hw : Has (wkRow gw n ws) L) (R : RdM w0 [] asC 4 A m l) (hc : m ≤ c) (hm : m ≤ 100000) (hb : 128 ≤ block ∧ block ≤ 4096) (ho : 0 ≤ old ∧ old ≤ 2147483647) (hn : n ≤ 4096) (hws : ∀ x ∈ ws, 0 ≤ x ∧ x < n) (want : Int) :
    Calls Try.prog 56 #[.pointer (some ⟨gc, 0, none⟩), .slice A m c, .int .i64 want] w fun e w' => e = .returned (.int .i64 (oneE l ws block old want)) ∧ Known w0 w' L := by
  have HL := Lib.hid R.len
  go_enter Try.func56, Try.ntmps56
  go_upto_region 3 with (fail)
  go_loopg [7, 15] m (fun q v7 v wr => ∃ (j : Nat) (sm : Int), v7 = .int .i64 sm ∧ v = .int .i64 j ∧ j + q = m ∧ (0 ≤ sm ∧ sm ≤ 4096 * j) ∧ Hid ((l.take j).all rightB = true) ∧ Hid (lenSum (l.take j) = sm) ∧ Known w0 wr L)
  case atStart => exact ⟨0, 0, by go_num, by go_num, by omega, by omega, Lib.hid rfl, Lib.hid rfl, K⟩
  case round =>
    clear K
    obtain ⟨j, sm, rfl, rfl, hd, hsm, HA, HS, K⟩ := hrel
    by_cases hj : j < m
    · have hj2 : decide ((j : Int) < (m : Int)) = true := decide_eq_true (by omega)
      have hjj : (0 : Int) ≤ (j : Int) ∧ (j : Int) < (m : Int) := by omega
      have i1 := IntWalk.i64_in ((j : Int) + 1) (by omega)
      obtain ⟨b, off, rfl⟩ := R.form (K.cov (Cov.nil _)) (by omega)
      have hjl : j < l.length := by have := HL.out; omega
      obtain ⟨p, hp⟩ : ∃ p, p = l[j]'hjl := ⟨_, rfl⟩
      have hpm : p ∈ l := by rw [hp]; exact List.getElem_mem _
      have HP := Lib.hid (show encAt asC l j = [.int .u8 p.kind, .int .i64 p.from_, .int .i64 p.len, .slice p.A p.n p.c] by rw [encAt_get hjl, ← hp]; rfl)
      have HTA := Lib.hid (show (l.take (j + 1)).all rightB = ((l.take j).all rightB && rightB p) by rw [all_take' hjl, hp])
      have HTS := Lib.hid (show lenSum (l.take (j + 1)) = lenSum (l.take j) + p.len by rw [lenSum_take hjl, hp])
      cases hrb : rightB p
      · have HRB := Lib.hid hrb
        have HR := Lib.hid (show oneE l ws block old want = 3 by
          rw [oneE, if_neg]
          rw [List.all_eq_true]
          intro h
          have := h p hpm
          rw [hrb] at this
          cases this)
        clear hrb hpm hp
        go_wp2_with (first | ((with_reducible refine at_load rfl ?_); refine wpList_reads (by rfl) (kr_load_rec K _ _ (by rfl) (j) [.int .u8 p.kind, .int .i64 p.from_, .int .i64 p.len, .slice p.A p.n p.c] (by rfl) (R.cov (Cov.nil _)) (by omega) HP.out (by omega) (by kernel_rfl) (by kernel_rfl) (by rfl)) ?_) | (go_at_call 46; (with_reducible refine (pright_any (s := p) K).mono ?_); clear K; rintro e w1 ⟨rfl, K⟩; rw [HRB.out]) | ((with_reducible refine at_slot (N := 9) rfl ?_); (with_reducible refine at_alloc rfl ?_); refine wpList_does rfl (kd_alloc (z := (.agg #[.int .u8 0, .int .i64 0, .int .i64 0, .slice none 0 0])) K _ rfl (by kernel_rfl)) ?_; clear K; rintro _ w1 ⟨go, rfl, K⟩; (try dsimp only [Value.cells] at K)) | ((with_reducible refine at_eqnil rfl ?_); refine wpList_reads rfl (kr_eqnil rfl rfl (by kernel_rfl)) ?_) | ((with_reducible refine at_box rfl ?_); refine wpList_does rfl (kd_box K _ _ rfl (by conv => lhs; whnf)) ?_; clear K; rintro _ w1 ⟨g, rfl, K⟩; (try dsimp only [Value.cells] at K)) | ((with_reducible refine at_alloc rfl ?_); refine wpList_does rfl (kd_alloc K _ rfl rfl) ?_; clear K; rintro _ w1 ⟨g, rfl, K⟩; (try dsimp only [Value.cells] at K)) | ((with_reducible refine at_buildSlice rfl ?_); refine wpList_does rfl (kd_lits (cs := _) K _ _ _ rfl (by first | rfl | (go_simp; done) | (go_simp; rfl)) (by first | rfl | (go_simp; done) | (go_simp; rfl))) ?_; clear K; rintro _ w1 ⟨g, rfl, K⟩) | ((with_reducible refine at_load rfl ?_); first | (refine wpList_reads (by rfl) (kr_load_cell K _ _ (by rfl) (by rfl) Has.auto (by decide +kernel) (by (try simp only [List.getElem?_toArray, List.getElem?_cons_succ, List.getElem?_cons_zero]); exact rfl)) ?_) | (refine wpList_reads (by rfl) (kr_load_row K _ _ (by rfl) (by rfl) Has.auto (by decide +kernel) (by kernel_rfl)) ?_)) | ((with_reducible refine at_store rfl ?_); (first | (refine wpList_does rfl (kd_store_cell K _ _ _ rfl rfl (by conv => lhs; whnf) Repl.auto rfl rfl (by kernel_rfl) (by kernel_rfl) (by first | (simp only [List.setIfInBounds_toArray, List.set_cons_succ, List.set_cons_zero]; rfl) | rfl)) ?_) | (refine wpList_does rfl (kd_store_row K _ _ _ rfl rfl rfl Repl.auto (by kernel_rfl) (by kernel_rfl) (by kernel_rfl)) ?_)); clear K; intro _ w1 K; (try simp only [Act.put])))
        go_ret
        exact ⟨by rw [HR.out]; rfl, K.cov Cov.auto⟩
      · have HRB := Lib.hid hrb
        have hry := rightB_yes hrb
        have i2 := IntWalk.i64_in (sm + p.len) (by omega)
        clear hrb hpm hp
        go_wp2_with (first | ((with_reducible refine at_load rfl ?_); refine wpList_reads (by rfl) (kr_load_rec K _ _ (by rfl) (j) [.int .u8 p.kind, .int .i64 p.from_, .int .i64 p.len, .slice p.A p.n p.c] (by rfl) (R.cov (Cov.nil _)) (by omega) HP.out (by omega) (by kernel_rfl) (by kernel_rfl) (by rfl)) ?_) | (go_at_call 46; (with_reducible refine (pright_any (s := p) K).mono ?_); clear K; rintro e w1 ⟨rfl, K⟩; rw [HRB.out]) | ((with_reducible refine at_slot (N := 9) rfl ?_); (with_reducible refine at_alloc rfl ?_); refine wpList_does rfl (kd_alloc (z := (.agg #[.int .u8 0, .int .i64 0, .int .i64 0, .slice none 0 0])) K _ rfl (by kernel_rfl)) ?_; clear K; rintro _ w1 ⟨go, rfl, K⟩; (try dsimp only [Value.cells] at K)) | ((with_reducible refine at_eqnil rfl ?_); refine wpList_reads rfl (kr_eqnil rfl rfl (by kernel_rfl)) ?_) | ((with_reducible refine at_box rfl ?_); refine wpList_does rfl (kd_box K _ _ rfl (by conv => lhs; whnf)) ?_; clear K; rintro _ w1 ⟨g, rfl, K⟩; (try dsimp only [Value.cells] at K)) | ((with_reducible refine at_alloc rfl ?_); refine wpList_does rfl (kd_alloc K _ rfl rfl) ?_; clear K; rintro _ w1 ⟨g, rfl, K⟩; (try dsimp only [Value.cells] at K)) | ((with_reducible refine at_buildSlice rfl ?_); refine wpList_does rfl (kd_lits (cs := _) K _ _ _ rfl (by first | rfl | (go_simp; done) | (go_simp; rfl)) (by first | rfl | (go_simp; done) | (go_simp; rfl))) ?_; clear K; rintro _ w1 ⟨g, rfl, K⟩) | ((with_reducible refine at_load rfl ?_); first | (refine wpList_reads (by rfl) (kr_load_cell K _ _ (by rfl) (by rfl) Has.auto (by decide +kernel) (by (try simp only [List.getElem?_toArray, List.getElem?_cons_succ, List.getElem?_cons_zero]); exact rfl)) ?_) | (refine wpList_reads (by rfl) (kr_load_row K _ _ (by rfl) (by rfl) Has.auto (by decide +kernel) (by kernel_rfl)) ?_)) | ((with_reducible refine at_store rfl ?_); (first | (refine wpList_does rfl (kd_store_cell K _ _ _ rfl rfl (by conv => lhs; whnf) Repl.auto rfl rfl (by kernel_rfl) (by kernel_rfl) (by first | (simp only [List.setIfInBounds_toArray, List.set_cons_succ, List.set_cons_zero]; rfl) | rfl)) ?_) | (refine wpList_does rfl (kd_store_row K _ _ _ rfl rfl rfl Repl.auto (by kernel_rfl) (by kernel_rfl) (by kernel_rfl)) ?_)); clear K; intro _ w1 K; (try simp only [Act.put])))
        go_roundg (gk - 1)
        case measure => omega
        case rel => exact ⟨j + 1, sm + p.len, by go_num, by go_num, by omega, by omega, Lib.hid (by rw [HTA.out, HA.out, HRB.out]; rfl), Lib.hid (by rw [HTS.out, HS.out]), K.cov Cov.auto⟩
    · have hj2 : decide ((j : Int) < (m : Int)) = false := decide_eq_false (by omega)
      have htl : l.take j = l := List.take_of_length_le (by have := HL.out; omega)
      rw [htl] at HA HS
      have HRA := HA
      by_cases hwn : sm = want
      · subst hwn
        have e1 : (sm == sm) = true := by simp
        have HON := Lib.hid (show oneE l ws block old sm = if l.any (overB old) then 5 else if l.any (lateB block ws) then 23 else 0 by rw [oneE, if_pos HA.out, if_pos HS.out])
        clear htl
        go_upto_region 12 with (fail)
        go_loopg [32] m (fun q v wr => ∃ (j : Nat), v = .int .i64 j ∧ j + q = m ∧ Hid ((l.take j).any (overB old) = false) ∧ Known w0 wr L)
        case atStart => exact ⟨0, by go_num, by omega, Lib.hid rfl, K⟩
        case round =>
          clear K
          obtain ⟨j, rfl, hd, HE, K⟩ := hrel
          by_cases hj : j < m
          · have hj2 : decide ((j : Int) < (m : Int)) = true := decide_eq_true (by omega)
            have hjj : (0 : Int) ≤ (j : Int) ∧ (j : Int) < (m : Int) := by omega
            have i1 := IntWalk.i64_in ((j : Int) + 1) (by omega)
            obtain ⟨b, off, rfl⟩ := R.form (K.cov (Cov.nil _)) (by omega)
            have hjl : j < l.length := by have := HL.out; omega
            obtain ⟨p, hp⟩ : ∃ p, p = l[j]'hjl := ⟨_, rfl⟩
            have hpm : p ∈ l := by rw [hp]; exact List.getElem_mem _
            have HP := Lib.hid (show encAt asC l j = [.int .u8 p.kind, .int .i64 p.from_, .int .i64 p.len, .slice p.A p.n p.c] by rw [encAt_get hjl, ← hp]; rfl)
            have HPR := Lib.hid (List.all_eq_true.1 HRA.out p hpm)
            have HT := Lib.hid (show (l.take (j + 1)).any (overB old) = ((l.take j).any (overB old) || overB old p) by rw [any_take' hjl, hp])
            cases hov : overB old p
            · have HOV := Lib.hid hov
              have HST := Lib.hid (show stepE old p = 0 from stepE_iff hov)
              clear hov hpm hp
              go_wp2_with (first | ((with_reducible refine at_load rfl ?_); refine wpList_reads (by rfl) (kr_load_rec K _ _ (by rfl) (j) [.int .u8 p.kind, .int .i64 p.from_, .int .i64 p.len, .slice p.A p.n p.c] (by rfl) (R.cov (Cov.nil _)) (by omega) HP.out (by omega) (by kernel_rfl) (by kernel_rfl) (by rfl)) ?_) | (go_at_call 82; (with_reducible refine (cstep_any (s := p) K (Has.tl _ hg) HPR.out ho).mono ?_); clear K; rintro e w1 ⟨rfl, K⟩; rw [HST.out]) | ((with_reducible refine at_slot (N := 11) rfl ?_); (with_reducible refine at_alloc rfl ?_); refine wpList_does rfl (kd_alloc (z := (.agg #[.int .u8 0, .int .i64 0, .int .i64 0, .slice none 0 0])) K _ rfl (by kernel_rfl)) ?_; clear K; rintro _ w1 ⟨go, rfl, K⟩; (try dsimp only [Value.cells] at K)) | ((with_reducible refine at_eqnil rfl ?_); refine wpList_reads rfl (kr_eqnil rfl rfl (by kernel_rfl)) ?_) | ((with_reducible refine at_box rfl ?_); refine wpList_does rfl (kd_box K _ _ rfl (by conv => lhs; whnf)) ?_; clear K; rintro _ w1 ⟨g, rfl, K⟩; (try dsimp only [Value.cells] at K)) | ((with_reducible refine at_alloc rfl ?_); refine wpList_does rfl (kd_alloc K _ rfl rfl) ?_; clear K; rintro _ w1 ⟨g, rfl, K⟩; (try dsimp only [Value.cells] at K)) | ((with_reducible refine at_buildSlice rfl ?_); refine wpList_does rfl (kd_lits (cs := _) K _ _ _ rfl (by first | rfl | (go_simp; done) | (go_simp; rfl)) (by first | rfl | (go_simp; done) | (go_simp; rfl))) ?_; clear K; rintro _ w1 ⟨g, rfl, K⟩) | ((with_reducible refine at_load rfl ?_); first | (refine wpList_reads (by rfl) (kr_load_cell K _ _ (by rfl) (by rfl) Has.auto (by decide +kernel) (by (try simp only [List.getElem?_toArray, List.getElem?_cons_succ, List.getElem?_cons_zero]); exact rfl)) ?_) | (refine wpList_reads (by rfl) (kr_load_row K _ _ (by rfl) (by rfl) Has.auto (by decide +kernel) (by kernel_rfl)) ?_)) | ((with_reducible refine at_store rfl ?_); (first | (refine wpList_does rfl (kd_store_cell K _ _ _ rfl rfl (by conv => lhs; whnf) Repl.auto rfl rfl (by kernel_rfl) (by kernel_rfl) (by first | (simp only [List.setIfInBounds_toArray, List.set_cons_succ, List.set_cons_zero]; rfl) | rfl)) ?_) | (refine wpList_does rfl (kd_store_row K _ _ _ rfl rfl rfl Repl.auto (by kernel_rfl) (by kernel_rfl) (by kernel_rfl)) ?_)); clear K; intro _ w1 K; (try simp only [Act.put])))
              go_roundg (gk - 1)
              case measure => omega
              case rel => exact ⟨j + 1, by go_num, by omega, Lib.hid (by rw [HT.out, HE.out, HOV.out]; rfl), K.cov Cov.auto⟩
            · have HST := Lib.hid (show stepE old p = 5 from stepE_iff hov)
              have HR := Lib.hid (show oneE l ws block old sm = 5 by rw [HON.out, if_pos (List.any_eq_true.2 ⟨p, hpm, hov⟩)])
              clear hov hpm hp
              go_wp2_with (first | ((with_reducible refine at_load rfl ?_); refine wpList_reads (by rfl) (kr_load_rec K _ _ (by rfl) (j) [.int .u8 p.kind, .int .i64 p.from_, .int .i64 p.len, .slice p.A p.n p.c] (by rfl) (R.cov (Cov.nil _)) (by omega) HP.out (by omega) (by kernel_rfl) (by kernel_rfl) (by rfl)) ?_) | (go_at_call 82; (with_reducible refine (cstep_any (s := p) K (Has.tl _ hg) HPR.out ho).mono ?_); clear K; rintro e w1 ⟨rfl, K⟩; rw [HST.out]) | ((with_reducible refine at_slot (N := 11) rfl ?_); (with_reducible refine at_alloc rfl ?_); refine wpList_does rfl (kd_alloc (z := (.agg #[.int .u8 0, .int .i64 0, .int .i64 0, .slice none 0 0])) K _ rfl (by kernel_rfl)) ?_; clear K; rintro _ w1 ⟨go, rfl, K⟩; (try dsimp only [Value.cells] at K)) | ((with_reducible refine at_eqnil rfl ?_); refine wpList_reads rfl (kr_eqnil rfl rfl (by kernel_rfl)) ?_) | ((with_reducible refine at_box rfl ?_); refine wpList_does rfl (kd_box K _ _ rfl (by conv => lhs; whnf)) ?_; clear K; rintro _ w1 ⟨g, rfl, K⟩; (try dsimp only [Value.cells] at K)) | ((with_reducible refine at_alloc rfl ?_); refine wpList_does rfl (kd_alloc K _ rfl rfl) ?_; clear K; rintro _ w1 ⟨g, rfl, K⟩; (try dsimp only [Value.cells] at K)) | ((with_reducible refine at_buildSlice rfl ?_); refine wpList_does rfl (kd_lits (cs := _) K _ _ _ rfl (by first | rfl | (go_simp; done) | (go_simp; rfl)) (by first | rfl | (go_simp; done) | (go_simp; rfl))) ?_; clear K; rintro _ w1 ⟨g, rfl, K⟩) | ((with_reducible refine at_load rfl ?_); first | (refine wpList_reads (by rfl) (kr_load_cell K _ _ (by rfl) (by rfl) Has.auto (by decide +kernel) (by (try simp only [List.getElem?_toArray, List.getElem?_cons_succ, List.getElem?_cons_zero]); exact rfl)) ?_) | (refine wpList_reads (by rfl) (kr_load_row K _ _ (by rfl) (by rfl) Has.auto (by decide +kernel) (by kernel_rfl)) ?_)) | ((with_reducible refine at_store rfl ?_); (first | (refine wpList_does rfl (kd_store_cell K _ _ _ rfl rfl (by conv => lhs; whnf) Repl.auto rfl rfl (by kernel_rfl) (by kernel_rfl) (by first | (simp only [List.setIfInBounds_toArray, List.set_cons_succ, List.set_cons_zero]; rfl) | rfl)) ?_) | (refine wpList_does rfl (kd_store_row K _ _ _ rfl rfl rfl Repl.auto (by kernel_rfl) (by kernel_rfl) (by kernel_rfl)) ?_)); clear K; intro _ w1 K; (try simp only [Act.put])))
              go_ret
              exact ⟨by rw [HR.out]; rfl, K.cov Cov.auto⟩
          · have hj2 : decide ((j : Int) < (m : Int)) = false := decide_eq_false (by omega)
            have hno : l.any (overB old) = false := by have := HE.out; rw [List.take_of_length_le (by have := HL.out; omega)] at this; exact this
            cases hco : l.any (lateB block ws)
            · have HCO := Lib.hid hco
              have HR := Lib.hid (show oneE l ws block old sm = 0 by rw [HON.out, hno, hco]; rfl)
              clear hno hco
              go_wp2_with (first | (go_at_call 83; (with_reducible refine (ccontains_any K hg hw R hc hm HRA.out hb hn hws).mono ?_); clear K; rintro e w1 ⟨rfl, K⟩; rw [HCO.out]))
              go_ret
              exact ⟨by rw [HR.out]; rfl, K⟩
            · have HCO := Lib.hid hco
              have HR := Lib.hid (show oneE l ws block old sm = 23 by rw [HON.out, hno, hco]; rfl)
              clear hno hco
              go_wp2_with (first | (go_at_call 83; (with_reducible refine (ccontains_any K hg hw R hc hm HRA.out hb hn hws).mono ?_); clear K; rintro e w1 ⟨rfl, K⟩; rw [HCO.out]))
              go_ret
              exact ⟨by rw [HR.out]; rfl, K⟩
      · have e1 : (sm == want) = false := by simpa using hwn
        have HR := Lib.hid (show oneE l ws block old want = 13 by rw [oneE, if_pos HA.out, if_neg (by rw [HS.out]; exact hwn)])
        go_wp2
        go_ret
        exact ⟨by rw [HR.out]; rfl, K⟩
end
end Go.Proofs.Ytffednkdmkohdaa
