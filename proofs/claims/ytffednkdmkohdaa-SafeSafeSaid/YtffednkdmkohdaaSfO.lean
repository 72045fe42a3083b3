/-
  The document's Eval (contract).
-/
import Derived.Test.YtffednkdmkohdaaSfL
set_option linter.unusedVariables false
set_option linter.unusedSimpArgs false
namespace Go.Proofs.Ytffednkdmkohdaa
open Go.RowKit
section
variable {P : Program} {o : Oper} {a : Act} {W : World} {T U : TypeId} {x y : Operand}
theorem kr_eqI (ho : o.op = .binOp .eql T x y U) {k : IntKind} {u v : Int} (hx : a.eval x = .int k u) (hy : a.eval y = .int k v) {b : Bool} (hb : (u == v) = b) : (execOp a.eval o).run P W = .ok (.value (.bool b)) W := by
  subst hb
  unfold execOp
  simp only [ho, hx, hy]
  simp [eqGuard, binOp, go_sem, Sem.run_bind]
end

section
variable {w0 w : World} {L : List Ent} {A B : Option Addr} {n c m d : Nat} {l : List Ast} {old : List Int} {want : Int}
set_option maxHeartbeats 3200000 in
set_option maxRecDepth 100000 in
theorem reval_any (K : Known w0 w L) (R : RdM w0 [] asC 4 A m l) (hc : m ≤ c) (hm : m ≤ 100000) (hok : ∀ s ∈ l, AsOk w0 s) (RO : RdS w0 L .u8 B n old) (hd : n ≤ d) (hn : n ≤ 10000000000) :
    Calls Try.prog 33 #[.slice A m c, .slice B n d, .int .i64 want] w fun e w' => ∃ A' k c', e = .returned (.tuple #[.slice A' k c', .int .i64 (evalE l old want).2]) ∧ Hid (k = (evalE l old want).1.length) ∧ ∃ X, OwnL 5 1 A' k c' ((evalE l old want).1.map (Value.int .u8)) X ∧ Known w0 w' (X ++ L) := by
  have HL := Lib.hid R.len
  have HOL := Lib.hid RO.len
  go_enter Try.func33, Try.ntmps33
  go_upto_region 4 with ((first | ((with_reducible refine at_slot (N := 16) rfl ?_); (with_reducible refine at_buildSlice (n := 0) rfl ?_); refine wpList_does rfl (kd_lit0 K _ 5 1 rfl Try.underlying48 (by kernel_rfl)) ?_; clear K; rintro _ w1 ⟨gn, rfl, K⟩)))
  go_loopg [9, 19] m (fun q v9 v wr => ∃ (j : Nat) (sm : Int), v9 = .int .i64 sm ∧ v = .int .i64 j ∧ j + q = m ∧ (0 ≤ sm ∧ sm ≤ 4096 * j) ∧ Hid ((l.take j).all rightB = true) ∧ Hid (lenSum (l.take j) = sm ∨ (want < sm ∧ sm ≤ lenSum (l.take j))) ∧ Known w0 wr (row gn #[] 5 :: L))
  case atStart => exact ⟨0, 0, by go_num, by go_num, by omega, by omega, Lib.hid rfl, Lib.hid (.inl rfl), K⟩
  case round =>
    clear K
    obtain ⟨j, sm, rfl, rfl, hdj, hsm, HA, HS, K⟩ := hrel
    by_cases hj : j < m
    · have hj2 : decide ((j : Int) < (m : Int)) = true := decide_eq_true (by omega)
      have hjj : (0 : Int) ≤ (j : Int) ∧ (j : Int) < (m : Int) := by omega
      have i1 := IntWalk.i64_in ((j : Int) + 1) (by omega)
      obtain ⟨b, off, rfl⟩ := R.form (K.cov (Cov.nil _)) (by omega)
      have hjl : j < l.length := by have := HL.out; omega
      obtain ⟨p, hp⟩ : ∃ p, p = l[j]'hjl := ⟨_, rfl⟩
      have hpm : p ∈ l := by rw [hp]; exact List.getElem_mem _
      have HP := Lib.hid (show encAt asC l j = [.int .u8 p.kind, .int .i64 p.from_, .int .i64 p.len, .slice p.A p.n p.c] by rw [encAt_get hjl, ← hp]; rfl)
      have HTA := Lib.hid (show (l.take (j + 1)).all rightB = ((l.take j).all rightB && rightB p) by rw [all_take' hjl, hp])
      have HTS := Lib.hid (show lenSum (l.take (j + 1)) = lenSum (l.take j) + p.len by rw [lenSum_take hjl, hp])
      cases hrb : rightB p
      · have HRB := Lib.hid hrb
        have HR := Lib.hid (show evalE l old want = ([], 3) by
          rw [evalE, if_neg]
          rw [List.all_eq_true]
          intro h
          have := h p hpm
          rw [hrb] at this
          cases this)
        clear hrb hpm hp
        go_wp2_with (first | ((with_reducible refine at_load rfl ?_); refine wpList_reads (by rfl) (kr_load_rec K _ _ (by rfl) (j) [.int .u8 p.kind, .int .i64 p.from_, .int .i64 p.len, .slice p.A p.n p.c] (by rfl) (R.cov (Cov.nil _)) (by omega) HP.out (by omega) (by kernel_rfl) (by kernel_rfl) (by rfl)) ?_) | (go_at_call 49; (with_reducible refine (rright_any (s := p) K).mono ?_); clear K; rintro e w1 ⟨rfl, K⟩; rw [HRB.out]))
        go_ret2
        exact ⟨_, 0, _, by rw [HR.out]; rfl, Lib.hid (by rw [HR.out]; rfl), [row gn #[] 5], by rw [HR.out]; exact OwnL.lit0 _ _, K.cov Cov.auto⟩
      · have HRB := Lib.hid hrb
        have hry := rightB_yes hrb
        have i2 := IntWalk.i64_in (sm + p.len) (by omega)
        clear hrb hpm hp
        by_cases hsw : sm ≤ want
        · have d0 : decide (sm ≤ want) = true := decide_eq_true hsw
          go_wp2_with (first | (first | ((with_reducible refine at_load rfl ?_); refine wpList_reads (by rfl) (kr_load_rec K _ _ (by rfl) (j) [.int .u8 p.kind, .int .i64 p.from_, .int .i64 p.len, .slice p.A p.n p.c] (by rfl) (R.cov (Cov.nil _)) (by omega) HP.out (by omega) (by kernel_rfl) (by kernel_rfl) (by rfl)) ?_) | ((with_reducible refine at_load rfl ?_); refine wpList_reads (by rfl) (kr_load_rcell K _ _ (by rfl) (j) 2 (by rfl) (R.cov (Cov.nil _)) (by omega) HP.out (by rfl) (by omega) (by kernel_rfl)) ?_)) | (go_at_call 49; (with_reducible refine (rright_any (s := p) K).mono ?_); clear K; rintro e w1 ⟨rfl, K⟩; rw [HRB.out]))
          go_roundg (gk - 1)
          case measure => omega
          case rel => exact ⟨j + 1, sm + p.len, by go_num, by go_num, by omega, by omega, Lib.hid (by rw [HTA.out, HA.out, HRB.out]; rfl), Lib.hid (.inl (by rw [HTS.out]; have := HS.out; omega)), K.cov Cov.auto⟩
        · have d0 : decide (sm ≤ want) = false := decide_eq_false hsw
          go_wp2_with (first | ((with_reducible refine at_load rfl ?_); refine wpList_reads (by rfl) (kr_load_rec K _ _ (by rfl) (j) [.int .u8 p.kind, .int .i64 p.from_, .int .i64 p.len, .slice p.A p.n p.c] (by rfl) (R.cov (Cov.nil _)) (by omega) HP.out (by omega) (by kernel_rfl) (by kernel_rfl) (by rfl)) ?_) | (go_at_call 49; (with_reducible refine (rright_any (s := p) K).mono ?_); clear K; rintro e w1 ⟨rfl, K⟩; rw [HRB.out]))
          go_roundg (gk - 1)
          case measure => omega
          case rel => exact ⟨j + 1, sm, by go_num, by go_num, by omega, by omega, Lib.hid (by rw [HTA.out, HA.out, HRB.out]; rfl), Lib.hid (.inr (by rw [HTS.out]; have := HS.out; omega)), K.cov Cov.auto⟩
    · have hj2 : decide ((j : Int) < (m : Int)) = false := decide_eq_false (by omega)
      have htl : l.take j = l := List.take_of_length_le (by have := HL.out; omega)
      rw [htl] at HA HS
      have HRA := HA
      by_cases hwn : sm = want
      rotate_left
      · have e1 : (sm == want) = false := by simpa using hwn
        have HR := Lib.hid (show evalE l old want = ([], 13) by rw [evalE, if_pos HA.out, if_neg (by have := HS.out; omega)])
        go_wp2
        go_ret2
        exact ⟨_, 0, _, by rw [HR.out]; rfl, Lib.hid (by rw [HR.out]; rfl), [row gn #[] 5], by rw [HR.out]; exact OwnL.lit0 _ _, K.cov Cov.auto⟩
      subst hwn
      have e1 : (sm == sm) = true := by simp
      have HON := Lib.hid (show evalE l old sm = if l.any (overB old.length) then ([], 5) else (makeB l old, 0) by rw [evalE, if_pos HA.out, if_pos (by have := HS.out; omega)])
      clear htl HS
      go_upto_region 15 with ((first | ((with_reducible refine at_slot (N := 44) rfl ?_); (with_reducible refine at_buildSlice (n := 0) rfl ?_); refine wpList_does rfl (kd_lit0 K _ 5 1 rfl Try.underlying48 (by kernel_rfl)) ?_; clear K; rintro _ w1 ⟨go, rfl, K⟩)))
      replace K : Known w0 _ ([row go #[] 5] ++ (row gn #[] 5 :: L)) := K.cov Cov.auto
      go_loopg [11, 47] m (fun q v9 v wr => ∃ (j k : Nat) (Ao : Option Addr) (co : Nat) (Xo : List Ent), v9 = .slice Ao k co ∧ v = .int .i64 j ∧ j + q = m ∧ k ≤ 4096 * j ∧ OwnL 5 1 Ao k co ((makeB (l.take j) old).map (Value.int .u8)) Xo ∧ Hid ((l.take j).any (overB old.length) = false) ∧ Known w0 wr (Xo ++ (row gn #[] 5 :: L)))
      case atStart => exact ⟨0, 0, _, _, _, by go_num, by go_num, by omega, by omega, OwnL.lit0 _ _, Lib.hid rfl, K⟩
      case round =>
        clear K
        obtain ⟨j, k, Ao, co, Xo, rfl, rfl, hdj, hk, O, HE, K⟩ := hrel
        by_cases hj : j < m
        · have hj2 : decide ((j : Int) < (m : Int)) = true := decide_eq_true (by omega)
          have hjj : (0 : Int) ≤ (j : Int) ∧ (j : Int) < (m : Int) := by omega
          have i1 := IntWalk.i64_in ((j : Int) + 1) (by omega)
          obtain ⟨b, off, rfl⟩ := R.form (K.cov (Cov.nil _)) (by omega)
          have hjl : j < l.length := by have := HL.out; omega
          obtain ⟨p, hp⟩ : ∃ p, p = l[j]'hjl := ⟨_, rfl⟩
          have hpm : p ∈ l := by rw [hp]; exact List.getElem_mem _
          have HP := Lib.hid (show encAt asC l j = [.int .u8 p.kind, .int .i64 p.from_, .int .i64 p.len, .slice p.A p.n p.c] by rw [encAt_get hjl, ← hp]; rfl)
          have HTM := Lib.hid (show makeB (l.take (j + 1)) old = makeB (l.take j) old ++ stepB old p by rw [makeB_take hjl, hp])
          have HTO := Lib.hid (show (l.take (j + 1)).any (overB old.length) = ((l.take j).any (overB old.length) || overB old.length p) by rw [any_take' hjl, hp])
          have hpr := List.all_eq_true.1 HRA.out p hpm
          have hry := rightB_yes hpr
          have hrn := right_n hpr
          obtain ⟨-, -, -, RD, hpc, -, -⟩ := hok p hpm
          by_cases hk1 : p.kind = 1
          · have e2 : (p.kind == 1) = true := by simpa using hk1
            have HST := Lib.hid (show stepB old p = p.ds by rw [stepB, if_pos hk1])
            have HOV := Lib.hid (show overB old.length p = false by rw [overB, decide_eq_false (by simpa using hk1)]; rfl)
            have hpn : p.n ≤ 4096 := by omega
            clear hk1 hp hpm hpr
            go_wp2_with (first | ((with_reducible refine at_load rfl ?_); refine wpList_reads (by rfl) (kr_load_rec K _ _ (by rfl) (j) [.int .u8 p.kind, .int .i64 p.from_, .int .i64 p.len, .slice p.A p.n p.c] (by rfl) (R.cov (Cov.nil _)) (by omega) HP.out (by omega) (by kernel_rfl) (by kernel_rfl) (by rfl)) ?_) | ((with_reducible refine at_slot (N := 13) rfl ?_); (with_reducible refine at_alloc rfl ?_); refine wpList_does rfl (kd_alloc (z := (.agg #[.int .u8 0, .int .i64 0, .int .i64 0, .slice none 0 0])) K _ rfl (by kernel_rfl)) ?_; clear K; rintro _ w1 ⟨gs, rfl, K⟩; (try dsimp only [Value.cells] at K)) | (at_builtin; refine wpList_does rfl (kd_appendN K _ _ rfl rfl rfl (by with_reducible assumption) Seg.auto (RD.get K (Cov.nil _)) (by kernel_rfl) (by kernel_rfl) (by omega)) ?_; clear K; rintro _ w1 ⟨A2, c2, X2, rfl, O, K⟩; (try simp only [Nat.zero_add, List.nil_append] at O)) | ((with_reducible refine at_eqnil rfl ?_); refine wpList_reads rfl (kr_eqnil rfl rfl (by kernel_rfl)) ?_) | ((with_reducible refine at_box rfl ?_); refine wpList_does rfl (kd_box K _ _ rfl (by conv => lhs; whnf)) ?_; clear K; rintro _ w1 ⟨g, rfl, K⟩; (try dsimp only [Value.cells] at K)) | ((with_reducible refine at_alloc rfl ?_); refine wpList_does rfl (kd_alloc K _ rfl rfl) ?_; clear K; rintro _ w1 ⟨g, rfl, K⟩; (try dsimp only [Value.cells] at K)) | ((with_reducible refine at_buildSlice rfl ?_); refine wpList_does rfl (kd_lits (cs := _) K _ _ _ rfl (by first | rfl | (go_simp; done) | (go_simp; rfl)) (by first | rfl | (go_simp; done) | (go_simp; rfl))) ?_; clear K; rintro _ w1 ⟨g, rfl, K⟩) | ((with_reducible refine at_load rfl ?_); first | (refine wpList_reads (by rfl) (kr_load_cell K _ _ (by rfl) (by rfl) Has.auto (by decide +kernel) (by (try simp only [List.getElem?_toArray, List.getElem?_cons_succ, List.getElem?_cons_zero]); exact rfl)) ?_) | (refine wpList_reads (by rfl) (kr_load_row K _ _ (by rfl) (by rfl) Has.auto (by decide +kernel) (by kernel_rfl)) ?_)) | ((with_reducible refine at_store rfl ?_); (first | (refine wpList_does rfl (kd_store_cell K _ _ _ rfl rfl (by conv => lhs; whnf) Repl.auto rfl rfl (by kernel_rfl) (by kernel_rfl) (by first | (simp only [List.setIfInBounds_toArray, List.set_cons_succ, List.set_cons_zero]; rfl) | rfl)) ?_) | (refine wpList_does rfl (kd_store_row K _ _ _ rfl rfl rfl Repl.auto (by kernel_rfl) (by kernel_rfl) (by kernel_rfl)) ?_)); clear K; intro _ w1 K; (try simp only [Act.put])))
            go_roundg (gk - 1)
            case measure => omega
            case rel => exact ⟨j + 1, k + p.n, _, _, X2, rfl, by go_num, by omega, by omega, by rw [HTM.out, HST.out]; exact O, Lib.hid (by rw [HTO.out, HE.out, HOV.out]; rfl), K.cov Cov.auto⟩
          have e2 : (p.kind == 1) = false := by simpa using hk1
          have i3 := IntWalk.i64_in ((n : Int) - p.from_) (by omega)
          cases hov : overB old.length p
          rotate_left
          · have hlt : (n : Int) < p.from_ + p.len := by
              simp only [overB, Bool.and_eq_true, decide_eq_true_eq] at hov
              rw [HOL.out] at hov
              exact hov.2
            have HR := Lib.hid (show evalE l old sm = ([], 5) by rw [HON.out, if_pos (List.any_eq_true.2 ⟨p, hpm, hov⟩)])
            clear hk1 hp hpm hpr hov
            by_cases h2 : (n : Int) < p.from_
            · have d2 : decide ((n : Int) < p.from_) = true := decide_eq_true h2
              go_wp2_with (first | ((with_reducible refine at_load rfl ?_); refine wpList_reads (by rfl) (kr_load_rec K _ _ (by rfl) (j) [.int .u8 p.kind, .int .i64 p.from_, .int .i64 p.len, .slice p.A p.n p.c] (by rfl) (R.cov (Cov.nil _)) (by omega) HP.out (by omega) (by kernel_rfl) (by kernel_rfl) (by rfl)) ?_) | ((with_reducible refine at_slot (N := 13) rfl ?_); (with_reducible refine at_alloc rfl ?_); refine wpList_does rfl (kd_alloc (z := (.agg #[.int .u8 0, .int .i64 0, .int .i64 0, .slice none 0 0])) K _ rfl (by kernel_rfl)) ?_; clear K; rintro _ w1 ⟨gs, rfl, K⟩; (try dsimp only [Value.cells] at K)) | ((with_reducible refine at_eqnil rfl ?_); refine wpList_reads rfl (kr_eqnil rfl rfl (by kernel_rfl)) ?_) | ((with_reducible refine at_box rfl ?_); refine wpList_does rfl (kd_box K _ _ rfl (by conv => lhs; whnf)) ?_; clear K; rintro _ w1 ⟨g, rfl, K⟩; (try dsimp only [Value.cells] at K)) | ((with_reducible refine at_alloc rfl ?_); refine wpList_does rfl (kd_alloc K _ rfl rfl) ?_; clear K; rintro _ w1 ⟨g, rfl, K⟩; (try dsimp only [Value.cells] at K)) | ((with_reducible refine at_buildSlice rfl ?_); refine wpList_does rfl (kd_lits (cs := _) K _ _ _ rfl (by first | rfl | (go_simp; done) | (go_simp; rfl)) (by first | rfl | (go_simp; done) | (go_simp; rfl))) ?_; clear K; rintro _ w1 ⟨g, rfl, K⟩) | ((with_reducible refine at_load rfl ?_); first | (refine wpList_reads (by rfl) (kr_load_cell K _ _ (by rfl) (by rfl) Has.auto (by decide +kernel) (by (try simp only [List.getElem?_toArray, List.getElem?_cons_succ, List.getElem?_cons_zero]); exact rfl)) ?_) | (refine wpList_reads (by rfl) (kr_load_row K _ _ (by rfl) (by rfl) Has.auto (by decide +kernel) (by kernel_rfl)) ?_)) | ((with_reducible refine at_store rfl ?_); (first | (refine wpList_does rfl (kd_store_cell K _ _ _ rfl rfl (by conv => lhs; whnf) Repl.auto rfl rfl (by kernel_rfl) (by kernel_rfl) (by first | (simp only [List.setIfInBounds_toArray, List.set_cons_succ, List.set_cons_zero]; rfl) | rfl)) ?_) | (refine wpList_does rfl (kd_store_row K _ _ _ rfl rfl rfl Repl.auto (by kernel_rfl) (by kernel_rfl) (by kernel_rfl)) ?_)); clear K; intro _ w1 K; (try simp only [Act.put])))
              go_ret2
              exact ⟨_, 0, _, by rw [HR.out]; rfl, Lib.hid (by rw [HR.out]; rfl), [row gn #[] 5], by rw [HR.out]; exact OwnL.lit0 _ _, K.cov Cov.auto⟩
            · have d2 : decide ((n : Int) < p.from_) = false := decide_eq_false h2
              have d3 : decide ((n : Int) - p.from_ < p.len) = true := decide_eq_true (by omega)
              go_wp2_with (first | ((with_reducible refine at_load rfl ?_); refine wpList_reads (by rfl) (kr_load_rec K _ _ (by rfl) (j) [.int .u8 p.kind, .int .i64 p.from_, .int .i64 p.len, .slice p.A p.n p.c] (by rfl) (R.cov (Cov.nil _)) (by omega) HP.out (by omega) (by kernel_rfl) (by kernel_rfl) (by rfl)) ?_) | ((with_reducible refine at_slot (N := 13) rfl ?_); (with_reducible refine at_alloc rfl ?_); refine wpList_does rfl (kd_alloc (z := (.agg #[.int .u8 0, .int .i64 0, .int .i64 0, .slice none 0 0])) K _ rfl (by kernel_rfl)) ?_; clear K; rintro _ w1 ⟨gs, rfl, K⟩; (try dsimp only [Value.cells] at K)) | ((with_reducible refine at_eqnil rfl ?_); refine wpList_reads rfl (kr_eqnil rfl rfl (by kernel_rfl)) ?_) | ((with_reducible refine at_box rfl ?_); refine wpList_does rfl (kd_box K _ _ rfl (by conv => lhs; whnf)) ?_; clear K; rintro _ w1 ⟨g, rfl, K⟩; (try dsimp only [Value.cells] at K)) | ((with_reducible refine at_alloc rfl ?_); refine wpList_does rfl (kd_alloc K _ rfl rfl) ?_; clear K; rintro _ w1 ⟨g, rfl, K⟩; (try dsimp only [Value.cells] at K)) | ((with_reducible refine at_buildSlice rfl ?_); refine wpList_does rfl (kd_lits (cs := _) K _ _ _ rfl (by first | rfl | (go_simp; done) | (go_simp; rfl)) (by first | rfl | (go_simp; done) | (go_simp; rfl))) ?_; clear K; rintro _ w1 ⟨g, rfl, K⟩) | ((with_reducible refine at_load rfl ?_); first | (refine wpList_reads (by rfl) (kr_load_cell K _ _ (by rfl) (by rfl) Has.auto (by decide +kernel) (by (try simp only [List.getElem?_toArray, List.getElem?_cons_succ, List.getElem?_cons_zero]); exact rfl)) ?_) | (refine wpList_reads (by rfl) (kr_load_row K _ _ (by rfl) (by rfl) Has.auto (by decide +kernel) (by kernel_rfl)) ?_)) | ((with_reducible refine at_store rfl ?_); (first | (refine wpList_does rfl (kd_store_cell K _ _ _ rfl rfl (by conv => lhs; whnf) Repl.auto rfl rfl (by kernel_rfl) (by kernel_rfl) (by first | (simp only [List.setIfInBounds_toArray, List.set_cons_succ, List.set_cons_zero]; rfl) | rfl)) ?_) | (refine wpList_does rfl (kd_store_row K _ _ _ rfl rfl rfl Repl.auto (by kernel_rfl) (by kernel_rfl) (by kernel_rfl)) ?_)); clear K; intro _ w1 K; (try simp only [Act.put])))
              go_ret2
              exact ⟨_, 0, _, by rw [HR.out]; rfl, Lib.hid (by rw [HR.out]; rfl), [row gn #[] 5], by rw [HR.out]; exact OwnL.lit0 _ _, K.cov Cov.auto⟩
          have HNO := Lib.hid hov
          have hfl : p.from_ + p.len ≤ n := by
            simp only [overB, decide_eq_true hk1, Bool.true_and, decide_eq_false_iff_not] at hov
            rw [HOL.out] at hov
            omega
          obtain ⟨f, hf⟩ : ∃ f : Nat, p.from_ = (f : Int) := ⟨p.from_.toNat, by omega⟩
          obtain ⟨ln, hln⟩ : ∃ ln : Nat, p.len = (ln : Int) := ⟨p.len.toNat, by omega⟩
          have hf2 : p.from_.toNat = f := by omega
          have hln2 : p.len.toNat = ln := by omega
          have d2 : decide ((n : Int) < (f : Int)) = false := decide_eq_false (by omega)
          have d2n : decide (n < f) = false := decide_eq_false (by omega)
          have d3 : decide ((n : Int) - (f : Int) < (ln : Int)) = false := decide_eq_false (by omega)
          have i4 := IntWalk.i64_in ((n : Int) - (f : Int)) (by omega)
          have HSB := Lib.hid (fun (i : Nat) (h : i < ln) => show (stepB old p)[i]? = some (if p.kind = 3 then IntKind.u8.wrap (old.getD (f + i) 0 + p.ds.getD i 0) else old.getD (f + i) 0) by rw [stepB, if_neg hk1, hf2, hln2]; simp [h])
          have HSL := Lib.hid (show (stepB old p).length = ln by rw [stepB, if_neg hk1]; simp [hln2])
          have hln0 : 1 ≤ ln ∧ ln ≤ 4096 := by omega
          have hfn : f + ln ≤ n := by omega
          have hpn : p.kind = 3 → p.n = ln := by omega
          rw [hf, hln] at HP
          clear hk1 hp hpm hpr hov hry hrn hf hln hfl hf2 hln2 i3
          go_upto_region 23 with ((first | ((with_reducible refine at_load rfl ?_); refine wpList_reads (by rfl) (kr_load_rec K _ _ (by rfl) (j) [.int .u8 p.kind, .int .i64 (f : Int), .int .i64 (ln : Int), .slice p.A p.n p.c] (by rfl) (R.cov (Cov.nil _)) (by omega) HP.out (by omega) (by kernel_rfl) (by kernel_rfl) (by rfl)) ?_) | ((with_reducible refine at_slot (N := 13) rfl ?_); (with_reducible refine at_alloc rfl ?_); refine wpList_does rfl (kd_alloc (z := (.agg #[.int .u8 0, .int .i64 0, .int .i64 0, .slice none 0 0])) K _ rfl (by kernel_rfl)) ?_; clear K; rintro _ w1 ⟨gs, rfl, K⟩; (try dsimp only [Value.cells] at K)) | ((with_reducible refine at_eqnil rfl ?_); refine wpList_reads rfl (kr_eqnil rfl rfl (by kernel_rfl)) ?_) | ((with_reducible refine at_box rfl ?_); refine wpList_does rfl (kd_box K _ _ rfl (by conv => lhs; whnf)) ?_; clear K; rintro _ w1 ⟨g, rfl, K⟩; (try dsimp only [Value.cells] at K)) | ((with_reducible refine at_alloc rfl ?_); refine wpList_does rfl (kd_alloc K _ rfl rfl) ?_; clear K; rintro _ w1 ⟨g, rfl, K⟩; (try dsimp only [Value.cells] at K)) | ((with_reducible refine at_buildSlice rfl ?_); refine wpList_does rfl (kd_lits (cs := _) K _ _ _ rfl (by first | rfl | (go_simp; done) | (go_simp; rfl)) (by first | rfl | (go_simp; done) | (go_simp; rfl))) ?_; clear K; rintro _ w1 ⟨g, rfl, K⟩) | ((with_reducible refine at_load rfl ?_); first | (refine wpList_reads (by rfl) (kr_load_cell K _ _ (by rfl) (by rfl) Has.auto (by decide +kernel) (by (try simp only [List.getElem?_toArray, List.getElem?_cons_succ, List.getElem?_cons_zero]); exact rfl)) ?_) | (refine wpList_reads (by rfl) (kr_load_row K _ _ (by rfl) (by rfl) Has.auto (by decide +kernel) (by kernel_rfl)) ?_)) | ((with_reducible refine at_store rfl ?_); (first | (refine wpList_does rfl (kd_store_cell K _ _ _ rfl rfl (by conv => lhs; whnf) Repl.auto rfl rfl (by kernel_rfl) (by kernel_rfl) (by first | (simp only [List.setIfInBounds_toArray, List.set_cons_succ, List.set_cons_zero]; rfl) | rfl)) ?_) | (refine wpList_does rfl (kd_store_row K _ _ _ rfl rfl rfl Repl.auto (by kernel_rfl) (by kernel_rfl) (by kernel_rfl)) ?_)); clear K; intro _ w1 K; (try simp only [Act.put]))))
          obtain ⟨Q, hQ⟩ : ∃ Q, Q = makeB (l.take j) old := ⟨_, rfl⟩
          rw [← hQ] at O HTM
          have HQ := Lib.hid hQ
          clear hQ
          replace O : OwnL 5 1 Ao (k + 0) co ((Q ++ (stepB old p).take 0).map (Value.int .u8)) Xo := by simpa using O
          replace K : Known w0 _ (Xo ++ (row gs #[.int .u8 p.kind, .int .i64 (f : Int), .int .i64 (ln : Int), .slice p.A p.n p.c] 71 :: row gn #[] 5 :: L)) := K.cov Cov.auto
          obtain ⟨og, hog⟩ : ∃ og, og = gk := ⟨_, rfl⟩
          go_loopg [11, 14] ln (fun q v9 v wr => ∃ (i : Nat) (Ao : Option Addr) (co : Nat) (Xo : List Ent), v9 = .slice Ao (k + i) co ∧ v = .int .i64 i ∧ i + q = ln ∧ OwnL 5 1 Ao (k + i) co ((Q ++ (stepB old p).take i).map (Value.int .u8)) Xo ∧ Known w0 wr (Xo ++ (row gs #[.int .u8 p.kind, .int .i64 (f : Int), .int .i64 (ln : Int), .slice p.A p.n p.c] 71 :: row gn #[] 5 :: L)))
          case atStart => exact ⟨0, _, _, _, by go_num, by go_num, by omega, O, K⟩
          case round =>
            clear K O
            obtain ⟨i, Ao, co, Xo, rfl, rfl, hdi, O, K⟩ := hrel
            by_cases hi : i < ln
            · have hi2 : decide ((i : Int) < (ln : Int)) = true := decide_eq_true (by omega)
              have i2 := IntWalk.i64_in ((i : Int) + 1) (by omega)
              have i5 := IntWalk.i64_in ((f : Int) + (i : Int)) (by omega)
              have hfi : (0 : Int) ≤ (f : Int) + (i : Int) ∧ (f : Int) + (i : Int) < (n : Int) := by omega
              obtain ⟨u, hu⟩ : ∃ u, old.getD (f + i) 0 = u := ⟨_, rfl⟩
              obtain ⟨v, hv⟩ : ∃ v, p.ds.getD i 0 = v := ⟨_, rfl⟩
              have HU := Lib.hid hu
              have HV := Lib.hid hv
              obtain ⟨bo, oo, rfl⟩ := RO.form (K.cov Cov.auto) (by omega)
              have HSI := HSB.out i hi
              rw [hu, hv] at HSI
              clear hu hv
              have HTK := Lib.hid (fun x (h : (stepB old p)[i]? = some x) => show (stepB old p).take (i + 1) = (stepB old p).take i ++ [x] by
                rw [List.take_add_one, h]; rfl)
              by_cases k3 : p.kind = 3
              · have HK3 := Lib.hid (show (p.kind == 3) = true by simpa using k3)
                rw [if_pos k3] at HSI
                have hpn3 := hpn k3
                have hii : (0 : Int) ≤ (i : Int) ∧ (i : Int) < (p.n : Int) := by omega
                obtain ⟨bd, od, hbd⟩ := RD.form (K.cov (Cov.nil _)) (by omega)
                rw [hbd] at RD K HP
                have HBD := Lib.hid hbd
                clear hbd
                have HTK2 := Lib.hid (HTK.out _ HSI)
                clear HSI k3 hpn3
                go_wp2_with (first | ((with_reducible refine at_slot (N := 92) rfl ?_); refine wpList_reads rfl (kr_eqI rfl (by rfl) (by rfl) HK3.out) ?_) | ((with_reducible refine at_load rfl ?_); refine wpList_reads (by rfl) (kr_load_rec K _ _ (by rfl) (j) [.int .u8 p.kind, .int .i64 (f : Int), .int .i64 (ln : Int), .slice p.A p.n p.c] (by rfl) (R.cov (Cov.nil _)) (by omega) HP.out (by omega) (by kernel_rfl) (by kernel_rfl) (by rfl)) ?_) | ((with_reducible refine at_load rfl ?_); first | (refine wpList_reads (by rfl) (kr_load_cell K _ _ (by rfl) (by rfl) Has.auto (by decide +kernel) (by (try simp only [List.getElem?_toArray, List.getElem?_cons_succ, List.getElem?_cons_zero]); exact rfl)) ?_) | (refine wpList_reads (by rfl) (kr_load_row K _ _ (by rfl) (by rfl) Has.auto (by decide +kernel) (by kernel_rfl)) ?_) | (refine wpList_reads (by rfl) (kr_load_fact _ _ (by rfl) (by rfl) (RO.cell (K.cov Cov.auto) (by omega) HU.out (by omega)) (by decide +kernel)) ?_) | (refine wpList_reads (by rfl) (kr_load_fact _ _ (by rfl) (by rfl) (RD.cell (K.cov (Cov.nil _)) (by omega) HV.out rfl) (by decide +kernel)) ?_)) | ((with_reducible refine at_slot (N := 13) rfl ?_); (with_reducible refine at_alloc rfl ?_); refine wpList_does rfl (kd_alloc (z := (.agg #[.int .u8 0, .int .i64 0, .int .i64 0, .slice none 0 0])) K _ rfl (by kernel_rfl)) ?_; clear K; rintro _ w1 ⟨gs, rfl, K⟩; (try dsimp only [Value.cells] at K)) | (at_builtin; refine wpList_does rfl (kd_appendN K _ _ rfl rfl rfl (by with_reducible assumption) Seg.auto (Rd.ofBlk (n := 1) (xs := [_]) (K.blk Has.auto) rfl rfl) (by kernel_rfl) (by kernel_rfl) (by omega)) ?_; clear K; rintro _ w1 ⟨A2, c2, X2, rfl, O, K⟩; (try simp only [Nat.zero_add, List.nil_append] at O)) | ((with_reducible refine at_eqnil rfl ?_); refine wpList_reads rfl (kr_eqnil rfl rfl (by kernel_rfl)) ?_) | ((with_reducible refine at_box rfl ?_); refine wpList_does rfl (kd_box K _ _ rfl (by conv => lhs; whnf)) ?_; clear K; rintro _ w1 ⟨g, rfl, K⟩; (try dsimp only [Value.cells] at K)) | ((with_reducible refine at_alloc rfl ?_); refine wpList_does rfl (kd_alloc K _ rfl rfl) ?_; clear K; rintro _ w1 ⟨g, rfl, K⟩; (try dsimp only [Value.cells] at K)) | ((with_reducible refine at_buildSlice rfl ?_); refine wpList_does rfl (kd_lits (cs := _) K _ _ _ rfl (by first | rfl | (go_simp; done) | (go_simp; rfl)) (by first | rfl | (go_simp; done) | (go_simp; rfl))) ?_; clear K; rintro _ w1 ⟨g, rfl, K⟩) | ((with_reducible refine at_load rfl ?_); first | (refine wpList_reads (by rfl) (kr_load_cell K _ _ (by rfl) (by rfl) Has.auto (by decide +kernel) (by (try simp only [List.getElem?_toArray, List.getElem?_cons_succ, List.getElem?_cons_zero]); exact rfl)) ?_) | (refine wpList_reads (by rfl) (kr_load_row K _ _ (by rfl) (by rfl) Has.auto (by decide +kernel) (by kernel_rfl)) ?_)) | ((with_reducible refine at_store rfl ?_); (first | (refine wpList_does rfl (kd_store_cell K _ _ _ rfl rfl (by conv => lhs; whnf) Repl.auto rfl rfl (by kernel_rfl) (by kernel_rfl) (by first | (simp only [List.setIfInBounds_toArray, List.set_cons_succ, List.set_cons_zero]; rfl) | rfl)) ?_) | (refine wpList_does rfl (kd_store_row K _ _ _ rfl rfl rfl Repl.auto (by kernel_rfl) (by kernel_rfl) (by kernel_rfl)) ?_)); clear K; intro _ w1 K; (try simp only [Act.put])))
                go_roundg (gk - 1)
                case measure => omega
                case rel => exact ⟨i + 1, _, _, X2, rfl, by go_num, by omega, by rw [HTK2.out, ← List.append_assoc, ← Nat.add_assoc]; exact O, by rw [HBD.out]; exact K.cov Cov.auto⟩
              · have HK3 := Lib.hid (show (p.kind == 3) = false by simpa using k3)
                rw [if_neg k3] at HSI
                have HTK2 := Lib.hid (HTK.out _ HSI)
                clear HSI k3
                go_wp2_with (first | ((with_reducible refine at_slot (N := 92) rfl ?_); refine wpList_reads rfl (kr_eqI rfl (by rfl) (by rfl) HK3.out) ?_) | ((with_reducible refine at_load rfl ?_); refine wpList_reads (by rfl) (kr_load_rec K _ _ (by rfl) (j) [.int .u8 p.kind, .int .i64 (f : Int), .int .i64 (ln : Int), .slice p.A p.n p.c] (by rfl) (R.cov (Cov.nil _)) (by omega) HP.out (by omega) (by kernel_rfl) (by kernel_rfl) (by rfl)) ?_) | ((with_reducible refine at_load rfl ?_); first | (refine wpList_reads (by rfl) (kr_load_cell K _ _ (by rfl) (by rfl) Has.auto (by decide +kernel) (by (try simp only [List.getElem?_toArray, List.getElem?_cons_succ, List.getElem?_cons_zero]); exact rfl)) ?_) | (refine wpList_reads (by rfl) (kr_load_row K _ _ (by rfl) (by rfl) Has.auto (by decide +kernel) (by kernel_rfl)) ?_) | (refine wpList_reads (by rfl) (kr_load_fact _ _ (by rfl) (by rfl) (RO.cell (K.cov Cov.auto) (by omega) HU.out (by omega)) (by decide +kernel)) ?_) | (refine wpList_reads (by rfl) (kr_load_fact _ _ (by rfl) (by rfl) (RD.cell (K.cov (Cov.nil _)) (by omega) HV.out rfl) (by decide +kernel)) ?_)) | ((with_reducible refine at_slot (N := 13) rfl ?_); (with_reducible refine at_alloc rfl ?_); refine wpList_does rfl (kd_alloc (z := (.agg #[.int .u8 0, .int .i64 0, .int .i64 0, .slice none 0 0])) K _ rfl (by kernel_rfl)) ?_; clear K; rintro _ w1 ⟨gs, rfl, K⟩; (try dsimp only [Value.cells] at K)) | (at_builtin; refine wpList_does rfl (kd_appendN K _ _ rfl rfl rfl (by with_reducible assumption) Seg.auto (Rd.ofBlk (n := 1) (xs := [_]) (K.blk Has.auto) rfl rfl) (by kernel_rfl) (by kernel_rfl) (by omega)) ?_; clear K; rintro _ w1 ⟨A2, c2, X2, rfl, O, K⟩; (try simp only [Nat.zero_add, List.nil_append] at O)) | ((with_reducible refine at_eqnil rfl ?_); refine wpList_reads rfl (kr_eqnil rfl rfl (by kernel_rfl)) ?_) | ((with_reducible refine at_box rfl ?_); refine wpList_does rfl (kd_box K _ _ rfl (by conv => lhs; whnf)) ?_; clear K; rintro _ w1 ⟨g, rfl, K⟩; (try dsimp only [Value.cells] at K)) | ((with_reducible refine at_alloc rfl ?_); refine wpList_does rfl (kd_alloc K _ rfl rfl) ?_; clear K; rintro _ w1 ⟨g, rfl, K⟩; (try dsimp only [Value.cells] at K)) | ((with_reducible refine at_buildSlice rfl ?_); refine wpList_does rfl (kd_lits (cs := _) K _ _ _ rfl (by first | rfl | (go_simp; done) | (go_simp; rfl)) (by first | rfl | (go_simp; done) | (go_simp; rfl))) ?_; clear K; rintro _ w1 ⟨g, rfl, K⟩) | ((with_reducible refine at_load rfl ?_); first | (refine wpList_reads (by rfl) (kr_load_cell K _ _ (by rfl) (by rfl) Has.auto (by decide +kernel) (by (try simp only [List.getElem?_toArray, List.getElem?_cons_succ, List.getElem?_cons_zero]); exact rfl)) ?_) | (refine wpList_reads (by rfl) (kr_load_row K _ _ (by rfl) (by rfl) Has.auto (by decide +kernel) (by kernel_rfl)) ?_)) | ((with_reducible refine at_store rfl ?_); (first | (refine wpList_does rfl (kd_store_cell K _ _ _ rfl rfl (by conv => lhs; whnf) Repl.auto rfl rfl (by kernel_rfl) (by kernel_rfl) (by first | (simp only [List.setIfInBounds_toArray, List.set_cons_succ, List.set_cons_zero]; rfl) | rfl)) ?_) | (refine wpList_does rfl (kd_store_row K _ _ _ rfl rfl rfl Repl.auto (by kernel_rfl) (by kernel_rfl) (by kernel_rfl)) ?_)); clear K; intro _ w1 K; (try simp only [Act.put])))
                go_roundg (gk - 1)
                case measure => omega
                case rel => exact ⟨i + 1, _, _, X2, rfl, by go_num, by omega, by rw [HTK2.out, ← List.append_assoc, ← Nat.add_assoc]; exact O, K.cov Cov.auto⟩
            · have hi2 : decide ((i : Int) < (ln : Int)) = false := decide_eq_false (by omega)
              obtain rfl : i = ln := by omega
              rw [List.take_of_length_le (by rw [HSL.out]; omega)] at O
              go_wp2_with (first | ((with_reducible refine at_eqnil rfl ?_); refine wpList_reads rfl (kr_eqnil rfl rfl (by kernel_rfl)) ?_) | ((with_reducible refine at_box rfl ?_); refine wpList_does rfl (kd_box K _ _ rfl (by conv => lhs; whnf)) ?_; clear K; rintro _ w1 ⟨g, rfl, K⟩; (try dsimp only [Value.cells] at K)) | ((with_reducible refine at_alloc rfl ?_); refine wpList_does rfl (kd_alloc K _ rfl rfl) ?_; clear K; rintro _ w1 ⟨g, rfl, K⟩; (try dsimp only [Value.cells] at K)) | ((with_reducible refine at_buildSlice rfl ?_); refine wpList_does rfl (kd_lits (cs := _) K _ _ _ rfl (by first | rfl | (go_simp; done) | (go_simp; rfl)) (by first | rfl | (go_simp; done) | (go_simp; rfl))) ?_; clear K; rintro _ w1 ⟨g, rfl, K⟩) | ((with_reducible refine at_load rfl ?_); first | (refine wpList_reads (by rfl) (kr_load_cell K _ _ (by rfl) (by rfl) Has.auto (by decide +kernel) (by (try simp only [List.getElem?_toArray, List.getElem?_cons_succ, List.getElem?_cons_zero]); exact rfl)) ?_) | (refine wpList_reads (by rfl) (kr_load_row K _ _ (by rfl) (by rfl) Has.auto (by decide +kernel) (by kernel_rfl)) ?_)) | ((with_reducible refine at_store rfl ?_); (first | (refine wpList_does rfl (kd_store_cell K _ _ _ rfl rfl (by conv => lhs; whnf) Repl.auto rfl rfl (by kernel_rfl) (by kernel_rfl) (by first | (simp only [List.setIfInBounds_toArray, List.set_cons_succ, List.set_cons_zero]; rfl) | rfl)) ?_) | (refine wpList_does rfl (kd_store_row K _ _ _ rfl rfl rfl Repl.auto (by kernel_rfl) (by kernel_rfl) (by kernel_rfl)) ?_)); clear K; intro _ w1 K; (try simp only [Act.put])))
              go_roundg (og - 1)
              case measure => omega
              case rel => exact ⟨j + 1, _, _, _, Xo, rfl, by go_num, by omega, by omega, by rw [HTM.out]; exact O, Lib.hid (by rw [HTO.out, HE.out, HNO.out]; rfl), K.cov Cov.auto⟩
        · have hj2 : decide ((j : Int) < (m : Int)) = false := decide_eq_false (by omega)
          have htl : l.take j = l := List.take_of_length_le (by have := HL.out; omega)
          have hol := O.len
          rw [htl] at HE O hol
          have HR := Lib.hid (show evalE l old sm = (makeB l old, 0) by rw [HON.out, HE.out]; rfl)
          rw [List.length_map, Nat.mul_one] at hol
          have HKL := Lib.hid hol
          clear hol
          go_wp2
          go_ret2
          exact ⟨Ao, k, co, by rw [HR.out]; rfl, Lib.hid (by rw [HR.out]; exact HKL.out.symm), Xo, by rw [HR.out]; exact O, K.cov Cov.auto⟩
end
end Go.Proofs.Ytffednkdmkohdaa
