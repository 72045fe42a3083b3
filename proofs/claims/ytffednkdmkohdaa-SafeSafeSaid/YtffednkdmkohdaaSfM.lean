/-
  plan: sum, Bytes.Range, ask (contracts); slices.Clone of such bytes.
-/
import Derived.Test.YtffednkdmkohdaaSfL
set_option linter.unusedVariables false
set_option linter.unusedSimpArgs false
namespace Go.Proofs.Ytffednkdmkohdaa
open Go.RowKit
def sumE (l : List Ast) : Int := if l.all rightB then lenSum l else -1

section
variable {w0 w : World} {L : List Ent} {A : Option Addr} {n c m : Nat} {l : List Ast} {xs : List Int}
set_option maxHeartbeats 800000 in
set_option maxRecDepth 100000 in
theorem psum_any (K : Known w0 w L) (R : RdM w0 [] asC 4 A m l) (hc : m ≤ c) (hm : m ≤ 100000) : Calls Try.prog 87 #[.slice A m c] w fun e w' => e = .returned (.int .i64 (sumE l)) ∧ Known w0 w' L := by
  have HL := Lib.hid R.len
  go_enter Try.func87, Try.ntmps87
  go_upto_region 3 with (fail)
  go_loopg [3, 8] m (fun q v7 v wr => ∃ (j : Nat) (sm : Int), v7 = .int .i64 sm ∧ v = .int .i64 j ∧ j + q = m ∧ (0 ≤ sm ∧ sm ≤ 4096 * j) ∧ Hid ((l.take j).all rightB = true) ∧ Hid (lenSum (l.take j) = sm) ∧ Known w0 wr L)
  case atStart => exact ⟨0, 0, by go_num, by go_num, by omega, by omega, Lib.hid rfl, Lib.hid rfl, K⟩
  case round =>
    clear K
    obtain ⟨j, sm, rfl, rfl, hd, hsm, HA, HS, K⟩ := hrel
    by_cases hj : j < m
    · have hj2 : decide ((j : Int) < (m : Int)) = true := decide_eq_true (by omega)
      have hjj : (0 : Int) ≤ (j : Int) ∧ (j : Int) < (m : Int) := by omega
      have i1 := IntWalk.i64_in ((j : Int) + 1) (by omega)
      obtain ⟨b, off, rfl⟩ := R.form (K.cov (Cov.nil _)) (by omega)
      have hjl : j < l.length := by have := HL.out; omega
      obtain ⟨p, hp⟩ : ∃ p, p = l[j]'hjl := ⟨_, rfl⟩
      have hpm : p ∈ l := by rw [hp]; exact List.getElem_mem _
      have HP := Lib.hid (show encAt asC l j = [.int .u8 p.kind, .int .i64 p.from_, .int .i64 p.len, .slice p.A p.n p.c] by rw [encAt_get hjl, ← hp]; rfl)
      have HTA := Lib.hid (show (l.take (j + 1)).all rightB = ((l.take j).all rightB && rightB p) by rw [all_take' hjl, hp])
      have HTS := Lib.hid (show lenSum (l.take (j + 1)) = lenSum (l.take j) + p.len by rw [lenSum_take hjl, hp])
      cases hrb : rightB p
      · have HRB := Lib.hid hrb
        have HR := Lib.hid (show sumE l = -1 by
          rw [sumE, if_neg]
          rw [List.all_eq_true]
          intro h
          have := h p hpm
          rw [hrb] at this
          cases this)
        clear hrb hpm hp
        go_wp2_with (first | ((with_reducible refine at_load rfl ?_); refine wpList_reads (by rfl) (kr_load_rec K _ _ (by rfl) (j) [.int .u8 p.kind, .int .i64 p.from_, .int .i64 p.len, .slice p.A p.n p.c] (by rfl) (R.cov (Cov.nil _)) (by omega) HP.out (by omega) (by kernel_rfl) (by kernel_rfl) (by rfl)) ?_) | (go_at_call 46; (with_reducible refine (pright_any (s := p) K).mono ?_); clear K; rintro e w1 ⟨rfl, K⟩; rw [HRB.out]) | ((with_reducible refine at_slot (N := 5) rfl ?_); (with_reducible refine at_alloc rfl ?_); refine wpList_does rfl (kd_alloc (z := (.agg #[.int .u8 0, .int .i64 0, .int .i64 0, .slice none 0 0])) K _ rfl (by kernel_rfl)) ?_; clear K; rintro _ w1 ⟨go, rfl, K⟩; (try dsimp only [Value.cells] at K)) | ((with_reducible refine at_eqnil rfl ?_); refine wpList_reads rfl (kr_eqnil rfl rfl (by kernel_rfl)) ?_) | ((with_reducible refine at_box rfl ?_); refine wpList_does rfl (kd_box K _ _ rfl (by conv => lhs; whnf)) ?_; clear K; rintro _ w1 ⟨g, rfl, K⟩; (try dsimp only [Value.cells] at K)) | ((with_reducible refine at_alloc rfl ?_); refine wpList_does rfl (kd_alloc K _ rfl rfl) ?_; clear K; rintro _ w1 ⟨g, rfl, K⟩; (try dsimp only [Value.cells] at K)) | ((with_reducible refine at_buildSlice rfl ?_); refine wpList_does rfl (kd_lits (cs := _) K _ _ _ rfl (by first | rfl | (go_simp; done) | (go_simp; rfl)) (by first | rfl | (go_simp; done) | (go_simp; rfl))) ?_; clear K; rintro _ w1 ⟨g, rfl, K⟩) | ((with_reducible refine at_load rfl ?_); first | (refine wpList_reads (by rfl) (kr_load_cell K _ _ (by rfl) (by rfl) Has.auto (by decide +kernel) (by (try simp only [List.getElem?_toArray, List.getElem?_cons_succ, List.getElem?_cons_zero]); exact rfl)) ?_) | (refine wpList_reads (by rfl) (kr_load_row K _ _ (by rfl) (by rfl) Has.auto (by decide +kernel) (by kernel_rfl)) ?_)) | ((with_reducible refine at_store rfl ?_); (first | (refine wpList_does rfl (kd_store_cell K _ _ _ rfl rfl (by conv => lhs; whnf) Repl.auto rfl rfl (by kernel_rfl) (by kernel_rfl) (by first | (simp only [List.setIfInBounds_toArray, List.set_cons_succ, List.set_cons_zero]; rfl) | rfl)) ?_) | (refine wpList_does rfl (kd_store_row K _ _ _ rfl rfl rfl Repl.auto (by kernel_rfl) (by kernel_rfl) (by kernel_rfl)) ?_)); clear K; intro _ w1 K; (try simp only [Act.put])))
        go_ret
        exact ⟨by rw [HR.out]; rfl, K.cov Cov.auto⟩
      · have HRB := Lib.hid hrb
        have hry := rightB_yes hrb
        have i2 := IntWalk.i64_in (sm + p.len) (by omega)
        clear hrb hpm hp
        go_wp2_with (first | ((with_reducible refine at_load rfl ?_); refine wpList_reads (by rfl) (kr_load_rec K _ _ (by rfl) (j) [.int .u8 p.kind, .int .i64 p.from_, .int .i64 p.len, .slice p.A p.n p.c] (by rfl) (R.cov (Cov.nil _)) (by omega) HP.out (by omega) (by kernel_rfl) (by kernel_rfl) (by rfl)) ?_) | (go_at_call 46; (with_reducible refine (pright_any (s := p) K).mono ?_); clear K; rintro e w1 ⟨rfl, K⟩; rw [HRB.out]) | ((with_reducible refine at_slot (N := 5) rfl ?_); (with_reducible refine at_alloc rfl ?_); refine wpList_does rfl (kd_alloc (z := (.agg #[.int .u8 0, .int .i64 0, .int .i64 0, .slice none 0 0])) K _ rfl (by kernel_rfl)) ?_; clear K; rintro _ w1 ⟨go, rfl, K⟩; (try dsimp only [Value.cells] at K)) | ((with_reducible refine at_eqnil rfl ?_); refine wpList_reads rfl (kr_eqnil rfl rfl (by kernel_rfl)) ?_) | ((with_reducible refine at_box rfl ?_); refine wpList_does rfl (kd_box K _ _ rfl (by conv => lhs; whnf)) ?_; clear K; rintro _ w1 ⟨g, rfl, K⟩; (try dsimp only [Value.cells] at K)) | ((with_reducible refine at_alloc rfl ?_); refine wpList_does rfl (kd_alloc K _ rfl rfl) ?_; clear K; rintro _ w1 ⟨g, rfl, K⟩; (try dsimp only [Value.cells] at K)) | ((with_reducible refine at_buildSlice rfl ?_); refine wpList_does rfl (kd_lits (cs := _) K _ _ _ rfl (by first | rfl | (go_simp; done) | (go_simp; rfl)) (by first | rfl | (go_simp; done) | (go_simp; rfl))) ?_; clear K; rintro _ w1 ⟨g, rfl, K⟩) | ((with_reducible refine at_load rfl ?_); first | (refine wpList_reads (by rfl) (kr_load_cell K _ _ (by rfl) (by rfl) Has.auto (by decide +kernel) (by (try simp only [List.getElem?_toArray, List.getElem?_cons_succ, List.getElem?_cons_zero]); exact rfl)) ?_) | (refine wpList_reads (by rfl) (kr_load_row K _ _ (by rfl) (by rfl) Has.auto (by decide +kernel) (by kernel_rfl)) ?_)) | ((with_reducible refine at_store rfl ?_); (first | (refine wpList_does rfl (kd_store_cell K _ _ _ rfl rfl (by conv => lhs; whnf) Repl.auto rfl rfl (by kernel_rfl) (by kernel_rfl) (by first | (simp only [List.setIfInBounds_toArray, List.set_cons_succ, List.set_cons_zero]; rfl) | rfl)) ?_) | (refine wpList_does rfl (kd_store_row K _ _ _ rfl rfl rfl Repl.auto (by kernel_rfl) (by kernel_rfl) (by kernel_rfl)) ?_)); clear K; intro _ w1 K; (try simp only [Act.put])))
        go_roundg (gk - 1)
        case measure => omega
        case rel => exact ⟨j + 1, sm + p.len, by go_num, by go_num, by omega, by omega, Lib.hid (by rw [HTA.out, HA.out, HRB.out]; rfl), Lib.hid (by rw [HTS.out, HS.out]), K.cov Cov.auto⟩
    · have hj2 : decide ((j : Int) < (m : Int)) = false := decide_eq_false (by omega)
      have htl : l.take j = l := List.take_of_length_le (by have := HL.out; omega)
      rw [htl] at HA HS
      have HR := Lib.hid (show sumE l = sm by rw [sumE, if_pos HA.out, HS.out])
      go_wp2
      go_ret
      exact ⟨by rw [HR.out]; rfl, K⟩
set_option maxRecDepth 100000 in
theorem bclone_any (K : Known w0 w L) (R : RdS w0 L .u8 A n xs) (hn : n ≤ 34000000000) :
    Calls Try.prog 173 #[.slice A n c] w fun e w' => ∃ A' c' X, e = .returned (.slice A' n c') ∧ OwnL 5 1 A' n c' (xs.map (Value.int .u8)) X ∧ Known w0 w' (X ++ L) := by
  cases A with
  | none =>
    have h0 : n = 0 := by
      rcases Nat.eq_zero_or_pos n with h | h
      · exact h
      · obtain ⟨b, off, e, _⟩ := (R.at_ w K).form h; cases e
    subst h0
    have hx : xs = [] := List.eq_nil_of_length_eq_zero R.len
    subst hx
    go_enter Try.func173, Try.ntmps173
    go_wp2_with (first | ((with_reducible refine at_eqnil rfl ?_); refine wpList_reads rfl (kr_eqnil rfl rfl (by kernel_rfl)) ?_) | ((with_reducible refine at_box rfl ?_); refine wpList_does rfl (kd_box K _ _ rfl (by conv => lhs; whnf)) ?_; clear K; rintro _ w1 ⟨g, rfl, K⟩; (try dsimp only [Value.cells] at K)) | ((with_reducible refine at_alloc rfl ?_); refine wpList_does rfl (kd_alloc K _ rfl rfl) ?_; clear K; rintro _ w1 ⟨g, rfl, K⟩; (try dsimp only [Value.cells] at K)) | ((with_reducible refine at_buildSlice rfl ?_); refine wpList_does rfl (kd_lits (cs := _) K _ _ _ rfl (by first | rfl | (go_simp; done) | (go_simp; rfl)) (by first | rfl | (go_simp; done) | (go_simp; rfl))) ?_; clear K; rintro _ w1 ⟨g, rfl, K⟩) | ((with_reducible refine at_load rfl ?_); first | (refine wpList_reads (by rfl) (kr_load_cell K _ _ (by rfl) (by rfl) Has.auto (by decide +kernel) (by (try simp only [List.getElem?_toArray, List.getElem?_cons_succ, List.getElem?_cons_zero]); exact rfl)) ?_) | (refine wpList_reads (by rfl) (kr_load_row K _ _ (by rfl) (by rfl) Has.auto (by decide +kernel) (by kernel_rfl)) ?_)) | ((with_reducible refine at_store rfl ?_); (first | (refine wpList_does rfl (kd_store_cell K _ _ _ rfl rfl (by conv => lhs; whnf) Repl.auto rfl rfl (by kernel_rfl) (by kernel_rfl) (by first | (simp only [List.setIfInBounds_toArray, List.set_cons_succ, List.set_cons_zero]; rfl) | rfl)) ?_) | (refine wpList_does rfl (kd_store_row K _ _ _ rfl rfl rfl Repl.auto (by kernel_rfl) (by kernel_rfl) (by kernel_rfl)) ?_)); clear K; intro _ w1 K; (try simp only [Act.put])))
    go_ret
    exact ⟨none, 0, [], rfl, OwnL.nil _ _, K⟩
  | some a =>
    go_enter Try.func173, Try.ntmps173
    go_wp2_with (first | ((with_reducible refine at_buildSlice (n := 0) rfl ?_); refine wpList_does rfl (kd_lit0 K _ 5 1 rfl Try.underlying92 (by kernel_rfl)) ?_; clear K; rintro _ w1 ⟨g, rfl, K⟩; have O : OwnL 5 1 (some ⟨g, 0, none⟩) 0 0 (([] : List Int).map (Value.int .u8)) [row g #[] 5] := OwnL.lit0 _ _) | (at_builtin; refine wpList_does rfl (kd_appendN K _ _ rfl rfl rfl (by with_reducible assumption) Seg.auto (R.get K Cov.auto) (by kernel_rfl) (by kernel_rfl) (by omega)) ?_; clear K; rintro _ w1 ⟨A1, c1, X1, rfl, O, K⟩; (try simp only [Nat.zero_add, List.nil_append] at O)) | ((with_reducible refine at_eqnil rfl ?_); refine wpList_reads rfl (kr_eqnil rfl rfl (by kernel_rfl)) ?_) | ((with_reducible refine at_box rfl ?_); refine wpList_does rfl (kd_box K _ _ rfl (by conv => lhs; whnf)) ?_; clear K; rintro _ w1 ⟨g, rfl, K⟩; (try dsimp only [Value.cells] at K)) | ((with_reducible refine at_alloc rfl ?_); refine wpList_does rfl (kd_alloc K _ rfl rfl) ?_; clear K; rintro _ w1 ⟨g, rfl, K⟩; (try dsimp only [Value.cells] at K)) | ((with_reducible refine at_buildSlice rfl ?_); refine wpList_does rfl (kd_lits (cs := _) K _ _ _ rfl (by first | rfl | (go_simp; done) | (go_simp; rfl)) (by first | rfl | (go_simp; done) | (go_simp; rfl))) ?_; clear K; rintro _ w1 ⟨g, rfl, K⟩) | ((with_reducible refine at_load rfl ?_); first | (refine wpList_reads (by rfl) (kr_load_cell K _ _ (by rfl) (by rfl) Has.auto (by decide +kernel) (by (try simp only [List.getElem?_toArray, List.getElem?_cons_succ, List.getElem?_cons_zero]); exact rfl)) ?_) | (refine wpList_reads (by rfl) (kr_load_row K _ _ (by rfl) (by rfl) Has.auto (by decide +kernel) (by kernel_rfl)) ?_)) | ((with_reducible refine at_store rfl ?_); (first | (refine wpList_does rfl (kd_store_cell K _ _ _ rfl rfl (by conv => lhs; whnf) Repl.auto rfl rfl (by kernel_rfl) (by kernel_rfl) (by first | (simp only [List.setIfInBounds_toArray, List.set_cons_succ, List.set_cons_zero]; rfl) | rfl)) ?_) | (refine wpList_does rfl (kd_store_row K _ _ _ rfl rfl rfl Repl.auto (by kernel_rfl) (by kernel_rfl) (by kernel_rfl)) ?_)); clear K; intro _ w1 K; (try simp only [Act.put])))
    go_ret
    exact ⟨_, _, _, rfl, O, K.cov Cov.auto⟩

set_option maxHeartbeats 800000 in
set_option maxRecDepth 100000 in
theorem brange_yes (K : Known w0 w L) (R : RdS w0 L .u8 A n xs) (hc : n ≤ c) (hn : n ≤ 10000000000) (f k : Nat) (hk : f + k ≤ n) :
    Calls Try.prog 172 #[.slice A n c, .int .i64 f, .int .i64 k] w fun e w' => ∃ A' c' X, e = .returned (.tuple #[.slice A' k c', .int .i64 0]) ∧ OwnL 5 1 A' k c' (((xs.drop f).take k).map (Value.int .u8)) X ∧ Known w0 w' (X ++ L) := by
  have d0 : decide ((f : Int) < 0) = false := decide_eq_false (by omega)
  have d1 : decide ((k : Int) < 0) = false := decide_eq_false (by omega)
  have d2 : decide ((n : Int) < (f : Int)) = false := decide_eq_false (by omega)
  have d3 : decide ((n : Int) - (f : Int) < (k : Int)) = false := decide_eq_false (by omega)
  have i1 := IntWalk.i64_in ((n : Int) - (f : Int)) (by omega)
  have i2 := IntWalk.i64_in ((f : Int) + (k : Int)) (by omega)
  have HRC := Lib.hid (R.cut f k hk hc)
  go_enter Try.func172, Try.ntmps172
  go_wp2_with (first | ((with_reducible refine at_slice (l := some _) (h := some _) rfl ?_); refine wpList_reads rfl (kr_cut rfl rfl (f) (k) (.inr ⟨_, _, by rfl, by rfl, by omega⟩) (.inr ⟨_, _, by rfl, by rfl, by omega⟩) (by omega) (by omega) Try.underlying92 (by kernel_rfl)) ?_) | (go_at_call 173; (with_reducible refine (bclone_any K HRC.out (by omega)).mono ?_); clear K; rintro e w1 ⟨A1, c1, X1, rfl, O, K⟩))
  go_ret2
  exact ⟨_, _, X1, rfl, O, K⟩
set_option maxHeartbeats 800000 in
set_option maxRecDepth 100000 in
theorem brange_no (K : Known w0 w L) (A : Option Addr) (hc : n ≤ c) (hn : n ≤ 10000000000) (f k : Int) (hf : 0 ≤ f ∧ f ≤ 2147483647) (hk0 : 0 ≤ k ∧ k ≤ 2147483647) (hk : n < f + k) :
    Calls Try.prog 172 #[.slice A n c, .int .i64 f, .int .i64 k] w fun e w' => e = .returned (.tuple #[.slice none 0 0, .int .i64 5]) ∧ Known w0 w' L := by
  have d0 : decide (f < 0) = false := decide_eq_false (by omega)
  have d1 : decide (k < 0) = false := decide_eq_false (by omega)
  have i1 := IntWalk.i64_in ((n : Int) - f) (by omega)
  by_cases h2 : (n : Int) < f
  · have d2 : decide ((n : Int) < f) = true := decide_eq_true h2
    go_enter Try.func172, Try.ntmps172
    go_wp2
    go_ret2
    exact ⟨rfl, K⟩
  · have d2 : decide ((n : Int) < f) = false := decide_eq_false h2
    have d3 : decide ((n : Int) - f < k) = true := decide_eq_true (by omega)
    go_enter Try.func172, Try.ntmps172
    go_wp2
    go_ret2
    exact ⟨rfl, K⟩

set_option maxRecDepth 100000 in
theorem range_method (A : Option Addr) (n c : Nat) (w : World) : Sem.run Try.prog (method (Try.prog.types.size + Made.depth) 92 (.slice A n c) "Range") w = .ok (172, .slice A n c) w := by kernel_rfl
set_option maxRecDepth 100000 in
theorem pask_yes (K : Known w0 w L) (R : RdS w0 L .u8 A n xs) (hc : n ≤ c) (hn : n ≤ 10000000000) (f k : Nat) (hk : f + k ≤ n) :
    Calls Try.prog 88 #[.iface 92 (.slice A n c), .int .i64 f, .int .i64 k] w fun e w' => ∃ A' c' X, e = .returned (.tuple #[.slice A' k c', .int .i64 0]) ∧ OwnL 5 1 A' k c' (((xs.drop f).take k).map (Value.int .u8)) X ∧ Known w0 w' (X ++ L) := by
  have hM := range_method A n c
  have hT : Try.prog.types.size + Made.depth = 316 := by kernel_rfl
  rw [hT] at hM
  clear hT
  go_enter Try.func88, Try.ntmps88
  go_wp2_with (first | (go_at_call 172; (with_reducible refine (brange_yes K R hc hn f k hk).mono ?_); clear K; rintro e w1 ⟨A1, c1, X1, rfl, O, K⟩))
  go_ret2
  exact ⟨_, _, X1, rfl, O, K⟩
set_option maxRecDepth 100000 in
theorem pask_no (K : Known w0 w L) (A : Option Addr) (hc : n ≤ c) (hn : n ≤ 10000000000) (f k : Int) (hf : 0 ≤ f ∧ f ≤ 2147483647) (hk0 : 0 ≤ k ∧ k ≤ 2147483647) (hk : n < f + k) :
    Calls Try.prog 88 #[.iface 92 (.slice A n c), .int .i64 f, .int .i64 k] w fun e w' => e = .returned (.tuple #[.slice none 0 0, .int .i64 5]) ∧ Known w0 w' L := by
  have hM := range_method A n c
  have hT : Try.prog.types.size + Made.depth = 316 := by kernel_rfl
  rw [hT] at hM
  clear hT
  go_enter Try.func88, Try.ntmps88
  go_wp2_with (first | (go_at_call 172; (with_reducible refine (brange_no K A hc hn f k hf hk0 hk).mono ?_); clear K; rintro e w1 ⟨rfl, K⟩))
  go_ret2
  exact ⟨rfl, K⟩
end
end Go.Proofs.Ytffednkdmkohdaa
