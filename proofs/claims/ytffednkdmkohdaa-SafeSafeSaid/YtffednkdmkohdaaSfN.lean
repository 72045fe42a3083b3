/-
  plan: Eval (contract).
-/
import Derived.Test.YtffednkdmkohdaaSfM
set_option linter.unusedVariables false
set_option linter.unusedSimpArgs false
namespace Go.Proofs.Ytffednkdmkohdaa
open Go.RowKit
/-- a step's bytes, the first i of them added to -/
def adB (old : List Int) (s : Ast) (i : Nat) : List Int := (List.range s.len.toNat).map fun k => if k < i then IntKind.u8.wrap (old.getD (s.from_.toNat + k) 0 + s.ds.getD k 0) else old.getD (s.from_.toNat + k) 0
theorem adB_zero {old : List Int} {s : Ast} (h : s.from_.toNat + s.len.toNat ≤ old.length) : adB old s 0 = (old.drop s.from_.toNat).take s.len.toNat := by
  apply List.ext_getElem
  · simp [adB]; omega
  · intro i h1 h2
    simp [adB] at h1
    simp [adB, List.getD, show s.from_.toNat + i < old.length by omega]
theorem adB_end {old : List Int} {s : Ast} (h : rightB s = true) (hk : s.kind ≠ 1) : adB old s s.n = stepB old s := by
  have hn := right_n h
  rw [stepB, if_neg hk, adB]
  apply List.map_congr_left
  intro k hk2
  rw [List.mem_range] at hk2
  by_cases h3 : s.kind = 3
  · rw [if_pos h3, if_pos (by omega)]
  · rw [if_neg h3, if_neg (by omega)]
theorem adB_get {old : List Int} {s : Ast} {i k : Nat} (h : k < s.len.toNat) : (adB old s i)[k]? = some (if k < i then IntKind.u8.wrap (old.getD (s.from_.toNat + k) 0 + s.ds.getD k 0) else old.getD (s.from_.toNat + k) 0) := by
  simp [adB, h]
theorem adB_set {old : List Int} {s : Ast} {i : Nat} (h : i < s.len.toNat) : (adB old s i).set i (IntKind.u8.wrap (old.getD (s.from_.toNat + i) 0 + s.ds.getD i 0)) = adB old s (i + 1) := by
  apply List.ext_getElem?
  intro k
  rw [List.getElem?_set]
  by_cases hk : k < s.len.toNat
  · by_cases hik : i = k
    · subst hik
      rw [if_pos rfl, if_pos (by simp [adB]; omega), adB_get h, if_pos (by omega)]
    · rw [if_neg hik, adB_get hk, adB_get hk]
      by_cases h1 : k < i
      · rw [if_pos h1, if_pos (by omega)]
      · rw [if_neg h1, if_neg (by omega)]
  · rw [if_neg (by omega), List.getElem?_eq_none (by simp [adB]; omega), List.getElem?_eq_none (by simp [adB]; omega)]
theorem makeB_bound {old : List Int} {w : World} {l : List Ast} (h : l.all rightB = true) (hok : ∀ s ∈ l, AsOk w s) : (makeB l old).length ≤ 4096 * l.length := by
  have h1 := makeB_len (old := old) h hok
  have h2 := lenSum_bound h
  omega

section
variable {w0 w : World} {L : List Ent} {A B : Option Addr} {n c m d : Nat} {l : List Ast} {old : List Int} {want : Int}
set_option maxHeartbeats 3200000 in
set_option maxRecDepth 100000 in
theorem peval_any (K : Known w0 w L) (R : RdM w0 [] asC 4 A m l) (hc : m ≤ c) (hm : m ≤ 100000) (hok : ∀ s ∈ l, AsOk w0 s) (RO : RdS w0 L .u8 B n old) (hd : n ≤ d) (hn : n ≤ 10000000000) :
    Calls Try.prog 61 #[.slice A m c, .iface 92 (.slice B n d), .int .i64 want] w fun e w' => ∃ A' k c', e = .returned (.tuple #[.slice A' k c', .int .i64 (evalE l old want).2]) ∧ Hid (k = (evalE l old want).1.length) ∧ ∃ X, OwnL 5 1 A' k c' ((evalE l old want).1.map (Value.int .u8)) X ∧ Known w0 w' (X ++ L) := by
  have HL := Lib.hid R.len
  have HOL := Lib.hid RO.len
  cases hra : l.all rightB
  · have HSM := Lib.hid (show sumE l = -1 by rw [sumE, hra]; rfl)
    have HR := Lib.hid (show evalE l old want = ([], 3) by rw [evalE, hra]; rfl)
    clear hra
    go_enter Try.func61, Try.ntmps61
    go_wp2_with (first | (go_at_call 87; (with_reducible refine (psum_any K R hc hm).mono ?_); clear K; rintro e w1 ⟨rfl, K⟩; rw [HSM.out]))
    go_ret2
    exact ⟨none, 0, 0, by rw [HR.out]; rfl, Lib.hid (by rw [HR.out]; rfl), [], by rw [HR.out]; exact OwnL.nil _ _, K⟩
  have hlb := lenSum_bound hra
  obtain ⟨sm, hsm⟩ : ∃ sm, lenSum l = sm := ⟨_, rfl⟩
  have HSM := Lib.hid (show sumE l = sm by rw [sumE, hra, ← hsm]; rfl)
  rw [hsm] at hlb
  have d0 : decide (sm < 0) = false := decide_eq_false (by omega)
  by_cases hw : sm = want
  rotate_left
  · have e1 : (sm == want) = false := by simpa using hw
    have HR := Lib.hid (show evalE l old want = ([], 13) by rw [evalE, if_pos hra, if_neg (by rw [hsm]; exact hw)])
    clear hra hlb hsm
    go_enter Try.func61, Try.ntmps61
    go_wp2_with (first | (go_at_call 87; (with_reducible refine (psum_any K R hc hm).mono ?_); clear K; rintro e w1 ⟨rfl, K⟩; rw [HSM.out]))
    go_ret2
    exact ⟨none, 0, 0, by rw [HR.out]; rfl, Lib.hid (by rw [HR.out]; rfl), [], by rw [HR.out]; exact OwnL.nil _ _, K⟩
  subst hw
  have e1 : (sm == sm) = true := by simp
  have HON := Lib.hid (show evalE l old sm = if l.any (overB old.length) then ([], 5) else (makeB l old, 0) by rw [evalE, if_pos hra, if_pos hsm])
  have HRA := Lib.hid hra
  clear hra hsm
  go_enter Try.func61, Try.ntmps61
  go_upto_region 8 with ((first | (go_at_call 87; (with_reducible refine (psum_any K R hc hm).mono ?_); clear K; rintro e w1 ⟨rfl, K⟩; rw [HSM.out])))
  go_loopg [9, 26] m (fun q v9 v wr => ∃ (j k : Nat) (Ao : Option Addr) (co : Nat) (Xo : List Ent), v9 = .slice Ao k co ∧ v = .int .i64 j ∧ j + q = m ∧ k ≤ 4096 * j ∧ OwnL 5 1 Ao k co ((makeB (l.take j) old).map (Value.int .u8)) Xo ∧ Hid ((l.take j).any (overB old.length) = false) ∧ Known w0 wr (Xo ++ L))
  case atStart => exact ⟨0, 0, none, 0, [], by go_num, by go_num, by omega, by omega, OwnL.nil _ _, Lib.hid rfl, K⟩
  case round =>
    clear K
    obtain ⟨j, k, Ao, co, Xo, rfl, rfl, hdj, hk, O, HE, K⟩ := hrel
    by_cases hj : j < m
    · have hj2 : decide ((j : Int) < (m : Int)) = true := decide_eq_true (by omega)
      have hjj : (0 : Int) ≤ (j : Int) ∧ (j : Int) < (m : Int) := by omega
      have i1 := IntWalk.i64_in ((j : Int) + 1) (by omega)
      obtain ⟨b, off, rfl⟩ := R.form (K.cov (Cov.nil _)) (by omega)
      have hjl : j < l.length := by have := HL.out; omega
      obtain ⟨p, hp⟩ : ∃ p, p = l[j]'hjl := ⟨_, rfl⟩
      have hpm : p ∈ l := by rw [hp]; exact List.getElem_mem _
      have HP := Lib.hid (show encAt asC l j = [.int .u8 p.kind, .int .i64 p.from_, .int .i64 p.len, .slice p.A p.n p.c] by rw [encAt_get hjl, ← hp]; rfl)
      have HTM := Lib.hid (show makeB (l.take (j + 1)) old = makeB (l.take j) old ++ stepB old p by rw [makeB_take hjl, hp])
      have HTO := Lib.hid (show (l.take (j + 1)).any (overB old.length) = ((l.take j).any (overB old.length) || overB old.length p) by rw [any_take' hjl, hp])
      have hpr := List.all_eq_true.1 HRA.out p hpm
      have hry := rightB_yes hpr
      have hrn := right_n hpr
      have HPR := Lib.hid hpr
      obtain ⟨-, -, -, RD, hpc, -, -⟩ := hok p hpm
      have HDL := Lib.hid RD.len
      by_cases hk1 : p.kind = 1
      · have e2 : (p.kind == 1) = true := by simpa using hk1
        have HST := Lib.hid (show stepB old p = p.ds by rw [stepB, if_pos hk1])
        have HOV := Lib.hid (show overB old.length p = false by rw [overB, decide_eq_false (by simpa using hk1)]; rfl)
        have hpn : p.n ≤ 4096 := by omega
        clear hk1 hp hpm hpr
        go_wp2_with (first | ((with_reducible refine at_load rfl ?_); refine wpList_reads (by rfl) (kr_load_rec K _ _ (by rfl) (j) [.int .u8 p.kind, .int .i64 p.from_, .int .i64 p.len, .slice p.A p.n p.c] (by rfl) (R.cov (Cov.nil _)) (by omega) HP.out (by omega) (by kernel_rfl) (by kernel_rfl) (by rfl)) ?_) | ((with_reducible refine at_slot (N := 11) rfl ?_); (with_reducible refine at_alloc rfl ?_); refine wpList_does rfl (kd_alloc (z := (.agg #[.int .u8 0, .int .i64 0, .int .i64 0, .slice none 0 0])) K _ rfl (by kernel_rfl)) ?_; clear K; rintro _ w1 ⟨go, rfl, K⟩; (try dsimp only [Value.cells] at K)) | (at_builtin; refine wpList_does rfl (kd_appendN K _ _ rfl rfl rfl (by with_reducible assumption) Seg.auto (RD.get K (Cov.nil _)) (by kernel_rfl) (by kernel_rfl) (by omega)) ?_; clear K; rintro _ w1 ⟨A2, c2, X2, rfl, O, K⟩; (try simp only [Nat.zero_add, List.nil_append] at O)) | ((with_reducible refine at_eqnil rfl ?_); refine wpList_reads rfl (kr_eqnil rfl rfl (by kernel_rfl)) ?_) | ((with_reducible refine at_box rfl ?_); refine wpList_does rfl (kd_box K _ _ rfl (by conv => lhs; whnf)) ?_; clear K; rintro _ w1 ⟨g, rfl, K⟩; (try dsimp only [Value.cells] at K)) | ((with_reducible refine at_alloc rfl ?_); refine wpList_does rfl (kd_alloc K _ rfl rfl) ?_; clear K; rintro _ w1 ⟨g, rfl, K⟩; (try dsimp only [Value.cells] at K)) | ((with_reducible refine at_buildSlice rfl ?_); refine wpList_does rfl (kd_lits (cs := _) K _ _ _ rfl (by first | rfl | (go_simp; done) | (go_simp; rfl)) (by first | rfl | (go_simp; done) | (go_simp; rfl))) ?_; clear K; rintro _ w1 ⟨g, rfl, K⟩) | ((with_reducible refine at_load rfl ?_); first | (refine wpList_reads (by rfl) (kr_load_cell K _ _ (by rfl) (by rfl) Has.auto (by decide +kernel) (by (try simp only [List.getElem?_toArray, List.getElem?_cons_succ, List.getElem?_cons_zero]); exact rfl)) ?_) | (refine wpList_reads (by rfl) (kr_load_row K _ _ (by rfl) (by rfl) Has.auto (by decide +kernel) (by kernel_rfl)) ?_)) | ((with_reducible refine at_store rfl ?_); (first | (refine wpList_does rfl (kd_store_cell K _ _ _ rfl rfl (by conv => lhs; whnf) Repl.auto rfl rfl (by kernel_rfl) (by kernel_rfl) (by first | (simp only [List.setIfInBounds_toArray, List.set_cons_succ, List.set_cons_zero]; rfl) | rfl)) ?_) | (refine wpList_does rfl (kd_store_row K _ _ _ rfl rfl rfl Repl.auto (by kernel_rfl) (by kernel_rfl) (by kernel_rfl)) ?_)); clear K; intro _ w1 K; (try simp only [Act.put])))
        go_roundg (gk - 1)
        case measure => omega
        case rel => exact ⟨j + 1, k + p.n, _, _, X2, rfl, by go_num, by omega, by omega, by rw [HTM.out, HST.out]; exact O, Lib.hid (by rw [HTO.out, HE.out, HOV.out]; rfl), K.cov Cov.auto⟩
      have e2 : (p.kind == 1) = false := by simpa using hk1
      cases hov : overB old.length p
      rotate_left
      · have HOV := Lib.hid (show (n : Int) < p.from_ + p.len by
          simp only [overB, Bool.and_eq_true, decide_eq_true_eq] at hov
          rw [HOL.out] at hov
          exact hov.2)
        have HR := Lib.hid (show evalE l old sm = ([], 5) by rw [HON.out, if_pos (List.any_eq_true.2 ⟨p, hpm, hov⟩)])
        clear hk1 hp hpm hpr hov
        go_wp2_with (first | ((with_reducible refine at_load rfl ?_); refine wpList_reads (by rfl) (kr_load_rec K _ _ (by rfl) (j) [.int .u8 p.kind, .int .i64 p.from_, .int .i64 p.len, .slice p.A p.n p.c] (by rfl) (R.cov (Cov.nil _)) (by omega) HP.out (by omega) (by kernel_rfl) (by kernel_rfl) (by rfl)) ?_) | ((with_reducible refine at_slot (N := 11) rfl ?_); (with_reducible refine at_alloc rfl ?_); refine wpList_does rfl (kd_alloc (z := (.agg #[.int .u8 0, .int .i64 0, .int .i64 0, .slice none 0 0])) K _ rfl (by kernel_rfl)) ?_; clear K; rintro _ w1 ⟨go, rfl, K⟩; (try dsimp only [Value.cells] at K)) | (go_at_call 88; (with_reducible refine (pask_no K B hd hn p.from_ p.len (by omega) (by omega) HOV.out).mono ?_); clear K; rintro e w1 ⟨rfl, K⟩) | ((with_reducible refine at_eqnil rfl ?_); refine wpList_reads rfl (kr_eqnil rfl rfl (by kernel_rfl)) ?_) | ((with_reducible refine at_box rfl ?_); refine wpList_does rfl (kd_box K _ _ rfl (by conv => lhs; whnf)) ?_; clear K; rintro _ w1 ⟨g, rfl, K⟩; (try dsimp only [Value.cells] at K)) | ((with_reducible refine at_alloc rfl ?_); refine wpList_does rfl (kd_alloc K _ rfl rfl) ?_; clear K; rintro _ w1 ⟨g, rfl, K⟩; (try dsimp only [Value.cells] at K)) | ((with_reducible refine at_buildSlice rfl ?_); refine wpList_does rfl (kd_lits (cs := _) K _ _ _ rfl (by first | rfl | (go_simp; done) | (go_simp; rfl)) (by first | rfl | (go_simp; done) | (go_simp; rfl))) ?_; clear K; rintro _ w1 ⟨g, rfl, K⟩) | ((with_reducible refine at_load rfl ?_); first | (refine wpList_reads (by rfl) (kr_load_cell K _ _ (by rfl) (by rfl) Has.auto (by decide +kernel) (by (try simp only [List.getElem?_toArray, List.getElem?_cons_succ, List.getElem?_cons_zero]); exact rfl)) ?_) | (refine wpList_reads (by rfl) (kr_load_row K _ _ (by rfl) (by rfl) Has.auto (by decide +kernel) (by kernel_rfl)) ?_)) | ((with_reducible refine at_store rfl ?_); (first | (refine wpList_does rfl (kd_store_cell K _ _ _ rfl rfl (by conv => lhs; whnf) Repl.auto rfl rfl (by kernel_rfl) (by kernel_rfl) (by first | (simp only [List.setIfInBounds_toArray, List.set_cons_succ, List.set_cons_zero]; rfl) | rfl)) ?_) | (refine wpList_does rfl (kd_store_row K _ _ _ rfl rfl rfl Repl.auto (by kernel_rfl) (by kernel_rfl) (by kernel_rfl)) ?_)); clear K; intro _ w1 K; (try simp only [Act.put])))
        go_ret2
        exact ⟨none, 0, 0, by rw [HR.out]; rfl, Lib.hid (by rw [HR.out]; rfl), [], by rw [HR.out]; exact OwnL.nil _ _, K.cov Cov.auto⟩
      have HNO := Lib.hid hov
      have hfl : p.from_ + p.len ≤ n := by
        simp only [overB, decide_eq_true hk1, Bool.true_and, decide_eq_false_iff_not] at hov
        rw [HOL.out] at hov
        omega
      obtain ⟨f, hf⟩ : ∃ f : Nat, p.from_ = (f : Int) := ⟨p.from_.toNat, by omega⟩
      obtain ⟨ln, hln⟩ : ∃ ln : Nat, p.len = (ln : Int) := ⟨p.len.toNat, by omega⟩
      have HOV := Lib.hid (show f + ln ≤ n by omega)
      have hf2 : p.from_.toNat = f := by omega
      have hln2 : p.len.toNat = ln := by omega
      have HAZ := Lib.hid (show (old.drop f).take ln = adB old p 0 by rw [adB_zero (by rw [HOL.out]; omega), hf2, hln2])
      have HAE := Lib.hid (show adB old p p.n = stepB old p from adB_end hpr hk1)
      have HAG := Lib.hid (fun (i k : Nat) (h : k < ln) => show (adB old p i)[k]? = some (if k < i then IntKind.u8.wrap (old.getD (f + k) 0 + p.ds.getD k 0) else old.getD (f + k) 0) by rw [adB_get (by omega), hf2])
      have HAS := Lib.hid (fun (i : Nat) (h : i < ln) => show (adB old p i).set i (IntKind.u8.wrap (old.getD (f + i) 0 + p.ds.getD i 0)) = adB old p (i + 1) by rw [← adB_set (by omega), hf2])
      have HAL := Lib.hid (fun i => show (adB old p i).length = ln by simp [adB, hln2])
      have hln0 : 1 ≤ ln ∧ ln ≤ 4096 := by omega
      have hpn : p.n ≤ ln := by omega
      rw [hf, hln] at HP
      clear hk1 hp hpm hpr hov hry hrn hf hln hfl hf2 hln2
      go_upto_region 16 with ((first | ((with_reducible refine at_load rfl ?_); refine wpList_reads (by rfl) (kr_load_rec K _ _ (by rfl) (j) [.int .u8 p.kind, .int .i64 (f : Int), .int .i64 (ln : Int), .slice p.A p.n p.c] (by rfl) (R.cov (Cov.nil _)) (by omega) HP.out (by omega) (by kernel_rfl) (by kernel_rfl) (by rfl)) ?_) | ((with_reducible refine at_slot (N := 11) rfl ?_); (with_reducible refine at_alloc rfl ?_); refine wpList_does rfl (kd_alloc (z := (.agg #[.int .u8 0, .int .i64 0, .int .i64 0, .slice none 0 0])) K _ rfl (by kernel_rfl)) ?_; clear K; rintro _ w1 ⟨go, rfl, K⟩; (try dsimp only [Value.cells] at K)) | (go_at_call 88; (with_reducible refine (pask_yes K (RO.cov Cov.auto) hd hn f ln HOV.out).mono ?_); clear K; rintro e w1 ⟨A1, c1, X1, rfl, O1, K⟩) | ((with_reducible refine at_eqnil rfl ?_); refine wpList_reads rfl (kr_eqnil rfl rfl (by kernel_rfl)) ?_) | ((with_reducible refine at_box rfl ?_); refine wpList_does rfl (kd_box K _ _ rfl (by conv => lhs; whnf)) ?_; clear K; rintro _ w1 ⟨g, rfl, K⟩; (try dsimp only [Value.cells] at K)) | ((with_reducible refine at_alloc rfl ?_); refine wpList_does rfl (kd_alloc K _ rfl rfl) ?_; clear K; rintro _ w1 ⟨g, rfl, K⟩; (try dsimp only [Value.cells] at K)) | ((with_reducible refine at_buildSlice rfl ?_); refine wpList_does rfl (kd_lits (cs := _) K _ _ _ rfl (by first | rfl | (go_simp; done) | (go_simp; rfl)) (by first | rfl | (go_simp; done) | (go_simp; rfl))) ?_; clear K; rintro _ w1 ⟨g, rfl, K⟩) | ((with_reducible refine at_load rfl ?_); first | (refine wpList_reads (by rfl) (kr_load_cell K _ _ (by rfl) (by rfl) Has.auto (by decide +kernel) (by (try simp only [List.getElem?_toArray, List.getElem?_cons_succ, List.getElem?_cons_zero]); exact rfl)) ?_) | (refine wpList_reads (by rfl) (kr_load_row K _ _ (by rfl) (by rfl) Has.auto (by decide +kernel) (by kernel_rfl)) ?_)) | ((with_reducible refine at_store rfl ?_); (first | (refine wpList_does rfl (kd_store_cell K _ _ _ rfl rfl (by conv => lhs; whnf) Repl.auto rfl rfl (by kernel_rfl) (by kernel_rfl) (by first | (simp only [List.setIfInBounds_toArray, List.set_cons_succ, List.set_cons_zero]; rfl) | rfl)) ?_) | (refine wpList_does rfl (kd_store_row K _ _ _ rfl rfl rfl Repl.auto (by kernel_rfl) (by kernel_rfl) (by kernel_rfl)) ?_)); clear K; intro _ w1 K; (try simp only [Act.put]))))
      rw [HAZ.out] at O1
      obtain ⟨-, ⟨-, h0, -⟩ | ⟨g1, cur, rfl, rfl, hnc, hcm, hsz, htk⟩⟩ := O1.out
      · omega
      rw [Nat.mul_one] at hsz htk
      have HT := Lib.hid htk
      clear htk O1
      replace K : Known w0 _ (row g1 cur 5 :: row go #[.int .u8 p.kind, .int .i64 (f : Int), .int .i64 (ln : Int), .slice p.A p.n p.c] 71 :: (Xo ++ L)) := K.cov Cov.auto
      obtain ⟨og, hog⟩ : ∃ og, og = gk := ⟨_, rfl⟩
      go_loopg [52] p.n (fun q v wr => ∃ (i : Nat) (cs : Array Value), v = .int .i64 i ∧ i + q = p.n ∧ cs.size = c1 ∧ Hid (cs.toList.take ln = (adB old p i).map (Value.int .u8)) ∧ Known w0 wr (row g1 cs 5 :: row go #[.int .u8 p.kind, .int .i64 (f : Int), .int .i64 (ln : Int), .slice p.A p.n p.c] 71 :: (Xo ++ L)))
      case atStart => exact ⟨0, cur, by go_num, by omega, by omega, HT, K⟩
      case round =>
        clear K HT
        obtain ⟨i, cs, rfl, hdi, hcs, HT, K⟩ := hrel
        by_cases hi : i < p.n
        · have hi2 : decide ((i : Int) < (p.n : Int)) = true := decide_eq_true (by omega)
          have hii : (0 : Int) ≤ (i : Int) ∧ (i : Int) < (p.n : Int) := by omega
          have hil : (0 : Int) ≤ (i : Int) ∧ (i : Int) < (ln : Int) := by omega
          have i2 := IntWalk.i64_in ((i : Int) + 1) (by omega)
          obtain ⟨u, hu⟩ : ∃ u, old.getD (f + i) 0 = u := ⟨_, rfl⟩
          obtain ⟨v, hv⟩ : ∃ v, p.ds.getD i 0 = v := ⟨_, rfl⟩
          have HU := Lib.hid hu
          have HV := Lib.hid hv
          have HSZ := Lib.hid (show i < cs.size by omega)
          have HCJ := Lib.hid (show cs[i]? = some (.int .u8 u) by
            have h1 : (cs.toList.take ln)[i]? = some (.int .u8 u) := by
              rw [HT.out, List.getElem?_map, HAG.out i i (by omega), if_neg (by omega), hu]
              rfl
            rw [List.getElem?_take, if_pos (by omega)] at h1
            rw [← Array.getElem?_toList]
            exact h1)
          obtain ⟨bd, od, hbd⟩ := RD.form (K.cov (Cov.nil _)) (by omega)
          rw [hbd] at RD
          clear hu hv
          go_upto_region 18 with (fail)
          refine wp_region_QLK K (by kernel_rfl) (by kernel_rfl) ?_
          clear K
          refine wpQL_A (k := 0) (v := ?_) ?_ ?_
          rotate_left
          · (intro w hS; (clear hS; go_simp); try with_reducible rfl)
          try simp only [Act.put, List.setIfInBounds_toArray, List.set_cons_zero, List.set_cons_succ]
          refine wpQL_A (k := 1) (v := ?_) ?_ ?_
          rotate_left
          · (intro w hS; (clear hS; go_simp); try with_reducible rfl)
          try simp only [Act.put, List.setIfInBounds_toArray, List.set_cons_zero, List.set_cons_succ]
          refine wpQL_A (k := 2) (v := ?_) ?_ ?_
          rotate_left
          · (intro w hS; (clear hS; go_simp); try with_reducible rfl)
          try simp only [Act.put, List.setIfInBounds_toArray, List.set_cons_zero, List.set_cons_succ]
          refine wpQL_A (k := 3) (v := .int .u8 u) ?_ ?_
          · (intro w hS; exact kr_load_cell hS _ _ (by rfl) (by rfl) Has.auto (by kernel_rfl) HCJ.out)
          try simp only [Act.put, List.setIfInBounds_toArray, List.set_cons_zero, List.set_cons_succ]
          refine wpQL_A (k := 4) (v := ?_) ?_ ?_
          rotate_left
          · (intro w hS; (clear hS; go_simp); try with_reducible rfl)
          try simp only [Act.put, List.setIfInBounds_toArray, List.set_cons_zero, List.set_cons_succ]
          refine wpQL_A (k := 5) (v := ?_) ?_ ?_
          rotate_left
          · (intro w hS; first | exact kr_load_cell hS _ _ (by rfl) (by rfl) Has.auto (by decide +kernel) (by (try simp only [List.getElem?_toArray, List.getElem?_cons_succ, List.getElem?_cons_zero]); exact rfl) | exact kr_load_row hS _ _ (by rfl) (by rfl) Has.auto (by decide +kernel) (by kernel_rfl))
          try simp only [Act.put, List.setIfInBounds_toArray, List.set_cons_zero, List.set_cons_succ]
          refine wpQL_A (k := 6) (v := ?_) ?_ ?_
          rotate_left
          · (intro w hS; (clear hS; go_simp); try with_reducible rfl)
          try simp only [Act.put, List.setIfInBounds_toArray, List.set_cons_zero, List.set_cons_succ]
          refine wpQL_A (k := 7) (v := ?_) ?_ ?_
          rotate_left
          · (intro w hS; (clear hS; go_simp); try with_reducible rfl)
          try simp only [Act.put, List.setIfInBounds_toArray, List.set_cons_zero, List.set_cons_succ]
          refine wpQL_A (k := 8) (v := .int .u8 v) ?_ ?_
          · (intro w hS; exact kr_load_fact _ _ (by rfl) (by rfl) (RD.cell (hS.cov (Cov.nil _)) (by omega) HV.out rfl) (by kernel_rfl))
          try simp only [Act.put, List.setIfInBounds_toArray, List.set_cons_zero, List.set_cons_succ]
          refine wpQL_A (k := 9) (v := ?_) ?_ ?_
          rotate_left
          · (intro w hS; (clear hS; go_simp); try with_reducible rfl)
          try simp only [Act.put, List.setIfInBounds_toArray, List.set_cons_zero, List.set_cons_succ]
          refine wpQL_A (k := 10) (v := ?_) ?_ ?_
          rotate_left
          · (intro w hS; (clear hS; go_simp); try with_reducible rfl)
          try simp only [Act.put, List.setIfInBounds_toArray, List.set_cons_zero, List.set_cons_succ]
          refine wpQL_endA (k := 11) (fun w1 K K9 hK => ?_)
          refine st_does (by rfl) (kd_store_cell K _ _ _ (by rfl) (by rfl) (by conv => lhs; whnf) Repl.auto (by rfl) (by rfl) (by kernel_rfl) (decide_eq_true HSZ.out) (by rfl)) ?_
          clear K; intro _ w1 K
          refine hK.out _ _ ?_
          clear hK K9
          try simp only [Act.put, List.setIfInBounds_toArray, List.set_cons_zero, List.set_cons_succ]
          skip
          go_wp2
          go_roundg (gk - 1)
          case measure => omega
          case rel => exact ⟨i + 1, _, by go_num, by omega, by rw [Array.size_setIfInBounds]; exact hcs, Lib.hid (by
            rw [← HAS.out i (by omega), HU.out, HV.out, List.map_set, ← HT.out, Array.toList_setIfInBounds, List.take_set]), K⟩
        · have hi2 : decide ((i : Int) < (p.n : Int)) = false := decide_eq_false (by omega)
          have HTE := HT.out
          rw [show i = p.n by omega, HAE.out] at HTE
          have HSL := Lib.hid (show (stepB old p).length = ln by rw [← HAE.out, HAL.out])
          have OB : OwnL 5 1 (some ⟨g1, 0, none⟩) ln c1 ((stepB old p).map (Value.int .u8)) [row g1 cs 5] := OwnL.of hnc hcm (by rw [hcs, Nat.mul_one]) (by rw [Nat.mul_one, HTE]) (by rw [List.length_map, HSL.out, Nat.mul_one])
          have RB := RdS.own (w0 := w0) (L := [row g1 cs 5]) OB (Seg.all _)
          clear HTE OB
          go_wp2_with (first | (at_builtin; refine wpList_does rfl (kd_appendN K _ _ rfl rfl rfl (by with_reducible assumption) Seg.auto (RB.get K Cov.auto) (by kernel_rfl) (by kernel_rfl) (by omega)) ?_; clear K; rintro _ w1 ⟨A2, c2, X2, rfl, O, K⟩; (try simp only [Nat.zero_add, List.nil_append] at O)) | ((with_reducible refine at_eqnil rfl ?_); refine wpList_reads rfl (kr_eqnil rfl rfl (by kernel_rfl)) ?_) | ((with_reducible refine at_box rfl ?_); refine wpList_does rfl (kd_box K _ _ rfl (by conv => lhs; whnf)) ?_; clear K; rintro _ w1 ⟨g, rfl, K⟩; (try dsimp only [Value.cells] at K)) | ((with_reducible refine at_alloc rfl ?_); refine wpList_does rfl (kd_alloc K _ rfl rfl) ?_; clear K; rintro _ w1 ⟨g, rfl, K⟩; (try dsimp only [Value.cells] at K)) | ((with_reducible refine at_buildSlice rfl ?_); refine wpList_does rfl (kd_lits (cs := _) K _ _ _ rfl (by first | rfl | (go_simp; done) | (go_simp; rfl)) (by first | rfl | (go_simp; done) | (go_simp; rfl))) ?_; clear K; rintro _ w1 ⟨g, rfl, K⟩) | ((with_reducible refine at_load rfl ?_); first | (refine wpList_reads (by rfl) (kr_load_cell K _ _ (by rfl) (by rfl) Has.auto (by decide +kernel) (by (try simp only [List.getElem?_toArray, List.getElem?_cons_succ, List.getElem?_cons_zero]); exact rfl)) ?_) | (refine wpList_reads (by rfl) (kr_load_row K _ _ (by rfl) (by rfl) Has.auto (by decide +kernel) (by kernel_rfl)) ?_)) | ((with_reducible refine at_store rfl ?_); (first | (refine wpList_does rfl (kd_store_cell K _ _ _ rfl rfl (by conv => lhs; whnf) Repl.auto rfl rfl (by kernel_rfl) (by kernel_rfl) (by first | (simp only [List.setIfInBounds_toArray, List.set_cons_succ, List.set_cons_zero]; rfl) | rfl)) ?_) | (refine wpList_does rfl (kd_store_row K _ _ _ rfl rfl rfl Repl.auto (by kernel_rfl) (by kernel_rfl) (by kernel_rfl)) ?_)); clear K; intro _ w1 K; (try simp only [Act.put])))
          go_roundg (og - 1)
          case measure => omega
          case rel => exact ⟨j + 1, k + ln, _, _, X2, rfl, by go_num, by omega, by omega, by rw [HTM.out]; exact O, Lib.hid (by rw [HTO.out, HE.out, HNO.out]; rfl), K.cov Cov.auto⟩
    · have hj2 : decide ((j : Int) < (m : Int)) = false := decide_eq_false (by omega)
      have htl : l.take j = l := List.take_of_length_le (by have := HL.out; omega)
      have hol := O.len
      rw [htl] at HE O hol
      have HR := Lib.hid (show evalE l old sm = (makeB l old, 0) by rw [HON.out, HE.out]; rfl)
      rw [List.length_map, Nat.mul_one] at hol
      have HKL := Lib.hid hol
      clear hol
      go_wp2
      go_ret2
      exact ⟨Ao, k, co, by rw [HR.out]; rfl, Lib.hid (by rw [HR.out]; exact HKL.out.symm), Xo, by rw [HR.out]; exact O, K⟩
end
end Go.Proofs.Ytffednkdmkohdaa
