/-
  The document's Reads, asks, Same (contracts).
-/
import Derived.Test.YtffednkdmkohdaaGrB
set_option linter.unusedVariables false
set_option linter.unusedSimpArgs false
namespace Go.Proofs.Ytffednkdmkohdaa
open Go.RowKit
theorem RdM.ofLit {α : Type} {enc : α → List Value} {s : Nat} {w0 : World} {L : List Ent} {g : Nat} {cs : Array Value} {te : TypeId} {m : List α} (h : Has (row g cs te) L) (hc : cs.toList = m.flatMap enc) (hl : ∀ a, (enc a).length = s) : RdM w0 L enc s (some ⟨g, 0, none⟩) m.length m :=
  ⟨RdE.ofRow h fun j hj i v hv => by
    have := flatMap_get hl hv
    rw [← hc, Array.getElem?_toList] at this
    rw [Nat.zero_add]
    exact this, rfl⟩
theorem gset_succ (l : List Ast) (block : Int) (i : Nat) : gset l block (i + 1) = gset l block i ++ (if touches block l (i : Int) then [(i : Int)] else []) := by
  unfold gset
  rw [List.range_succ, List.filter_append, List.map_append]
  congr 1
  by_cases h : touches block l (i : Int) = true
  · simp [h]
  · simp [h]

section
variable {w0 w : World} {L : List Ent} {A : Option Addr} {n c : Nat} {l : List Ast}
set_option maxHeartbeats 1600000 in
set_option maxRecDepth 100000 in
theorem rasks_any (K : Known w0 w L) (R : RdM w0 L asC 4 A n l) (hc : n ≤ c) (hn : n ≤ 100000) (hr : l.all rightB = true) (block : Int) (i : Nat) (hb : 128 ≤ block ∧ block ≤ 4096) (hi : i ≤ 4096) : Calls Try.prog 50 #[.slice A n c, .int .i64 block, .int .i64 i] w fun e w' => e = .returned (.bool (touches block l i)) ∧ Known w0 w' L := by
  have hl := R.len
  obtain ⟨P, hP⟩ : ∃ P, ((i : Int) + 1) * block = P := ⟨_, rfl⟩
  obtain ⟨Q, hQ⟩ : ∃ Q, (i : Int) * block = Q := ⟨_, rfl⟩
  have hQb : 0 ≤ Q ∧ Q ≤ 16777216 := by
    rw [← hQ]
    exact ⟨Int.mul_nonneg (by omega) (by omega), Int.le_trans (Int.mul_le_mul (by omega : (i : Int) ≤ 4096) hb.2 (by omega) (by omega)) (by omega)⟩
  have hPb : P = Q + block := by rw [← hP, ← hQ, Int.add_mul, Int.one_mul]
  have iP := IntWalk.i64_in P (by omega)
  have iQ := IntWalk.i64_in Q (by omega)
  have ii := IntWalk.i64_in ((i : Int) + 1) (by omega)
  clear hPb
  go_enter Try.func50, Try.ntmps50
  go_upto_region 2 with (fail)
  go_loopg [11] n (fun d v wr => ∃ (j : Nat), v = .int .i64 j ∧ j + d = n ∧ Hid (touches block (l.take j) i = false) ∧ Known w0 wr L)
  case atStart => exact ⟨0, by go_num, by omega, Lib.hid rfl, K⟩
  case round =>
    clear K
    obtain ⟨j, rfl, hd, HE, K⟩ := hrel
    by_cases hj : j < n
    · have hj2 : decide ((j : Int) < (n : Int)) = true := decide_eq_true (by omega)
      have hjj : (0 : Int) ≤ (j : Int) ∧ (j : Int) < (n : Int) := by omega
      have i1 := IntWalk.i64_in ((j : Int) + 1) (by omega)
      obtain ⟨b, off, rfl⟩ := R.form K (by omega)
      obtain ⟨p, hp⟩ : ∃ p, p = l[j]'(by omega) := ⟨_, rfl⟩
      have HP := Lib.hid (show encAt asC l j = [.int .u8 p.kind, .int .i64 p.from_, .int .i64 p.len, .slice p.A p.n p.c] by rw [encAt_get (by omega), ← hp]; rfl)
      have HT := Lib.hid (show touches block (l.take (j + 1)) i = (touches block (l.take j) i || touch block i p) by rw [touches_take (by omega), hp])
      have hpm : p ∈ l := by rw [hp]; exact List.getElem_mem _
      have hpr := List.all_eq_true.1 hr p hpm
      have hry := rightB_yes hpr
      have HTP := Lib.hid (show touch block i p = (decide (1 < p.kind) && (decide (p.from_ < P) && decide (Q < p.from_ + p.len))) by rw [touch_asks (by omega) hpr, hP, hQ])
      have HANY := Lib.hid (show touch block i p = true → touches block l i = true from fun h => List.any_eq_true.2 ⟨p, hpm, h⟩)
      have is1 := IntWalk.i64_in (p.from_ + p.len) (by omega)
      clear hp hl hpr
      by_cases c1 : 1 < p.kind
      · have b1 : decide (1 < p.kind) = true := decide_eq_true c1
        by_cases c2 : p.from_ < P
        · have b2 : decide (p.from_ < P) = true := decide_eq_true c2
          by_cases c3 : Q < p.from_ + p.len
          · have b3 : decide (Q < p.from_ + p.len) = true := decide_eq_true c3
            have HR := Lib.hid (HANY.out (by rw [HTP.out, b1, b2, b3]; rfl))
            go_wp2_with (first | ((with_reducible refine at_load rfl ?_); refine wpList_reads (by rfl) (kr_load_rec K _ _ (by rfl) (j) [.int .u8 p.kind, .int .i64 p.from_, .int .i64 p.len, .slice p.A p.n p.c] (by rfl) (R.cov Cov.auto) (by omega) HP.out (by omega) (by kernel_rfl) (by kernel_rfl) (by rfl)) ?_) | ((with_reducible refine at_slot (N := 8) rfl ?_); (with_reducible refine at_alloc rfl ?_); refine wpList_does rfl (kd_alloc (z := (.agg #[.int .u8 0, .int .i64 0, .int .i64 0, .slice none 0 0])) K _ rfl (by kernel_rfl)) ?_; clear K; rintro _ w1 ⟨go, rfl, K⟩; (try dsimp only [Value.cells] at K)) | ((with_reducible refine at_eqnil rfl ?_); refine wpList_reads rfl (kr_eqnil rfl rfl (by kernel_rfl)) ?_) | ((with_reducible refine at_box rfl ?_); refine wpList_does rfl (kd_box K _ _ rfl (by conv => lhs; whnf)) ?_; clear K; rintro _ w1 ⟨g, rfl, K⟩; (try dsimp only [Value.cells] at K)) | ((with_reducible refine at_alloc rfl ?_); refine wpList_does rfl (kd_alloc K _ rfl rfl) ?_; clear K; rintro _ w1 ⟨g, rfl, K⟩; (try dsimp only [Value.cells] at K)) | ((with_reducible refine at_buildSlice rfl ?_); refine wpList_does rfl (kd_lits (cs := _) K _ _ _ rfl (by first | rfl | (go_simp; done) | (go_simp; rfl)) (by first | rfl | (go_simp; done) | (go_simp; rfl))) ?_; clear K; rintro _ w1 ⟨g, rfl, K⟩) | ((with_reducible refine at_load rfl ?_); first | (refine wpList_reads (by rfl) (kr_load_cell K _ _ (by rfl) (by rfl) Has.auto (by decide +kernel) (by (try simp only [List.getElem?_toArray, List.getElem?_cons_succ, List.getElem?_cons_zero]); exact rfl)) ?_) | (refine wpList_reads (by rfl) (kr_load_row K _ _ (by rfl) (by rfl) Has.auto (by decide +kernel) (by kernel_rfl)) ?_)) | ((with_reducible refine at_store rfl ?_); (first | (refine wpList_does rfl (kd_store_cell K _ _ _ rfl rfl (by conv => lhs; whnf) Repl.auto rfl rfl (by kernel_rfl) (by kernel_rfl) (by first | (simp only [List.setIfInBounds_toArray, List.set_cons_succ, List.set_cons_zero]; rfl) | rfl)) ?_) | (refine wpList_does rfl (kd_store_row K _ _ _ rfl rfl rfl Repl.auto (by kernel_rfl) (by kernel_rfl) (by kernel_rfl)) ?_)); clear K; intro _ w1 K; (try simp only [Act.put])))
            go_ret
            exact ⟨by rw [HR.out]; rfl, K.cov Cov.auto⟩
          · have b3 : decide (Q < p.from_ + p.len) = false := decide_eq_false c3
            go_wp2_with (first | ((with_reducible refine at_load rfl ?_); refine wpList_reads (by rfl) (kr_load_rec K _ _ (by rfl) (j) [.int .u8 p.kind, .int .i64 p.from_, .int .i64 p.len, .slice p.A p.n p.c] (by rfl) (R.cov Cov.auto) (by omega) HP.out (by omega) (by kernel_rfl) (by kernel_rfl) (by rfl)) ?_) | ((with_reducible refine at_slot (N := 8) rfl ?_); (with_reducible refine at_alloc rfl ?_); refine wpList_does rfl (kd_alloc (z := (.agg #[.int .u8 0, .int .i64 0, .int .i64 0, .slice none 0 0])) K _ rfl (by kernel_rfl)) ?_; clear K; rintro _ w1 ⟨go, rfl, K⟩; (try dsimp only [Value.cells] at K)) | ((with_reducible refine at_eqnil rfl ?_); refine wpList_reads rfl (kr_eqnil rfl rfl (by kernel_rfl)) ?_) | ((with_reducible refine at_box rfl ?_); refine wpList_does rfl (kd_box K _ _ rfl (by conv => lhs; whnf)) ?_; clear K; rintro _ w1 ⟨g, rfl, K⟩; (try dsimp only [Value.cells] at K)) | ((with_reducible refine at_alloc rfl ?_); refine wpList_does rfl (kd_alloc K _ rfl rfl) ?_; clear K; rintro _ w1 ⟨g, rfl, K⟩; (try dsimp only [Value.cells] at K)) | ((with_reducible refine at_buildSlice rfl ?_); refine wpList_does rfl (kd_lits (cs := _) K _ _ _ rfl (by first | rfl | (go_simp; done) | (go_simp; rfl)) (by first | rfl | (go_simp; done) | (go_simp; rfl))) ?_; clear K; rintro _ w1 ⟨g, rfl, K⟩) | ((with_reducible refine at_load rfl ?_); first | (refine wpList_reads (by rfl) (kr_load_cell K _ _ (by rfl) (by rfl) Has.auto (by decide +kernel) (by (try simp only [List.getElem?_toArray, List.getElem?_cons_succ, List.getElem?_cons_zero]); exact rfl)) ?_) | (refine wpList_reads (by rfl) (kr_load_row K _ _ (by rfl) (by rfl) Has.auto (by decide +kernel) (by kernel_rfl)) ?_)) | ((with_reducible refine at_store rfl ?_); (first | (refine wpList_does rfl (kd_store_cell K _ _ _ rfl rfl (by conv => lhs; whnf) Repl.auto rfl rfl (by kernel_rfl) (by kernel_rfl) (by first | (simp only [List.setIfInBounds_toArray, List.set_cons_succ, List.set_cons_zero]; rfl) | rfl)) ?_) | (refine wpList_does rfl (kd_store_row K _ _ _ rfl rfl rfl Repl.auto (by kernel_rfl) (by kernel_rfl) (by kernel_rfl)) ?_)); clear K; intro _ w1 K; (try simp only [Act.put])))
            go_roundg (gk - 1)
            case measure => omega
            case rel => exact ⟨j + 1, by go_num, by omega, Lib.hid (by rw [HT.out, HE.out, HTP.out, b3]; simp), K.cov Cov.auto⟩
        · have b2 : decide (p.from_ < P) = false := decide_eq_false c2
          go_wp2_with (first | ((with_reducible refine at_load rfl ?_); refine wpList_reads (by rfl) (kr_load_rec K _ _ (by rfl) (j) [.int .u8 p.kind, .int .i64 p.from_, .int .i64 p.len, .slice p.A p.n p.c] (by rfl) (R.cov Cov.auto) (by omega) HP.out (by omega) (by kernel_rfl) (by kernel_rfl) (by rfl)) ?_) | ((with_reducible refine at_slot (N := 8) rfl ?_); (with_reducible refine at_alloc rfl ?_); refine wpList_does rfl (kd_alloc (z := (.agg #[.int .u8 0, .int .i64 0, .int .i64 0, .slice none 0 0])) K _ rfl (by kernel_rfl)) ?_; clear K; rintro _ w1 ⟨go, rfl, K⟩; (try dsimp only [Value.cells] at K)) | ((with_reducible refine at_eqnil rfl ?_); refine wpList_reads rfl (kr_eqnil rfl rfl (by kernel_rfl)) ?_) | ((with_reducible refine at_box rfl ?_); refine wpList_does rfl (kd_box K _ _ rfl (by conv => lhs; whnf)) ?_; clear K; rintro _ w1 ⟨g, rfl, K⟩; (try dsimp only [Value.cells] at K)) | ((with_reducible refine at_alloc rfl ?_); refine wpList_does rfl (kd_alloc K _ rfl rfl) ?_; clear K; rintro _ w1 ⟨g, rfl, K⟩; (try dsimp only [Value.cells] at K)) | ((with_reducible refine at_buildSlice rfl ?_); refine wpList_does rfl (kd_lits (cs := _) K _ _ _ rfl (by first | rfl | (go_simp; done) | (go_simp; rfl)) (by first | rfl | (go_simp; done) | (go_simp; rfl))) ?_; clear K; rintro _ w1 ⟨g, rfl, K⟩) | ((with_reducible refine at_load rfl ?_); first | (refine wpList_reads (by rfl) (kr_load_cell K _ _ (by rfl) (by rfl) Has.auto (by decide +kernel) (by (try simp only [List.getElem?_toArray, List.getElem?_cons_succ, List.getElem?_cons_zero]); exact rfl)) ?_) | (refine wpList_reads (by rfl) (kr_load_row K _ _ (by rfl) (by rfl) Has.auto (by decide +kernel) (by kernel_rfl)) ?_)) | ((with_reducible refine at_store rfl ?_); (first | (refine wpList_does rfl (kd_store_cell K _ _ _ rfl rfl (by conv => lhs; whnf) Repl.auto rfl rfl (by kernel_rfl) (by kernel_rfl) (by first | (simp only [List.setIfInBounds_toArray, List.set_cons_succ, List.set_cons_zero]; rfl) | rfl)) ?_) | (refine wpList_does rfl (kd_store_row K _ _ _ rfl rfl rfl Repl.auto (by kernel_rfl) (by kernel_rfl) (by kernel_rfl)) ?_)); clear K; intro _ w1 K; (try simp only [Act.put])))
          go_roundg (gk - 1)
          case measure => omega
          case rel => exact ⟨j + 1, by go_num, by omega, Lib.hid (by rw [HT.out, HE.out, HTP.out, b2]; simp), K.cov Cov.auto⟩
      · have b1 : decide (1 < p.kind) = false := decide_eq_false c1
        go_wp2_with (first | ((with_reducible refine at_load rfl ?_); refine wpList_reads (by rfl) (kr_load_rec K _ _ (by rfl) (j) [.int .u8 p.kind, .int .i64 p.from_, .int .i64 p.len, .slice p.A p.n p.c] (by rfl) (R.cov Cov.auto) (by omega) HP.out (by omega) (by kernel_rfl) (by kernel_rfl) (by rfl)) ?_) | ((with_reducible refine at_slot (N := 8) rfl ?_); (with_reducible refine at_alloc rfl ?_); refine wpList_does rfl (kd_alloc (z := (.agg #[.int .u8 0, .int .i64 0, .int .i64 0, .slice none 0 0])) K _ rfl (by kernel_rfl)) ?_; clear K; rintro _ w1 ⟨go, rfl, K⟩; (try dsimp only [Value.cells] at K)) | ((with_reducible refine at_eqnil rfl ?_); refine wpList_reads rfl (kr_eqnil rfl rfl (by kernel_rfl)) ?_) | ((with_reducible refine at_box rfl ?_); refine wpList_does rfl (kd_box K _ _ rfl (by conv => lhs; whnf)) ?_; clear K; rintro _ w1 ⟨g, rfl, K⟩; (try dsimp only [Value.cells] at K)) | ((with_reducible refine at_alloc rfl ?_); refine wpList_does rfl (kd_alloc K _ rfl rfl) ?_; clear K; rintro _ w1 ⟨g, rfl, K⟩; (try dsimp only [Value.cells] at K)) | ((with_reducible refine at_buildSlice rfl ?_); refine wpList_does rfl (kd_lits (cs := _) K _ _ _ rfl (by first | rfl | (go_simp; done) | (go_simp; rfl)) (by first | rfl | (go_simp; done) | (go_simp; rfl))) ?_; clear K; rintro _ w1 ⟨g, rfl, K⟩) | ((with_reducible refine at_load rfl ?_); first | (refine wpList_reads (by rfl) (kr_load_cell K _ _ (by rfl) (by rfl) Has.auto (by decide +kernel) (by (try simp only [List.getElem?_toArray, List.getElem?_cons_succ, List.getElem?_cons_zero]); exact rfl)) ?_) | (refine wpList_reads (by rfl) (kr_load_row K _ _ (by rfl) (by rfl) Has.auto (by decide +kernel) (by kernel_rfl)) ?_)) | ((with_reducible refine at_store rfl ?_); (first | (refine wpList_does rfl (kd_store_cell K _ _ _ rfl rfl (by conv => lhs; whnf) Repl.auto rfl rfl (by kernel_rfl) (by kernel_rfl) (by first | (simp only [List.setIfInBounds_toArray, List.set_cons_succ, List.set_cons_zero]; rfl) | rfl)) ?_) | (refine wpList_does rfl (kd_store_row K _ _ _ rfl rfl rfl Repl.auto (by kernel_rfl) (by kernel_rfl) (by kernel_rfl)) ?_)); clear K; intro _ w1 K; (try simp only [Act.put])))
        go_roundg (gk - 1)
        case measure => omega
        case rel => exact ⟨j + 1, by go_num, by omega, Lib.hid (by rw [HT.out, HE.out, HTP.out, b1]; simp), K.cov Cov.auto⟩
    · have hj2 : decide ((j : Int) < (n : Int)) = false := decide_eq_false (by omega)
      have htl : l.take j = l := List.take_of_length_le (by omega)
      rw [htl] at HE
      go_wp2
      go_ret
      exact ⟨by rw [HE.out]; rfl, K⟩

set_option maxHeartbeats 3200000 in
set_option maxRecDepth 100000 in
theorem rgreads_any (K : Known w0 w L) (R : RdM w0 L asC 4 A n l) (hc : n ≤ c) (hn : n ≤ 100000) (block many : Int) : Calls Try.prog 17 #[.slice A n c, .int .i64 block, .int .i64 many] w fun e w' => ∃ A' n' c', e = .returned (.tuple #[.slice A' n' c', .int .i64 (greads l block many).2]) ∧ Hid (n' = (greads l block many).1.length) ∧ ∃ X, OwnL 3 1 A' n' c' ((greads l block many).1.map (Value.int .i64)) X ∧ Known w0 w' (X ++ L) := by
  have hl := R.len
  by_cases q0 : block < 128
  · have b0 : decide (block < 128) = true := decide_eq_true q0
    have HG := Lib.hid (show greads l block many = ([], 1) by rw [greads, show gmayB block many = false by cases hx : gmayB block many; rfl; exfalso; have := gmayB_iff.1 hx; omega]; rfl)
    go_enter Try.func17, Try.ntmps17
    go_wp2_with (first | ((with_reducible refine at_buildSlice (n := 0) rfl ?_); refine wpList_does rfl (kd_lit0 K _ 3 1 rfl Try.underlying25 (by kernel_rfl)) ?_; clear K; rintro _ w1 ⟨gz, rfl, K⟩; have O : OwnL 3 1 (some ⟨gz, 0, none⟩) 0 0 (([] : List Int).map (Value.int .i64)) [row gz #[] 3] := OwnL.lit0 _ _))
    go_ret2
    exact ⟨_, _, _, by rw [HG.out]; rfl, Lib.hid (by rw [HG.out]; rfl), _, by rw [HG.out]; exact O, K⟩
  have b0 : decide (block < 128) = false := decide_eq_false q0
  by_cases q1 : 4096 < block
  · have b1 : decide (4096 < block) = true := decide_eq_true q1
    have HG := Lib.hid (show greads l block many = ([], 1) by rw [greads, show gmayB block many = false by cases hx : gmayB block many; rfl; exfalso; have := gmayB_iff.1 hx; omega]; rfl)
    go_enter Try.func17, Try.ntmps17
    go_wp2_with (first | ((with_reducible refine at_buildSlice (n := 0) rfl ?_); refine wpList_does rfl (kd_lit0 K _ 3 1 rfl Try.underlying25 (by kernel_rfl)) ?_; clear K; rintro _ w1 ⟨gz, rfl, K⟩; have O : OwnL 3 1 (some ⟨gz, 0, none⟩) 0 0 (([] : List Int).map (Value.int .i64)) [row gz #[] 3] := OwnL.lit0 _ _))
    go_ret2
    exact ⟨_, _, _, by rw [HG.out]; rfl, Lib.hid (by rw [HG.out]; rfl), _, by rw [HG.out]; exact O, K⟩
  have b1 : decide (4096 < block) = false := decide_eq_false q1
  by_cases q2 : many < 0
  · have b2 : decide (many < 0) = true := decide_eq_true q2
    have HG := Lib.hid (show greads l block many = ([], 1) by rw [greads, show gmayB block many = false by cases hx : gmayB block many; rfl; exfalso; have := gmayB_iff.1 hx; omega]; rfl)
    go_enter Try.func17, Try.ntmps17
    go_wp2_with (first | ((with_reducible refine at_buildSlice (n := 0) rfl ?_); refine wpList_does rfl (kd_lit0 K _ 3 1 rfl Try.underlying25 (by kernel_rfl)) ?_; clear K; rintro _ w1 ⟨gz, rfl, K⟩; have O : OwnL 3 1 (some ⟨gz, 0, none⟩) 0 0 (([] : List Int).map (Value.int .i64)) [row gz #[] 3] := OwnL.lit0 _ _))
    go_ret2
    exact ⟨_, _, _, by rw [HG.out]; rfl, Lib.hid (by rw [HG.out]; rfl), _, by rw [HG.out]; exact O, K⟩
  have b2 : decide (many < 0) = false := decide_eq_false q2
  by_cases q3 : 4096 < many
  · have b3 : decide (4096 < many) = true := decide_eq_true q3
    have HG := Lib.hid (show greads l block many = ([], 1) by rw [greads, show gmayB block many = false by cases hx : gmayB block many; rfl; exfalso; have := gmayB_iff.1 hx; omega]; rfl)
    go_enter Try.func17, Try.ntmps17
    go_wp2_with (first | ((with_reducible refine at_buildSlice (n := 0) rfl ?_); refine wpList_does rfl (kd_lit0 K _ 3 1 rfl Try.underlying25 (by kernel_rfl)) ?_; clear K; rintro _ w1 ⟨gz, rfl, K⟩; have O : OwnL 3 1 (some ⟨gz, 0, none⟩) 0 0 (([] : List Int).map (Value.int .i64)) [row gz #[] 3] := OwnL.lit0 _ _))
    go_ret2
    exact ⟨_, _, _, by rw [HG.out]; rfl, Lib.hid (by rw [HG.out]; rfl), _, by rw [HG.out]; exact O, K⟩
  have b3 : decide (4096 < many) = false := decide_eq_false q3
  obtain ⟨mN, rfl⟩ : ∃ mN : Nat, many = mN := ⟨many.toNat, by omega⟩
  have HMB := Lib.hid (show gmayB block mN = true from gmayB_iff.2 (by omega))
  have hb8 : 128 ≤ block ∧ block ≤ 4096 := by omega
  go_enter Try.func17, Try.ntmps17
  go_upto_region 5 with ((first | ((with_reducible refine at_buildSlice (n := 0) rfl ?_); refine wpList_does rfl (kd_lit0 K _ 3 1 rfl Try.underlying25 (by kernel_rfl)) ?_; clear K; rintro _ w1 ⟨gz, rfl, K⟩; have O : OwnL 3 1 (some ⟨gz, 0, none⟩) 0 0 (([] : List Int).map (Value.int .i64)) [row gz #[] 3] := OwnL.lit0 _ _)))
  go_loopg [29] n (fun d v wr => ∃ (j : Nat), v = .int .i64 j ∧ j + d = n ∧ Hid ((l.take j).all rightB = true) ∧ Known w0 wr (row gz #[] 3 :: L))
  case atStart => exact ⟨0, by go_num, by omega, Lib.hid rfl, K⟩
  case round =>
    clear K
    obtain ⟨j, rfl, hd, HA, K⟩ := hrel
    by_cases hj : j < n
    · have hj2 : decide ((j : Int) < (n : Int)) = true := decide_eq_true (by omega)
      have hjj : (0 : Int) ≤ (j : Int) ∧ (j : Int) < (n : Int) := by omega
      have i1 := IntWalk.i64_in ((j : Int) + 1) (by omega)
      obtain ⟨b, off, rfl⟩ := R.form (K.cov Cov.auto) (by omega)
      obtain ⟨p, hp⟩ : ∃ p, p = l[j]'(by omega) := ⟨_, rfl⟩
      have HP := Lib.hid (show encAt asC l j = [.int .u8 p.kind, .int .i64 p.from_, .int .i64 p.len, .slice p.A p.n p.c] by rw [encAt_get (by omega), ← hp]; rfl)
      have HAT := Lib.hid (show (l.take (j + 1)).all rightB = ((l.take j).all rightB && rightB p) by rw [all_take (by omega), hp])
      have HBD := Lib.hid (show rightB p = false → l.all rightB = false from fun h => all_bad (j := j) (by omega) (by rw [← hp]; exact h))
      clear hp hl
      cases hrb : rightB p
      · have HRB := Lib.hid hrb
        have HG := Lib.hid (show greads l block mN = ([], 3) by rw [greads, HMB.out, HBD.out hrb]; rfl)
        clear hrb
        go_wp2_with (first | ((with_reducible refine at_load rfl ?_); refine wpList_reads (by rfl) (kr_load_rec K _ _ (by rfl) (j) [.int .u8 p.kind, .int .i64 p.from_, .int .i64 p.len, .slice p.A p.n p.c] (by rfl) (R.cov Cov.auto) (by omega) HP.out (by omega) (by kernel_rfl) (by kernel_rfl) (by rfl)) ?_) | (go_at_call 49; (with_reducible refine (rright_any (s := p) K).mono ?_); clear K; rintro e w1 ⟨rfl, K⟩; rw [HRB.out]))
        go_ret2
        exact ⟨_, _, _, by rw [HG.out]; rfl, Lib.hid (by rw [HG.out]; rfl), [row gz #[] 3], by rw [HG.out]; exact OwnL.lit0 _ _, K⟩
      · have HRB := Lib.hid hrb
        clear hrb
        go_wp2_with (first | ((with_reducible refine at_load rfl ?_); refine wpList_reads (by rfl) (kr_load_rec K _ _ (by rfl) (j) [.int .u8 p.kind, .int .i64 p.from_, .int .i64 p.len, .slice p.A p.n p.c] (by rfl) (R.cov Cov.auto) (by omega) HP.out (by omega) (by kernel_rfl) (by kernel_rfl) (by rfl)) ?_) | (go_at_call 49; (with_reducible refine (rright_any (s := p) K).mono ?_); clear K; rintro e w1 ⟨rfl, K⟩; rw [HRB.out]))
        go_roundg (gk - 1)
        case measure => omega
        case rel => exact ⟨j + 1, by go_num, by omega, Lib.hid (by rw [HAT.out, HA.out, HRB.out]; rfl), K⟩
    · have hj2 : decide ((j : Int) < (n : Int)) = false := decide_eq_false (by omega)
      have htl : l.take j = l := List.take_of_length_le (by omega)
      rw [htl] at HA
      have HG := Lib.hid (show greads l block mN = (gset l block mN, 0) by rw [greads, HMB.out, HA.out, Int.toNat_natCast]; rfl)
      have O1 : OwnL 3 1 (some ⟨gz, 0, none⟩) 0 0 ((gset l block 0).map (Value.int .i64)) [row gz #[] 3] := OwnL.lit0 _ _
      clear htl O
      go_upto_region 11 with (fail)
      go_loopg [8, 10] mN (fun d v8 v10 wr => ∃ (i no : Nat) (Ao : Option Addr) (co : Nat) (X : List Ent), v8 = .slice Ao no co ∧ v10 = .int .i64 i ∧ i + d = mN ∧ Hid (no = (gset l block i).length) ∧ no ≤ i ∧ OwnL 3 1 Ao no co ((gset l block i).map (Value.int .i64)) X ∧ Known w0 wr (X ++ L))
      case atStart => exact ⟨0, 0, _, _, _, rfl, by go_num, by omega, Lib.hid rfl, by omega, O1, K⟩
      case round =>
        clear K O1
        obtain ⟨i, no, Ao, co, X, rfl, rfl, hdi, HN, hno, O, K⟩ := hrel
        by_cases hi : i < mN
        · have hi2 : decide ((i : Int) < (mN : Int)) = true := decide_eq_true (by omega)
          have i2 := IntWalk.i64_in ((i : Int) + 1) (by omega)
          have HSU := Lib.hid (gset_succ l block i)
          cases ht : touches block l (i : Int)
          · have HTT := Lib.hid ht
            clear ht
            go_wp2_with (first | (go_at_call 50; (with_reducible refine (rasks_any K (R.cov Cov.auto) hc hn HA.out block i hb8 (by omega)).mono ?_); clear K; rintro e w1 ⟨rfl, K⟩; rw [HTT.out]) | ((with_reducible refine at_eqnil rfl ?_); refine wpList_reads rfl (kr_eqnil rfl rfl (by kernel_rfl)) ?_) | ((with_reducible refine at_box rfl ?_); refine wpList_does rfl (kd_box K _ _ rfl (by conv => lhs; whnf)) ?_; clear K; rintro _ w1 ⟨g, rfl, K⟩; (try dsimp only [Value.cells] at K)) | ((with_reducible refine at_alloc rfl ?_); refine wpList_does rfl (kd_alloc K _ rfl rfl) ?_; clear K; rintro _ w1 ⟨g, rfl, K⟩; (try dsimp only [Value.cells] at K)) | ((with_reducible refine at_buildSlice rfl ?_); refine wpList_does rfl (kd_lits (cs := _) K _ _ _ rfl (by first | rfl | (go_simp; done) | (go_simp; rfl)) (by first | rfl | (go_simp; done) | (go_simp; rfl))) ?_; clear K; rintro _ w1 ⟨g, rfl, K⟩) | ((with_reducible refine at_load rfl ?_); first | (refine wpList_reads (by rfl) (kr_load_cell K _ _ (by rfl) (by rfl) Has.auto (by decide +kernel) (by (try simp only [List.getElem?_toArray, List.getElem?_cons_succ, List.getElem?_cons_zero]); exact rfl)) ?_) | (refine wpList_reads (by rfl) (kr_load_row K _ _ (by rfl) (by rfl) Has.auto (by decide +kernel) (by kernel_rfl)) ?_)) | ((with_reducible refine at_store rfl ?_); (first | (refine wpList_does rfl (kd_store_cell K _ _ _ rfl rfl (by conv => lhs; whnf) Repl.auto rfl rfl (by kernel_rfl) (by kernel_rfl) (by first | (simp only [List.setIfInBounds_toArray, List.set_cons_succ, List.set_cons_zero]; rfl) | rfl)) ?_) | (refine wpList_does rfl (kd_store_row K _ _ _ rfl rfl rfl Repl.auto (by kernel_rfl) (by kernel_rfl) (by kernel_rfl)) ?_)); clear K; intro _ w1 K; (try simp only [Act.put])))
            go_roundg (gk - 1)
            case measure => omega
            case rel => exact ⟨i + 1, no, _, _, X, rfl, by go_num, by omega, Lib.hid (by rw [HSU.out, HTT.out, HN.out]; simp), by omega, by rw [HSU.out, HTT.out]; simpa using O, K⟩
          · have HTT := Lib.hid ht
            clear ht
            go_wp2_with (first | (go_at_call 50; (with_reducible refine (rasks_any K (R.cov Cov.auto) hc hn HA.out block i hb8 (by omega)).mono ?_); clear K; rintro e w1 ⟨rfl, K⟩; rw [HTT.out]) | (at_builtin; refine wpList_does rfl (kd_appendN K _ _ rfl rfl rfl (by with_reducible assumption) Seg.auto (Rd.ofBlk (n := 1) (xs := [_]) (K.blk Has.auto) rfl rfl) (by kernel_rfl) (by kernel_rfl) (by omega)) ?_; clear K; rintro _ w1 ⟨A1, c1, X1, rfl, O, K⟩; (try simp only [Nat.zero_add, List.nil_append] at O)) | ((with_reducible refine at_eqnil rfl ?_); refine wpList_reads rfl (kr_eqnil rfl rfl (by kernel_rfl)) ?_) | ((with_reducible refine at_box rfl ?_); refine wpList_does rfl (kd_box K _ _ rfl (by conv => lhs; whnf)) ?_; clear K; rintro _ w1 ⟨g, rfl, K⟩; (try dsimp only [Value.cells] at K)) | ((with_reducible refine at_alloc rfl ?_); refine wpList_does rfl (kd_alloc K _ rfl rfl) ?_; clear K; rintro _ w1 ⟨g, rfl, K⟩; (try dsimp only [Value.cells] at K)) | ((with_reducible refine at_buildSlice rfl ?_); refine wpList_does rfl (kd_lits (cs := _) K _ _ _ rfl (by first | rfl | (go_simp; done) | (go_simp; rfl)) (by first | rfl | (go_simp; done) | (go_simp; rfl))) ?_; clear K; rintro _ w1 ⟨g, rfl, K⟩) | ((with_reducible refine at_load rfl ?_); first | (refine wpList_reads (by rfl) (kr_load_cell K _ _ (by rfl) (by rfl) Has.auto (by decide +kernel) (by (try simp only [List.getElem?_toArray, List.getElem?_cons_succ, List.getElem?_cons_zero]); exact rfl)) ?_) | (refine wpList_reads (by rfl) (kr_load_row K _ _ (by rfl) (by rfl) Has.auto (by decide +kernel) (by kernel_rfl)) ?_)) | ((with_reducible refine at_store rfl ?_); (first | (refine wpList_does rfl (kd_store_cell K _ _ _ rfl rfl (by conv => lhs; whnf) Repl.auto rfl rfl (by kernel_rfl) (by kernel_rfl) (by first | (simp only [List.setIfInBounds_toArray, List.set_cons_succ, List.set_cons_zero]; rfl) | rfl)) ?_) | (refine wpList_does rfl (kd_store_row K _ _ _ rfl rfl rfl Repl.auto (by kernel_rfl) (by kernel_rfl) (by kernel_rfl)) ?_)); clear K; intro _ w1 K; (try simp only [Act.put])))
            go_roundg (gk - 1)
            case measure => omega
            case rel => exact ⟨i + 1, no + 1, _, _, _, rfl, by go_num, by omega, Lib.hid (by rw [HSU.out, HTT.out, HN.out]; simp), by omega, by rw [HSU.out, HTT.out]; exact O, K.cov Cov.auto⟩
        · have hi2 : decide ((i : Int) < (mN : Int)) = false := decide_eq_false (by omega)
          obtain rfl : i = mN := by omega
          go_wp2
          go_ret2
          exact ⟨_, _, _, by rw [HG.out]; rfl, Lib.hid (by rw [HG.out]; exact HN.out), X, by rw [HG.out]; exact O, K⟩
end
end Go.Proofs.Ytffednkdmkohdaa
