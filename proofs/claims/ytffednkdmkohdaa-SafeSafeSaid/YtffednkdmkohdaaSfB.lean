/-
  safe: may, size; delta.Blocks; the document's Blocks, size, meets (contracts).
-/
import Derived.Test.YtffednkdmkohdaaSfA
set_option linter.unusedVariables false
set_option linter.unusedSimpArgs false
namespace Go.Proofs.Ytffednkdmkohdaa
open Go.RowKit

section
variable {w0 w : World} {L : List Ent} {A : Option Addr} {n c : Nat} {xs : List Int}
set_option maxRecDepth 100000 in
theorem smay_any (K : Known w0 w L) (R : RdS w0 L .i64 A n xs) (hc : n ≤ c) (hn : n ≤ 1000) (block : Int) : Calls Try.prog 79 #[.int .i64 block, .slice A n c] w fun e w' => e = .returned (.bool (mayS block xs)) ∧ w = w' := by
  have hl := R.len
  go_enter Try.func79, Try.ntmps79
  go_upto_region 2 with (fail)
  go_loopg [9] n (fun q v wr => ∃ (j : Nat), v = .int .i64 j ∧ j + q = n ∧ wr = w ∧ Hid ((xs.take j).any badN = false))
  case atStart => exact ⟨0, by go_num, by omega, rfl, Lib.hid (by simp)⟩
  case round =>
    obtain ⟨j, rfl, hd, rfl, HE⟩ := hrel
    by_cases hj : j < n
    · have hj2 : decide ((j : Int) < (n : Int)) = true := decide_eq_true (by omega)
      have hjj : (0 : Int) ≤ (j : Int) ∧ (j : Int) < (n : Int) := by omega
      have i1 := IntWalk.i64_in ((j : Int) + 1) (by omega)
      obtain ⟨b, off, rfl⟩ := R.form K (by omega)
      obtain ⟨u, hu⟩ : ∃ u, xs.getD j 0 = u := ⟨_, rfl⟩
      have HU := Lib.hid hu
      have HT := Lib.hid (show xs.take (j + 1) = xs.take j ++ [u] by rw [take_getD (by omega), hu])
      have HM := Lib.hid (show u ∈ xs by rw [← hu]; exact getD_mem (by omega))
      clear hu
      by_cases h1 : u < 0
      · have d1 : decide (u < 0) = true := decide_eq_true h1
        have HR := Lib.hid (show mayS block xs = false by rw [mayS, show xs.any badN = true from List.any_eq_true.2 ⟨u, HM.out, by rw [badN, d1]; rfl⟩]; rfl)
        go_wp2_with (first | ((with_reducible refine at_load rfl ?_); first | (refine wpList_reads (by rfl) (kr_load_cell K _ _ (by rfl) (by rfl) Has.auto (by decide +kernel) (by (try simp only [List.getElem?_toArray, List.getElem?_cons_succ, List.getElem?_cons_zero]); exact rfl)) ?_) | (refine wpList_reads (by rfl) (kr_load_row K _ _ (by rfl) (by rfl) Has.auto (by decide +kernel) (by kernel_rfl)) ?_) | (refine wpList_reads (by rfl) (kr_load_fact _ _ (by rfl) (by rfl) (R.cell K (by omega) HU.out rfl) (by decide +kernel)) ?_)))
        go_ret
        exact ⟨by rw [HR.out]; rfl, rfl⟩
      have d1 : decide (u < 0) = false := decide_eq_false h1
      by_cases h2 : 2147483647 < u
      · have d2 : decide (2147483647 < u) = true := decide_eq_true h2
        have HR := Lib.hid (show mayS block xs = false by rw [mayS, show xs.any badN = true from List.any_eq_true.2 ⟨u, HM.out, by rw [badN, d1, d2]; rfl⟩]; rfl)
        go_wp2_with (first | ((with_reducible refine at_load rfl ?_); first | (refine wpList_reads (by rfl) (kr_load_cell K _ _ (by rfl) (by rfl) Has.auto (by decide +kernel) (by (try simp only [List.getElem?_toArray, List.getElem?_cons_succ, List.getElem?_cons_zero]); exact rfl)) ?_) | (refine wpList_reads (by rfl) (kr_load_row K _ _ (by rfl) (by rfl) Has.auto (by decide +kernel) (by kernel_rfl)) ?_) | (refine wpList_reads (by rfl) (kr_load_fact _ _ (by rfl) (by rfl) (R.cell K (by omega) HU.out rfl) (by decide +kernel)) ?_)))
        go_ret
        exact ⟨by rw [HR.out]; rfl, rfl⟩
      have d2 : decide (2147483647 < u) = false := decide_eq_false h2
      go_wp2_with (first | ((with_reducible refine at_load rfl ?_); first | (refine wpList_reads (by rfl) (kr_load_cell K _ _ (by rfl) (by rfl) Has.auto (by decide +kernel) (by (try simp only [List.getElem?_toArray, List.getElem?_cons_succ, List.getElem?_cons_zero]); exact rfl)) ?_) | (refine wpList_reads (by rfl) (kr_load_row K _ _ (by rfl) (by rfl) Has.auto (by decide +kernel) (by kernel_rfl)) ?_) | (refine wpList_reads (by rfl) (kr_load_fact _ _ (by rfl) (by rfl) (R.cell K (by omega) HU.out rfl) (by decide +kernel)) ?_)))
      go_roundg (gk - 1)
      case measure => omega
      case rel => exact ⟨j + 1, by go_num, by omega, rfl, Lib.hid (by rw [HT.out, List.any_append, HE.out]; simp [badN, d1, d2])⟩
    · have hj2 : decide ((j : Int) < (n : Int)) = false := decide_eq_false (by omega)
      have hx : xs.any badN = false := by have := HE.out; rw [List.take_of_length_le (by omega)] at this; exact this
      have HR := Lib.hid (show mayS block xs = (decide (128 ≤ block) && decide (block ≤ 4096)) by rw [mayS, hx]; rfl)
      clear hx
      by_cases h1 : 128 ≤ block
      · have d1 : decide (128 ≤ block) = true := decide_eq_true h1
        go_wp2
        go_ret
        exact ⟨by rw [HR.out, d1]; rfl, rfl⟩
      · have d1 : decide (128 ≤ block) = false := decide_eq_false h1
        go_wp2
        go_ret
        exact ⟨by rw [HR.out, d1]; rfl, rfl⟩
set_option maxRecDepth 100000 in
theorem sblocks_any {m block : Int} (hm : 0 ≤ m ∧ m ≤ 2147483647) (hb : 1 ≤ block ∧ block ≤ 2147483647) (w : World) : Calls Try.prog 80 #[.int .i64 m, .int .i64 block] w fun e w' => e = .returned (.int .i64 (blocksN m block)) ∧ w = w' := by
  have d2 : decide (block < 1) = false := decide_eq_false (by omega)
  by_cases h1 : m < 1
  · have d1 : decide (m < 1) = true := decide_eq_true h1
    have HR := Lib.hid (show blocksN m block = 0 by rw [blocksN, if_pos h1])
    go_enter Try.func80, Try.ntmps80
    go_wp2
    go_ret
    exact ⟨by rw [HR.out]; rfl, rfl⟩
  · have d1 : decide (m < 1) = false := decide_eq_false h1
    obtain ⟨q, hq⟩ : ∃ q, (m - 1) / block = q := ⟨_, rfl⟩
    have ht : Int.tdiv (m - 1) block = q := by rw [Int.tdiv_eq_ediv_of_nonneg (by omega), hq]
    have hqb : 0 ≤ q ∧ q ≤ 2147483647 := by rw [← hq]; exact ⟨Int.ediv_nonneg (by omega) (by omega), Int.le_trans (Int.ediv_le_self _ (by omega)) (by omega)⟩
    have HR := Lib.hid (show blocksN m block = q + 1 by rw [blocksN, if_neg h1, hq])
    have hb0 : block ≠ 0 := by omega
    have i1 := IntWalk.i64_in (m - 1) (by omega)
    have i2 := IntWalk.i64_in q (by omega)
    have i3 := IntWalk.i64_in (q + 1) (by omega)
    go_enter Try.func80, Try.ntmps80
    go_wp2
    go_ret
    exact ⟨by rw [HR.out]; rfl, rfl⟩
set_option maxRecDepth 100000 in
theorem rblocks_any {m block : Int} (hm : 0 ≤ m ∧ m ≤ 2147483647) (hb : 1 ≤ block ∧ block ≤ 2147483647) (w : World) : Calls Try.prog 63 #[.int .i64 m, .int .i64 block] w fun e w' => e = .returned (.int .i64 (blocksN m block)) ∧ w = w' := by
  have d2 : decide (block < 1) = false := decide_eq_false (by omega)
  by_cases h1 : m < 1
  · have d1 : decide (m < 1) = true := decide_eq_true h1
    have HR := Lib.hid (show blocksN m block = 0 by rw [blocksN, if_pos h1])
    go_enter Try.func63, Try.ntmps63
    go_wp2
    go_ret
    exact ⟨by rw [HR.out]; rfl, rfl⟩
  · have d1 : decide (m < 1) = false := decide_eq_false h1
    have hbn := blocksN_rem (n := m) (block := block) (by omega) (by omega)
    obtain ⟨q, hq⟩ : ∃ q, m / block = q := ⟨_, rfl⟩
    obtain ⟨r, hr⟩ : ∃ r, m % block = r := ⟨_, rfl⟩
    rw [hq, hr] at hbn
    have ht : Int.tdiv m block = q := by rw [Int.tdiv_eq_ediv_of_nonneg (by omega), hq]
    have htr : Int.tmod m block = r := by rw [Int.tmod_eq_emod_of_nonneg (by omega), hr]
    have hqb : 0 ≤ q ∧ q ≤ 2147483647 := by rw [← hq]; exact ⟨Int.ediv_nonneg (by omega) (by omega), Int.le_trans (Int.ediv_le_self _ (by omega)) (by omega)⟩
    have hrb : 0 ≤ r ∧ r ≤ 2147483647 := by
      have h1 := Int.emod_nonneg m (show block ≠ 0 by omega)
      have h2 := Int.emod_lt_of_pos m (show 0 < block by omega)
      omega
    have hb0 : block ≠ 0 := by omega
    have i1 := IntWalk.i64_in r (by omega)
    have i2 := IntWalk.i64_in q (by omega)
    have i3 := IntWalk.i64_in (q + 1) (by omega)
    clear hq hr
    by_cases h2 : 0 < r
    · have d3 : decide (0 < r) = true := decide_eq_true h2
      have HR := Lib.hid (show blocksN m block = q + 1 by rw [hbn, if_pos h2])
      clear hbn
      go_enter Try.func63, Try.ntmps63
      go_wp2
      go_ret
      exact ⟨by rw [HR.out]; rfl, rfl⟩
    · have d3 : decide (0 < r) = false := decide_eq_false h2
      have HR := Lib.hid (show blocksN m block = q by rw [hbn, if_neg h2])
      clear hbn
      go_enter Try.func63, Try.ntmps63
      go_wp2
      go_ret
      exact ⟨by rw [HR.out]; rfl, rfl⟩
theorem size_in {i block new : Int} (hi : 0 ≤ i ∧ i ≤ 2147483647) (hb : 0 ≤ block ∧ block ≤ 4096) : 0 ≤ i * block ∧ i * block ≤ 8796093018112 :=
  ⟨Int.mul_nonneg hi.1 hb.1, Int.le_trans (Int.mul_le_mul hi.2 hb.2 hb.1 (by omega)) (by omega)⟩
set_option maxRecDepth 100000 in
theorem ssize_any {i block new : Int} (hi : 0 ≤ i ∧ i ≤ 2147483647) (hb : 0 ≤ block ∧ block ≤ 4096) (hn : 0 ≤ new ∧ new ≤ 2147483647) (w : World) : Calls Try.prog 57 #[.int .i64 i, .int .i64 block, .int .i64 new] w fun e w' => e = .returned (.int .i64 (sizeS i block new)) ∧ w = w' := by
  have hp := size_in (new := new) hi hb
  have HR := Lib.hid (show sizeS i block new = if new - i * block < block then new - i * block else block from rfl)
  obtain ⟨p, hpp⟩ : ∃ p, i * block = p := ⟨_, rfl⟩
  rw [hpp] at HR hp
  have i1 := IntWalk.i64_in p (by omega)
  have i2 := IntWalk.i64_in (new - p) (by omega)
  go_enter Try.func57, Try.ntmps57
  go_wp2
  go_ret
  refine ⟨?_, rfl⟩
  have e : (if new - p < block then new - p else block) = min block (new - p) := by rw [Int.min_def]; split <;> split <;> omega
  rw [HR.out, e]
  rfl
set_option maxRecDepth 100000 in
theorem rsize_any {i block new : Int} (hi : 0 ≤ i ∧ i ≤ 2147483647) (hb : 0 ≤ block ∧ block ≤ 4096) (hn : 0 ≤ new ∧ new ≤ 2147483647) (w : World) : Calls Try.prog 60 #[.int .i64 i, .int .i64 block, .int .i64 new] w fun e w' => e = .returned (.int .i64 (sizeS i block new)) ∧ w = w' := by
  have hp := size_in (new := new) hi hb
  obtain ⟨p, hpp⟩ : ∃ p, i * block = p := ⟨_, rfl⟩
  rw [hpp] at hp
  have i1 := IntWalk.i64_in p (by omega)
  have i2 := IntWalk.i64_in (new - p) (by omega)
  by_cases h1 : new - p < block
  · have d1 : decide (new - p < block) = true := decide_eq_true h1
    have HR := Lib.hid (show sizeS i block new = new - p by rw [sizeS, hpp, if_pos h1])
    go_enter Try.func60, Try.ntmps60
    go_wp2
    go_ret
    exact ⟨by rw [HR.out]; rfl, rfl⟩
  · have d1 : decide (new - p < block) = false := decide_eq_false h1
    have HR := Lib.hid (show sizeS i block new = block by rw [sizeS, hpp, if_neg h1])
    go_enter Try.func60, Try.ntmps60
    go_wp2
    go_ret
    exact ⟨by rw [HR.out]; rfl, rfl⟩
set_option maxHeartbeats 800000 in
set_option maxRecDepth 100000 in
theorem rmeets_any {s : Ast} {block : Int} {i : Nat} (K : Known w0 w L) (hr : rightB s = true) (hb : 128 ≤ block ∧ block ≤ 4096) (hi : i ≤ 4096) : Calls Try.prog 86 #[.agg #[.int .u8 s.kind, .int .i64 s.from_, .int .i64 s.len, .slice s.A s.n s.c], .int .i64 block, .int .i64 i] w fun e w' => e = .returned (.bool (touch block i s)) ∧ Known w0 w' L := by
  obtain ⟨P, hP⟩ : ∃ P, ((i : Int) + 1) * block = P := ⟨_, rfl⟩
  obtain ⟨Q, hQ⟩ : ∃ Q, (i : Int) * block = Q := ⟨_, rfl⟩
  have hQb : 0 ≤ Q ∧ Q ≤ 16777216 := by
    rw [← hQ]
    exact ⟨Int.mul_nonneg (by omega) (by omega), Int.le_trans (Int.mul_le_mul (by omega : (i : Int) ≤ 4096) hb.2 (by omega) (by omega)) (by omega)⟩
  have hPb : P = Q + block := by rw [← hP, ← hQ, Int.add_mul, Int.one_mul]
  have iP := IntWalk.i64_in P (by omega)
  have iQ := IntWalk.i64_in Q (by omega)
  have ii := IntWalk.i64_in ((i : Int) + 1) (by omega)
  clear hPb
  have hry := rightB_yes hr
  have is1 := IntWalk.i64_in (s.from_ + s.len) (by omega)
  have HR := Lib.hid (show touch block i s = (decide (1 < s.kind) && (decide (s.from_ < P) && decide (Q < s.from_ + s.len))) by rw [touch_asks (by omega) hr, hP, hQ])
  clear hr
  by_cases c1 : 1 < s.kind
  · have b1 : decide (1 < s.kind) = true := decide_eq_true c1
    by_cases c2 : s.from_ < P
    · have b2 : decide (s.from_ < P) = true := decide_eq_true c2
      go_enter Try.func86, Try.ntmps86
      go_wp2_with (first | ((with_reducible refine at_eqnil rfl ?_); refine wpList_reads rfl (kr_eqnil rfl rfl (by kernel_rfl)) ?_) | ((with_reducible refine at_box rfl ?_); refine wpList_does rfl (kd_box K _ _ rfl (by conv => lhs; whnf)) ?_; clear K; rintro _ w1 ⟨g, rfl, K⟩; (try dsimp only [Value.cells] at K)) | ((with_reducible refine at_alloc rfl ?_); refine wpList_does rfl (kd_alloc K _ rfl rfl) ?_; clear K; rintro _ w1 ⟨g, rfl, K⟩; (try dsimp only [Value.cells] at K)) | ((with_reducible refine at_buildSlice rfl ?_); refine wpList_does rfl (kd_lits (cs := _) K _ _ _ rfl (by first | rfl | (go_simp; done) | (go_simp; rfl)) (by first | rfl | (go_simp; done) | (go_simp; rfl))) ?_; clear K; rintro _ w1 ⟨g, rfl, K⟩) | ((with_reducible refine at_load rfl ?_); first | (refine wpList_reads (by rfl) (kr_load_cell K _ _ (by rfl) (by rfl) Has.auto (by decide +kernel) (by (try simp only [List.getElem?_toArray, List.getElem?_cons_succ, List.getElem?_cons_zero]); exact rfl)) ?_) | (refine wpList_reads (by rfl) (kr_load_row K _ _ (by rfl) (by rfl) Has.auto (by decide +kernel) (by kernel_rfl)) ?_)) | ((with_reducible refine at_store rfl ?_); (first | (refine wpList_does rfl (kd_store_cell K _ _ _ rfl rfl (by conv => lhs; whnf) Repl.auto rfl rfl (by kernel_rfl) (by kernel_rfl) (by first | (simp only [List.setIfInBounds_toArray, List.set_cons_succ, List.set_cons_zero]; rfl) | rfl)) ?_) | (refine wpList_does rfl (kd_store_row K _ _ _ rfl rfl rfl Repl.auto (by kernel_rfl) (by kernel_rfl) (by kernel_rfl)) ?_)); clear K; intro _ w1 K; (try simp only [Act.put])))
      go_ret
      exact ⟨by rw [HR.out, b1, b2]; rfl, K.cov Cov.auto⟩
    · have b2 : decide (s.from_ < P) = false := decide_eq_false c2
      go_enter Try.func86, Try.ntmps86
      go_wp2_with (first | ((with_reducible refine at_eqnil rfl ?_); refine wpList_reads rfl (kr_eqnil rfl rfl (by kernel_rfl)) ?_) | ((with_reducible refine at_box rfl ?_); refine wpList_does rfl (kd_box K _ _ rfl (by conv => lhs; whnf)) ?_; clear K; rintro _ w1 ⟨g, rfl, K⟩; (try dsimp only [Value.cells] at K)) | ((with_reducible refine at_alloc rfl ?_); refine wpList_does rfl (kd_alloc K _ rfl rfl) ?_; clear K; rintro _ w1 ⟨g, rfl, K⟩; (try dsimp only [Value.cells] at K)) | ((with_reducible refine at_buildSlice rfl ?_); refine wpList_does rfl (kd_lits (cs := _) K _ _ _ rfl (by first | rfl | (go_simp; done) | (go_simp; rfl)) (by first | rfl | (go_simp; done) | (go_simp; rfl))) ?_; clear K; rintro _ w1 ⟨g, rfl, K⟩) | ((with_reducible refine at_load rfl ?_); first | (refine wpList_reads (by rfl) (kr_load_cell K _ _ (by rfl) (by rfl) Has.auto (by decide +kernel) (by (try simp only [List.getElem?_toArray, List.getElem?_cons_succ, List.getElem?_cons_zero]); exact rfl)) ?_) | (refine wpList_reads (by rfl) (kr_load_row K _ _ (by rfl) (by rfl) Has.auto (by decide +kernel) (by kernel_rfl)) ?_)) | ((with_reducible refine at_store rfl ?_); (first | (refine wpList_does rfl (kd_store_cell K _ _ _ rfl rfl (by conv => lhs; whnf) Repl.auto rfl rfl (by kernel_rfl) (by kernel_rfl) (by first | (simp only [List.setIfInBounds_toArray, List.set_cons_succ, List.set_cons_zero]; rfl) | rfl)) ?_) | (refine wpList_does rfl (kd_store_row K _ _ _ rfl rfl rfl Repl.auto (by kernel_rfl) (by kernel_rfl) (by kernel_rfl)) ?_)); clear K; intro _ w1 K; (try simp only [Act.put])))
      go_ret
      exact ⟨by rw [HR.out, b1, b2]; rfl, K.cov Cov.auto⟩
  · have b1 : decide (1 < s.kind) = false := decide_eq_false c1
    go_enter Try.func86, Try.ntmps86
    go_wp2_with (first | ((with_reducible refine at_eqnil rfl ?_); refine wpList_reads rfl (kr_eqnil rfl rfl (by kernel_rfl)) ?_) | ((with_reducible refine at_box rfl ?_); refine wpList_does rfl (kd_box K _ _ rfl (by conv => lhs; whnf)) ?_; clear K; rintro _ w1 ⟨g, rfl, K⟩; (try dsimp only [Value.cells] at K)) | ((with_reducible refine at_alloc rfl ?_); refine wpList_does rfl (kd_alloc K _ rfl rfl) ?_; clear K; rintro _ w1 ⟨g, rfl, K⟩; (try dsimp only [Value.cells] at K)) | ((with_reducible refine at_buildSlice rfl ?_); refine wpList_does rfl (kd_lits (cs := _) K _ _ _ rfl (by first | rfl | (go_simp; done) | (go_simp; rfl)) (by first | rfl | (go_simp; done) | (go_simp; rfl))) ?_; clear K; rintro _ w1 ⟨g, rfl, K⟩) | ((with_reducible refine at_load rfl ?_); first | (refine wpList_reads (by rfl) (kr_load_cell K _ _ (by rfl) (by rfl) Has.auto (by decide +kernel) (by (try simp only [List.getElem?_toArray, List.getElem?_cons_succ, List.getElem?_cons_zero]); exact rfl)) ?_) | (refine wpList_reads (by rfl) (kr_load_row K _ _ (by rfl) (by rfl) Has.auto (by decide +kernel) (by kernel_rfl)) ?_)) | ((with_reducible refine at_store rfl ?_); (first | (refine wpList_does rfl (kd_store_cell K _ _ _ rfl rfl (by conv => lhs; whnf) Repl.auto rfl rfl (by kernel_rfl) (by kernel_rfl) (by first | (simp only [List.setIfInBounds_toArray, List.set_cons_succ, List.set_cons_zero]; rfl) | rfl)) ?_) | (refine wpList_does rfl (kd_store_row K _ _ _ rfl rfl rfl Repl.auto (by kernel_rfl) (by kernel_rfl) (by kernel_rfl)) ?_)); clear K; intro _ w1 K; (try simp only [Act.put])))
    go_ret
    exact ⟨by rw [HR.out, b1]; rfl, K.cov Cov.auto⟩
end
end Go.Proofs.Ytffednkdmkohdaa
