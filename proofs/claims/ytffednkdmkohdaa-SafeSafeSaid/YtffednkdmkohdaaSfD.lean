/-
  safe: once, ahead; the document's once, Ahead (contracts).
-/
import Derived.Test.YtffednkdmkohdaaSfC
import Derived.Test.YtffednkdmkohdaaSfB
set_option linter.unusedVariables false
set_option linter.unusedSimpArgs false
namespace Go.Proofs.Ytffednkdmkohdaa
open Go.RowKit

section
variable {w0 w : World} {L : List Ent} {A : Option Addr} {n c : Nat} {xs : List Int}
set_option maxHeartbeats 800000 in
set_option maxRecDepth 100000 in
theorem sonce_any (K : Known w0 w L) (R : RdS w0 L .i64 A n xs) (hc : n ≤ c) (hn : n ≤ 1000000) (many : Nat) : Calls Try.prog 81 #[.slice A n c, .int .i64 many] w fun e w' => e = .returned (.bool (onceB xs many)) ∧ Known w0 w' L := by
  have hl := R.len
  by_cases h0 : n = many
  · subst h0
    have e1 : ((n : Int) == (n : Int)) = true := by simp
    obtain ⟨zs, hzs⟩ : ∃ zs, zs = xs.mergeSort (fun x y => decide (x ≤ y)) := ⟨_, rfl⟩
    have HON := Lib.hid (show onceB xs n = decide (zs = iota n) by rw [once_sorted, hzs])
    have HZL := Lib.hid (show zs.length = n by rw [hzs, List.length_mergeSort, hl])
    have HZS := Lib.hid hzs
    clear hl hzs
    go_enter Try.func81, Try.ntmps81
    go_upto_region 5 with ((first | (go_at_call 108; (with_reducible refine (values_any K _ _ _).mono ?_); clear K; rintro e w1 ⟨gv, rfl, K⟩) | (go_at_call 47; (with_reducible refine (vsorted_any K gv (Has.hd _ _) (R.cov Cov.auto) (by omega)).mono ?_); clear K; rintro e w1 ⟨A2, c2, rfl, X, O, K⟩)))
    rw [← HZS.out] at O
    have R2 := RdS.own (w0 := w0) (L := X) O (Seg.all X)
    have hc2 := O.le
    clear O
    go_loopg [17] n (fun q v wr => ∃ (j : Nat), v = .int .i64 j ∧ j + q = n ∧ Hid (zs.take j = (iota n).take j) ∧ Known w0 wr (X ++ L))
    case atStart => exact ⟨0, by go_num, by omega, Lib.hid rfl, K.cov Cov.auto⟩
    case round =>
      clear K
      obtain ⟨j, rfl, hd, HE, K⟩ := hrel
      by_cases hj : j < n
      · have hj2 : decide ((j : Int) < (n : Int)) = true := decide_eq_true (by omega)
        have hjj : (0 : Int) ≤ (j : Int) ∧ (j : Int) < (n : Int) := by omega
        have i1 := IntWalk.i64_in ((j : Int) + 1) (by omega)
        obtain ⟨b, off, rfl⟩ := R2.form (K.cov Cov.auto) (by omega)
        obtain ⟨u, hu⟩ : ∃ u, zs.getD j 0 = u := ⟨_, rfl⟩
        have HU := Lib.hid hu
        have HT := Lib.hid (show zs.take (j + 1) = zs.take j ++ [u] by rw [take_getD (by have := HZL.out; omega), hu])
        have HI := Lib.hid (show (iota n).take (j + 1) = (iota n).take j ++ [(j : Int)] by rw [take_getD (by rw [iota_len]; exact hj), iota_get hj])
        clear hu
        by_cases hx : u = (j : Int)
        · have e2 : (u == (j : Int)) = true := by simpa using hx
          have HX := Lib.hid hx
          clear hx
          go_wp2_with (first | ((with_reducible refine at_load rfl ?_); first | (refine wpList_reads (by rfl) (kr_load_cell K _ _ (by rfl) (by rfl) Has.auto (by decide +kernel) (by (try simp only [List.getElem?_toArray, List.getElem?_cons_succ, List.getElem?_cons_zero]); exact rfl)) ?_) | (refine wpList_reads (by rfl) (kr_load_row K _ _ (by rfl) (by rfl) Has.auto (by decide +kernel) (by kernel_rfl)) ?_) | (refine wpList_reads (by rfl) (kr_load_fact _ _ (by rfl) (by rfl) (R2.cell (K.cov Cov.auto) (by omega) HU.out rfl) (by decide +kernel)) ?_)))
          go_roundg (gk - 1)
          case measure => omega
          case rel => exact ⟨j + 1, by go_num, by omega, Lib.hid (by rw [HT.out, HI.out, HE.out, HX.out]), K⟩
        · have e2 : (u == (j : Int)) = false := by simpa using hx
          have HR := Lib.hid (show onceB xs n = false by
            rw [HON.out, decide_eq_false_iff_not]
            intro e
            rw [e, iota_get hj] at HU
            exact hx HU.out.symm)
          clear hx
          go_wp2_with (first | ((with_reducible refine at_load rfl ?_); first | (refine wpList_reads (by rfl) (kr_load_cell K _ _ (by rfl) (by rfl) Has.auto (by decide +kernel) (by (try simp only [List.getElem?_toArray, List.getElem?_cons_succ, List.getElem?_cons_zero]); exact rfl)) ?_) | (refine wpList_reads (by rfl) (kr_load_row K _ _ (by rfl) (by rfl) Has.auto (by decide +kernel) (by kernel_rfl)) ?_) | (refine wpList_reads (by rfl) (kr_load_fact _ _ (by rfl) (by rfl) (R2.cell (K.cov Cov.auto) (by omega) HU.out rfl) (by decide +kernel)) ?_)))
          go_ret
          exact ⟨by rw [HR.out]; rfl, K.cov Cov.auto⟩
      · have hj2 : decide ((j : Int) < (n : Int)) = false := decide_eq_false (by omega)
        have HR := Lib.hid (show onceB xs n = true by
          have h1 := HE.out
          rw [List.take_of_length_le (by have := HZL.out; omega), List.take_of_length_le (by rw [iota_len]; omega)] at h1
          rw [HON.out, h1, decide_eq_true_eq])
        go_wp2
        go_ret
        exact ⟨by rw [HR.out]; rfl, K.cov Cov.auto⟩
  · have e1 : ((n : Int) == (many : Int)) = false := by simp; omega
    have HR := Lib.hid (show onceB xs many = false by rw [onceB, hl, decide_eq_false h0]; rfl)
    clear h0 hl
    go_enter Try.func81, Try.ntmps81
    go_wp2
    go_ret
    exact ⟨by rw [HR.out]; rfl, K⟩

set_option maxHeartbeats 800000 in
set_option maxRecDepth 100000 in
theorem ronce_any (K : Known w0 w L) (R : RdS w0 L .i64 A n xs) (hc : n ≤ c) (hn : n ≤ 1000000) (many : Nat) : Calls Try.prog 85 #[.slice A n c, .int .i64 many] w fun e w' => e = .returned (.bool (onceB xs many)) ∧ Known w0 w' L := by
  have hl := R.len
  by_cases h0 : n = many
  · subst h0
    have e1 : ((n : Int) == (n : Int)) = true := by simp
    have HON := Lib.hid (show onceB xs n = (List.range n).all fun i => decide (xs.count (i : Int) = 1) by rw [onceB, hl, decide_eq_true rfl]; rfl)
    have HL := Lib.hid hl
    clear hl
    go_enter Try.func85, Try.ntmps85
    go_upto_region 4 with (fail)
    go_loopg [5] n (fun q v wr => ∃ (i : Nat), v = .int .i64 i ∧ i + q = n ∧ Hid (∀ k, k < i → xs.count (k : Int) = 1) ∧ Known w0 wr L)
    case atStart => exact ⟨0, by go_num, by omega, Lib.hid (fun k h => absurd h (Nat.not_lt_zero k)), K⟩
    case round =>
      clear K
      obtain ⟨i, rfl, hdi, HE, K⟩ := hrel
      by_cases hi : i < n
      · have hi2 : decide ((i : Int) < (n : Int)) = true := decide_eq_true (by omega)
        have i1 := IntWalk.i64_in ((i : Int) + 1) (by omega)
        go_upto_region 8 with (fail)
        obtain ⟨og, hog⟩ : ∃ og, og = gk := ⟨_, rfl⟩
        go_loopg [6, 19] n (fun q v5 v wr => ∃ (j f : Nat), v5 = .int .i64 f ∧ v = .int .i64 j ∧ j + q = n ∧ f ≤ j ∧ Hid (f = (xs.take j).count (i : Int)) ∧ Known w0 wr L)
        case atStart => exact ⟨0, 0, by go_num, by go_num, by omega, by omega, Lib.hid (by simp), K⟩
        case round =>
          clear K
          obtain ⟨j, f, rfl, rfl, hd, hf, HF, K⟩ := hrel
          by_cases hj : j < n
          · have hj2 : decide ((j : Int) < (n : Int)) = true := decide_eq_true (by omega)
            have hjj : (0 : Int) ≤ (j : Int) ∧ (j : Int) < (n : Int) := by omega
            have i2 := IntWalk.i64_in ((j : Int) + 1) (by omega)
            have i3 := IntWalk.i64_in ((f : Int) + 1) (by omega)
            obtain ⟨b, off, rfl⟩ := R.form K (by omega)
            obtain ⟨u, hu⟩ : ∃ u, xs.getD j 0 = u := ⟨_, rfl⟩
            have HU := Lib.hid hu
            have HT := Lib.hid (show xs.take (j + 1) = xs.take j ++ [u] by rw [take_getD (by have := HL.out; omega), hu])
            clear hu
            by_cases hx : u = (i : Int)
            · have e2 : (u == (i : Int)) = true := by simpa using hx
              have HX := Lib.hid hx
              clear hx
              go_wp2_with (first | ((with_reducible refine at_load rfl ?_); first | (refine wpList_reads (by rfl) (kr_load_cell K _ _ (by rfl) (by rfl) Has.auto (by decide +kernel) (by (try simp only [List.getElem?_toArray, List.getElem?_cons_succ, List.getElem?_cons_zero]); exact rfl)) ?_) | (refine wpList_reads (by rfl) (kr_load_row K _ _ (by rfl) (by rfl) Has.auto (by decide +kernel) (by kernel_rfl)) ?_) | (refine wpList_reads (by rfl) (kr_load_fact _ _ (by rfl) (by rfl) (R.cell K (by omega) HU.out rfl) (by decide +kernel)) ?_)))
              go_roundg (gk - 1)
              case measure => omega
              case rel => exact ⟨j + 1, f + 1, by go_num, by go_num, by omega, by omega, Lib.hid (by rw [HT.out, HX.out, List.count_append, ← HF.out]; simp), K⟩
            · have e2 : (u == (i : Int)) = false := by simpa using hx
              have HX := Lib.hid hx
              clear hx
              go_wp2_with (first | ((with_reducible refine at_load rfl ?_); first | (refine wpList_reads (by rfl) (kr_load_cell K _ _ (by rfl) (by rfl) Has.auto (by decide +kernel) (by (try simp only [List.getElem?_toArray, List.getElem?_cons_succ, List.getElem?_cons_zero]); exact rfl)) ?_) | (refine wpList_reads (by rfl) (kr_load_row K _ _ (by rfl) (by rfl) Has.auto (by decide +kernel) (by kernel_rfl)) ?_) | (refine wpList_reads (by rfl) (kr_load_fact _ _ (by rfl) (by rfl) (R.cell K (by omega) HU.out rfl) (by decide +kernel)) ?_)))
              go_roundg (gk - 1)
              case measure => omega
              case rel => exact ⟨j + 1, f, by go_num, by go_num, by omega, by omega, Lib.hid (by rw [HT.out, List.count_append, ← HF.out, List.count_singleton, beq_eq_false_iff_ne.2 HX.out]; simp), K⟩
          · have hj2 : decide ((j : Int) < (n : Int)) = false := decide_eq_false (by omega)
            have hfc : f = xs.count (i : Int) := by have := HF.out; rw [List.take_of_length_le (by have := HL.out; omega)] at this; exact this
            clear HF
            by_cases hx : f = 1
            · have e2 : ((f : Int) == 1) = true := by simp; omega
              have HX := Lib.hid (show xs.count (i : Int) = 1 by omega)
              clear hx hfc
              go_wp2
              go_roundg (og - 1)
              case measure => omega
              case rel => exact ⟨i + 1, by go_num, by omega, Lib.hid (fun k hk => by
                by_cases hki : k = i
                · rw [hki]; exact HX.out
                · exact HE.out k (by omega)), K⟩
            · have e2 : ((f : Int) == 1) = false := by simp; omega
              have HR := Lib.hid (show onceB xs n = false by
                rw [HON.out, List.all_eq_false]
                exact ⟨i, List.mem_range.2 hi, by simp; omega⟩)
              clear hx hfc
              go_wp2
              go_ret
              exact ⟨by rw [HR.out]; rfl, K⟩
      · have hi2 : decide ((i : Int) < (n : Int)) = false := decide_eq_false (by omega)
        have HR := Lib.hid (show onceB xs n = true by
          rw [HON.out, List.all_eq_true]
          intro k hk
          rw [List.mem_range] at hk
          exact decide_eq_true (HE.out k (by omega)))
        go_wp2
        go_ret
        exact ⟨by rw [HR.out]; rfl, K⟩
  · have e1 : ((n : Int) == (many : Int)) = false := by simp; omega
    have HR := Lib.hid (show onceB xs many = false by rw [onceB, hl, decide_eq_false h0]; rfl)
    clear h0 hl
    go_enter Try.func85, Try.ntmps85
    go_wp2
    go_ret
    exact ⟨by rw [HR.out]; rfl, K⟩
end
end Go.Proofs.Ytffednkdmkohdaa
