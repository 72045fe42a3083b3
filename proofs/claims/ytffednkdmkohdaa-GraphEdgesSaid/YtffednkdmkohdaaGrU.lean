/-
  slices.DeleteFunc where one number goes (contract): it is there.
-/
import Derived.Test.YtffednkdmkohdaaGrT
set_option linter.unusedVariables false
set_option linter.unusedSimpArgs false
namespace Go.Proofs.Ytffednkdmkohdaa
open Go.RowKit

section
variable {w0 w : World} {L X : List Ent} {A : Option Addr} {n c gp : Nat} {xs : List Int} {k : Int}
set_option maxHeartbeats 800000 in
set_option maxRecDepth 100000 in
theorem delete_yes (K : Known w0 w (X ++ L)) (hp : Has (row gp #[.int .i64 k] 3) L) (O : OwnL 3 1 A n c (xs.map (Value.int .i64)) X) (hn : n ≤ 1000000000) (hk : k ∈ xs) (hd : xs.Nodup) : Calls Try.prog 53 #[.slice A n c, .func (.func 54) #[] #[.pointer (some ⟨gp, 0, none⟩)]] w fun e w' => ∃ m i0 : Nat, m + 1 = n ∧ e = .returned (.slice A m c) ∧ i0 < n ∧ xs.getD i0 0 = k ∧ ∃ X', OwnL 3 1 A m c ((xs.eraseIdx i0).map (Value.int .i64)) X' ∧ Known w0 w' (X' ++ L) := by
  have hl := O.len
  rw [List.length_map, Nat.mul_one] at hl
  have hpos := List.length_pos_of_mem hk
  obtain ⟨-, ⟨-, h0, -⟩ | ⟨g, cur, rfl, rfl, hnc, hcm, hsz, htk⟩⟩ := O.out
  · omega
  have RX := Lib.hid (show RdS w0 (row g cur 3 :: L) .i64 (some ⟨g, 0, none⟩) n xs from RdS.own (w0 := w0) (L := [row g cur 3] ++ L) O (Seg.ap _ L))
  have HM := Lib.hid (fun (r : Int) (h : (r = -1 ∧ k ∉ xs) ∨ ∃ j : Nat, j < n ∧ r = j ∧ k ∉ xs.take j ∧ xs.getD j 0 = k) => show ∃ i0 : Nat, r = i0 ∧ i0 < n ∧ xs.getD i0 0 = k by
    rcases h with h | ⟨j, hj, h2, _, he⟩
    · exact absurd hk h.2
    · exact ⟨j, h2, hj, he⟩)
  rw [Nat.mul_one] at hsz htk
  have HT := Lib.hid htk
  clear htk hk O
  replace K : Known w0 w (row g cur 3 :: L) := K
  go_enter Try.func53, Try.ntmps53
  go_upto_region 2 with ((first | (go_at_call 78; (with_reducible refine (index_any K (Has.tl _ hp) RX.out hnc hn).mono ?_); rintro e w' ⟨r, rfl, hres, rfl⟩; obtain ⟨i0, rfl, hi0, hgk⟩ := HM.out _ hres; clear hres; have hm1 : ((i0 : Int) == -1) = false := beq_eq_false_iff_ne.2 (by omega); have i1 := IntWalk.i64_in ((i0 : Int) + 1) (by omega))))
  go_upto_region 5 with (fail)
  go_loopg [5, 6] (n - (i0 + 1)) (fun q v5 v6 wr => ∃ (i : Nat) (cs : Array Value), v5 = .int .i64 i ∧ v6 = .int .i64 ((i : Int) + 1) ∧ i + 1 + q = n ∧ i0 ≤ i ∧ cs.size = c ∧ Hid (cs.toList.take n = (shiftL xs i0 i).map (Value.int .i64)) ∧ Known w0 wr (row g cs 3 :: L))
  case atStart => exact ⟨i0, cur, rfl, rfl, by omega, Nat.le_refl _, by omega, Lib.hid (by rw [HT.out, shift_start (by omega)]), K⟩
  case round =>
    clear K RX HT
    obtain ⟨i, cs, rfl, rfl, hdi, hii, hcs, HT, K⟩ := hrel
    by_cases hj : i + 1 < n
    · have hj2 : decide ((i : Int) + 1 < (n : Int)) = true := decide_eq_true (by omega)
      have hjj : (0 : Int) ≤ (i : Int) + 1 ∧ (i : Int) + 1 < (n : Int) := by omega
      have hj3 : (0 : Int) ≤ (i : Int) ∧ (i : Int) < (n : Int) := by omega
      have i1 := IntWalk.i64_in ((i : Int) + 1) (by omega)
      have i2 := IntWalk.i64_in ((i : Int) + 1 + 1) (by omega)
      obtain ⟨u, hu⟩ : ∃ u, xs.getD (i + 1) 0 = u := ⟨_, rfl⟩
      have HCJ := Lib.hid (show cs[i + 1]? = some (.int .i64 u) by
        have h1 : (cs.toList.take n)[i + 1]? = some (.int .i64 u) := by
          rw [HT.out, List.getElem?_map, shift_get (by omega) (by omega) (by omega), ← hu]
          simp [List.getD, show i + 1 < xs.length by omega]
        rw [List.getElem?_take, if_pos hj] at h1
        rw [← Array.getElem?_toList]
        exact h1)
      have HSZ := Lib.hid (show i < cs.size by omega)
      have e1 : (u == k) = false := beq_eq_false_iff_ne.2 (fun h => by
        have h1 := (List.getElem_inj (i := i + 1) (j := i0) (h₀ := by omega) (h₁ := by omega) hd).1 (by
          simp only [List.getD, show i + 1 < xs.length by omega, show i0 < xs.length by omega, List.getElem?_eq_getElem, Option.getD_some] at hu hgk
          rw [hu, hgk, h])
        omega)
      have HU := Lib.hid hu
      clear hu hd hgk
      go_wp2_with (first | ((with_reducible refine at_load rfl ?_); refine wpList_reads (by rfl) (kr_load_cell K _ _ (by rfl) (by rfl) Has.auto (by decide +kernel) HCJ.out) ?_) | (go_at_call 54; (with_reducible refine (edges1_any K (Has.tl _ hp) _).mono ?_); rintro e w' ⟨rfl, rfl⟩) | ((with_reducible refine at_store rfl ?_); refine wpList_does rfl (kd_store_cell K _ _ _ rfl rfl (by conv => lhs; whnf) Repl.auto rfl rfl (by kernel_rfl) (decide_eq_true HSZ.out) rfl) ?_; clear K; intro _ w1 K))
      go_roundg (gk - 1)
      case measure => omega
      case rel => exact ⟨i + 1, _, by go_num, by go_num, by omega, by omega, by rw [Array.size_setIfInBounds]; exact hcs, Lib.hid (by
        rw [← shift_step hii (by omega), HU.out, List.map_set, ← HT.out, Array.toList_setIfInBounds, List.take_set]), K⟩
    · have hj2 : decide ((i : Int) + 1 < (n : Int)) = false := decide_eq_false (by omega)
      have HMM := Lib.hid (show i + 1 = n by omega)
      have HML := Lib.hid (show i ≤ n by omega)
      have HSZ := Lib.hid (show i < cs.size by omega)
      go_wp2_with (first | ((with_reducible refine at_slice rfl ?_); refine wpList_reads rfl (kr_last rfl rfl (by rfl) HMM.out hnc Try.underlying25 (by kernel_rfl)) ?_) | (refine wpList_does rfl (kd_clear1 K rfl rfl Try.underlying25 (fun _ => by rfl) rfl rfl Repl.auto HSZ.out) ?_; clear K; intro _ w1 K) | ((with_reducible refine at_slice rfl ?_); refine wpList_reads rfl (kr_init rfl rfl (by rfl) HML.out hnc Try.underlying25 (by kernel_rfl)) ?_))
      go_ret
      have hse := shift_end (xs := xs) (i0 := i0) (m := i) (by omega) (by omega)
      have hel := erase_len (xs := xs) (i0 := i0) (by omega)
      exact ⟨i, i0, HMM.out, rfl, hi0, hgk, _, OwnL.of (by omega) hcm (by rw [Array.size_setIfInBounds, hcs, Nat.mul_one]) (by
        rw [Nat.mul_one, Array.toList_setIfInBounds, List.take_set_of_le (Nat.le_refl _), ← hse, List.map_take, ← HT.out, List.take_take, Nat.min_eq_left (by omega)]) (by rw [List.length_map, hel]; omega), K⟩
end
end Go.Proofs.Ytffednkdmkohdaa
