/-
  graph: the document's Right (contract).
-/
import Derived.Test.YtffednkdmkohdaaGrF
set_option linter.unusedVariables false
set_option linter.unusedSimpArgs false
namespace Go.Proofs.Ytffednkdmkohdaa
open Go.RowKit

section
variable {w0 w : World} {L : List Ent} {A : Option Addr} {n c : Nat} {rows : List (Arow Int)}
set_option maxHeartbeats 3200000 in
set_option maxRecDepth 100000 in
theorem rgright_any (K : Known w0 w L) (G : Grid w0 L A n rows) (hc : n ≤ c) (hn : n ≤ 1000000) (hr9 : ∀ r ∈ rows, r.n ≤ 1000000) : Calls Try.prog 21 #[.slice A n c] w fun e w' => e = .returned (.bool (rightG (rows.map (·.l)))) ∧ Known w0 w' L := by
  have hl := G.R.len
  have HLR := Lib.hid (show (rows.map (·.l)).length = n by rw [List.length_map, hl])
  by_cases hbig : 4096 < n
  · have bb : decide (4096 < (n : Int)) = true := decide_eq_true (by omega)
    have HR := Lib.hid (show rightG (rows.map (·.l)) = false by rw [rightG, HLR.out, decide_eq_false (by omega), Bool.and_false])
    clear hl
    go_enter Try.func21, Try.ntmps21
    go_wp2
    go_ret
    exact ⟨by rw [HR.out]; rfl, K⟩
  have bb : decide (4096 < (n : Int)) = false := decide_eq_false (by omega)
  go_enter Try.func21, Try.ntmps21
  go_upto_region 4 with (fail)
  go_loopg [11] n (fun q v wr => ∃ (j : Nat), v = .int .i64 j ∧ j + q = n ∧ Hid ((List.range j).all (fun (i : Nat) => okRow n i ((rows.map (·.l)).getD i [])) = true) ∧ Known w0 wr L)
  case atStart => exact ⟨0, by go_num, by omega, Lib.hid rfl, K⟩
  case round =>
    clear K
    obtain ⟨j, rfl, hdj, HE, K⟩ := hrel
    by_cases hj : j < n
    · have hj2 : decide ((j : Int) < (n : Int)) = true := decide_eq_true (by omega)
      have hjj : (0 : Int) ≤ (j : Int) ∧ (j : Int) < (n : Int) := by omega
      have i1 := IntWalk.i64_in ((j : Int) + 1) (by omega)
      obtain ⟨b, off, rfl⟩ := G.R.form K (by omega)
      obtain ⟨⟨rA, rn, rc, rl⟩, hp⟩ : ∃ r, r = rows[j]'(by omega) := ⟨_, rfl⟩
      have hpm : (⟨rA, rn, rc, rl⟩ : Arow Int) ∈ rows := by rw [hp]; exact List.getElem_mem _
      have HP := Lib.hid (show encAt arC rows j = [.slice rA rn rc] by rw [encAt_get (by omega), ← hp]; rfl)
      have HRL := Lib.hid (show (rows.map (·.l)).getD j [] = rl by simp [List.getD, show j < rows.length by omega, ← hp])
      have RR := (G.row _ hpm).1
      have hrc := (G.row _ hpm).2
      have hrn := hr9 _ hpm
      have hrl := RR.len
      simp only at RR hrc hrn hrl
      have HRB := Lib.hid (show okRow n j rl = false → rightG (rows.map (·.l)) = false from fun h => by
        rw [rightG, HLR.out, range_all_bad (k := j) hj (by rw [HRL.out]; exact h)]; rfl)
      clear hp hl hpm
      go_upto_region 8 with ((first | ((with_reducible refine at_load rfl ?_); refine wpList_reads (by rfl) (kr_load_rcell K _ _ (by rfl) (j) 0 (by rfl) (G.R.cov Cov.auto) (by omega) HP.out (by rfl) (by omega) (by kernel_rfl)) ?_)))
      obtain ⟨og, hog⟩ : ∃ og, og = gk := ⟨_, rfl⟩
      go_loopg [20] rn (fun q v w2 => ∃ (k : Nat), v = .int .i64 k ∧ k + q = rn ∧ Hid ((List.range k).all (okAt n j rl) = true) ∧ Known w0 w2 L)
      case atStart => exact ⟨0, by go_num, by omega, Lib.hid rfl, K⟩
      case round =>
        clear K
        obtain ⟨k, rfl, hdk, HK9, K⟩ := hrel
        by_cases hk : k < rn
        · have hk2 : decide ((k : Int) < (rn : Int)) = true := decide_eq_true (by omega)
          have hkk : (0 : Int) ≤ (k : Int) ∧ (k : Int) < (rn : Int) := by omega
          have i2 := IntWalk.i64_in ((k : Int) + 1) (by omega)
          obtain ⟨b2, off2, rfl⟩ := RR.form K (by omega)
          obtain ⟨u, hu⟩ : ∃ u, rl.getD k 0 = u := ⟨_, rfl⟩
          obtain ⟨v, hv⟩ : ∃ v, rl.getD (k - 1) 0 = v := ⟨_, rfl⟩
          have HOK := Lib.hid (okAt_eq n j rl k u v hu hv)
          have HBD := Lib.hid (show okAt n j rl k = false → rightG (rows.map (·.l)) = false from fun h => HRB.out (range_all_bad (k := k) (by omega) h))
          obtain ⟨km, hkm⟩ : ∃ km : Nat, km = k - 1 := ⟨_, rfl⟩
          have HU := Lib.hid hu
          have HV := Lib.hid (show rl.getD km 0 = v by rw [hkm]; exact hv)
          have hkl : km < rn := by omega
          have hki : 0 < k → (k : Int) - 1 = (km : Int) := fun h => by omega
          have hkmi : (0 : Int) ≤ (km : Int) ∧ (km : Int) < (rn : Int) := by omega
          have ikm := IntWalk.i64_in (km : Int) (by omega)
          clear hu hv hkm hrl
          by_cases c0 : u < 0
          · have b0 : decide (u < 0) = true := by simpa using c0
            have HB := Lib.hid (HBD.out (by rw [HOK.out, decide_eq_true c0]; rfl))
            go_upto_region 10 with (fail)
            refine wp_region_GK K (Cov.all _) (by kernel_rfl) (by kernel_rfl) (by kernel_rfl) (fun K hHeld => ?_)
            refine wpG_takeA 0 (v := ?_) ?_ hHeld ?_
            rotate_left
            · (intro w hS; (clear hS; go_simp); try with_reducible rfl)
            try simp only [Act.put, List.setIfInBounds_toArray, List.set_cons_zero, List.set_cons_succ]
            refine wpG_takeA 1 (v := ?_) ?_ hHeld ?_
            rotate_left
            · (intro w hS; (clear hS; go_simp); try with_reducible rfl)
            try simp only [Act.put, List.setIfInBounds_toArray, List.set_cons_zero, List.set_cons_succ]
            refine wpG_takeA 2 (v := ?_) ?_ hHeld ?_
            rotate_left
            · (intro w hS; (clear hS; go_simp); try with_reducible rfl)
            try simp only [Act.put, List.setIfInBounds_toArray, List.set_cons_zero, List.set_cons_succ]
            refine wpG_takeA 3 (v := .int .i64 u) ?_ hHeld ?_
            · (intro w hS; first | exact kr_load_fact _ _ (by rfl) (by rfl) (RR.cell (j := k) hS (by omega) HU.out rfl) (by kernel_rfl))
            try simp only [Act.put, List.setIfInBounds_toArray, List.set_cons_zero, List.set_cons_succ]
            refine wpG_takeA 4 (v := ?_) ?_ hHeld ?_
            rotate_left
            · (intro w hS; (clear hS; go_simp); try with_reducible rfl)
            try simp only [Act.put, List.setIfInBounds_toArray, List.set_cons_zero, List.set_cons_succ]
            refine wpG_takeA 5 (v := ?_) ?_ hHeld ?_
            rotate_left
            · (intro w hS; (clear hS; go_simp); try with_reducible rfl)
            try simp only [Act.put, List.setIfInBounds_toArray, List.set_cons_zero, List.set_cons_succ]
            refine wpG_offA 6 hHeld ?_
            try simp only [Act.put, List.setIfInBounds_toArray, List.set_cons_zero, List.set_cons_succ]
            refine wpG_offA 7 hHeld ?_
            try simp only [Act.put, List.setIfInBounds_toArray, List.set_cons_zero, List.set_cons_succ]
            refine wpG_offA 8 hHeld ?_
            try simp only [Act.put, List.setIfInBounds_toArray, List.set_cons_zero, List.set_cons_succ]
            refine wpG_offA 9 hHeld ?_
            try simp only [Act.put, List.setIfInBounds_toArray, List.set_cons_zero, List.set_cons_succ]
            refine wpG_offA 10 hHeld ?_
            try simp only [Act.put, List.setIfInBounds_toArray, List.set_cons_zero, List.set_cons_succ]
            refine wpG_offA 11 hHeld ?_
            try simp only [Act.put, List.setIfInBounds_toArray, List.set_cons_zero, List.set_cons_succ]
            refine wpG_offA 12 hHeld ?_
            try simp only [Act.put, List.setIfInBounds_toArray, List.set_cons_zero, List.set_cons_succ]
            refine wpG_takeA 13 (v := ?_) ?_ hHeld ?_
            rotate_left
            · (intro w hS; (clear hS; go_simp); try with_reducible rfl)
            try simp only [Act.put, List.setIfInBounds_toArray, List.set_cons_zero, List.set_cons_succ]
            refine wpG_takeA 14 (v := ?_) ?_ hHeld ?_
            rotate_left
            · (intro w hS; (clear hS; go_simp); try with_reducible rfl)
            try simp only [Act.put, List.setIfInBounds_toArray, List.set_cons_zero, List.set_cons_succ]
            refine wpG_offA 15 hHeld ?_
            try simp only [Act.put, List.setIfInBounds_toArray, List.set_cons_zero, List.set_cons_succ]
            refine wpG_offA 16 hHeld ?_
            try simp only [Act.put, List.setIfInBounds_toArray, List.set_cons_zero, List.set_cons_succ]
            refine wpG_offA 17 hHeld ?_
            try simp only [Act.put, List.setIfInBounds_toArray, List.set_cons_zero, List.set_cons_succ]
            refine wpG_offA 18 hHeld ?_
            try simp only [Act.put, List.setIfInBounds_toArray, List.set_cons_zero, List.set_cons_succ]
            refine wpG_offA 19 hHeld ?_
            try simp only [Act.put, List.setIfInBounds_toArray, List.set_cons_zero, List.set_cons_succ]
            refine wpG_offA 20 hHeld ?_
            try simp only [Act.put, List.setIfInBounds_toArray, List.set_cons_zero, List.set_cons_succ]
            refine wpG_takeA 21 (v := ?_) ?_ hHeld ?_
            rotate_left
            · (intro w hS; (clear hS; go_simp); try with_reducible rfl)
            try simp only [Act.put, List.setIfInBounds_toArray, List.set_cons_zero, List.set_cons_succ]
            refine wpG_takeA 22 (v := ?_) ?_ hHeld ?_
            rotate_left
            · (intro w hS; (clear hS; go_simp); try with_reducible rfl)
            try simp only [Act.put, List.setIfInBounds_toArray, List.set_cons_zero, List.set_cons_succ]
            refine wpG_offA 23 hHeld ?_
            try simp only [Act.put, List.setIfInBounds_toArray, List.set_cons_zero, List.set_cons_succ]
            refine wpG_offA 24 hHeld ?_
            try simp only [Act.put, List.setIfInBounds_toArray, List.set_cons_zero, List.set_cons_succ]
            refine wpG_offA 25 hHeld ?_
            try simp only [Act.put, List.setIfInBounds_toArray, List.set_cons_zero, List.set_cons_succ]
            refine wpG_offA 26 hHeld ?_
            try simp only [Act.put, List.setIfInBounds_toArray, List.set_cons_zero, List.set_cons_succ]
            refine wpG_offA 27 hHeld ?_
            try simp only [Act.put, List.setIfInBounds_toArray, List.set_cons_zero, List.set_cons_succ]
            refine wpG_offA 28 hHeld ?_
            try simp only [Act.put, List.setIfInBounds_toArray, List.set_cons_zero, List.set_cons_succ]
            refine wpG_offA 29 hHeld ?_
            try simp only [Act.put, List.setIfInBounds_toArray, List.set_cons_zero, List.set_cons_succ]
            refine wpG_offA 30 hHeld ?_
            try simp only [Act.put, List.setIfInBounds_toArray, List.set_cons_zero, List.set_cons_succ]
            refine wpG_offA 31 hHeld ?_
            try simp only [Act.put, List.setIfInBounds_toArray, List.set_cons_zero, List.set_cons_succ]
            refine wpG_offA 32 hHeld ?_
            try simp only [Act.put, List.setIfInBounds_toArray, List.set_cons_zero, List.set_cons_succ]
            refine wpG_offA 33 hHeld ?_
            try simp only [Act.put, List.setIfInBounds_toArray, List.set_cons_zero, List.set_cons_succ]
            refine wpG_offA 34 hHeld ?_
            try simp only [Act.put, List.setIfInBounds_toArray, List.set_cons_zero, List.set_cons_succ]
            refine wpG_offA 35 hHeld ?_
            try simp only [Act.put, List.setIfInBounds_toArray, List.set_cons_zero, List.set_cons_succ]
            refine wpG_offA 36 hHeld ?_
            try simp only [Act.put, List.setIfInBounds_toArray, List.set_cons_zero, List.set_cons_succ]
            refine wpG_takeA 37 (v := ?_) ?_ hHeld ?_
            rotate_left
            · (intro w hS; (clear hS; go_simp); try with_reducible rfl)
            try simp only [Act.put, List.setIfInBounds_toArray, List.set_cons_zero, List.set_cons_succ]
            refine wpG_done (by kernel_rfl) ?_
            skip
            go_wp2
            go_ret
            exact ⟨by rw [HB.out]; rfl, K⟩
          have b0 : decide (u < 0) = false := by simpa using c0
          by_cases c1 : (n : Int) ≤ u
          · have b1 : decide ((n : Int) ≤ u) = true := by simpa using c1
            have HB := Lib.hid (HBD.out (by rw [HOK.out, decide_eq_false c0, decide_eq_true c1]; rfl))
            go_upto_region 10 with (fail)
            refine wp_region_GK K (Cov.all _) (by kernel_rfl) (by kernel_rfl) (by kernel_rfl) (fun K hHeld => ?_)
            refine wpG_takeA 0 (v := ?_) ?_ hHeld ?_
            rotate_left
            · (intro w hS; (clear hS; go_simp); try with_reducible rfl)
            try simp only [Act.put, List.setIfInBounds_toArray, List.set_cons_zero, List.set_cons_succ]
            refine wpG_takeA 1 (v := ?_) ?_ hHeld ?_
            rotate_left
            · (intro w hS; (clear hS; go_simp); try with_reducible rfl)
            try simp only [Act.put, List.setIfInBounds_toArray, List.set_cons_zero, List.set_cons_succ]
            refine wpG_takeA 2 (v := ?_) ?_ hHeld ?_
            rotate_left
            · (intro w hS; (clear hS; go_simp); try with_reducible rfl)
            try simp only [Act.put, List.setIfInBounds_toArray, List.set_cons_zero, List.set_cons_succ]
            refine wpG_takeA 3 (v := .int .i64 u) ?_ hHeld ?_
            · (intro w hS; first | exact kr_load_fact _ _ (by rfl) (by rfl) (RR.cell (j := k) hS (by omega) HU.out rfl) (by kernel_rfl))
            try simp only [Act.put, List.setIfInBounds_toArray, List.set_cons_zero, List.set_cons_succ]
            refine wpG_takeA 4 (v := ?_) ?_ hHeld ?_
            rotate_left
            · (intro w hS; (clear hS; go_simp); try with_reducible rfl)
            try simp only [Act.put, List.setIfInBounds_toArray, List.set_cons_zero, List.set_cons_succ]
            refine wpG_takeA 5 (v := ?_) ?_ hHeld ?_
            rotate_left
            · (intro w hS; (clear hS; go_simp); try with_reducible rfl)
            try simp only [Act.put, List.setIfInBounds_toArray, List.set_cons_zero, List.set_cons_succ]
            refine wpG_takeA 6 (v := ?_) ?_ hHeld ?_
            rotate_left
            · (intro w hS; (clear hS; go_simp); try with_reducible rfl)
            try simp only [Act.put, List.setIfInBounds_toArray, List.set_cons_zero, List.set_cons_succ]
            refine wpG_takeA 7 (v := ?_) ?_ hHeld ?_
            rotate_left
            · (intro w hS; (clear hS; go_simp); try with_reducible rfl)
            try simp only [Act.put, List.setIfInBounds_toArray, List.set_cons_zero, List.set_cons_succ]
            refine wpG_takeA 8 (v := ?_) ?_ hHeld ?_
            rotate_left
            · (intro w hS; (clear hS; go_simp); try with_reducible rfl)
            try simp only [Act.put, List.setIfInBounds_toArray, List.set_cons_zero, List.set_cons_succ]
            refine wpG_takeA 9 (v := .int .i64 u) ?_ hHeld ?_
            · (intro w hS; first | exact kr_load_fact _ _ (by rfl) (by rfl) (RR.cell (j := k) hS (by omega) HU.out rfl) (by kernel_rfl))
            try simp only [Act.put, List.setIfInBounds_toArray, List.set_cons_zero, List.set_cons_succ]
            refine wpG_takeA 10 (v := ?_) ?_ hHeld ?_
            rotate_left
            · (intro w hS; (clear hS; go_simp); try with_reducible rfl)
            try simp only [Act.put, List.setIfInBounds_toArray, List.set_cons_zero, List.set_cons_succ]
            refine wpG_takeA 11 (v := ?_) ?_ hHeld ?_
            rotate_left
            · (intro w hS; (clear hS; go_simp); try with_reducible rfl)
            try simp only [Act.put, List.setIfInBounds_toArray, List.set_cons_zero, List.set_cons_succ]
            refine wpG_takeA 12 (v := ?_) ?_ hHeld ?_
            rotate_left
            · (intro w hS; (clear hS; go_simp); try with_reducible rfl)
            try simp only [Act.put, List.setIfInBounds_toArray, List.set_cons_zero, List.set_cons_succ]
            refine wpG_takeA 13 (v := ?_) ?_ hHeld ?_
            rotate_left
            · (intro w hS; (clear hS; go_simp); try with_reducible rfl)
            try simp only [Act.put, List.setIfInBounds_toArray, List.set_cons_zero, List.set_cons_succ]
            refine wpG_takeA 14 (v := ?_) ?_ hHeld ?_
            rotate_left
            · (intro w hS; (clear hS; go_simp); try with_reducible rfl)
            try simp only [Act.put, List.setIfInBounds_toArray, List.set_cons_zero, List.set_cons_succ]
            refine wpG_offA 15 hHeld ?_
            try simp only [Act.put, List.setIfInBounds_toArray, List.set_cons_zero, List.set_cons_succ]
            refine wpG_offA 16 hHeld ?_
            try simp only [Act.put, List.setIfInBounds_toArray, List.set_cons_zero, List.set_cons_succ]
            refine wpG_offA 17 hHeld ?_
            try simp only [Act.put, List.setIfInBounds_toArray, List.set_cons_zero, List.set_cons_succ]
            refine wpG_offA 18 hHeld ?_
            try simp only [Act.put, List.setIfInBounds_toArray, List.set_cons_zero, List.set_cons_succ]
            refine wpG_offA 19 hHeld ?_
            try simp only [Act.put, List.setIfInBounds_toArray, List.set_cons_zero, List.set_cons_succ]
            refine wpG_offA 20 hHeld ?_
            try simp only [Act.put, List.setIfInBounds_toArray, List.set_cons_zero, List.set_cons_succ]
            refine wpG_takeA 21 (v := ?_) ?_ hHeld ?_
            rotate_left
            · (intro w hS; (clear hS; go_simp); try with_reducible rfl)
            try simp only [Act.put, List.setIfInBounds_toArray, List.set_cons_zero, List.set_cons_succ]
            refine wpG_takeA 22 (v := ?_) ?_ hHeld ?_
            rotate_left
            · (intro w hS; (clear hS; go_simp); try with_reducible rfl)
            try simp only [Act.put, List.setIfInBounds_toArray, List.set_cons_zero, List.set_cons_succ]
            refine wpG_offA 23 hHeld ?_
            try simp only [Act.put, List.setIfInBounds_toArray, List.set_cons_zero, List.set_cons_succ]
            refine wpG_offA 24 hHeld ?_
            try simp only [Act.put, List.setIfInBounds_toArray, List.set_cons_zero, List.set_cons_succ]
            refine wpG_offA 25 hHeld ?_
            try simp only [Act.put, List.setIfInBounds_toArray, List.set_cons_zero, List.set_cons_succ]
            refine wpG_offA 26 hHeld ?_
            try simp only [Act.put, List.setIfInBounds_toArray, List.set_cons_zero, List.set_cons_succ]
            refine wpG_offA 27 hHeld ?_
            try simp only [Act.put, List.setIfInBounds_toArray, List.set_cons_zero, List.set_cons_succ]
            refine wpG_offA 28 hHeld ?_
            try simp only [Act.put, List.setIfInBounds_toArray, List.set_cons_zero, List.set_cons_succ]
            refine wpG_offA 29 hHeld ?_
            try simp only [Act.put, List.setIfInBounds_toArray, List.set_cons_zero, List.set_cons_succ]
            refine wpG_offA 30 hHeld ?_
            try simp only [Act.put, List.setIfInBounds_toArray, List.set_cons_zero, List.set_cons_succ]
            refine wpG_offA 31 hHeld ?_
            try simp only [Act.put, List.setIfInBounds_toArray, List.set_cons_zero, List.set_cons_succ]
            refine wpG_offA 32 hHeld ?_
            try simp only [Act.put, List.setIfInBounds_toArray, List.set_cons_zero, List.set_cons_succ]
            refine wpG_offA 33 hHeld ?_
            try simp only [Act.put, List.setIfInBounds_toArray, List.set_cons_zero, List.set_cons_succ]
            refine wpG_offA 34 hHeld ?_
            try simp only [Act.put, List.setIfInBounds_toArray, List.set_cons_zero, List.set_cons_succ]
            refine wpG_offA 35 hHeld ?_
            try simp only [Act.put, List.setIfInBounds_toArray, List.set_cons_zero, List.set_cons_succ]
            refine wpG_offA 36 hHeld ?_
            try simp only [Act.put, List.setIfInBounds_toArray, List.set_cons_zero, List.set_cons_succ]
            refine wpG_takeA 37 (v := ?_) ?_ hHeld ?_
            rotate_left
            · (intro w hS; (clear hS; go_simp); try with_reducible rfl)
            try simp only [Act.put, List.setIfInBounds_toArray, List.set_cons_zero, List.set_cons_succ]
            refine wpG_done (by kernel_rfl) ?_
            skip
            go_wp2
            go_ret
            exact ⟨by rw [HB.out]; rfl, K⟩
          have b1 : decide ((n : Int) ≤ u) = false := by simpa using c1
          by_cases c2 : u = (j : Int)
          · have b2 : (u == (j : Int)) = true := by simpa using c2
            replace c2 := Lib.hid c2
            have HB := Lib.hid (HBD.out (by rw [HOK.out, decide_eq_false c0, decide_eq_false c1, decide_eq_true c2.out]; rfl))
            go_upto_region 10 with (fail)
            refine wp_region_GK K (Cov.all _) (by kernel_rfl) (by kernel_rfl) (by kernel_rfl) (fun K hHeld => ?_)
            refine wpG_takeA 0 (v := ?_) ?_ hHeld ?_
            rotate_left
            · (intro w hS; (clear hS; go_simp); try with_reducible rfl)
            try simp only [Act.put, List.setIfInBounds_toArray, List.set_cons_zero, List.set_cons_succ]
            refine wpG_takeA 1 (v := ?_) ?_ hHeld ?_
            rotate_left
            · (intro w hS; (clear hS; go_simp); try with_reducible rfl)
            try simp only [Act.put, List.setIfInBounds_toArray, List.set_cons_zero, List.set_cons_succ]
            refine wpG_takeA 2 (v := ?_) ?_ hHeld ?_
            rotate_left
            · (intro w hS; (clear hS; go_simp); try with_reducible rfl)
            try simp only [Act.put, List.setIfInBounds_toArray, List.set_cons_zero, List.set_cons_succ]
            refine wpG_takeA 3 (v := .int .i64 u) ?_ hHeld ?_
            · (intro w hS; first | exact kr_load_fact _ _ (by rfl) (by rfl) (RR.cell (j := k) hS (by omega) HU.out rfl) (by kernel_rfl))
            try simp only [Act.put, List.setIfInBounds_toArray, List.set_cons_zero, List.set_cons_succ]
            refine wpG_takeA 4 (v := ?_) ?_ hHeld ?_
            rotate_left
            · (intro w hS; (clear hS; go_simp); try with_reducible rfl)
            try simp only [Act.put, List.setIfInBounds_toArray, List.set_cons_zero, List.set_cons_succ]
            refine wpG_takeA 5 (v := ?_) ?_ hHeld ?_
            rotate_left
            · (intro w hS; (clear hS; go_simp); try with_reducible rfl)
            try simp only [Act.put, List.setIfInBounds_toArray, List.set_cons_zero, List.set_cons_succ]
            refine wpG_takeA 6 (v := ?_) ?_ hHeld ?_
            rotate_left
            · (intro w hS; (clear hS; go_simp); try with_reducible rfl)
            try simp only [Act.put, List.setIfInBounds_toArray, List.set_cons_zero, List.set_cons_succ]
            refine wpG_takeA 7 (v := ?_) ?_ hHeld ?_
            rotate_left
            · (intro w hS; (clear hS; go_simp); try with_reducible rfl)
            try simp only [Act.put, List.setIfInBounds_toArray, List.set_cons_zero, List.set_cons_succ]
            refine wpG_takeA 8 (v := ?_) ?_ hHeld ?_
            rotate_left
            · (intro w hS; (clear hS; go_simp); try with_reducible rfl)
            try simp only [Act.put, List.setIfInBounds_toArray, List.set_cons_zero, List.set_cons_succ]
            refine wpG_takeA 9 (v := .int .i64 u) ?_ hHeld ?_
            · (intro w hS; first | exact kr_load_fact _ _ (by rfl) (by rfl) (RR.cell (j := k) hS (by omega) HU.out rfl) (by kernel_rfl))
            try simp only [Act.put, List.setIfInBounds_toArray, List.set_cons_zero, List.set_cons_succ]
            refine wpG_takeA 10 (v := ?_) ?_ hHeld ?_
            rotate_left
            · (intro w hS; (clear hS; go_simp); try with_reducible rfl)
            try simp only [Act.put, List.setIfInBounds_toArray, List.set_cons_zero, List.set_cons_succ]
            refine wpG_takeA 11 (v := ?_) ?_ hHeld ?_
            rotate_left
            · (intro w hS; (clear hS; go_simp); try with_reducible rfl)
            try simp only [Act.put, List.setIfInBounds_toArray, List.set_cons_zero, List.set_cons_succ]
            refine wpG_takeA 12 (v := ?_) ?_ hHeld ?_
            rotate_left
            · (intro w hS; (clear hS; go_simp); try with_reducible rfl)
            try simp only [Act.put, List.setIfInBounds_toArray, List.set_cons_zero, List.set_cons_succ]
            refine wpG_takeA 13 (v := ?_) ?_ hHeld ?_
            rotate_left
            · (intro w hS; (clear hS; go_simp); try with_reducible rfl)
            try simp only [Act.put, List.setIfInBounds_toArray, List.set_cons_zero, List.set_cons_succ]
            refine wpG_takeA 14 (v := ?_) ?_ hHeld ?_
            rotate_left
            · (intro w hS; (clear hS; go_simp); try with_reducible rfl)
            try simp only [Act.put, List.setIfInBounds_toArray, List.set_cons_zero, List.set_cons_succ]
            refine wpG_takeA 15 (v := ?_) ?_ hHeld ?_
            rotate_left
            · (intro w hS; (clear hS; go_simp); try with_reducible rfl)
            try simp only [Act.put, List.setIfInBounds_toArray, List.set_cons_zero, List.set_cons_succ]
            refine wpG_takeA 16 (v := ?_) ?_ hHeld ?_
            rotate_left
            · (intro w hS; (clear hS; go_simp); try with_reducible rfl)
            try simp only [Act.put, List.setIfInBounds_toArray, List.set_cons_zero, List.set_cons_succ]
            refine wpG_takeA 17 (v := ?_) ?_ hHeld ?_
            rotate_left
            · (intro w hS; (clear hS; go_simp); try with_reducible rfl)
            try simp only [Act.put, List.setIfInBounds_toArray, List.set_cons_zero, List.set_cons_succ]
            refine wpG_takeA 18 (v := .int .i64 u) ?_ hHeld ?_
            · (intro w hS; first | exact kr_load_fact _ _ (by rfl) (by rfl) (RR.cell (j := k) hS (by omega) HU.out rfl) (by kernel_rfl))
            try simp only [Act.put, List.setIfInBounds_toArray, List.set_cons_zero, List.set_cons_succ]
            refine wpG_takeA 19 (v := ?_) ?_ hHeld ?_
            rotate_left
            · (intro w hS; (clear hS; go_simp); try with_reducible rfl)
            try simp only [Act.put, List.setIfInBounds_toArray, List.set_cons_zero, List.set_cons_succ]
            refine wpG_takeA 20 (v := ?_) ?_ hHeld ?_
            rotate_left
            · (intro w hS; (clear hS; go_simp); try with_reducible rfl)
            try simp only [Act.put, List.setIfInBounds_toArray, List.set_cons_zero, List.set_cons_succ]
            refine wpG_takeA 21 (v := ?_) ?_ hHeld ?_
            rotate_left
            · (intro w hS; (clear hS; go_simp); try with_reducible rfl)
            try simp only [Act.put, List.setIfInBounds_toArray, List.set_cons_zero, List.set_cons_succ]
            refine wpG_takeA 22 (v := ?_) ?_ hHeld ?_
            rotate_left
            · (intro w hS; (clear hS; go_simp); try with_reducible rfl)
            try simp only [Act.put, List.setIfInBounds_toArray, List.set_cons_zero, List.set_cons_succ]
            refine wpG_offA 23 hHeld ?_
            try simp only [Act.put, List.setIfInBounds_toArray, List.set_cons_zero, List.set_cons_succ]
            refine wpG_offA 24 hHeld ?_
            try simp only [Act.put, List.setIfInBounds_toArray, List.set_cons_zero, List.set_cons_succ]
            refine wpG_offA 25 hHeld ?_
            try simp only [Act.put, List.setIfInBounds_toArray, List.set_cons_zero, List.set_cons_succ]
            refine wpG_offA 26 hHeld ?_
            try simp only [Act.put, List.setIfInBounds_toArray, List.set_cons_zero, List.set_cons_succ]
            refine wpG_offA 27 hHeld ?_
            try simp only [Act.put, List.setIfInBounds_toArray, List.set_cons_zero, List.set_cons_succ]
            refine wpG_offA 28 hHeld ?_
            try simp only [Act.put, List.setIfInBounds_toArray, List.set_cons_zero, List.set_cons_succ]
            refine wpG_offA 29 hHeld ?_
            try simp only [Act.put, List.setIfInBounds_toArray, List.set_cons_zero, List.set_cons_succ]
            refine wpG_offA 30 hHeld ?_
            try simp only [Act.put, List.setIfInBounds_toArray, List.set_cons_zero, List.set_cons_succ]
            refine wpG_offA 31 hHeld ?_
            try simp only [Act.put, List.setIfInBounds_toArray, List.set_cons_zero, List.set_cons_succ]
            refine wpG_offA 32 hHeld ?_
            try simp only [Act.put, List.setIfInBounds_toArray, List.set_cons_zero, List.set_cons_succ]
            refine wpG_offA 33 hHeld ?_
            try simp only [Act.put, List.setIfInBounds_toArray, List.set_cons_zero, List.set_cons_succ]
            refine wpG_offA 34 hHeld ?_
            try simp only [Act.put, List.setIfInBounds_toArray, List.set_cons_zero, List.set_cons_succ]
            refine wpG_offA 35 hHeld ?_
            try simp only [Act.put, List.setIfInBounds_toArray, List.set_cons_zero, List.set_cons_succ]
            refine wpG_offA 36 hHeld ?_
            try simp only [Act.put, List.setIfInBounds_toArray, List.set_cons_zero, List.set_cons_succ]
            refine wpG_takeA 37 (v := ?_) ?_ hHeld ?_
            rotate_left
            · (intro w hS; (clear hS; go_simp); try with_reducible rfl)
            try simp only [Act.put, List.setIfInBounds_toArray, List.set_cons_zero, List.set_cons_succ]
            refine wpG_done (by kernel_rfl) ?_
            skip
            go_wp2
            go_ret
            exact ⟨by rw [HB.out]; rfl, K⟩
          have b2 : (u == (j : Int)) = false := by simpa using c2
          by_cases c3 : (0 : Int) < (k : Int)
          · have hkj := hki (by omega)
            have b3 : decide ((0 : Int) < (k : Int)) = true := by simpa using c3
            have b3n : decide (0 < k) = true := decide_eq_true (by omega)
            by_cases c4 : u ≤ v
            · have b4 : decide (u ≤ v) = true := by simpa using c4
              have HB := Lib.hid (HBD.out (by rw [HOK.out, decide_eq_false c0, decide_eq_false c1, decide_eq_false c2, decide_eq_true (show 0 < k by omega), decide_eq_true c4]; rfl))
              go_upto_region 10 with (fail)
              refine wp_region_GK K (Cov.all _) (by kernel_rfl) (by kernel_rfl) (by kernel_rfl) (fun K hHeld => ?_)
              refine wpG_takeA 0 (v := ?_) ?_ hHeld ?_
              rotate_left
              · (intro w hS; (clear hS; go_simp); try with_reducible rfl)
              try simp only [Act.put, List.setIfInBounds_toArray, List.set_cons_zero, List.set_cons_succ]
              refine wpG_takeA 1 (v := ?_) ?_ hHeld ?_
              rotate_left
              · (intro w hS; (clear hS; go_simp); try with_reducible rfl)
              try simp only [Act.put, List.setIfInBounds_toArray, List.set_cons_zero, List.set_cons_succ]
              refine wpG_takeA 2 (v := ?_) ?_ hHeld ?_
              rotate_left
              · (intro w hS; (clear hS; go_simp); try with_reducible rfl)
              try simp only [Act.put, List.setIfInBounds_toArray, List.set_cons_zero, List.set_cons_succ]
              refine wpG_takeA 3 (v := .int .i64 u) ?_ hHeld ?_
              · (intro w hS; first | exact kr_load_fact _ _ (by rfl) (by rfl) (RR.cell (j := k) hS (by omega) HU.out rfl) (by kernel_rfl))
              try simp only [Act.put, List.setIfInBounds_toArray, List.set_cons_zero, List.set_cons_succ]
              refine wpG_takeA 4 (v := ?_) ?_ hHeld ?_
              rotate_left
              · (intro w hS; (clear hS; go_simp); try with_reducible rfl)
              try simp only [Act.put, List.setIfInBounds_toArray, List.set_cons_zero, List.set_cons_succ]
              refine wpG_takeA 5 (v := ?_) ?_ hHeld ?_
              rotate_left
              · (intro w hS; (clear hS; go_simp); try with_reducible rfl)
              try simp only [Act.put, List.setIfInBounds_toArray, List.set_cons_zero, List.set_cons_succ]
              refine wpG_takeA 6 (v := ?_) ?_ hHeld ?_
              rotate_left
              · (intro w hS; (clear hS; go_simp); try with_reducible rfl)
              try simp only [Act.put, List.setIfInBounds_toArray, List.set_cons_zero, List.set_cons_succ]
              refine wpG_takeA 7 (v := ?_) ?_ hHeld ?_
              rotate_left
              · (intro w hS; (clear hS; go_simp); try with_reducible rfl)
              try simp only [Act.put, List.setIfInBounds_toArray, List.set_cons_zero, List.set_cons_succ]
              refine wpG_takeA 8 (v := ?_) ?_ hHeld ?_
              rotate_left
              · (intro w hS; (clear hS; go_simp); try with_reducible rfl)
              try simp only [Act.put, List.setIfInBounds_toArray, List.set_cons_zero, List.set_cons_succ]
              refine wpG_takeA 9 (v := .int .i64 u) ?_ hHeld ?_
              · (intro w hS; first | exact kr_load_fact _ _ (by rfl) (by rfl) (RR.cell (j := k) hS (by omega) HU.out rfl) (by kernel_rfl))
              try simp only [Act.put, List.setIfInBounds_toArray, List.set_cons_zero, List.set_cons_succ]
              refine wpG_takeA 10 (v := ?_) ?_ hHeld ?_
              rotate_left
              · (intro w hS; (clear hS; go_simp); try with_reducible rfl)
              try simp only [Act.put, List.setIfInBounds_toArray, List.set_cons_zero, List.set_cons_succ]
              refine wpG_takeA 11 (v := ?_) ?_ hHeld ?_
              rotate_left
              · (intro w hS; (clear hS; go_simp); try with_reducible rfl)
              try simp only [Act.put, List.setIfInBounds_toArray, List.set_cons_zero, List.set_cons_succ]
              refine wpG_takeA 12 (v := ?_) ?_ hHeld ?_
              rotate_left
              · (intro w hS; (clear hS; go_simp); try with_reducible rfl)
              try simp only [Act.put, List.setIfInBounds_toArray, List.set_cons_zero, List.set_cons_succ]
              refine wpG_takeA 13 (v := ?_) ?_ hHeld ?_
              rotate_left
              · (intro w hS; (clear hS; go_simp); try with_reducible rfl)
              try simp only [Act.put, List.setIfInBounds_toArray, List.set_cons_zero, List.set_cons_succ]
              refine wpG_takeA 14 (v := ?_) ?_ hHeld ?_
              rotate_left
              · (intro w hS; (clear hS; go_simp); try with_reducible rfl)
              try simp only [Act.put, List.setIfInBounds_toArray, List.set_cons_zero, List.set_cons_succ]
              refine wpG_takeA 15 (v := ?_) ?_ hHeld ?_
              rotate_left
              · (intro w hS; (clear hS; go_simp); try with_reducible rfl)
              try simp only [Act.put, List.setIfInBounds_toArray, List.set_cons_zero, List.set_cons_succ]
              refine wpG_takeA 16 (v := ?_) ?_ hHeld ?_
              rotate_left
              · (intro w hS; (clear hS; go_simp); try with_reducible rfl)
              try simp only [Act.put, List.setIfInBounds_toArray, List.set_cons_zero, List.set_cons_succ]
              refine wpG_takeA 17 (v := ?_) ?_ hHeld ?_
              rotate_left
              · (intro w hS; (clear hS; go_simp); try with_reducible rfl)
              try simp only [Act.put, List.setIfInBounds_toArray, List.set_cons_zero, List.set_cons_succ]
              refine wpG_takeA 18 (v := .int .i64 u) ?_ hHeld ?_
              · (intro w hS; first | exact kr_load_fact _ _ (by rfl) (by rfl) (RR.cell (j := k) hS (by omega) HU.out rfl) (by kernel_rfl))
              try simp only [Act.put, List.setIfInBounds_toArray, List.set_cons_zero, List.set_cons_succ]
              refine wpG_takeA 19 (v := ?_) ?_ hHeld ?_
              rotate_left
              · (intro w hS; (clear hS; go_simp); try with_reducible rfl)
              try simp only [Act.put, List.setIfInBounds_toArray, List.set_cons_zero, List.set_cons_succ]
              refine wpG_takeA 20 (v := ?_) ?_ hHeld ?_
              rotate_left
              · (intro w hS; (clear hS; go_simp); try with_reducible rfl)
              try simp only [Act.put, List.setIfInBounds_toArray, List.set_cons_zero, List.set_cons_succ]
              refine wpG_takeA 21 (v := ?_) ?_ hHeld ?_
              rotate_left
              · (intro w hS; (clear hS; go_simp); try with_reducible rfl)
              try simp only [Act.put, List.setIfInBounds_toArray, List.set_cons_zero, List.set_cons_succ]
              refine wpG_takeA 22 (v := ?_) ?_ hHeld ?_
              rotate_left
              · (intro w hS; (clear hS; go_simp); try with_reducible rfl)
              try simp only [Act.put, List.setIfInBounds_toArray, List.set_cons_zero, List.set_cons_succ]
              refine wpG_takeA 23 (v := ?_) ?_ hHeld ?_
              rotate_left
              · (intro w hS; (clear hS; go_simp); try with_reducible rfl)
              try simp only [Act.put, List.setIfInBounds_toArray, List.set_cons_zero, List.set_cons_succ]
              refine wpG_takeA 24 (v := ?_) ?_ hHeld ?_
              rotate_left
              · (intro w hS; (clear hS; go_simp); try with_reducible rfl)
              try simp only [Act.put, List.setIfInBounds_toArray, List.set_cons_zero, List.set_cons_succ]
              refine wpG_takeA 25 (v := ?_) ?_ hHeld ?_
              rotate_left
              · (intro w hS; (clear hS; go_simp); try with_reducible rfl)
              try simp only [Act.put, List.setIfInBounds_toArray, List.set_cons_zero, List.set_cons_succ]
              refine wpG_takeA 26 (v := ?_) ?_ hHeld ?_
              rotate_left
              · (intro w hS; (clear hS; go_simp); try with_reducible rfl)
              try simp only [Act.put, List.setIfInBounds_toArray, List.set_cons_zero, List.set_cons_succ]
              refine wpG_takeA 27 (v := ?_) ?_ hHeld ?_
              rotate_left
              · (intro w hS; (clear hS; go_simp); try with_reducible rfl)
              try simp only [Act.put, List.setIfInBounds_toArray, List.set_cons_zero, List.set_cons_succ]
              refine wpG_takeA 28 (v := ?_) ?_ hHeld ?_
              rotate_left
              · (intro w hS; (clear hS; go_simp); try with_reducible rfl)
              try simp only [Act.put, List.setIfInBounds_toArray, List.set_cons_zero, List.set_cons_succ]
              refine wpG_takeA 29 (v := ?_) ?_ hHeld ?_
              rotate_left
              · (intro w hS; (clear hS; go_simp); try with_reducible rfl)
              try simp only [Act.put, List.setIfInBounds_toArray, List.set_cons_zero, List.set_cons_succ]
              refine wpG_takeA 30 (v := .int .i64 v) ?_ hHeld ?_
              · (intro w hS; first | exact kr_load_fact _ _ (by rfl) (by rfl) (RR.cell (j := km) hS (by omega) HV.out rfl) (by kernel_rfl))
              try simp only [Act.put, List.setIfInBounds_toArray, List.set_cons_zero, List.set_cons_succ]
              refine wpG_takeA 31 (v := ?_) ?_ hHeld ?_
              rotate_left
              · (intro w hS; (clear hS; go_simp); try with_reducible rfl)
              try simp only [Act.put, List.setIfInBounds_toArray, List.set_cons_zero, List.set_cons_succ]
              refine wpG_takeA 32 (v := ?_) ?_ hHeld ?_
              rotate_left
              · (intro w hS; (clear hS; go_simp); try with_reducible rfl)
              try simp only [Act.put, List.setIfInBounds_toArray, List.set_cons_zero, List.set_cons_succ]
              refine wpG_takeA 33 (v := ?_) ?_ hHeld ?_
              rotate_left
              · (intro w hS; (clear hS; go_simp); try with_reducible rfl)
              try simp only [Act.put, List.setIfInBounds_toArray, List.set_cons_zero, List.set_cons_succ]
              refine wpG_takeA 34 (v := .int .i64 u) ?_ hHeld ?_
              · (intro w hS; first | exact kr_load_fact _ _ (by rfl) (by rfl) (RR.cell (j := k) hS (by omega) HU.out rfl) (by kernel_rfl))
              try simp only [Act.put, List.setIfInBounds_toArray, List.set_cons_zero, List.set_cons_succ]
              refine wpG_takeA 35 (v := ?_) ?_ hHeld ?_
              rotate_left
              · (intro w hS; (clear hS; go_simp); try with_reducible rfl)
              try simp only [Act.put, List.setIfInBounds_toArray, List.set_cons_zero, List.set_cons_succ]
              refine wpG_takeA 36 (v := ?_) ?_ hHeld ?_
              rotate_left
              · (intro w hS; (clear hS; go_simp); try with_reducible rfl)
              try simp only [Act.put, List.setIfInBounds_toArray, List.set_cons_zero, List.set_cons_succ]
              refine wpG_takeA 37 (v := ?_) ?_ hHeld ?_
              rotate_left
              · (intro w hS; (clear hS; go_simp); try with_reducible rfl)
              try simp only [Act.put, List.setIfInBounds_toArray, List.set_cons_zero, List.set_cons_succ]
              refine wpG_done (by kernel_rfl) ?_
              skip
              go_wp2
              go_ret
              exact ⟨by rw [HB.out]; rfl, K⟩
            · have b4 : decide (u ≤ v) = false := by simpa using c4
              have HO := Lib.hid (show okAt n j rl k = true by rw [HOK.out, decide_eq_false c0, decide_eq_false c1, decide_eq_false c2, decide_eq_true (show 0 < k by omega), decide_eq_false c4]; rfl)
              go_upto_region 10 with (fail)
              refine wp_region_GK K (Cov.all _) (by kernel_rfl) (by kernel_rfl) (by kernel_rfl) (fun K hHeld => ?_)
              refine wpG_takeA 0 (v := ?_) ?_ hHeld ?_
              rotate_left
              · (intro w hS; (clear hS; go_simp); try with_reducible rfl)
              try simp only [Act.put, List.setIfInBounds_toArray, List.set_cons_zero, List.set_cons_succ]
              refine wpG_takeA 1 (v := ?_) ?_ hHeld ?_
              rotate_left
              · (intro w hS; (clear hS; go_simp); try with_reducible rfl)
              try simp only [Act.put, List.setIfInBounds_toArray, List.set_cons_zero, List.set_cons_succ]
              refine wpG_takeA 2 (v := ?_) ?_ hHeld ?_
              rotate_left
              · (intro w hS; (clear hS; go_simp); try with_reducible rfl)
              try simp only [Act.put, List.setIfInBounds_toArray, List.set_cons_zero, List.set_cons_succ]
              refine wpG_takeA 3 (v := .int .i64 u) ?_ hHeld ?_
              · (intro w hS; first | exact kr_load_fact _ _ (by rfl) (by rfl) (RR.cell (j := k) hS (by omega) HU.out rfl) (by kernel_rfl))
              try simp only [Act.put, List.setIfInBounds_toArray, List.set_cons_zero, List.set_cons_succ]
              refine wpG_takeA 4 (v := ?_) ?_ hHeld ?_
              rotate_left
              · (intro w hS; (clear hS; go_simp); try with_reducible rfl)
              try simp only [Act.put, List.setIfInBounds_toArray, List.set_cons_zero, List.set_cons_succ]
              refine wpG_takeA 5 (v := ?_) ?_ hHeld ?_
              rotate_left
              · (intro w hS; (clear hS; go_simp); try with_reducible rfl)
              try simp only [Act.put, List.setIfInBounds_toArray, List.set_cons_zero, List.set_cons_succ]
              refine wpG_takeA 6 (v := ?_) ?_ hHeld ?_
              rotate_left
              · (intro w hS; (clear hS; go_simp); try with_reducible rfl)
              try simp only [Act.put, List.setIfInBounds_toArray, List.set_cons_zero, List.set_cons_succ]
              refine wpG_takeA 7 (v := ?_) ?_ hHeld ?_
              rotate_left
              · (intro w hS; (clear hS; go_simp); try with_reducible rfl)
              try simp only [Act.put, List.setIfInBounds_toArray, List.set_cons_zero, List.set_cons_succ]
              refine wpG_takeA 8 (v := ?_) ?_ hHeld ?_
              rotate_left
              · (intro w hS; (clear hS; go_simp); try with_reducible rfl)
              try simp only [Act.put, List.setIfInBounds_toArray, List.set_cons_zero, List.set_cons_succ]
              refine wpG_takeA 9 (v := .int .i64 u) ?_ hHeld ?_
              · (intro w hS; first | exact kr_load_fact _ _ (by rfl) (by rfl) (RR.cell (j := k) hS (by omega) HU.out rfl) (by kernel_rfl))
              try simp only [Act.put, List.setIfInBounds_toArray, List.set_cons_zero, List.set_cons_succ]
              refine wpG_takeA 10 (v := ?_) ?_ hHeld ?_
              rotate_left
              · (intro w hS; (clear hS; go_simp); try with_reducible rfl)
              try simp only [Act.put, List.setIfInBounds_toArray, List.set_cons_zero, List.set_cons_succ]
              refine wpG_takeA 11 (v := ?_) ?_ hHeld ?_
              rotate_left
              · (intro w hS; (clear hS; go_simp); try with_reducible rfl)
              try simp only [Act.put, List.setIfInBounds_toArray, List.set_cons_zero, List.set_cons_succ]
              refine wpG_takeA 12 (v := ?_) ?_ hHeld ?_
              rotate_left
              · (intro w hS; (clear hS; go_simp); try with_reducible rfl)
              try simp only [Act.put, List.setIfInBounds_toArray, List.set_cons_zero, List.set_cons_succ]
              refine wpG_takeA 13 (v := ?_) ?_ hHeld ?_
              rotate_left
              · (intro w hS; (clear hS; go_simp); try with_reducible rfl)
              try simp only [Act.put, List.setIfInBounds_toArray, List.set_cons_zero, List.set_cons_succ]
              refine wpG_takeA 14 (v := ?_) ?_ hHeld ?_
              rotate_left
              · (intro w hS; (clear hS; go_simp); try with_reducible rfl)
              try simp only [Act.put, List.setIfInBounds_toArray, List.set_cons_zero, List.set_cons_succ]
              refine wpG_takeA 15 (v := ?_) ?_ hHeld ?_
              rotate_left
              · (intro w hS; (clear hS; go_simp); try with_reducible rfl)
              try simp only [Act.put, List.setIfInBounds_toArray, List.set_cons_zero, List.set_cons_succ]
              refine wpG_takeA 16 (v := ?_) ?_ hHeld ?_
              rotate_left
              · (intro w hS; (clear hS; go_simp); try with_reducible rfl)
              try simp only [Act.put, List.setIfInBounds_toArray, List.set_cons_zero, List.set_cons_succ]
              refine wpG_takeA 17 (v := ?_) ?_ hHeld ?_
              rotate_left
              · (intro w hS; (clear hS; go_simp); try with_reducible rfl)
              try simp only [Act.put, List.setIfInBounds_toArray, List.set_cons_zero, List.set_cons_succ]
              refine wpG_takeA 18 (v := .int .i64 u) ?_ hHeld ?_
              · (intro w hS; first | exact kr_load_fact _ _ (by rfl) (by rfl) (RR.cell (j := k) hS (by omega) HU.out rfl) (by kernel_rfl))
              try simp only [Act.put, List.setIfInBounds_toArray, List.set_cons_zero, List.set_cons_succ]
              refine wpG_takeA 19 (v := ?_) ?_ hHeld ?_
              rotate_left
              · (intro w hS; (clear hS; go_simp); try with_reducible rfl)
              try simp only [Act.put, List.setIfInBounds_toArray, List.set_cons_zero, List.set_cons_succ]
              refine wpG_takeA 20 (v := ?_) ?_ hHeld ?_
              rotate_left
              · (intro w hS; (clear hS; go_simp); try with_reducible rfl)
              try simp only [Act.put, List.setIfInBounds_toArray, List.set_cons_zero, List.set_cons_succ]
              refine wpG_takeA 21 (v := ?_) ?_ hHeld ?_
              rotate_left
              · (intro w hS; (clear hS; go_simp); try with_reducible rfl)
              try simp only [Act.put, List.setIfInBounds_toArray, List.set_cons_zero, List.set_cons_succ]
              refine wpG_takeA 22 (v := ?_) ?_ hHeld ?_
              rotate_left
              · (intro w hS; (clear hS; go_simp); try with_reducible rfl)
              try simp only [Act.put, List.setIfInBounds_toArray, List.set_cons_zero, List.set_cons_succ]
              refine wpG_takeA 23 (v := ?_) ?_ hHeld ?_
              rotate_left
              · (intro w hS; (clear hS; go_simp); try with_reducible rfl)
              try simp only [Act.put, List.setIfInBounds_toArray, List.set_cons_zero, List.set_cons_succ]
              refine wpG_takeA 24 (v := ?_) ?_ hHeld ?_
              rotate_left
              · (intro w hS; (clear hS; go_simp); try with_reducible rfl)
              try simp only [Act.put, List.setIfInBounds_toArray, List.set_cons_zero, List.set_cons_succ]
              refine wpG_takeA 25 (v := ?_) ?_ hHeld ?_
              rotate_left
              · (intro w hS; (clear hS; go_simp); try with_reducible rfl)
              try simp only [Act.put, List.setIfInBounds_toArray, List.set_cons_zero, List.set_cons_succ]
              refine wpG_takeA 26 (v := ?_) ?_ hHeld ?_
              rotate_left
              · (intro w hS; (clear hS; go_simp); try with_reducible rfl)
              try simp only [Act.put, List.setIfInBounds_toArray, List.set_cons_zero, List.set_cons_succ]
              refine wpG_takeA 27 (v := ?_) ?_ hHeld ?_
              rotate_left
              · (intro w hS; (clear hS; go_simp); try with_reducible rfl)
              try simp only [Act.put, List.setIfInBounds_toArray, List.set_cons_zero, List.set_cons_succ]
              refine wpG_takeA 28 (v := ?_) ?_ hHeld ?_
              rotate_left
              · (intro w hS; (clear hS; go_simp); try with_reducible rfl)
              try simp only [Act.put, List.setIfInBounds_toArray, List.set_cons_zero, List.set_cons_succ]
              refine wpG_takeA 29 (v := ?_) ?_ hHeld ?_
              rotate_left
              · (intro w hS; (clear hS; go_simp); try with_reducible rfl)
              try simp only [Act.put, List.setIfInBounds_toArray, List.set_cons_zero, List.set_cons_succ]
              refine wpG_takeA 30 (v := .int .i64 v) ?_ hHeld ?_
              · (intro w hS; first | exact kr_load_fact _ _ (by rfl) (by rfl) (RR.cell (j := km) hS (by omega) HV.out rfl) (by kernel_rfl))
              try simp only [Act.put, List.setIfInBounds_toArray, List.set_cons_zero, List.set_cons_succ]
              refine wpG_takeA 31 (v := ?_) ?_ hHeld ?_
              rotate_left
              · (intro w hS; (clear hS; go_simp); try with_reducible rfl)
              try simp only [Act.put, List.setIfInBounds_toArray, List.set_cons_zero, List.set_cons_succ]
              refine wpG_takeA 32 (v := ?_) ?_ hHeld ?_
              rotate_left
              · (intro w hS; (clear hS; go_simp); try with_reducible rfl)
              try simp only [Act.put, List.setIfInBounds_toArray, List.set_cons_zero, List.set_cons_succ]
              refine wpG_takeA 33 (v := ?_) ?_ hHeld ?_
              rotate_left
              · (intro w hS; (clear hS; go_simp); try with_reducible rfl)
              try simp only [Act.put, List.setIfInBounds_toArray, List.set_cons_zero, List.set_cons_succ]
              refine wpG_takeA 34 (v := .int .i64 u) ?_ hHeld ?_
              · (intro w hS; first | exact kr_load_fact _ _ (by rfl) (by rfl) (RR.cell (j := k) hS (by omega) HU.out rfl) (by kernel_rfl))
              try simp only [Act.put, List.setIfInBounds_toArray, List.set_cons_zero, List.set_cons_succ]
              refine wpG_takeA 35 (v := ?_) ?_ hHeld ?_
              rotate_left
              · (intro w hS; (clear hS; go_simp); try with_reducible rfl)
              try simp only [Act.put, List.setIfInBounds_toArray, List.set_cons_zero, List.set_cons_succ]
              refine wpG_takeA 36 (v := ?_) ?_ hHeld ?_
              rotate_left
              · (intro w hS; (clear hS; go_simp); try with_reducible rfl)
              try simp only [Act.put, List.setIfInBounds_toArray, List.set_cons_zero, List.set_cons_succ]
              refine wpG_takeA 37 (v := ?_) ?_ hHeld ?_
              rotate_left
              · (intro w hS; (clear hS; go_simp); try with_reducible rfl)
              try simp only [Act.put, List.setIfInBounds_toArray, List.set_cons_zero, List.set_cons_succ]
              refine wpG_done (by kernel_rfl) ?_
              skip
              go_wp2
              go_roundg (gk - 1)
              case measure => omega
              case rel => exact ⟨k + 1, by go_num, by omega, Lib.hid (by rw [range_all_succ, HK9.out, HO.out]; rfl), K⟩
          · have b3 : decide ((0 : Int) < (k : Int)) = false := by simpa using c3
            have b3n : decide (0 < k) = false := decide_eq_false (by omega)
            have HO := Lib.hid (show okAt n j rl k = true by rw [HOK.out, decide_eq_false c0, decide_eq_false c1, decide_eq_false c2, decide_eq_false (show ¬ 0 < k by omega)]; rfl)
            go_upto_region 10 with (fail)
            refine wp_region_GK K (Cov.all _) (by kernel_rfl) (by kernel_rfl) (by kernel_rfl) (fun K hHeld => ?_)
            refine wpG_takeA 0 (v := ?_) ?_ hHeld ?_
            rotate_left
            · (intro w hS; (clear hS; go_simp); try with_reducible rfl)
            try simp only [Act.put, List.setIfInBounds_toArray, List.set_cons_zero, List.set_cons_succ]
            refine wpG_takeA 1 (v := ?_) ?_ hHeld ?_
            rotate_left
            · (intro w hS; (clear hS; go_simp); try with_reducible rfl)
            try simp only [Act.put, List.setIfInBounds_toArray, List.set_cons_zero, List.set_cons_succ]
            refine wpG_takeA 2 (v := ?_) ?_ hHeld ?_
            rotate_left
            · (intro w hS; (clear hS; go_simp); try with_reducible rfl)
            try simp only [Act.put, List.setIfInBounds_toArray, List.set_cons_zero, List.set_cons_succ]
            refine wpG_takeA 3 (v := .int .i64 u) ?_ hHeld ?_
            · (intro w hS; first | exact kr_load_fact _ _ (by rfl) (by rfl) (RR.cell (j := k) hS (by omega) HU.out rfl) (by kernel_rfl))
            try simp only [Act.put, List.setIfInBounds_toArray, List.set_cons_zero, List.set_cons_succ]
            refine wpG_takeA 4 (v := ?_) ?_ hHeld ?_
            rotate_left
            · (intro w hS; (clear hS; go_simp); try with_reducible rfl)
            try simp only [Act.put, List.setIfInBounds_toArray, List.set_cons_zero, List.set_cons_succ]
            refine wpG_takeA 5 (v := ?_) ?_ hHeld ?_
            rotate_left
            · (intro w hS; (clear hS; go_simp); try with_reducible rfl)
            try simp only [Act.put, List.setIfInBounds_toArray, List.set_cons_zero, List.set_cons_succ]
            refine wpG_takeA 6 (v := ?_) ?_ hHeld ?_
            rotate_left
            · (intro w hS; (clear hS; go_simp); try with_reducible rfl)
            try simp only [Act.put, List.setIfInBounds_toArray, List.set_cons_zero, List.set_cons_succ]
            refine wpG_takeA 7 (v := ?_) ?_ hHeld ?_
            rotate_left
            · (intro w hS; (clear hS; go_simp); try with_reducible rfl)
            try simp only [Act.put, List.setIfInBounds_toArray, List.set_cons_zero, List.set_cons_succ]
            refine wpG_takeA 8 (v := ?_) ?_ hHeld ?_
            rotate_left
            · (intro w hS; (clear hS; go_simp); try with_reducible rfl)
            try simp only [Act.put, List.setIfInBounds_toArray, List.set_cons_zero, List.set_cons_succ]
            refine wpG_takeA 9 (v := .int .i64 u) ?_ hHeld ?_
            · (intro w hS; first | exact kr_load_fact _ _ (by rfl) (by rfl) (RR.cell (j := k) hS (by omega) HU.out rfl) (by kernel_rfl))
            try simp only [Act.put, List.setIfInBounds_toArray, List.set_cons_zero, List.set_cons_succ]
            refine wpG_takeA 10 (v := ?_) ?_ hHeld ?_
            rotate_left
            · (intro w hS; (clear hS; go_simp); try with_reducible rfl)
            try simp only [Act.put, List.setIfInBounds_toArray, List.set_cons_zero, List.set_cons_succ]
            refine wpG_takeA 11 (v := ?_) ?_ hHeld ?_
            rotate_left
            · (intro w hS; (clear hS; go_simp); try with_reducible rfl)
            try simp only [Act.put, List.setIfInBounds_toArray, List.set_cons_zero, List.set_cons_succ]
            refine wpG_takeA 12 (v := ?_) ?_ hHeld ?_
            rotate_left
            · (intro w hS; (clear hS; go_simp); try with_reducible rfl)
            try simp only [Act.put, List.setIfInBounds_toArray, List.set_cons_zero, List.set_cons_succ]
            refine wpG_takeA 13 (v := ?_) ?_ hHeld ?_
            rotate_left
            · (intro w hS; (clear hS; go_simp); try with_reducible rfl)
            try simp only [Act.put, List.setIfInBounds_toArray, List.set_cons_zero, List.set_cons_succ]
            refine wpG_takeA 14 (v := ?_) ?_ hHeld ?_
            rotate_left
            · (intro w hS; (clear hS; go_simp); try with_reducible rfl)
            try simp only [Act.put, List.setIfInBounds_toArray, List.set_cons_zero, List.set_cons_succ]
            refine wpG_takeA 15 (v := ?_) ?_ hHeld ?_
            rotate_left
            · (intro w hS; (clear hS; go_simp); try with_reducible rfl)
            try simp only [Act.put, List.setIfInBounds_toArray, List.set_cons_zero, List.set_cons_succ]
            refine wpG_takeA 16 (v := ?_) ?_ hHeld ?_
            rotate_left
            · (intro w hS; (clear hS; go_simp); try with_reducible rfl)
            try simp only [Act.put, List.setIfInBounds_toArray, List.set_cons_zero, List.set_cons_succ]
            refine wpG_takeA 17 (v := ?_) ?_ hHeld ?_
            rotate_left
            · (intro w hS; (clear hS; go_simp); try with_reducible rfl)
            try simp only [Act.put, List.setIfInBounds_toArray, List.set_cons_zero, List.set_cons_succ]
            refine wpG_takeA 18 (v := .int .i64 u) ?_ hHeld ?_
            · (intro w hS; first | exact kr_load_fact _ _ (by rfl) (by rfl) (RR.cell (j := k) hS (by omega) HU.out rfl) (by kernel_rfl))
            try simp only [Act.put, List.setIfInBounds_toArray, List.set_cons_zero, List.set_cons_succ]
            refine wpG_takeA 19 (v := ?_) ?_ hHeld ?_
            rotate_left
            · (intro w hS; (clear hS; go_simp); try with_reducible rfl)
            try simp only [Act.put, List.setIfInBounds_toArray, List.set_cons_zero, List.set_cons_succ]
            refine wpG_takeA 20 (v := ?_) ?_ hHeld ?_
            rotate_left
            · (intro w hS; (clear hS; go_simp); try with_reducible rfl)
            try simp only [Act.put, List.setIfInBounds_toArray, List.set_cons_zero, List.set_cons_succ]
            refine wpG_takeA 21 (v := ?_) ?_ hHeld ?_
            rotate_left
            · (intro w hS; (clear hS; go_simp); try with_reducible rfl)
            try simp only [Act.put, List.setIfInBounds_toArray, List.set_cons_zero, List.set_cons_succ]
            refine wpG_takeA 22 (v := ?_) ?_ hHeld ?_
            rotate_left
            · (intro w hS; (clear hS; go_simp); try with_reducible rfl)
            try simp only [Act.put, List.setIfInBounds_toArray, List.set_cons_zero, List.set_cons_succ]
            refine wpG_takeA 23 (v := ?_) ?_ hHeld ?_
            rotate_left
            · (intro w hS; (clear hS; go_simp); try with_reducible rfl)
            try simp only [Act.put, List.setIfInBounds_toArray, List.set_cons_zero, List.set_cons_succ]
            refine wpG_takeA 24 (v := ?_) ?_ hHeld ?_
            rotate_left
            · (intro w hS; (clear hS; go_simp); try with_reducible rfl)
            try simp only [Act.put, List.setIfInBounds_toArray, List.set_cons_zero, List.set_cons_succ]
            refine wpG_takeA 25 (v := ?_) ?_ hHeld ?_
            rotate_left
            · (intro w hS; (clear hS; go_simp); try with_reducible rfl)
            try simp only [Act.put, List.setIfInBounds_toArray, List.set_cons_zero, List.set_cons_succ]
            refine wpG_offA 26 hHeld ?_
            try simp only [Act.put, List.setIfInBounds_toArray, List.set_cons_zero, List.set_cons_succ]
            refine wpG_offA 27 hHeld ?_
            try simp only [Act.put, List.setIfInBounds_toArray, List.set_cons_zero, List.set_cons_succ]
            refine wpG_offA 28 hHeld ?_
            try simp only [Act.put, List.setIfInBounds_toArray, List.set_cons_zero, List.set_cons_succ]
            refine wpG_offA 29 hHeld ?_
            try simp only [Act.put, List.setIfInBounds_toArray, List.set_cons_zero, List.set_cons_succ]
            refine wpG_offA 30 hHeld ?_
            try simp only [Act.put, List.setIfInBounds_toArray, List.set_cons_zero, List.set_cons_succ]
            refine wpG_offA 31 hHeld ?_
            try simp only [Act.put, List.setIfInBounds_toArray, List.set_cons_zero, List.set_cons_succ]
            refine wpG_offA 32 hHeld ?_
            try simp only [Act.put, List.setIfInBounds_toArray, List.set_cons_zero, List.set_cons_succ]
            refine wpG_offA 33 hHeld ?_
            try simp only [Act.put, List.setIfInBounds_toArray, List.set_cons_zero, List.set_cons_succ]
            refine wpG_offA 34 hHeld ?_
            try simp only [Act.put, List.setIfInBounds_toArray, List.set_cons_zero, List.set_cons_succ]
            refine wpG_offA 35 hHeld ?_
            try simp only [Act.put, List.setIfInBounds_toArray, List.set_cons_zero, List.set_cons_succ]
            refine wpG_takeA 36 (v := ?_) ?_ hHeld ?_
            rotate_left
            · (intro w hS; (clear hS; go_simp); try with_reducible rfl)
            try simp only [Act.put, List.setIfInBounds_toArray, List.set_cons_zero, List.set_cons_succ]
            refine wpG_takeA 37 (v := ?_) ?_ hHeld ?_
            rotate_left
            · (intro w hS; (clear hS; go_simp); try with_reducible rfl)
            try simp only [Act.put, List.setIfInBounds_toArray, List.set_cons_zero, List.set_cons_succ]
            refine wpG_done (by kernel_rfl) ?_
            skip
            go_wp2
            go_roundg (gk - 1)
            case measure => omega
            case rel => exact ⟨k + 1, by go_num, by omega, Lib.hid (by rw [range_all_succ, HK9.out, HO.out]; rfl), K⟩
        · have hk2 : decide ((k : Int) < (rn : Int)) = false := decide_eq_false (by omega)
          have HRO := Lib.hid (show okRow n j rl = true by rw [okRow, hrl, show rn = k by omega]; exact HK9.out)
          clear hrl
          go_wp2
          go_roundg (og - 1)
          case measure => omega
          case rel => exact ⟨j + 1, by go_num, by omega, Lib.hid (by rw [range_all_succ, HE.out, HRL.out, HRO.out]; rfl), K⟩
    · have hj2 : decide ((j : Int) < (n : Int)) = false := decide_eq_false (by omega)
      have hjn : j = n := by omega
      rw [hjn] at HE
      have HR := Lib.hid (show rightG (rows.map (·.l)) = true by rw [rightG, HLR.out, HE.out, Bool.true_and]; exact decide_eq_true (by omega))
      clear hjn
      go_wp2
      go_ret
      exact ⟨by rw [HR.out]; rfl, K⟩
end
end Go.Proofs.Ytffednkdmkohdaa
