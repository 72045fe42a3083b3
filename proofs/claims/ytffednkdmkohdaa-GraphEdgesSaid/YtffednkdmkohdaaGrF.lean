/-
  graph: right, the document's Right (contracts).
-/
import Derived.Test.YtffednkdmkohdaaGrE
set_option linter.unusedVariables false
set_option linter.unusedSimpArgs false
namespace Go.Proofs.Ytffednkdmkohdaa
open Go.RowKit
theorem okAt_eq (N i : Int) (xs : List Int) (k : Nat) (u v : Int) (hu : xs.getD k 0 = u) (hv : xs.getD (k - 1) 0 = v) : okAt N i xs k = !(decide (u < 0) || (decide (N ≤ u) || (decide (u = i) || (decide (0 < k) && decide (u ≤ v))))) := by rw [okAt, hu, hv]

section
variable {w0 w : World} {L : List Ent} {A : Option Addr} {n c : Nat} {rows : List (Arow Int)}
set_option maxHeartbeats 3200000 in
set_option maxRecDepth 100000 in
theorem gright_any (K : Known w0 w L) (G : Grid w0 L A n rows) (hc : n ≤ c) (hn : n ≤ 1000000) (hr9 : ∀ r ∈ rows, r.n ≤ 1000000) : Calls Try.prog 51 #[.slice A n c] w fun e w' => e = .returned (.bool (rightG (rows.map (·.l)))) ∧ w = w' := by
  have hl := G.R.len
  have HLR := Lib.hid (show (rows.map (·.l)).length = n by rw [List.length_map, hl])
  go_enter Try.func51, Try.ntmps51
  go_upto_region 2 with (fail)
  go_loopg [9] n (fun q v wr => ∃ (j : Nat), v = .int .i64 j ∧ j + q = n ∧ wr = w ∧ Hid ((List.range j).all (fun (i : Nat) => okRow n i ((rows.map (·.l)).getD i [])) = true))
  case atStart => exact ⟨0, by go_num, by omega, rfl, Lib.hid rfl⟩
  case round =>
    obtain ⟨j, rfl, hdj, rfl, HE⟩ := hrel
    by_cases hj : j < n
    · have hj2 : decide ((j : Int) < (n : Int)) = true := decide_eq_true (by omega)
      have hjj : (0 : Int) ≤ (j : Int) ∧ (j : Int) < (n : Int) := by omega
      have i1 := IntWalk.i64_in ((j : Int) + 1) (by omega)
      obtain ⟨b, off, rfl⟩ := G.R.form K (by omega)
      obtain ⟨⟨rA, rn, rc, rl⟩, hp⟩ : ∃ r, r = rows[j]'(by omega) := ⟨_, rfl⟩
      have hpm : (⟨rA, rn, rc, rl⟩ : Arow Int) ∈ rows := by rw [hp]; exact List.getElem_mem _
      have HP := Lib.hid (show encAt arC rows j = [.slice rA rn rc] by rw [encAt_get (by omega), ← hp]; rfl)
      have HRL := Lib.hid (show (rows.map (·.l)).getD j [] = rl by simp [List.getD, show j < rows.length by omega, ← hp])
      have RR := (G.row _ hpm).1
      have hrc := (G.row _ hpm).2
      have hrn := hr9 _ hpm
      have hrl := RR.len
      simp only at RR hrc hrn hrl
      have HRB := Lib.hid (show okRow n j rl = false → rightG (rows.map (·.l)) = false from fun h => by
        rw [rightG, HLR.out, range_all_bad (k := j) hj (by rw [HRL.out]; exact h)]; rfl)
      clear hp hl hpm
      go_upto_region 5 with ((first | ((with_reducible refine at_load rfl ?_); refine wpList_reads (by rfl) (kr_load_rcell K _ _ (by rfl) (j) 0 (by rfl) (G.R.cov Cov.auto) (by omega) HP.out (by rfl) (by omega) (by kernel_rfl)) ?_)))
      obtain ⟨og, hog⟩ : ∃ og, og = gk := ⟨_, rfl⟩
      go_loopg [16] rn (fun q v w2 => ∃ (k : Nat), v = .int .i64 k ∧ k + q = rn ∧ w2 = wr ∧ Hid ((List.range k).all (okAt n j rl) = true))
      case atStart => exact ⟨0, by go_num, by omega, rfl, Lib.hid rfl⟩
      case round =>
        obtain ⟨k, rfl, hdk, rfl, HK9⟩ := hrel
        by_cases hk : k < rn
        · have hk2 : decide ((k : Int) < (rn : Int)) = true := decide_eq_true (by omega)
          have hkk : (0 : Int) ≤ (k : Int) ∧ (k : Int) < (rn : Int) := by omega
          have i2 := IntWalk.i64_in ((k : Int) + 1) (by omega)
          obtain ⟨b2, off2, rfl⟩ := RR.form K (by omega)
          obtain ⟨u, hu⟩ : ∃ u, rl.getD k 0 = u := ⟨_, rfl⟩
          obtain ⟨v, hv⟩ : ∃ v, rl.getD (k - 1) 0 = v := ⟨_, rfl⟩
          have HOK := Lib.hid (okAt_eq n j rl k u v hu hv)
          have HBD := Lib.hid (show okAt n j rl k = false → rightG (rows.map (·.l)) = false from fun h => HRB.out (range_all_bad (k := k) (by omega) h))
          obtain ⟨km, hkm⟩ : ∃ km : Nat, km = k - 1 := ⟨_, rfl⟩
          have HU := Lib.hid hu
          have HV := Lib.hid (show rl.getD km 0 = v by rw [hkm]; exact hv)
          have hkl : km < rn := by omega
          have hki : 0 < k → (k : Int) - 1 = (km : Int) := fun h => by omega
          have hkmi : (0 : Int) ≤ (km : Int) ∧ (km : Int) < (rn : Int) := by omega
          have ikm := IntWalk.i64_in (km : Int) (by omega)
          clear hu hv hkm hrl
          by_cases c0 : u < 0
          · have b0 : decide (u < 0) = true := by simpa using c0
            have HB := Lib.hid (HBD.out (by rw [HOK.out, decide_eq_true c0]; rfl))
            go_wp2_with (first | ((with_reducible refine at_load rfl ?_); first | (refine wpList_reads (by rfl) (kr_load_fact _ _ (by rfl) (by rfl) (RR.cell K (j := k) (by omega) HU.out rfl) (by decide +kernel)) ?_) | (refine wpList_reads (by rfl) (kr_load_fact _ _ (by rfl) (by rfl) (RR.cell K (j := km) (by omega) HV.out rfl) (by decide +kernel)) ?_)))
            go_ret
            exact ⟨by rw [HB.out]; rfl, rfl⟩
          have b0 : decide (u < 0) = false := by simpa using c0
          by_cases c1 : (n : Int) ≤ u
          · have b1 : decide ((n : Int) ≤ u) = true := by simpa using c1
            have HB := Lib.hid (HBD.out (by rw [HOK.out, decide_eq_false c0, decide_eq_true c1]; rfl))
            go_wp2_with (first | ((with_reducible refine at_load rfl ?_); first | (refine wpList_reads (by rfl) (kr_load_fact _ _ (by rfl) (by rfl) (RR.cell K (j := k) (by omega) HU.out rfl) (by decide +kernel)) ?_) | (refine wpList_reads (by rfl) (kr_load_fact _ _ (by rfl) (by rfl) (RR.cell K (j := km) (by omega) HV.out rfl) (by decide +kernel)) ?_)))
            go_ret
            exact ⟨by rw [HB.out]; rfl, rfl⟩
          have b1 : decide ((n : Int) ≤ u) = false := by simpa using c1
          by_cases c2 : u = (j : Int)
          · have b2 : (u == (j : Int)) = true := by simpa using c2
            have HB := Lib.hid (HBD.out (by rw [HOK.out, decide_eq_false c0, decide_eq_false c1, decide_eq_true c2]; rfl))
            go_wp2_with (first | ((with_reducible refine at_load rfl ?_); first | (refine wpList_reads (by rfl) (kr_load_fact _ _ (by rfl) (by rfl) (RR.cell K (j := k) (by omega) HU.out rfl) (by decide +kernel)) ?_) | (refine wpList_reads (by rfl) (kr_load_fact _ _ (by rfl) (by rfl) (RR.cell K (j := km) (by omega) HV.out rfl) (by decide +kernel)) ?_)))
            go_ret
            exact ⟨by rw [HB.out]; rfl, rfl⟩
          have b2 : (u == (j : Int)) = false := by simpa using c2
          by_cases c3 : (0 : Int) < (k : Int)
          · have hkj := hki (by omega)
            have b3 : decide ((0 : Int) < (k : Int)) = true := by simpa using c3
            by_cases c4 : u ≤ v
            · have b4 : decide (u ≤ v) = true := by simpa using c4
              have HB := Lib.hid (HBD.out (by rw [HOK.out, decide_eq_false c0, decide_eq_false c1, decide_eq_false c2, decide_eq_true (show 0 < k by omega), decide_eq_true c4]; rfl))
              go_wp2_with (first | ((with_reducible refine at_load rfl ?_); first | (refine wpList_reads (by rfl) (kr_load_fact _ _ (by rfl) (by rfl) (RR.cell K (j := k) (by omega) HU.out rfl) (by decide +kernel)) ?_) | (refine wpList_reads (by rfl) (kr_load_fact _ _ (by rfl) (by rfl) (RR.cell K (j := km) (by omega) HV.out rfl) (by decide +kernel)) ?_)))
              go_ret
              exact ⟨by rw [HB.out]; rfl, rfl⟩
            · have b4 : decide (u ≤ v) = false := by simpa using c4
              have HO := Lib.hid (show okAt n j rl k = true by rw [HOK.out, decide_eq_false c0, decide_eq_false c1, decide_eq_false c2, decide_eq_true (show 0 < k by omega), decide_eq_false c4]; rfl)
              go_wp2_with (first | ((with_reducible refine at_load rfl ?_); first | (refine wpList_reads (by rfl) (kr_load_fact _ _ (by rfl) (by rfl) (RR.cell K (j := k) (by omega) HU.out rfl) (by decide +kernel)) ?_) | (refine wpList_reads (by rfl) (kr_load_fact _ _ (by rfl) (by rfl) (RR.cell K (j := km) (by omega) HV.out rfl) (by decide +kernel)) ?_)))
              go_roundg (gk - 1)
              case measure => omega
              case rel => exact ⟨k + 1, by go_num, by omega, rfl, Lib.hid (by rw [range_all_succ, HK9.out, HO.out]; rfl)⟩
          · have b3 : decide ((0 : Int) < (k : Int)) = false := by simpa using c3
            have HO := Lib.hid (show okAt n j rl k = true by rw [HOK.out, decide_eq_false c0, decide_eq_false c1, decide_eq_false c2, decide_eq_false (show ¬ 0 < k by omega)]; rfl)
            go_wp2_with (first | ((with_reducible refine at_load rfl ?_); first | (refine wpList_reads (by rfl) (kr_load_fact _ _ (by rfl) (by rfl) (RR.cell K (j := k) (by omega) HU.out rfl) (by decide +kernel)) ?_) | (refine wpList_reads (by rfl) (kr_load_fact _ _ (by rfl) (by rfl) (RR.cell K (j := km) (by omega) HV.out rfl) (by decide +kernel)) ?_)))
            go_roundg (gk - 1)
            case measure => omega
            case rel => exact ⟨k + 1, by go_num, by omega, rfl, Lib.hid (by rw [range_all_succ, HK9.out, HO.out]; rfl)⟩
        · have hk2 : decide ((k : Int) < (rn : Int)) = false := decide_eq_false (by omega)
          have HRO := Lib.hid (show okRow n j rl = true by rw [okRow, hrl, show rn = k by omega]; exact HK9.out)
          clear hrl
          go_wp2
          go_roundg (og - 1)
          case measure => omega
          case rel => exact ⟨j + 1, by go_num, by omega, rfl, Lib.hid (by rw [range_all_succ, HE.out, HRL.out, HRO.out]; rfl)⟩
    · have hj2 : decide ((j : Int) < (n : Int)) = false := decide_eq_false (by omega)
      have hjn : j = n := by omega
      rw [hjn] at HE
      have HR := Lib.hid (show rightG (rows.map (·.l)) = decide ((n : Int) ≤ 4096) by rw [rightG, HLR.out, HE.out, Bool.true_and]; exact decide_eq_decide.2 (by omega))
      clear hjn
      go_wp2
      go_ret
      exact ⟨by rw [HR.out]; rfl, rfl⟩
end
end Go.Proofs.Ytffednkdmkohdaa
