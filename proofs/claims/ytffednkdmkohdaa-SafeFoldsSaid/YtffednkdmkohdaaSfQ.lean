/-
  The document's Write, Fold (contracts).
-/
import Derived.Test.YtffednkdmkohdaaSfJ
import Derived.Test.YtffednkdmkohdaaSfO
import Derived.Test.YtffednkdmkohdaaSfP
set_option linter.unusedVariables false
set_option linter.unusedSimpArgs false
namespace Go.Proofs.Ytffednkdmkohdaa
open Go.RowKit
theorem padTo_step {m : Nat} {l : List Int} (h : l.length < m) : padTo m (l ++ [0]) = padTo m l := by
  unfold padTo
  rw [List.append_assoc]
  congr 1
  rw [show m - l.length = (m - (l ++ [0]).length) + 1 by simp; omega, List.replicate_succ]
  rfl
/-- the image while bytes are laid -/
def layTo (p : List Int) (at_ : Nat) (x : List Int) (j : Nat) : List Int := writeAt p at_ (x.take j)
theorem layTo_zero (p : List Int) (at_ : Nat) (x : List Int) : layTo p at_ x 0 = p := by simp [layTo, writeAt]
theorem layTo_len {p : List Int} {at_ : Nat} {x : List Int} {j : Nat} (h : at_ + x.length ≤ p.length) : (layTo p at_ x j).length = p.length := by
  unfold layTo
  rw [writeAt_len (by rw [List.length_take]; omega)]
theorem layTo_step {p : List Int} {at_ : Nat} {x : List Int} {j : Nat} (h : at_ + x.length ≤ p.length) (hj : j < x.length) : (layTo p at_ x j).set (at_ + j) (x.getD j 0) = layTo p at_ x (j + 1) := by
  apply list_ext_getD
  · rw [List.length_set, layTo_len h, layTo_len h]
  · intro q hq
    rw [List.length_set, layTo_len h] at hq
    unfold layTo
    rw [writeAt_get (by rw [List.length_take]; omega)]
    by_cases hqe : at_ + j = q
    · rw [if_pos (by rw [List.length_take]; omega)]
      subst hqe
      have hl : at_ + j < (writeAt p at_ (x.take j)).length := by rw [writeAt_len (by rw [List.length_take]; omega)]; exact hq
      simp [List.getD, hl, hj, List.getElem?_take]
    · have e : ((writeAt p at_ (x.take j)).set (at_ + j) (x.getD j 0)).getD q 0 = (writeAt p at_ (x.take j)).getD q 0 := by simp [List.getD, List.getElem?_set, hqe]
      rw [e, writeAt_get (by rw [List.length_take]; omega)]
      simp only [List.length_take]
      by_cases h1 : at_ ≤ q ∧ q < at_ + min j x.length
      · rw [if_pos h1, if_pos (by omega)]
        simp [List.getD, List.getElem?_take, show q - at_ < j by omega, show q - at_ < j + 1 by omega]
      · rw [if_neg h1, if_neg (by omega)]
theorem u8s_set (l : List Int) (i : Nat) (v : Int) : (u8s l).setIfInBounds i (.int .u8 v) = u8s (l.set i v) := by simp [u8s, List.map_set]

section
variable {w0 w : World} {L : List Ent} {A B : Option Addr} {n c m d : Nat} {img xs : List Int}
set_option maxHeartbeats 1600000 in
set_option maxRecDepth 100000 in
theorem rwrite_any (K : Known w0 w L) (RI : RdS w0 L .u8 A n img) (hn : n ≤ 1000000) (at_ : Nat) (hat : at_ ≤ 1000000) (RX : RdS w0 L .u8 B m xs) (hd : m ≤ d) (hm : m ≤ 1000000) :
    Calls Try.prog 62 #[.slice A n c, .int .i64 at_, .slice B m d] w fun e w' => ∃ A' k c' X, e = .returned (.slice A' k c') ∧ k = max n (at_ + m) ∧ OwnL 5 1 A' k c' ((refWrite img at_ xs).map (Value.int .u8)) X ∧ Known w0 w' (X ++ L) := by
  have HIL := Lib.hid RI.len
  have HXL := Lib.hid RX.len
  have i0 := IntWalk.i64_in ((at_ : Int) + (m : Int)) (by omega)
  go_enter Try.func62, Try.ntmps62
  go_upto_region 3 with ((first | ((with_reducible refine at_slot (N := 9) rfl ?_); (with_reducible refine at_buildSlice (n := 0) rfl ?_); refine wpList_does rfl (kd_lit0 K _ 5 1 rfl Try.underlying48 (by kernel_rfl)) ?_; clear K; rintro _ w1 ⟨go, rfl, K⟩; have O : OwnL 5 1 (some ⟨go, 0, none⟩) 0 0 (([] : List Int).map (Value.int .u8)) [row go #[] 5] := OwnL.lit0 _ _) | (at_builtin; refine wpList_does rfl (kd_appendN K _ _ rfl rfl rfl (by with_reducible assumption) Seg.auto ((RI.cov Cov.auto).get K (Cov.all _)) (by kernel_rfl) (by kernel_rfl) (by omega)) ?_; clear K; rintro _ w1 ⟨A2, c2, X2, rfl, O, K⟩; (try simp only [Nat.zero_add, List.nil_append] at O))))
  replace K : Known w0 _ (X2 ++ L) := K.cov Cov.auto
  have O9 := O
  clear O
  go_loopg [7] ((at_ + m) - n) (fun q v wr => ∃ (k : Nat) (A2 : Option Addr) (c2 : Nat) (X2 : List Ent) (l2 : List Int), v = .slice A2 k c2 ∧ n ≤ k ∧ (k = n ∨ k ≤ at_ + m) ∧ (at_ + m) - k ≤ q ∧ OwnL 5 1 A2 k c2 (l2.map (Value.int .u8)) X2 ∧ Hid (l2.length = k) ∧ Hid (padTo (at_ + m) l2 = padTo (at_ + m) img) ∧ Known w0 wr (X2 ++ L))
  case atStart => exact ⟨n, _, _, X2, img, by go_num, by omega, by omega, by omega, O9, HIL, Lib.hid rfl, K⟩
  case round =>
    clear K O9
    obtain ⟨k, A2, c2, X2, l2, rfl, hk1, hk2, hkq, O, HLL, HPD, K⟩ := hrel
    by_cases hk : k < at_ + m
    · have d1 : decide ((k : Int) < (at_ : Int) + (m : Int)) = true := decide_eq_true (by omega)
      go_wp2_with (first | (at_builtin; refine wpList_does rfl (kd_appendN K _ _ rfl rfl rfl (by with_reducible assumption) Seg.auto (Rd.ofBlk (n := 1) (xs := [_]) (K.blk Has.auto) rfl rfl) (by kernel_rfl) (by kernel_rfl) (by omega)) ?_; clear K; rintro _ w1 ⟨A2, c2, X2, rfl, O, K⟩; (try simp only [Nat.zero_add, List.nil_append] at O)) | ((with_reducible refine at_eqnil rfl ?_); refine wpList_reads rfl (kr_eqnil rfl rfl (by kernel_rfl)) ?_) | ((with_reducible refine at_box rfl ?_); refine wpList_does rfl (kd_box K _ _ rfl (by conv => lhs; whnf)) ?_; clear K; rintro _ w1 ⟨g, rfl, K⟩; (try dsimp only [Value.cells] at K)) | ((with_reducible refine at_alloc rfl ?_); refine wpList_does rfl (kd_alloc K _ rfl rfl) ?_; clear K; rintro _ w1 ⟨g, rfl, K⟩; (try dsimp only [Value.cells] at K)) | ((with_reducible refine at_buildSlice rfl ?_); refine wpList_does rfl (kd_lits (cs := _) K _ _ _ rfl (by first | rfl | (go_simp; done) | (go_simp; rfl)) (by first | rfl | (go_simp; done) | (go_simp; rfl))) ?_; clear K; rintro _ w1 ⟨g, rfl, K⟩) | ((with_reducible refine at_load rfl ?_); first | (refine wpList_reads (by rfl) (kr_load_cell K _ _ (by rfl) (by rfl) Has.auto (by decide +kernel) (by (try simp only [List.getElem?_toArray, List.getElem?_cons_succ, List.getElem?_cons_zero]); exact rfl)) ?_) | (refine wpList_reads (by rfl) (kr_load_row K _ _ (by rfl) (by rfl) Has.auto (by decide +kernel) (by kernel_rfl)) ?_)) | ((with_reducible refine at_store rfl ?_); (first | (refine wpList_does rfl (kd_store_cell K _ _ _ rfl rfl (by conv => lhs; whnf) Repl.auto rfl rfl (by kernel_rfl) (by kernel_rfl) (by first | (simp only [List.setIfInBounds_toArray, List.set_cons_succ, List.set_cons_zero]; rfl) | rfl)) ?_) | (refine wpList_does rfl (kd_store_row K _ _ _ rfl rfl rfl Repl.auto (by kernel_rfl) (by kernel_rfl) (by kernel_rfl)) ?_)); clear K; intro _ w1 K; (try simp only [Act.put])))
      go_roundg (gk - 1)
      case measure => omega
      case rel => exact ⟨k + 1, _, _, _, l2 ++ [0], rfl, by omega, by omega, by omega, O, Lib.hid (by rw [List.length_append, HLL.out]; rfl), Lib.hid (by rw [padTo_step (by have := HLL.out; omega)]; exact HPD.out), K.cov Cov.auto⟩
    · have d1 : decide ((k : Int) < (at_ : Int) + (m : Int)) = false := decide_eq_false (by omega)
      have hl2 : padTo (at_ + m) l2 = l2 := padTo_ge (by have := HLL.out; omega)
      have hlp : l2 = padTo (at_ + m) img := by rw [← HPD.out, hl2]
      have hkm : k = max n (at_ + m) := by
        have h1 := HLL.out
        have h2 := HIL.out
        rw [hlp] at h1
        simp [padTo] at h1
        omega
      have HKM := Lib.hid hkm
      have HRW := Lib.hid (show refWrite img at_ xs = layTo l2 at_ xs m by rw [refWrite, HXL.out, ← hlp, layTo, List.take_of_length_le (by have := HXL.out; omega)])
      have HFT := Lib.hid (show at_ + xs.length ≤ l2.length by have h1 := HXL.out; have h2 := HLL.out; omega)
      clear hl2 hlp HPD hk1 hk2 hkq hkm
      by_cases hm0 : m = 0
      · subst hm0
        go_upto_region 6 with (fail)
        go_loopg [25] 0 (fun q v wr => v = .int .i64 0 ∧ Known w0 wr (X2 ++ L))
        case atStart => exact ⟨by go_num, K⟩
        case round =>
          clear K
          obtain ⟨rfl, K⟩ := hrel
          go_wp2
          go_ret
          exact ⟨_, k, c2, X2, rfl, HKM.out, by rw [HRW.out, layTo_zero]; exact O, K⟩
      obtain ⟨-, ⟨-, h0, -⟩ | ⟨g1, cur, rfl, rfl, hnc, hcm, hsz, htk⟩⟩ := O.out
      · omega
      rw [Nat.mul_one] at hsz htk
      have HT := Lib.hid htk
      clear htk O
      go_upto_region 6 with (fail)
      replace K : Known w0 _ (row g1 cur 5 :: L) := K
      go_loopg [25] m (fun q v wr => ∃ (j : Nat) (cs : Array Value), v = .int .i64 j ∧ j + q = m ∧ cs.size = c2 ∧ Hid (cs.toList.take k = (layTo l2 at_ xs j).map (Value.int .u8)) ∧ Known w0 wr (row g1 cs 5 :: L))
      case atStart => exact ⟨0, cur, by go_num, by omega, by omega, Lib.hid (by rw [layTo_zero]; exact HT.out), K⟩
      case round =>
        clear K HT
        obtain ⟨j, cs, rfl, hdj, hcs, HT, K⟩ := hrel
        by_cases hj : j < m
        · have hj2 : decide ((j : Int) < (m : Int)) = true := decide_eq_true (by omega)
          have hjj : (0 : Int) ≤ (j : Int) ∧ (j : Int) < (m : Int) := by omega
          have i1 := IntWalk.i64_in ((j : Int) + 1) (by omega)
          have i2 := IntWalk.i64_in ((at_ : Int) + (j : Int)) (by omega)
          have hft := HFT.out
          have hxl := HXL.out
          have hll := HLL.out
          have haj : (0 : Int) ≤ (at_ : Int) + (j : Int) ∧ (at_ : Int) + (j : Int) < (k : Int) := by omega
          obtain ⟨aj, hajn⟩ : ∃ aj : Nat, (at_ : Int) + (j : Int) = (aj : Int) := ⟨at_ + j, by omega⟩
          have HAJ := Lib.hid (show aj = at_ + j by omega)
          obtain ⟨u, hu⟩ : ∃ u, xs.getD j 0 = u := ⟨_, rfl⟩
          have HU := Lib.hid hu
          have HSZ := Lib.hid (show aj < cs.size by have := HAJ.out; omega)
          have HLS := Lib.hid (layTo_step (j := j) hft (by omega))
          obtain ⟨b3, off3, rfl⟩ := RX.form (K.cov Cov.auto) (by omega)
          rw [hajn] at haj i2
          clear hu hft hxl hll
          go_wp2_with (first | ((with_reducible refine at_load rfl ?_); first | (refine wpList_reads (by rfl) (kr_load_cell K _ _ (by rfl) (by rfl) Has.auto (by decide +kernel) (by (try simp only [List.getElem?_toArray, List.getElem?_cons_succ, List.getElem?_cons_zero]); exact rfl)) ?_) | (refine wpList_reads (by rfl) (kr_load_row K _ _ (by rfl) (by rfl) Has.auto (by decide +kernel) (by kernel_rfl)) ?_) | (refine wpList_reads (by rfl) (kr_load_fact _ _ (by rfl) (by rfl) (RX.cell (K.cov Cov.auto) (by omega) HU.out rfl) (by decide +kernel)) ?_)) | ((with_reducible refine at_store rfl ?_); refine wpList_does rfl (kd_store_cell K _ _ _ rfl rfl (by conv => lhs; whnf) Repl.auto rfl rfl (by kernel_rfl) (decide_eq_true HSZ.out) rfl) ?_; clear K; intro _ w1 K))
          go_roundg (gk - 1)
          case measure => omega
          case rel => exact ⟨j + 1, _, by go_num, by omega, by rw [Array.size_setIfInBounds]; exact hcs, Lib.hid (by
            rw [← HLS.out, ← HAJ.out, HU.out, List.map_set, ← HT.out, Array.toList_setIfInBounds, List.take_set]), K⟩
        · have hj2 : decide ((j : Int) < (m : Int)) = false := decide_eq_false (by omega)
          have HTE := HT.out
          rw [show j = m by omega, ← HRW.out] at HTE
          have HRL := Lib.hid (show (refWrite img at_ xs).length = k by rw [HRW.out, layTo_len HFT.out]; exact HLL.out)
          go_wp2
          go_ret
          exact ⟨_, k, c2, [row g1 cs 5], rfl, HKM.out, OwnL.of hnc hcm (by rw [hcs, Nat.mul_one]) (by rw [Nat.mul_one, HTE]) (by rw [List.length_map, HRL.out, Nat.mul_one]), K⟩
end
end Go.Proofs.Ytffednkdmkohdaa
