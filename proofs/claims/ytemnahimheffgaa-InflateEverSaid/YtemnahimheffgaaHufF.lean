/-
  Package huff: Next (contract).
-/
import Derived.Test.YtemnahimheffgaaHufE
set_option linter.unusedVariables false
set_option linter.unusedSimpArgs false
namespace Go.Proofs.Ytemnahimheffgaa
open Go.RowKit
theorem cntA_ok {l : List Int} (h : l.length ≤ 300) : ∀ i, i < 16 → 0 ≤ cntA l i ∧ cntA l i ≤ 300 := fun i _ => by
  have := cntA_le l i
  omega


section
variable {w0 w : World} {L Xt Xr : List Ent} {gt gr p : Nat} {l bs : List Int}
set_option maxHeartbeats 1600000 in
set_option maxRecDepth 100000 in
theorem hnext_any (K : Known w0 w (Xt ++ (Xr ++ L))) (hT : TbIs gt l Xt) (hR : Rdr gr bs p Xr) (hl : l.length ≤ 300) : Calls Try.prog 70 #[.pointer (some ⟨gt, 0, none⟩), .pointer (some ⟨gr, 0, none⟩)] w fun e w' => e = .returned (.tuple #[.int .i64 (nextT l (ofBytes bs) p).1, .int .i64 (nextT l (ofBytes bs) p).2.2]) ∧ ∃ X', Rdr gr bs (nextT l (ofBytes bs) p).2.1 X' ∧ Known w0 w' (Xt ++ (X' ++ L)) := by
  have HT := Lib.hid hT
  have hple := hR.le
  have hbl := hR.len
  have hob := ofBytes_length bs
  obtain ⟨A1, m1, c1, Y, rfl, O⟩ := hT.out
  rw [List.cons_append] at K
  obtain ⟨lg, hlg⟩ : ∃ lg, longT (cntA l) 15 = lg := ⟨_, rfl⟩
  have hlg15 : lg ≤ 15 := by rw [← hlg]; exact longT_le _ _
  have HLG := Lib.hid hlg
  have HNT := Lib.hid (show nextT l (ofBytes bs) p = nxt l (ofBytes bs) p lg 0 0 by rw [nextT, hlg])
  have HOB := Lib.hid hob
  clear hlg hob
  go_enter Try.func70, Try.ntmps70
  go_upto_region 5 with ((first | (go_at_call 28; (with_reducible refine (rat_any (K.pickS (by repeat (first | with_reducible exact Sel.nil _ | with_reducible exact Sel.ap _ _ | with_reducible exact Sel.hd _ _ | with_reducible exact Sel.all _ | with_reducible apply Sel.tl | with_reducible apply Sel.sk))) hR).mono ?_); clear K; rintro e w1 ⟨rfl, K⟩)))
  go_loopg [7, 8] lg (fun d v7 v8 wr => ∃ (n : Nat) (code : Int) (X : List Ent), v7 = .int .i64 code ∧ v8 = .int .i64 ((n : Int) + 1) ∧ n ≤ lg ∧ lg - n ≤ d ∧ 0 ≤ code ∧ code < 2 ^ n ∧ Hid (nextT l (ofBytes bs) p = nxt l (ofBytes bs) p (lg - n) n code) ∧ Rdr gr bs (p + n) X ∧ Known w0 wr (row gt (tbC (firstT (cntA l)) (cntA l) (fromT l) (.slice A1 m1 c1)) 106 :: (Y ++ (X ++ L))))
  case atStart => exact ⟨0, 0, Xr, rfl, by go_num, by omega, by omega, by omega, by simp, HNT, hR, K.cov Cov.auto⟩
  case round =>
    clear K hR
    obtain ⟨n, code, X, rfl, rfl, hn, hd, hc0, hc1, HX, hRd, K⟩ := hrel
    have HRD := Lib.hid hRd
    have hple2 := hRd.le
    clear hRd
    by_cases hnl : n < lg
    · have h2 : (n : Int) + 1 ≤ (lg : Int) := by omega
      obtain ⟨f, hf⟩ : ∃ f, lg - n = f + 1 := ⟨lg - n - 1, by omega⟩
      by_cases hb : 8 * bs.length < p + n + 1
      · have HGB := Lib.hid (show 8 * bs.length < p + n + 1 from hb)
        have HR := Lib.hid (show nextT l (ofBytes bs) p = (0, p, 2) by rw [HX.out, hf, nxt, if_pos (by rw [HOB.out]; exact hb)])
        clear hb
        go_wp2_with (first | (go_at_call 72; (with_reducible refine (longest_any (l := l) K Has.auto).mono ?_); clear K; rintro e w1 ⟨rfl, K⟩; rw [HLG.out]) | (go_at_call 52; (with_reducible refine (rget_no (K.pickS (by repeat (first | with_reducible exact Sel.nil _ | with_reducible exact Sel.ap _ _ | with_reducible exact Sel.hd _ _ | with_reducible exact Sel.all _ | with_reducible apply Sel.tl | with_reducible apply Sel.sk))) HRD.out 1 _ (by omega) (by omega) HGB.out).mono ?_); clear K; rintro e w1 ⟨rfl, K⟩) | (go_at_call 25; (with_reducible refine (rseek_any (K.pickS (by repeat (first | with_reducible exact Sel.nil _ | with_reducible exact Sel.ap _ _ | with_reducible exact Sel.hd _ _ | with_reducible exact Sel.all _ | with_reducible apply Sel.tl | with_reducible apply Sel.sk))) HRD.out p (by omega)).mono ?_); clear K; rintro e w1 ⟨rfl, X3, hR3, K⟩))
        go_ret2
        rw [HR.out]
        exact ⟨rfl, X3, hR3, K.cov Cov.auto⟩
      have HGB := Lib.hid (show p + n + 1 ≤ 8 * bs.length by omega)
      obtain ⟨bit, hbit⟩ : ∃ bit, bitsAt (ofBytes bs) (p + n) 1 = bit := ⟨_, rfl⟩
      have hbit1 : bit < 2 := by rw [← hbit]; exact bitsAt_lt _ _ _
      have HBIT := Lib.hid hbit
      have HN := Lib.hid (show n + 1 < 16 by omega)
      obtain ⟨F, hF⟩ : ∃ F, firstT (cntA l) (n + 1) = F := ⟨_, rfl⟩
      obtain ⟨M, hM⟩ : ∃ M, cntA l (n + 1) = M := ⟨_, rfl⟩
      have hFb := firstT_le (cntA l) (cntA_ok hl) n (by omega)
      have h2n : (2 : Int) ^ n ≤ 2 ^ 15 := by
        have : (2 : Nat) ^ n ≤ 2 ^ 15 := Nat.pow_le_pow_right (by omega) (by omega)
        exact_mod_cast this
      have hpw : (2 : Int) ^ (n + 1) = 2 * 2 ^ n := by rw [Int.pow_succ]; omega
      rw [hF] at hFb
      obtain ⟨kk, hkk⟩ : ∃ kk, 2 * code + (bit : Int) - F = kk := ⟨_, rfl⟩
      have hstep : nextT l (ofBytes bs) p = if 0 ≤ kk ∧ kk < M then ((symT l 15).getD (fromT l (n + 1) + kk).toNat 0, p + (n + 1), 0) else nxt l (ofBytes bs) p f (n + 1) (2 * code + (bit : Int)) := by
        rw [HX.out, hf, nxt, if_neg (by rw [HOB.out]; omega), hbit, hF, hM, hkk]
      have j1 := IntWalk.i64_in (2 * code) (by omega)
      have j2 := IntWalk.i64_in (bit : Int) (by omega)
      have j3 := IntWalk.i64_in (2 * code + (bit : Int)) (by omega)
      have j4 := IntWalk.i64_in kk (by omega)
      have j5 := IntWalk.i64_in ((n : Int) + 1 + 1) (by omega)
      have j6 : ((n : Int) + 1).toNat = n + 1 := by omega
      have j7 : (0 : Int) ≤ (n : Int) + 1 := by omega
      have j8 : (n : Int) + 1 < 16 := by omega
      have hcode : 0 ≤ 2 * code + (bit : Int) ∧ 2 * code + (bit : Int) < 2 ^ (n + 1) := by rw [hpw]; omega
      have HCO := Lib.hid hcode
      clear hbit hFb h2n hpw hcode hb
      by_cases hk0 : 0 ≤ kk
      rotate_left
      · have HS := Lib.hid (show nextT l (ofBytes bs) p = nxt l (ofBytes bs) p (lg - (n + 1)) (n + 1) (2 * code + (bit : Int)) by rw [hstep, if_neg (by omega), show lg - (n + 1) = f by omega])
        have e1 : decide (0 ≤ kk) = false := decide_eq_false hk0
        clear hstep hk0 hf
        go_wp2_with (first | (go_at_call 72; (with_reducible refine (longest_any (l := l) K Has.auto).mono ?_); clear K; rintro e w1 ⟨rfl, K⟩; rw [HLG.out]) | (go_at_call 52; (with_reducible refine (rget_yes (K.pickS (by repeat (first | with_reducible exact Sel.nil _ | with_reducible exact Sel.ap _ _ | with_reducible exact Sel.hd _ _ | with_reducible exact Sel.all _ | with_reducible apply Sel.tl | with_reducible apply Sel.sk))) HRD.out 1 _ (by omega) (by omega) HGB.out).mono ?_); clear K; rintro e w1 ⟨rfl, X2, hR2, K⟩; rw [HBIT.out]) | ((with_reducible refine at_slot (N := 48) rfl ?_); refine wpList_reads (by rfl) (kr_load_cell K _ _ (by rfl) (by rfl) Has.auto (by kernel_rfl) (tb_first (i := n + 1) _ _ _ _ HN.out)) ?_) | ((with_reducible refine at_slot (N := 59) rfl ?_); refine wpList_reads (by rfl) (kr_load_cell K _ _ (by rfl) (by rfl) Has.auto (by kernel_rfl) (tb_many (i := n + 1) _ _ _ _ HN.out)) ?_))
        go_roundg (gk - 1)
        case measure => omega
        case rel => exact ⟨n + 1, 2 * code + (bit : Int), X2, rfl, by go_num, by omega, by omega, HCO.out.1, HCO.out.2, HS, hR2, K.cov Cov.auto⟩
      · have e1 : decide (0 ≤ kk) = true := decide_eq_true hk0
        by_cases hkM : kk < M
        rotate_left
        · have HS := Lib.hid (show nextT l (ofBytes bs) p = nxt l (ofBytes bs) p (lg - (n + 1)) (n + 1) (2 * code + (bit : Int)) by rw [hstep, if_neg (by omega), show lg - (n + 1) = f by omega])
          have e2 : decide (kk < M) = false := decide_eq_false hkM
          clear hstep hk0 hf hkM
          go_wp2_with (first | (go_at_call 72; (with_reducible refine (longest_any (l := l) K Has.auto).mono ?_); clear K; rintro e w1 ⟨rfl, K⟩; rw [HLG.out]) | (go_at_call 52; (with_reducible refine (rget_yes (K.pickS (by repeat (first | with_reducible exact Sel.nil _ | with_reducible exact Sel.ap _ _ | with_reducible exact Sel.hd _ _ | with_reducible exact Sel.all _ | with_reducible apply Sel.tl | with_reducible apply Sel.sk))) HRD.out 1 _ (by omega) (by omega) HGB.out).mono ?_); clear K; rintro e w1 ⟨rfl, X2, hR2, K⟩; rw [HBIT.out]) | ((with_reducible refine at_slot (N := 48) rfl ?_); refine wpList_reads (by rfl) (kr_load_cell K _ _ (by rfl) (by rfl) Has.auto (by kernel_rfl) (tb_first (i := n + 1) _ _ _ _ HN.out)) ?_) | ((with_reducible refine at_slot (N := 59) rfl ?_); refine wpList_reads (by rfl) (kr_load_cell K _ _ (by rfl) (by rfl) Has.auto (by kernel_rfl) (tb_many (i := n + 1) _ _ _ _ HN.out)) ?_))
          go_roundg (gk - 1)
          case measure => omega
          case rel => exact ⟨n + 1, 2 * code + (bit : Int), X2, rfl, by go_num, by omega, by omega, HCO.out.1, HCO.out.2, HS, hR2, K.cov Cov.auto⟩
        · have hin := sym_in l (n := n) (by omega) hk0 (by rw [hM]; exact hkM)
          have hsl : (symT l 15).length = m1 := by have := O.len; simpa using this
          rw [hsl] at hin
          obtain ⟨jn, hjn⟩ : ∃ jn : Nat, fromT l (n + 1) + kk = (jn : Int) := ⟨(fromT l (n + 1) + kk).toNat, by omega⟩
          obtain ⟨sy, hsy⟩ : ∃ sy, (symT l 15).getD jn 0 = sy := ⟨_, rfl⟩
          have HR := Lib.hid (show nextT l (ofBytes bs) p = (sy, p + n + 1, 0) by rw [hstep, if_pos ⟨hk0, hkM⟩, hjn, Int.toNat_natCast, hsy]; rfl)
          have hjm : jn < m1 := by omega
          obtain ⟨b, off, rfl⟩ := (RdS.own (w0 := w0) (k := .i64) (xs := symT l 15) O (Seg.all Y)).form (K.cov Cov.auto) (by omega)
          have RX := RdS.own (w0 := w0) (k := .i64) (xs := symT l 15) O (Seg.all Y)
          have HJ := Lib.hid hjm
          have HSY := Lib.hid hsy
          have hjm2 : (jn : Int) < (m1 : Int) := by omega
          have hle1 := O.le
          have hcap1 := O.cap
          have j9 := IntWalk.i64_in (jn : Int) (by omega)
          have e2 : decide (kk < M) = true := decide_eq_true hkM
          clear hstep hk0 hf hkM hin hsl hsy hjm
          go_upto_region 14 with ((first | (go_at_call 72; (with_reducible refine (longest_any (l := l) K Has.auto).mono ?_); clear K; rintro e w1 ⟨rfl, K⟩; rw [HLG.out]) | (go_at_call 52; (with_reducible refine (rget_yes (K.pickS (by repeat (first | with_reducible exact Sel.nil _ | with_reducible exact Sel.ap _ _ | with_reducible exact Sel.hd _ _ | with_reducible exact Sel.all _ | with_reducible apply Sel.tl | with_reducible apply Sel.sk))) HRD.out 1 _ (by omega) (by omega) HGB.out).mono ?_); clear K; rintro e w1 ⟨rfl, X2, hR2, K⟩; rw [HBIT.out]) | ((with_reducible refine at_slot (N := 48) rfl ?_); refine wpList_reads (by rfl) (kr_load_cell K _ _ (by rfl) (by rfl) Has.auto (by kernel_rfl) (tb_first (i := n + 1) _ _ _ _ HN.out)) ?_) | ((with_reducible refine at_slot (N := 59) rfl ?_); refine wpList_reads (by rfl) (kr_load_cell K _ _ (by rfl) (by rfl) Has.auto (by kernel_rfl) (tb_many (i := n + 1) _ _ _ _ HN.out)) ?_)))
          refine wp_region_GK (X := (row gt (tbC (firstT (cntA l)) (cntA l) (fromT l) (.slice (some ⟨b, off, none⟩) m1 c1)) 106 :: Y)) K Cov.auto (by kernel_rfl) (by kernel_rfl) (by kernel_rfl) (fun K hHeld => ?_)
          refine wpG_takeA 0 (v := ?_) ?_ hHeld ?_
          rotate_left
          · (intro w hS; (clear hS; go_simp); try with_reducible rfl)
          try simp only [Act.put, List.setIfInBounds_toArray, List.set_cons_zero, List.set_cons_succ]
          refine wpG_takeA 1 (v := ?_) ?_ hHeld ?_
          rotate_left
          · (intro w hS; (clear hS; go_simp); try with_reducible rfl)
          try simp only [Act.put, List.setIfInBounds_toArray, List.set_cons_zero, List.set_cons_succ]
          refine wpG_takeA 2 (v := ?_) ?_ hHeld ?_
          rotate_left
          · (intro w hS; (clear hS; go_simp); try with_reducible rfl)
          try simp only [Act.put, List.setIfInBounds_toArray, List.set_cons_zero, List.set_cons_succ]
          refine wpG_takeA 3 (v := .slice (some ⟨b, off, none⟩) m1 c1) ?_ hHeld ?_
          · (intro w hS; first | exact kr_load_cell hS _ _ (by rfl) (by rfl) Has.auto (by kernel_rfl) (tb_sym _ _ _ _))
          try simp only [Act.put, List.setIfInBounds_toArray, List.set_cons_zero, List.set_cons_succ]
          refine wpG_takeA 4 (v := ?_) ?_ hHeld ?_
          rotate_left
          · (intro w hS; (clear hS; go_simp); try with_reducible rfl)
          try simp only [Act.put, List.setIfInBounds_toArray, List.set_cons_zero, List.set_cons_succ]
          refine wpG_takeA 5 (v := ?_) ?_ hHeld ?_
          rotate_left
          · (intro w hS; (clear hS; go_simp); try with_reducible rfl)
          try simp only [Act.put, List.setIfInBounds_toArray, List.set_cons_zero, List.set_cons_succ]
          refine wpG_takeA 6 (v := ?_) ?_ hHeld ?_
          rotate_left
          · (intro w hS; (clear hS; go_simp); try with_reducible rfl)
          try simp only [Act.put, List.setIfInBounds_toArray, List.set_cons_zero, List.set_cons_succ]
          refine wpG_takeA 7 (v := ?_) ?_ hHeld ?_
          rotate_left
          · (intro w hS; (clear hS; go_simp); try with_reducible rfl)
          try simp only [Act.put, List.setIfInBounds_toArray, List.set_cons_zero, List.set_cons_succ]
          refine wpG_takeA 8 (v := ?_) ?_ hHeld ?_
          rotate_left
          · (intro w hS; (clear hS; go_simp); try with_reducible rfl)
          try simp only [Act.put, List.setIfInBounds_toArray, List.set_cons_zero, List.set_cons_succ]
          refine wpG_takeA 9 (v := .int .i64 (fromT l (n + 1))) ?_ hHeld ?_
          · (intro w hS; first | exact kr_load_cell hS _ _ (by rfl) (by rfl) Has.auto (by kernel_rfl) (tb_from (i := n + 1) _ _ _ _ HN.out))
          try simp only [Act.put, List.setIfInBounds_toArray, List.set_cons_zero, List.set_cons_succ]
          refine wpG_takeA 10 (v := ?_) ?_ hHeld ?_
          rotate_left
          · (intro w hS; (clear hS; go_simp); try with_reducible rfl)
          try simp only [Act.put, List.setIfInBounds_toArray, List.set_cons_zero, List.set_cons_succ]
          refine wpG_takeA 11 (v := ?_) ?_ hHeld ?_
          rotate_left
          · (intro w hS; (clear hS; go_simp); try with_reducible rfl)
          try simp only [Act.put, List.setIfInBounds_toArray, List.set_cons_zero, List.set_cons_succ]
          refine wpG_takeA 12 (v := ?_) ?_ hHeld ?_
          rotate_left
          · (intro w hS; (clear hS; go_simp); try with_reducible rfl)
          try simp only [Act.put, List.setIfInBounds_toArray, List.set_cons_zero, List.set_cons_succ]
          refine wpG_takeA 13 (v := .int .i64 sy) ?_ hHeld ?_
          · (intro w hS; first | exact kr_load_fact _ _ (by rfl) (by rfl) (RX.cell (hS.cov Cov.auto) HJ.out HSY.out (by omega)) (by kernel_rfl))
          try simp only [Act.put, List.setIfInBounds_toArray, List.set_cons_zero, List.set_cons_succ]
          refine wpG_takeA 14 (v := ?_) ?_ hHeld ?_
          rotate_left
          · (intro w hS; (clear hS; go_simp); try with_reducible rfl)
          try simp only [Act.put, List.setIfInBounds_toArray, List.set_cons_zero, List.set_cons_succ]
          refine wpG_takeA 15 (v := ?_) ?_ hHeld ?_
          rotate_left
          · (intro w hS; (clear hS; go_simp); try with_reducible rfl)
          try simp only [Act.put, List.setIfInBounds_toArray, List.set_cons_zero, List.set_cons_succ]
          refine wpG_done (by kernel_rfl) ?_
          skip
          go_wp2
          go_ret2
          rw [HR.out]
          exact ⟨rfl, X2, hR2, K.cov Cov.auto⟩
    · have h2 : ¬ (n : Int) + 1 ≤ (lg : Int) := by omega
      obtain rfl : n = lg := by omega
      have HR := Lib.hid (show nextT l (ofBytes bs) p = (0, p, 3) by rw [HX.out, Nat.sub_self]; rfl)
      go_wp2_with (first | (go_at_call 72; (with_reducible refine (longest_any (l := l) K Has.auto).mono ?_); clear K; rintro e w1 ⟨rfl, K⟩; rw [HLG.out]) | (go_at_call 25; (with_reducible refine (rseek_any (K.pickS (by repeat (first | with_reducible exact Sel.nil _ | with_reducible exact Sel.ap _ _ | with_reducible exact Sel.hd _ _ | with_reducible exact Sel.all _ | with_reducible apply Sel.tl | with_reducible apply Sel.sk))) HRD.out p (by omega)).mono ?_); clear K; rintro e w1 ⟨rfl, X3, hR3, K⟩))
      go_ret2
      rw [HR.out]
      exact ⟨rfl, X3, hR3, K.cov Cov.auto⟩
end
end Go.Proofs.Ytemnahimheffgaa
