/-
  drogherlaw23: ParcelWrites (walk).
-/
import Derived.Test.YthbehlohdoajbaaPclF
import Derived.Test.YthbehlohdoajbaaPclC
set_option linter.unusedVariables false
set_option linter.unusedSimpArgs false
namespace Go.Proofs.Ythbehlohdoajbaa
open Go.RowKit
theorem beN_byteP : ∀ (k : Nat) (x : Int), ∀ c ∈ beN k x, 0 ≤ c ∧ c ≤ 255
  | 0, x, c, h => by simp [beN] at h
  | k + 1, x, c, h => by
    rw [beN, List.mem_cons] at h
    rcases h with rfl | h
    · omega
    · exact beN_byteP k x c h
theorem rowL_byte {blk : Int} {pay : List Int} (h : ∀ v ∈ pay, 0 ≤ v ∧ v ≤ 255) : ∀ v ∈ rowL blk pay, 0 ≤ v ∧ v ≤ 255 := by
  intro v hv
  rcases List.mem_append.1 hv with hv | hv
  · exact beN_byteP _ _ v hv
  · exact h v hv
theorem putS_byte {w : World} {s : Chk} (h : ChOk w s) (hk : okS s = true) : ∀ v ∈ putS s, 0 ≤ v ∧ v ≤ 255 := by
  have h1 := putOK_yes hk
  intro v hv
  simp only [putS, putL, putH, List.mem_append, List.mem_singleton, List.mem_flatten] at hv
  rcases hv with (((hv | hv) | rfl) | ⟨d, hd, hv⟩) | hv
  · exact beN_byteP _ _ v hv
  · exact beN_byteP _ _ v hv
  · omega
  · exact (h.wd d hd).2 v hv
  · exact h.pb v hv
theorem wholeB_byte {w : World} {hs : List Int} {l : List Chk} (hh : ∀ v ∈ hs, 0 ≤ v ∧ v ≤ 255) (h : ∀ s ∈ l, ChOk w s) : ∀ v ∈ wholeB hs l, 0 ≤ v ∧ v ≤ 255 := by
  intro v hv
  unfold wholeB at hv
  split at hv
  · next hall =>
    rcases List.mem_append.1 hv with hv | hv
    · exact hh v hv
    · obtain ⟨x, hx, hv⟩ := List.mem_flatten.1 hv
      obtain ⟨s, hs, rfl⟩ := List.mem_map.1 hx
      exact putS_byte (h s hs) (List.all_eq_true.1 hall s hs) v hv
  · cases hv
theorem kr_strneF {P : Program} {o : Oper} {a : Act} {W : World} {T U : TypeId} {x y : Operand} {us : List Int} (ho : o.op = .binOp .neq T x y U) (hx : a.eval x = .string (strOfNums us)) (hy : a.eval y = .string (strOfNums us)) (ha : ∀ v ∈ us, 0 ≤ v ∧ v ≤ 255) : (execOp a.eval o).run P W = .ok (.value (.bool false)) W := by
  have h := kr_strneq (P := P) (W := W) ho hx hy rfl ha ha
  simpa using h
theorem kr_streT {P : Program} {o : Oper} {a : Act} {W : World} {T U : TypeId} {x y : Operand} {us : List Int} (ho : o.op = .binOp .eql T x y U) (hx : a.eval x = .string (strOfNums us)) (hy : a.eval y = .string (strOfNums us)) (ha : ∀ v ∈ us, 0 ≤ v ∧ v ≤ 255) : (execOp a.eval o).run P W = .ok (.value (.bool true)) W := by
  have h := kr_streql (P := P) (W := W) ho hx hy rfl ha ha
  simpa using h
theorem rcap_any (b v : Int) (hb : -9223372036854775808 ≤ b ∧ b ≤ 9223372036854775807) (hv : payCap b = v) (w : World) : Calls Try.prog 24 #[.int .i64 b] w fun e w' => e = .returned (.int .i64 v) ∧ w = w' := by
  unfold payCap at hv
  by_cases h1 : b < 128
  · rw [if_neg (by omega)] at hv
    subst hv
    go_enter Try.func24, Try.ntmps24
    go_wp2
    go_ret
    exact ⟨rfl, rfl⟩
  by_cases h2 : 4096 < b
  · rw [if_neg (by omega)] at hv
    subst hv
    go_enter Try.func24, Try.ntmps24
    go_wp2
    go_ret
    exact ⟨rfl, rfl⟩
  rw [if_pos (by omega)] at hv
  subst hv
  have i1 := IntWalk.i64_in (b + 17) (by omega)
  go_enter Try.func24, Try.ntmps24
  go_wp2
  go_ret
  exact ⟨rfl, rfl⟩

section
variable {w0 w : World} {L : List Ent} {H A : Option Addr} {hn hm n c : Nat} {hs : List Int} {l : List Chk} {block : Int}
set_option maxHeartbeats 3200000 in
set_option maxRecDepth 100000 in
theorem parcelWrites_any (K : Known w0 w L) (RH : RdS w0 [] .u8 H hn hs) (hhb : ∀ v ∈ hs, 0 ≤ v ∧ v ≤ 255) (R : RdM w0 [] chC 3 A n l) (hc : n ≤ c) (hso : ∀ s ∈ l, ChOk w0 s) (hbl : -9223372036854775808 ≤ block ∧ block ≤ 9223372036854775807) : Calls Try.prog 4 #[.slice H hn hm, .slice A n c, .int .i64 block] w fun e w' => e = .returned (.bool true) ∧ Known w0 w' L := by
  by_cases h1 : 1000 < hn
  · have d1 : decide (1000 < (hn : Int)) = true := decide_eq_true (by omega)
    go_enter Try.func4, Try.ntmps4
    go_wp2_with (first | (go_at_call 6; (with_reducible refine (awake23K K).mono ?_); clear K; rintro e w1 ⟨rfl, K⟩))
    go_ret
    exact ⟨rfl, K.cov Cov.auto⟩
  have d1 : decide (1000 < (hn : Int)) = false := decide_eq_false (by omega)
  cases hg : greatC l
  rotate_left
  · have HG := Lib.hid hg
    clear hg
    go_enter Try.func4, Try.ntmps4
    go_wp2_with (first | (go_at_call 16; (with_reducible refine (cgreat_any (K.cov (Cov.all _)) (R.cov (Cov.nil _)) hc).mono ?_); rintro e w9 ⟨rfl, rfl⟩; rw [HG.out]) | (go_at_call 6; (with_reducible refine (awake23K K).mono ?_); clear K; rintro e w1 ⟨rfl, K⟩))
    go_ret
    exact ⟨rfl, K.cov Cov.auto⟩
  have HG := Lib.hid hg
  have hgn := greatC_no hg
  have hl := R.len
  have HCO := Lib.hid hso
  have HWB := Lib.hid (wholeB_byte hhb hso)
  obtain ⟨cap, hcap⟩ : ∃ v, payCap block = v := ⟨_, rfl⟩
  have HCAP := Lib.hid hcap
  clear hg hcap hhb
  go_enter Try.func4, Try.ntmps4
  go_upto_region 4 with ((first | (go_at_call 16; (with_reducible refine (cgreat_any (K.cov (Cov.all _)) (R.cov (Cov.nil _)) hc).mono ?_); rintro e w9 ⟨rfl, rfl⟩; rw [HG.out])))
  go_loopg [7] n (fun q v wr => ∃ (i : Nat), v = .int .i64 i ∧ i + q = n ∧ Known w0 wr L)
  case atStart => exact ⟨0, by go_num, by omega, K⟩
  case round =>
    clear K
    obtain ⟨i, rfl, hi, K⟩ := hrel
    by_cases hin : i < n
    rotate_left
    · have h2 : ¬ (i : Int) < (n : Int) := by omega
      go_wp2_with (first | (go_at_call 21; (with_reducible refine (pwhole_any K RH (by omega) R (by omega) HCO.out).mono ?_); clear K; rintro e w1 ⟨A1, n1, c1, rfl, X1, O1, K⟩) | (go_at_call 22; (with_reducible refine (rwhole_any K RH (by omega) R (by omega) HCO.out).mono ?_); clear K; rintro e w1 ⟨A2, n2, c2, rfl, X2, O2, K⟩) | ((with_reducible refine at_slot (N := 84) rfl ?_); (with_reducible refine at_convert (t := 22) (u := 9) rfl ?_); refine wpList_reads rfl (kr_string rfl rfl ((RdS.own (w0 := w0) O1 Seg.auto).at_ _ K) Try.underlying22 Try.underlying5 Try.underlying9) ?_) | ((with_reducible refine at_slot (N := 86) rfl ?_); (with_reducible refine at_convert (t := 22) (u := 9) rfl ?_); refine wpList_reads rfl (kr_string rfl rfl ((RdS.own (w0 := w0) O2 Seg.auto).at_ _ K) Try.underlying22 Try.underlying5 Try.underlying9) ?_) | ((with_reducible refine at_slot (N := 87) rfl ?_); refine wpList_reads rfl (kr_streT (us := wholeB hs l) rfl rfl rfl HWB.out) ?_) | (go_at_call 23; (with_reducible refine (paycap_any _ _ HCAP.out _).mono ?_); rintro e w' ⟨rfl, rfl⟩) | (go_at_call 24; (with_reducible refine (rcap_any _ _ hbl HCAP.out _).mono ?_); rintro e w' ⟨rfl, rfl⟩) | (go_at_call 6; (with_reducible refine (awake23K K).mono ?_); clear K; rintro e w1 ⟨rfl, K⟩))
      go_ret
      exact ⟨rfl, K.cov Cov.auto⟩
    have h2 : (i : Int) < (n : Int) := by omega
    obtain ⟨b, off, rfl⟩ := R.form (K.cov (Cov.nil _)) (by omega)
    obtain ⟨p, hp⟩ : ∃ p, p = l[i]'(by omega) := ⟨_, rfl⟩
    have hpm : p ∈ l := by rw [hp]; exact List.getElem_mem _
    have HP := Lib.hid (show encAt chC l i = [.int .i64 p.blk, .slice p.W p.wn p.wc, .slice p.P p.pn p.pc] by rw [encAt_get (by omega), ← hp]; rfl)
    have HSO := Lib.hid (HCO.out p hpm)
    have HWD := Lib.hid (show ∀ d ∈ p.way, d.length = 32 from fun d hd => (HSO.out.wd d hd).1)
    have HPN := Lib.hid (hgn.2 p hpm).2
    have HRB := Lib.hid (rowL_byte (blk := p.blk) HSO.out.pb)
    have i1 := IntWalk.i64_in ((i : Int) + 1) (by omega)
    clear hp
    cases hok : okS p
    · have HOK := Lib.hid (show putOK p.blk p.wn p.pn = false from hok)
      clear hok
      go_upto_region 8 with ((first | ((with_reducible refine at_load rfl ?_); refine wpList_reads (by rfl) (kr_load_rec K _ _ (by rfl) (i) [.int .i64 p.blk, .slice p.W p.wn p.wc, .slice p.P p.pn p.pc] (by rfl) (R.cov (Cov.nil _)) (by omega) HP.out (by omega) (by kernel_rfl) (by kernel_rfl) (by rfl)) ?_) | (go_at_call 17; (with_reducible refine (pput_no K HOK.out).mono ?_); clear K; rintro e w1 ⟨rfl, K⟩) | (go_at_call 18; (with_reducible refine (rpput_no K HOK.out).mono ?_); clear K; rintro e w1 ⟨⟨gn, rfl⟩, K⟩)))
      refine wp_region_GK K (Cov.all _) (by kernel_rfl) (by kernel_rfl) (by kernel_rfl) (fun K hHeld => ?_)
      refine wpG_takeA 0 (v := ?_) ?_ hHeld ?_
      rotate_left
      · (intro w hS; (clear hS; go_simp); try with_reducible rfl)
      try simp only [Act.put, List.setIfInBounds_toArray, List.set_cons_zero, List.set_cons_succ]
      refine wpG_takeA 1 (v := .string (strOfNums ([]))) ?_ hHeld ?_
      · (intro w hS; first | exact kr_string (by rfl) (by rfl) (Rd.nil _ _ _) Try.underlying22 Try.underlying5 Try.underlying9)
      try simp only [Act.put, List.setIfInBounds_toArray, List.set_cons_zero, List.set_cons_succ]
      refine wpG_takeA 2 (v := ?_) ?_ hHeld ?_
      rotate_left
      · (intro w hS; (clear hS; go_simp); try with_reducible rfl)
      try simp only [Act.put, List.setIfInBounds_toArray, List.set_cons_zero, List.set_cons_succ]
      refine wpG_takeA 3 (v := .string (strOfNums ([]))) ?_ hHeld ?_
      · (intro w hS; first | exact kr_string (by rfl) (by rfl) (Rd.nil _ _ _) Try.underlying22 Try.underlying5 Try.underlying9)
      try simp only [Act.put, List.setIfInBounds_toArray, List.set_cons_zero, List.set_cons_succ]
      refine wpG_takeA 4 (v := .bool false) ?_ hHeld ?_
      · (intro w hS; first | exact kr_strneF (us := []) (by rfl) (by rfl) (by rfl) (by simp))
      try simp only [Act.put, List.setIfInBounds_toArray, List.set_cons_zero, List.set_cons_succ]
      refine wpG_takeA 5 (v := ?_) ?_ hHeld ?_
      rotate_left
      · (intro w hS; (clear hS; go_simp); try with_reducible rfl)
      try simp only [Act.put, List.setIfInBounds_toArray, List.set_cons_zero, List.set_cons_succ]
      refine wpG_takeA 6 (v := ?_) ?_ hHeld ?_
      rotate_left
      · (intro w hS; (clear hS; go_simp); try with_reducible rfl)
      try simp only [Act.put, List.setIfInBounds_toArray, List.set_cons_zero, List.set_cons_succ]
      refine wpG_takeA 7 (v := ?_) ?_ hHeld ?_
      rotate_left
      · (intro w hS; (clear hS; go_simp); try with_reducible rfl)
      try simp only [Act.put, List.setIfInBounds_toArray, List.set_cons_zero, List.set_cons_succ]
      refine wpG_takeA 8 (v := ?_) ?_ hHeld ?_
      rotate_left
      · (intro w hS; (clear hS; go_simp); try with_reducible rfl)
      try simp only [Act.put, List.setIfInBounds_toArray, List.set_cons_zero, List.set_cons_succ]
      refine wpG_takeA 9 (v := ?_) ?_ hHeld ?_
      rotate_left
      · (intro w hS; (clear hS; go_simp); try with_reducible rfl)
      try simp only [Act.put, List.setIfInBounds_toArray, List.set_cons_zero, List.set_cons_succ]
      refine wpG_takeA 10 (v := ?_) ?_ hHeld ?_
      rotate_left
      · (intro w hS; (clear hS; go_simp); try with_reducible rfl)
      try simp only [Act.put, List.setIfInBounds_toArray, List.set_cons_zero, List.set_cons_succ]
      refine wpG_takeA 11 (v := ?_) ?_ hHeld ?_
      rotate_left
      · (intro w hS; (clear hS; go_simp); try with_reducible rfl)
      try simp only [Act.put, List.setIfInBounds_toArray, List.set_cons_zero, List.set_cons_succ]
      refine wpG_takeA 12 (v := ?_) ?_ hHeld ?_
      rotate_left
      · (intro w hS; (clear hS; go_simp); try with_reducible rfl)
      try simp only [Act.put, List.setIfInBounds_toArray, List.set_cons_zero, List.set_cons_succ]
      refine wpG_takeA 13 (v := ?_) ?_ hHeld ?_
      rotate_left
      · (intro w hS; (clear hS; go_simp); try with_reducible rfl)
      try simp only [Act.put, List.setIfInBounds_toArray, List.set_cons_zero, List.set_cons_succ]
      refine wpG_takeA 14 (v := .agg #[.int .i64 p.blk, .slice p.W p.wn p.wc, .slice p.P p.pn p.pc]) ?_ hHeld ?_
      · (intro w hS; first | exact kr_load_rec hS _ _ (by rfl) (i) [.int .i64 p.blk, .slice p.W p.wn p.wc, .slice p.P p.pn p.pc] (by rfl) (R.cov (Cov.nil _)) (by omega) HP.out (by omega) (by kernel_rfl) (by kernel_rfl) (by rfl))
      try simp only [Act.put, List.setIfInBounds_toArray, List.set_cons_zero, List.set_cons_succ]
      refine wpG_takeA 17 (v := ?_) ?_ hHeld ?_
      rotate_left
      · (intro w hS; (clear hS; go_simp); try with_reducible rfl)
      try simp only [Act.put, List.setIfInBounds_toArray, List.set_cons_zero, List.set_cons_succ]
      refine wpG_takeA 18 (v := ?_) ?_ hHeld ?_
      rotate_left
      · (intro w hS; (clear hS; go_simp); try with_reducible rfl)
      try simp only [Act.put, List.setIfInBounds_toArray, List.set_cons_zero, List.set_cons_succ]
      refine wpG_takeA 19 (v := ?_) ?_ hHeld ?_
      rotate_left
      · (intro w hS; (clear hS; go_simp); try with_reducible rfl)
      try simp only [Act.put, List.setIfInBounds_toArray, List.set_cons_zero, List.set_cons_succ]
      refine wpG_takeA 20 (v := .agg #[.int .i64 p.blk, .slice p.W p.wn p.wc, .slice p.P p.pn p.pc]) ?_ hHeld ?_
      · (intro w hS; first | exact kr_load_rec hS _ _ (by rfl) (i) [.int .i64 p.blk, .slice p.W p.wn p.wc, .slice p.P p.pn p.pc] (by rfl) (R.cov (Cov.nil _)) (by omega) HP.out (by omega) (by kernel_rfl) (by kernel_rfl) (by rfl))
      try simp only [Act.put, List.setIfInBounds_toArray, List.set_cons_zero, List.set_cons_succ]
      refine wpG_oneA 15 (fun K9 hK => ?_)
      go_simp
      (go_at_call 19; (with_reducible refine (prow_any (W := p.W) (wn := p.wn) (wc := p.wc) K (HSO.out.RP.cov (Cov.nil _)) HPN.out).mono ?_); clear K; rintro e w1 ⟨A4, c4, rfl, X4, O4, K⟩)
      refine hK.out _ _ (K.cov Cov.auto) (fun hHeld => ?_)
      clear hK K9
      try simp only [Act.put, List.setIfInBounds_toArray, List.set_cons_zero, List.set_cons_succ]
      refine wpG_some (i := 16) (l := [21]) (by kernel_rfl) ?_
      refine AllG.consA (fun K9 hK => ?_) ?_
      · skip
        refine st_does (by rfl) (Does.val (kr_string (by rfl) (by rfl) ((RdS.own (L := _) O4 Seg.auto).at_ _ K) Try.underlying22 Try.underlying5 Try.underlying9) (R := fun v w1 => v = _ ∧ w1 = _) ⟨rfl, rfl⟩) ?_
        rintro _ _ ⟨rfl, rfl⟩
        refine hK.out _ _ (K.cov Cov.auto) (fun hHeld => ?_)
        clear hK K9
        try simp only [Act.put, List.setIfInBounds_toArray, List.set_cons_zero, List.set_cons_succ]
        refine wpG_oneA 21 (fun K9 hK => ?_)
        go_simp
        (go_at_call 20; (with_reducible refine (rrow_any (W := p.W) (wn := p.wn) (wc := p.wc) K (HSO.out.RP.cov (Cov.nil _)) HPN.out).mono ?_); clear K; rintro e w1 ⟨A5, c5, rfl, X5, O5, K⟩)
        refine hK.out _ _ (K.cov Cov.auto) (fun hHeld => ?_)
        clear hK K9
        try simp only [Act.put, List.setIfInBounds_toArray, List.set_cons_zero, List.set_cons_succ]
        refine wpG_oneA 22 (fun K9 hK => ?_)
        refine st_does (by rfl) (Does.val (kr_string (by rfl) (by rfl) ((RdS.own (L := _) O5 Seg.auto).at_ _ K) Try.underlying22 Try.underlying5 Try.underlying9) (R := fun v w1 => v = _ ∧ w1 = _) ⟨rfl, rfl⟩) ?_
        rintro _ _ ⟨rfl, rfl⟩
        refine hK.out _ _ (K.cov Cov.auto) (fun hHeld => ?_)
        clear hK K9
        try simp only [Act.put, List.setIfInBounds_toArray, List.set_cons_zero, List.set_cons_succ]
        refine wpG_takeA 23 (v := .bool false) ?_ hHeld ?_
        · (intro w hS; first | exact kr_strneF (us := rowL p.blk p.pay) (by rfl) (by rfl) (by rfl) HRB.out)
        try simp only [Act.put, List.setIfInBounds_toArray, List.set_cons_zero, List.set_cons_succ]
        refine wpG_takeA 24 (v := ?_) ?_ hHeld ?_
        rotate_left
        · (intro w hS; (clear hS; go_simp); try with_reducible rfl)
        try simp only [Act.put, List.setIfInBounds_toArray, List.set_cons_zero, List.set_cons_succ]
        refine wpG_done (by kernel_rfl) ?_
        go_wp2
        go_roundg (gk - 1)
        case measure => omega
        case rel => exact ⟨i + 1, by go_num, by omega, K.cov Cov.auto⟩
      refine AllG.consA (fun K9 hK => ?_) ?_
      · skip
        go_simp
        (go_at_call 20; (with_reducible refine (rrow_any (W := p.W) (wn := p.wn) (wc := p.wc) K (HSO.out.RP.cov (Cov.nil _)) HPN.out).mono ?_); clear K; rintro e w1 ⟨A5, c5, rfl, X5, O5, K⟩)
        refine hK.out _ _ (K.cov Cov.auto) (fun hHeld => ?_)
        clear hK K9
        try simp only [Act.put, List.setIfInBounds_toArray, List.set_cons_zero, List.set_cons_succ]
        refine wpG_some (i := 16) (l := [22]) (by kernel_rfl) ?_
        refine AllG.consA (fun K9 hK => ?_) ?_
        · skip
          refine st_does (by rfl) (Does.val (kr_string (by rfl) (by rfl) ((RdS.own (L := _) O4 Seg.auto).at_ _ K) Try.underlying22 Try.underlying5 Try.underlying9) (R := fun v w1 => v = _ ∧ w1 = _) ⟨rfl, rfl⟩) ?_
          rintro _ _ ⟨rfl, rfl⟩
          refine hK.out _ _ (K.cov Cov.auto) (fun hHeld => ?_)
          clear hK K9
          try simp only [Act.put, List.setIfInBounds_toArray, List.set_cons_zero, List.set_cons_succ]
          refine wpG_oneA 22 (fun K9 hK => ?_)
          refine st_does (by rfl) (Does.val (kr_string (by rfl) (by rfl) ((RdS.own (L := _) O5 Seg.auto).at_ _ K) Try.underlying22 Try.underlying5 Try.underlying9) (R := fun v w1 => v = _ ∧ w1 = _) ⟨rfl, rfl⟩) ?_
          rintro _ _ ⟨rfl, rfl⟩
          refine hK.out _ _ (K.cov Cov.auto) (fun hHeld => ?_)
          clear hK K9
          try simp only [Act.put, List.setIfInBounds_toArray, List.set_cons_zero, List.set_cons_succ]
          refine wpG_takeA 23 (v := .bool false) ?_ hHeld ?_
          · (intro w hS; first | exact kr_strneF (us := rowL p.blk p.pay) (by rfl) (by rfl) (by rfl) HRB.out)
          try simp only [Act.put, List.setIfInBounds_toArray, List.set_cons_zero, List.set_cons_succ]
          refine wpG_takeA 24 (v := ?_) ?_ hHeld ?_
          rotate_left
          · (intro w hS; (clear hS; go_simp); try with_reducible rfl)
          try simp only [Act.put, List.setIfInBounds_toArray, List.set_cons_zero, List.set_cons_succ]
          refine wpG_done (by kernel_rfl) ?_
          go_wp2
          go_roundg (gk - 1)
          case measure => omega
          case rel => exact ⟨i + 1, by go_num, by omega, K.cov Cov.auto⟩
        refine AllG.consA (fun K9 hK => ?_) ?_
        · skip
          refine st_does (by rfl) (Does.val (kr_string (by rfl) (by rfl) ((RdS.own (L := _) O5 Seg.auto).at_ _ K) Try.underlying22 Try.underlying5 Try.underlying9) (R := fun v w1 => v = _ ∧ w1 = _) ⟨rfl, rfl⟩) ?_
          rintro _ _ ⟨rfl, rfl⟩
          refine hK.out _ _ (K.cov Cov.auto) (fun hHeld => ?_)
          clear hK K9
          try simp only [Act.put, List.setIfInBounds_toArray, List.set_cons_zero, List.set_cons_succ]
          refine wpG_oneA 16 (fun K9 hK => ?_)
          refine st_does (by rfl) (Does.val (kr_string (by rfl) (by rfl) ((RdS.own (L := _) O4 Seg.auto).at_ _ K) Try.underlying22 Try.underlying5 Try.underlying9) (R := fun v w1 => v = _ ∧ w1 = _) ⟨rfl, rfl⟩) ?_
          rintro _ _ ⟨rfl, rfl⟩
          refine hK.out _ _ (K.cov Cov.auto) (fun hHeld => ?_)
          clear hK K9
          try simp only [Act.put, List.setIfInBounds_toArray, List.set_cons_zero, List.set_cons_succ]
          refine wpG_takeA 23 (v := .bool false) ?_ hHeld ?_
          · (intro w hS; first | exact kr_strneF (us := rowL p.blk p.pay) (by rfl) (by rfl) (by rfl) HRB.out)
          try simp only [Act.put, List.setIfInBounds_toArray, List.set_cons_zero, List.set_cons_succ]
          refine wpG_takeA 24 (v := ?_) ?_ hHeld ?_
          rotate_left
          · (intro w hS; (clear hS; go_simp); try with_reducible rfl)
          try simp only [Act.put, List.setIfInBounds_toArray, List.set_cons_zero, List.set_cons_succ]
          refine wpG_done (by kernel_rfl) ?_
          go_wp2
          go_roundg (gk - 1)
          case measure => omega
          case rel => exact ⟨i + 1, by go_num, by omega, K.cov Cov.auto⟩
        exact AllG.nil
      exact AllG.nil
    · have HOK := Lib.hid (show putOK p.blk p.wn p.pn = true from hok)
      have HPB := Lib.hid (putS_byte HSO.out hok)
      clear hok
      go_upto_region 8 with ((first | ((with_reducible refine at_load rfl ?_); refine wpList_reads (by rfl) (kr_load_rec K _ _ (by rfl) (i) [.int .i64 p.blk, .slice p.W p.wn p.wc, .slice p.P p.pn p.pc] (by rfl) (R.cov (Cov.nil _)) (by omega) HP.out (by omega) (by kernel_rfl) (by kernel_rfl) (by rfl)) ?_) | (go_at_call 17; (with_reducible refine (pput_yes K HOK.out (HSO.out.RW.cov (Cov.nil _)) HWD.out (HSO.out.RP.cov (Cov.nil _))).mono ?_); clear K; rintro e w1 ⟨A1, c1, rfl, X1, O1, K⟩) | (go_at_call 18; (with_reducible refine (rpput_yes K HOK.out (HSO.out.RW.cov (Cov.nil _)) HWD.out (HSO.out.RP.cov (Cov.nil _))).mono ?_); clear K; rintro e w1 ⟨A2, c2, rfl, X2, O2, K⟩)))
      replace O1 : OwnL 5 1 A1 (9 + 32 * p.wn + p.pn) c1 ((putS p).map (Value.int .u8)) X1 := O1
      replace O2 : OwnL 5 1 A2 (9 + 32 * p.wn + p.pn) c2 ((putS p).map (Value.int .u8)) X2 := O2
      refine wp_region_GK K (Cov.all _) (by kernel_rfl) (by kernel_rfl) (by kernel_rfl) (fun K hHeld => ?_)
      refine wpG_takeA 0 (v := ?_) ?_ hHeld ?_
      rotate_left
      · (intro w hS; (clear hS; go_simp); try with_reducible rfl)
      try simp only [Act.put, List.setIfInBounds_toArray, List.set_cons_zero, List.set_cons_succ]
      refine wpG_takeA 1 (v := .string (strOfNums (putS p))) ?_ hHeld ?_
      · (intro w hS; first | exact kr_string (by rfl) (by rfl) ((RdS.own (L := _) O1 Seg.auto).at_ _ hS) Try.underlying22 Try.underlying5 Try.underlying9)
      try simp only [Act.put, List.setIfInBounds_toArray, List.set_cons_zero, List.set_cons_succ]
      refine wpG_takeA 2 (v := ?_) ?_ hHeld ?_
      rotate_left
      · (intro w hS; (clear hS; go_simp); try with_reducible rfl)
      try simp only [Act.put, List.setIfInBounds_toArray, List.set_cons_zero, List.set_cons_succ]
      refine wpG_takeA 3 (v := .string (strOfNums (putS p))) ?_ hHeld ?_
      · (intro w hS; first | exact kr_string (by rfl) (by rfl) ((RdS.own (L := _) O2 Seg.auto).at_ _ hS) Try.underlying22 Try.underlying5 Try.underlying9)
      try simp only [Act.put, List.setIfInBounds_toArray, List.set_cons_zero, List.set_cons_succ]
      refine wpG_takeA 4 (v := .bool false) ?_ hHeld ?_
      · (intro w hS; first | exact kr_strneF (us := putS p) (by rfl) (by rfl) (by rfl) HPB.out)
      try simp only [Act.put, List.setIfInBounds_toArray, List.set_cons_zero, List.set_cons_succ]
      refine wpG_takeA 5 (v := ?_) ?_ hHeld ?_
      rotate_left
      · (intro w hS; (clear hS; go_simp); try with_reducible rfl)
      try simp only [Act.put, List.setIfInBounds_toArray, List.set_cons_zero, List.set_cons_succ]
      refine wpG_takeA 6 (v := ?_) ?_ hHeld ?_
      rotate_left
      · (intro w hS; (clear hS; go_simp); try with_reducible rfl)
      try simp only [Act.put, List.setIfInBounds_toArray, List.set_cons_zero, List.set_cons_succ]
      refine wpG_takeA 7 (v := ?_) ?_ hHeld ?_
      rotate_left
      · (intro w hS; (clear hS; go_simp); try with_reducible rfl)
      try simp only [Act.put, List.setIfInBounds_toArray, List.set_cons_zero, List.set_cons_succ]
      refine wpG_takeA 8 (v := ?_) ?_ hHeld ?_
      rotate_left
      · (intro w hS; (clear hS; go_simp); try with_reducible rfl)
      try simp only [Act.put, List.setIfInBounds_toArray, List.set_cons_zero, List.set_cons_succ]
      refine wpG_takeA 9 (v := ?_) ?_ hHeld ?_
      rotate_left
      · (intro w hS; (clear hS; go_simp); try with_reducible rfl)
      try simp only [Act.put, List.setIfInBounds_toArray, List.set_cons_zero, List.set_cons_succ]
      refine wpG_takeA 10 (v := ?_) ?_ hHeld ?_
      rotate_left
      · (intro w hS; (clear hS; go_simp); try with_reducible rfl)
      try simp only [Act.put, List.setIfInBounds_toArray, List.set_cons_zero, List.set_cons_succ]
      refine wpG_takeA 11 (v := ?_) ?_ hHeld ?_
      rotate_left
      · (intro w hS; (clear hS; go_simp); try with_reducible rfl)
      try simp only [Act.put, List.setIfInBounds_toArray, List.set_cons_zero, List.set_cons_succ]
      refine wpG_takeA 12 (v := ?_) ?_ hHeld ?_
      rotate_left
      · (intro w hS; (clear hS; go_simp); try with_reducible rfl)
      try simp only [Act.put, List.setIfInBounds_toArray, List.set_cons_zero, List.set_cons_succ]
      refine wpG_takeA 13 (v := ?_) ?_ hHeld ?_
      rotate_left
      · (intro w hS; (clear hS; go_simp); try with_reducible rfl)
      try simp only [Act.put, List.setIfInBounds_toArray, List.set_cons_zero, List.set_cons_succ]
      refine wpG_takeA 14 (v := .agg #[.int .i64 p.blk, .slice p.W p.wn p.wc, .slice p.P p.pn p.pc]) ?_ hHeld ?_
      · (intro w hS; first | exact kr_load_rec hS _ _ (by rfl) (i) [.int .i64 p.blk, .slice p.W p.wn p.wc, .slice p.P p.pn p.pc] (by rfl) (R.cov (Cov.nil _)) (by omega) HP.out (by omega) (by kernel_rfl) (by kernel_rfl) (by rfl))
      try simp only [Act.put, List.setIfInBounds_toArray, List.set_cons_zero, List.set_cons_succ]
      refine wpG_takeA 17 (v := ?_) ?_ hHeld ?_
      rotate_left
      · (intro w hS; (clear hS; go_simp); try with_reducible rfl)
      try simp only [Act.put, List.setIfInBounds_toArray, List.set_cons_zero, List.set_cons_succ]
      refine wpG_takeA 18 (v := ?_) ?_ hHeld ?_
      rotate_left
      · (intro w hS; (clear hS; go_simp); try with_reducible rfl)
      try simp only [Act.put, List.setIfInBounds_toArray, List.set_cons_zero, List.set_cons_succ]
      refine wpG_takeA 19 (v := ?_) ?_ hHeld ?_
      rotate_left
      · (intro w hS; (clear hS; go_simp); try with_reducible rfl)
      try simp only [Act.put, List.setIfInBounds_toArray, List.set_cons_zero, List.set_cons_succ]
      refine wpG_takeA 20 (v := .agg #[.int .i64 p.blk, .slice p.W p.wn p.wc, .slice p.P p.pn p.pc]) ?_ hHeld ?_
      · (intro w hS; first | exact kr_load_rec hS _ _ (by rfl) (i) [.int .i64 p.blk, .slice p.W p.wn p.wc, .slice p.P p.pn p.pc] (by rfl) (R.cov (Cov.nil _)) (by omega) HP.out (by omega) (by kernel_rfl) (by kernel_rfl) (by rfl))
      try simp only [Act.put, List.setIfInBounds_toArray, List.set_cons_zero, List.set_cons_succ]
      refine wpG_oneA 15 (fun K9 hK => ?_)
      go_simp
      (go_at_call 19; (with_reducible refine (prow_any (W := p.W) (wn := p.wn) (wc := p.wc) K (HSO.out.RP.cov (Cov.nil _)) HPN.out).mono ?_); clear K; rintro e w1 ⟨A4, c4, rfl, X4, O4, K⟩)
      refine hK.out _ _ (K.cov Cov.auto) (fun hHeld => ?_)
      clear hK K9
      try simp only [Act.put, List.setIfInBounds_toArray, List.set_cons_zero, List.set_cons_succ]
      refine wpG_some (i := 16) (l := [21]) (by kernel_rfl) ?_
      refine AllG.consA (fun K9 hK => ?_) ?_
      · skip
        refine st_does (by rfl) (Does.val (kr_string (by rfl) (by rfl) ((RdS.own (L := _) O4 Seg.auto).at_ _ K) Try.underlying22 Try.underlying5 Try.underlying9) (R := fun v w1 => v = _ ∧ w1 = _) ⟨rfl, rfl⟩) ?_
        rintro _ _ ⟨rfl, rfl⟩
        refine hK.out _ _ (K.cov Cov.auto) (fun hHeld => ?_)
        clear hK K9
        try simp only [Act.put, List.setIfInBounds_toArray, List.set_cons_zero, List.set_cons_succ]
        refine wpG_oneA 21 (fun K9 hK => ?_)
        go_simp
        (go_at_call 20; (with_reducible refine (rrow_any (W := p.W) (wn := p.wn) (wc := p.wc) K (HSO.out.RP.cov (Cov.nil _)) HPN.out).mono ?_); clear K; rintro e w1 ⟨A5, c5, rfl, X5, O5, K⟩)
        refine hK.out _ _ (K.cov Cov.auto) (fun hHeld => ?_)
        clear hK K9
        try simp only [Act.put, List.setIfInBounds_toArray, List.set_cons_zero, List.set_cons_succ]
        refine wpG_oneA 22 (fun K9 hK => ?_)
        refine st_does (by rfl) (Does.val (kr_string (by rfl) (by rfl) ((RdS.own (L := _) O5 Seg.auto).at_ _ K) Try.underlying22 Try.underlying5 Try.underlying9) (R := fun v w1 => v = _ ∧ w1 = _) ⟨rfl, rfl⟩) ?_
        rintro _ _ ⟨rfl, rfl⟩
        refine hK.out _ _ (K.cov Cov.auto) (fun hHeld => ?_)
        clear hK K9
        try simp only [Act.put, List.setIfInBounds_toArray, List.set_cons_zero, List.set_cons_succ]
        refine wpG_takeA 23 (v := .bool false) ?_ hHeld ?_
        · (intro w hS; first | exact kr_strneF (us := rowL p.blk p.pay) (by rfl) (by rfl) (by rfl) HRB.out)
        try simp only [Act.put, List.setIfInBounds_toArray, List.set_cons_zero, List.set_cons_succ]
        refine wpG_takeA 24 (v := ?_) ?_ hHeld ?_
        rotate_left
        · (intro w hS; (clear hS; go_simp); try with_reducible rfl)
        try simp only [Act.put, List.setIfInBounds_toArray, List.set_cons_zero, List.set_cons_succ]
        refine wpG_done (by kernel_rfl) ?_
        go_wp2
        go_roundg (gk - 1)
        case measure => omega
        case rel => exact ⟨i + 1, by go_num, by omega, K.cov Cov.auto⟩
      refine AllG.consA (fun K9 hK => ?_) ?_
      · skip
        go_simp
        (go_at_call 20; (with_reducible refine (rrow_any (W := p.W) (wn := p.wn) (wc := p.wc) K (HSO.out.RP.cov (Cov.nil _)) HPN.out).mono ?_); clear K; rintro e w1 ⟨A5, c5, rfl, X5, O5, K⟩)
        refine hK.out _ _ (K.cov Cov.auto) (fun hHeld => ?_)
        clear hK K9
        try simp only [Act.put, List.setIfInBounds_toArray, List.set_cons_zero, List.set_cons_succ]
        refine wpG_some (i := 16) (l := [22]) (by kernel_rfl) ?_
        refine AllG.consA (fun K9 hK => ?_) ?_
        · skip
          refine st_does (by rfl) (Does.val (kr_string (by rfl) (by rfl) ((RdS.own (L := _) O4 Seg.auto).at_ _ K) Try.underlying22 Try.underlying5 Try.underlying9) (R := fun v w1 => v = _ ∧ w1 = _) ⟨rfl, rfl⟩) ?_
          rintro _ _ ⟨rfl, rfl⟩
          refine hK.out _ _ (K.cov Cov.auto) (fun hHeld => ?_)
          clear hK K9
          try simp only [Act.put, List.setIfInBounds_toArray, List.set_cons_zero, List.set_cons_succ]
          refine wpG_oneA 22 (fun K9 hK => ?_)
          refine st_does (by rfl) (Does.val (kr_string (by rfl) (by rfl) ((RdS.own (L := _) O5 Seg.auto).at_ _ K) Try.underlying22 Try.underlying5 Try.underlying9) (R := fun v w1 => v = _ ∧ w1 = _) ⟨rfl, rfl⟩) ?_
          rintro _ _ ⟨rfl, rfl⟩
          refine hK.out _ _ (K.cov Cov.auto) (fun hHeld => ?_)
          clear hK K9
          try simp only [Act.put, List.setIfInBounds_toArray, List.set_cons_zero, List.set_cons_succ]
          refine wpG_takeA 23 (v := .bool false) ?_ hHeld ?_
          · (intro w hS; first | exact kr_strneF (us := rowL p.blk p.pay) (by rfl) (by rfl) (by rfl) HRB.out)
          try simp only [Act.put, List.setIfInBounds_toArray, List.set_cons_zero, List.set_cons_succ]
          refine wpG_takeA 24 (v := ?_) ?_ hHeld ?_
          rotate_left
          · (intro w hS; (clear hS; go_simp); try with_reducible rfl)
          try simp only [Act.put, List.setIfInBounds_toArray, List.set_cons_zero, List.set_cons_succ]
          refine wpG_done (by kernel_rfl) ?_
          go_wp2
          go_roundg (gk - 1)
          case measure => omega
          case rel => exact ⟨i + 1, by go_num, by omega, K.cov Cov.auto⟩
        refine AllG.consA (fun K9 hK => ?_) ?_
        · skip
          refine st_does (by rfl) (Does.val (kr_string (by rfl) (by rfl) ((RdS.own (L := _) O5 Seg.auto).at_ _ K) Try.underlying22 Try.underlying5 Try.underlying9) (R := fun v w1 => v = _ ∧ w1 = _) ⟨rfl, rfl⟩) ?_
          rintro _ _ ⟨rfl, rfl⟩
          refine hK.out _ _ (K.cov Cov.auto) (fun hHeld => ?_)
          clear hK K9
          try simp only [Act.put, List.setIfInBounds_toArray, List.set_cons_zero, List.set_cons_succ]
          refine wpG_oneA 16 (fun K9 hK => ?_)
          refine st_does (by rfl) (Does.val (kr_string (by rfl) (by rfl) ((RdS.own (L := _) O4 Seg.auto).at_ _ K) Try.underlying22 Try.underlying5 Try.underlying9) (R := fun v w1 => v = _ ∧ w1 = _) ⟨rfl, rfl⟩) ?_
          rintro _ _ ⟨rfl, rfl⟩
          refine hK.out _ _ (K.cov Cov.auto) (fun hHeld => ?_)
          clear hK K9
          try simp only [Act.put, List.setIfInBounds_toArray, List.set_cons_zero, List.set_cons_succ]
          refine wpG_takeA 23 (v := .bool false) ?_ hHeld ?_
          · (intro w hS; first | exact kr_strneF (us := rowL p.blk p.pay) (by rfl) (by rfl) (by rfl) HRB.out)
          try simp only [Act.put, List.setIfInBounds_toArray, List.set_cons_zero, List.set_cons_succ]
          refine wpG_takeA 24 (v := ?_) ?_ hHeld ?_
          rotate_left
          · (intro w hS; (clear hS; go_simp); try with_reducible rfl)
          try simp only [Act.put, List.setIfInBounds_toArray, List.set_cons_zero, List.set_cons_succ]
          refine wpG_done (by kernel_rfl) ?_
          go_wp2
          go_roundg (gk - 1)
          case measure => omega
          case rel => exact ⟨i + 1, by go_num, by omega, K.cov Cov.auto⟩
        exact AllG.nil
      exact AllG.nil
end
end Go.Proofs.Ythbehlohdoajbaa
