/-
  Package inflate: ends, raw, length, distance (contracts).
-/
import Derived.Test.YtemnahimheffgaaInfL
set_option linter.unusedVariables false
set_option linter.unusedSimpArgs false
namespace Go.Proofs.Ytemnahimheffgaa
open Go.RowKit

section
variable {w0 w : World} {L Xr Z : List Ent} {gx gr p : Nat} {x : Ifl} {bs : List Int} {m : Mo}
set_option maxRecDepth 100000 in
theorem iends_on (K : Known w0 w (Xr ++ (row gx (ifC x) 53 :: L))) (hl : x.last = false) : Calls Try.prog 53 #[ptr' gx] w fun e w' => e = .returned (fnI 23) ∧ Known w0 w' (Xr ++ (row gx (ifC x) 53 :: L)) := by
  go_enter Try.func53, Try.ntmps53
  go_wp2_with (first | (((with_reducible refine at_load rfl ?_); first | (refine wpList_reads (by rfl) (kr_load_cell K _ _ (by rfl) (by rfl) Has.auto (by decide +kernel) (if_most _)) ?_) | (refine wpList_reads (by rfl) (kr_load_cell K _ _ (by rfl) (by rfl) Has.auto (by decide +kernel) (if_out _)) ?_) | (refine wpList_reads (by rfl) (kr_load_cell K _ _ (by rfl) (by rfl) Has.auto (by decide +kernel) (if_rest _)) ?_) | (refine wpList_reads (by rfl) (kr_load_cell K _ _ (by rfl) (by rfl) Has.auto (by decide +kernel) (if_from _)) ?_) | (refine wpList_reads (by rfl) (kr_load_cell K _ _ (by rfl) (by rfl) Has.auto (by decide +kernel) (if_r _)) ?_) | (refine wpList_reads (by rfl) (kr_load_cell K _ _ (by rfl) (by rfl) Has.auto (by decide +kernel) (if_next _)) ?_) | (refine wpList_reads (by rfl) (kr_load_cell K _ _ (by rfl) (by rfl) Has.auto (by decide +kernel) (if_last _)) ?_) | (refine wpList_reads (by rfl) (kr_load_cell K _ _ (by rfl) (by rfl) Has.auto (by decide +kernel) (if_left _)) ?_) | (refine wpList_reads (by rfl) (kr_load_cell K _ _ (by rfl) (by rfl) Has.auto (by decide +kernel) (if_lit _)) ?_) | (refine wpList_reads (by rfl) (kr_load_cell K _ _ (by rfl) (by rfl) Has.auto (by decide +kernel) (if_dist _)) ?_) | (refine wpList_reads (by rfl) (kr_load_cell K _ _ (by rfl) (by rfl) Has.auto (by decide +kernel) (if_e _)) ?_)); (try dsimp only)))
  · exact absurd (‹x.last = true›) (by rw [hl]; simp)
  · go_ret
    exact ⟨rfl, K⟩
def endN (b : Bool) : Nat := if b = true then 0 else 1
def endP (b : Bool) (p : Nat) : Nat := if b = true then (p + 7) / 8 * 8 else p
theorem endsM_eq (m : Mo) (p : Nat) : endsM m p = .ok { m with next := endN m.last } (endP m.last p) := by
  unfold endsM endN endP
  cases m.last <;> rfl
theorem iends_any (K : Known w0 w (Xr ++ (row gx (ifC x) 53 :: L))) (hR : Rdr gr bs p Xr) (hr : x.r = ptr' gr) (b : Bool) (hl : x.last = b) : Calls Try.prog 53 #[ptr' gx] w fun e w' => e = .returned (nxtV (endN b)) ∧ ∃ X', Rdr gr bs (endP b p) X' ∧ Known w0 w' (X' ++ (row gx (ifC x) 53 :: L)) := by
  cases b with
  | true => exact iends_last K hR hr hl
  | false =>
    refine (iends_on K hl).mono ?_
    rintro e w1 ⟨rfl, K⟩
    exact ⟨rfl, Xr, hR, K⟩

set_option maxHeartbeats 1600000 in
set_option maxRecDepth 100000 in
theorem iraw_any (K : Known w0 w (Xr ++ (row gx (ifC x) 53 :: (Z ++ L)))) (hR : Rdr gr bs p Xr) (hr : x.r = ptr' gr) (hI : Is m x Z) (hn1 : m.next = 2) :
    Calls Try.prog 41 #[ptr' gx] w (StP w0 gx gr bs x Z L (rawM bs m p)) := by
  obtain ⟨R0, hR0⟩ : ∃ R0, rawM bs m p = R0 := ⟨_, rfl⟩
  have H0 := Lib.hid hR0
  rw [hR0]
  clear hR0
  obtain ⟨hC, XO, T, hO, hT, rfl⟩ := hI
  obtain ⟨-, rfl⟩ : m.next ≠ 3 ∧ T = [] := by
    rcases hT with h | ⟨h, -⟩
    · exact h
    · omega
  rw [List.append_nil] at K ⊢
  have HFT := Lib.hid (hC.fit hn1)
  clear hn1 hT
  have hlen := hR.len
  have hle := hR.le
  by_cases hz : m.left = 0
  · have HF := Lib.hid (show R0 = .ok { m with next := endN m.last } (endP m.last p) by rw [← H0.out, rawM, if_pos hz, endsM_eq])
    have hl : x.left = 0 := by rw [hC.left, hz]; rfl
    have HLA := Lib.hid hC.last
    have HFT2 := Lib.hid hz
    clear hz
    go_enter Try.func41, Try.ntmps41
    go_wp2_with (first | (((with_reducible refine at_load rfl ?_); first | (refine wpList_reads (by rfl) (kr_load_cell K _ _ (by rfl) (by rfl) Has.auto (by decide +kernel) (if_most _)) ?_) | (refine wpList_reads (by rfl) (kr_load_cell K _ _ (by rfl) (by rfl) Has.auto (by decide +kernel) (if_out _)) ?_) | (refine wpList_reads (by rfl) (kr_load_cell K _ _ (by rfl) (by rfl) Has.auto (by decide +kernel) (if_rest _)) ?_) | (refine wpList_reads (by rfl) (kr_load_cell K _ _ (by rfl) (by rfl) Has.auto (by decide +kernel) (if_from _)) ?_) | (refine wpList_reads (by rfl) (kr_load_cell K _ _ (by rfl) (by rfl) Has.auto (by decide +kernel) (if_r _)) ?_) | (refine wpList_reads (by rfl) (kr_load_cell K _ _ (by rfl) (by rfl) Has.auto (by decide +kernel) (if_next _)) ?_) | (refine wpList_reads (by rfl) (kr_load_cell K _ _ (by rfl) (by rfl) Has.auto (by decide +kernel) (if_last _)) ?_) | (refine wpList_reads (by rfl) (kr_load_cell K _ _ (by rfl) (by rfl) Has.auto (by decide +kernel) (if_left _)) ?_) | (refine wpList_reads (by rfl) (kr_load_cell K _ _ (by rfl) (by rfl) Has.auto (by decide +kernel) (if_lit _)) ?_) | (refine wpList_reads (by rfl) (kr_load_cell K _ _ (by rfl) (by rfl) Has.auto (by decide +kernel) (if_dist _)) ?_) | (refine wpList_reads (by rfl) (kr_load_cell K _ _ (by rfl) (by rfl) Has.auto (by decide +kernel) (if_e _)) ?_)); (try dsimp only)) | (go_at_call 53; (with_reducible refine (iends_any K hR hr _ HLA.out).mono ?_); clear K; rintro e w1 ⟨rfl, X4, hX4, K⟩))
    go_ret
    rw [HF.out]
    refine ⟨rfl, x, X4, XO ++ [], hX4, ⟨⟨hC.most, hC.h0, hC.h5, hC.on, hC.room, hC.byte, hC.last, hC.left, fun _ => HFT.out, hC.e⟩, XO, [], hO, .inl ⟨?_, rfl⟩, rfl⟩, ⟨rfl, rfl, rfl, rfl, rfl⟩, by rw [List.append_nil]; exact K.cov Cov.auto⟩
    show endN m.last ≠ 3
    unfold endN
    split <;> decide
  obtain ⟨lq, hlq⟩ : ∃ lq, (8 * bs.length - p) / 8 = lq := ⟨_, rfl⟩
  have HLV := Lib.hid (show 8 * (bs.length : Int) - p = ((8 * bs.length - p : Nat) : Int) by omega)
  have HLQ := Lib.hid hlq
  have hl : x.left = (m.left : Int) := hC.left
  obtain ⟨lf, hlf⟩ : ∃ lf, m.left = lf := ⟨_, rfl⟩
  rw [hlf] at hl hz
  have e0 : ((lf : Int) == 0) = false := beq_eq_false_iff_ne.2 (by omega)
  obtain ⟨n, hn⟩ : ∃ n, min lf lq = n := ⟨_, rfl⟩
  have j1 : min (lf : Int) (lq : Int) = (n : Int) := by omega
  by_cases hn0 : n = 0
  · have HF := Lib.hid (show R0 = .th 2 by rw [← H0.out, rawM, if_neg (by omega), hlf, hlq, hn, if_pos hn0])
    subst hn0
    clear hn hlf hlq
    go_enter Try.func41, Try.ntmps41
    go_upto_region 3 with ((first | (((with_reducible refine at_load rfl ?_); first | (refine wpList_reads (by rfl) (kr_load_cell K _ _ (by rfl) (by rfl) Has.auto (by decide +kernel) (if_most _)) ?_) | (refine wpList_reads (by rfl) (kr_load_cell K _ _ (by rfl) (by rfl) Has.auto (by decide +kernel) (if_out _)) ?_) | (refine wpList_reads (by rfl) (kr_load_cell K _ _ (by rfl) (by rfl) Has.auto (by decide +kernel) (if_rest _)) ?_) | (refine wpList_reads (by rfl) (kr_load_cell K _ _ (by rfl) (by rfl) Has.auto (by decide +kernel) (if_from _)) ?_) | (refine wpList_reads (by rfl) (kr_load_cell K _ _ (by rfl) (by rfl) Has.auto (by decide +kernel) (if_r _)) ?_) | (refine wpList_reads (by rfl) (kr_load_cell K _ _ (by rfl) (by rfl) Has.auto (by decide +kernel) (if_next _)) ?_) | (refine wpList_reads (by rfl) (kr_load_cell K _ _ (by rfl) (by rfl) Has.auto (by decide +kernel) (if_last _)) ?_) | (refine wpList_reads (by rfl) (kr_load_cell K _ _ (by rfl) (by rfl) Has.auto (by decide +kernel) (if_left _)) ?_) | (refine wpList_reads (by rfl) (kr_load_cell K _ _ (by rfl) (by rfl) Has.auto (by decide +kernel) (if_lit _)) ?_) | (refine wpList_reads (by rfl) (kr_load_cell K _ _ (by rfl) (by rfl) Has.auto (by decide +kernel) (if_dist _)) ?_) | (refine wpList_reads (by rfl) (kr_load_cell K _ _ (by rfl) (by rfl) Has.auto (by decide +kernel) (if_e _)) ?_)); (try dsimp only))))
    refine wp_region_GK (X := [row gx (ifC x) 53]) K Cov.auto (by kernel_rfl) (by kernel_rfl) (by kernel_rfl) (fun K hHeld => ?_)
    refine wpG_takeA 0 (v := ?_) ?_ hHeld ?_
    rotate_left
    · (intro w hS; (clear hS; go_simp); try with_reducible rfl)
    try simp only [Act.put, List.setIfInBounds_toArray, List.set_cons_zero, List.set_cons_succ]
    refine wpG_takeA 1 (v := ?_) ?_ hHeld ?_
    rotate_left
    · (intro w hS; (clear hS; go_simp); try with_reducible rfl)
    try simp only [Act.put, List.setIfInBounds_toArray, List.set_cons_zero, List.set_cons_succ]
    refine wpG_takeA 2 (v := ?_) ?_ hHeld ?_
    rotate_left
    · (intro w hS; (clear hS; go_simp); try with_reducible rfl)
    try simp only [Act.put, List.setIfInBounds_toArray, List.set_cons_zero, List.set_cons_succ]
    refine wpG_takeA 3 (v := .int .i64 x.left) ?_ hHeld ?_
    · (intro w hS; first | exact kr_load_cell hS _ _ (by rfl) (by rfl) Has.auto (by kernel_rfl) (if_left _))
    try simp only [Act.put, List.setIfInBounds_toArray, List.set_cons_zero, List.set_cons_succ]
    refine wpG_takeA 4 (v := ?_) ?_ hHeld ?_
    rotate_left
    · (intro w hS; (clear hS; go_simp); try with_reducible rfl)
    try simp only [Act.put, List.setIfInBounds_toArray, List.set_cons_zero, List.set_cons_succ]
    refine wpG_takeA 5 (v := ?_) ?_ hHeld ?_
    rotate_left
    · (intro w hS; (clear hS; go_simp); try with_reducible rfl)
    try simp only [Act.put, List.setIfInBounds_toArray, List.set_cons_zero, List.set_cons_succ]
    refine wpG_takeA 6 (v := ?_) ?_ hHeld ?_
    rotate_left
    · (intro w hS; (clear hS; go_simp); try with_reducible rfl)
    try simp only [Act.put, List.setIfInBounds_toArray, List.set_cons_zero, List.set_cons_succ]
    refine wpG_takeA 7 (v := x.r) ?_ hHeld ?_
    · (intro w hS; first | exact kr_load_cell hS _ _ (by rfl) (by rfl) Has.auto (by kernel_rfl) (if_r _))
    try simp only [Act.put, List.setIfInBounds_toArray, List.set_cons_zero, List.set_cons_succ]
    refine wpG_oneA 8 (fun K9 hK => ?_)
    go_simp
    (go_at_call 27; (with_reducible refine (rleft_any K hR _ HLV.out).mono ?_); clear K; rintro e w1 ⟨rfl, K⟩)
    refine hK.out _ _ (K.cov Cov.auto) (fun hHeld => ?_)
    clear hK K9
    try simp only [Act.put, List.setIfInBounds_toArray, List.set_cons_zero, List.set_cons_succ]
    refine wpG_takeA 9 (v := .int .i64 (lq : Nat)) ?_ hHeld ?_
    · (intro w hS; first | exact kr_quo8 (u := 8 * bs.length - p) (v := lq) (by rfl) (by rfl) (by rfl) (by omega) HLQ.out)
    try simp only [Act.put, List.setIfInBounds_toArray, List.set_cons_zero, List.set_cons_succ]
    refine wpG_takeA 10 (v := ?_) ?_ hHeld ?_
    rotate_left
    · (intro w hS; (clear hS; go_simp); try with_reducible rfl)
    try simp only [Act.put, List.setIfInBounds_toArray, List.set_cons_zero, List.set_cons_succ]
    refine wpG_takeA 11 (v := ?_) ?_ hHeld ?_
    rotate_left
    · (intro w hS; (clear hS; go_simp); try with_reducible rfl)
    try simp only [Act.put, List.setIfInBounds_toArray, List.set_cons_zero, List.set_cons_succ]
    refine wpG_done (by kernel_rfl) ?_
    skip
    go_wp2_with (first | (((with_reducible refine at_load rfl ?_); first | (refine wpList_reads (by rfl) (kr_load_cell K _ _ (by rfl) (by rfl) Has.auto (by decide +kernel) (if_most _)) ?_) | (refine wpList_reads (by rfl) (kr_load_cell K _ _ (by rfl) (by rfl) Has.auto (by decide +kernel) (if_out _)) ?_) | (refine wpList_reads (by rfl) (kr_load_cell K _ _ (by rfl) (by rfl) Has.auto (by decide +kernel) (if_rest _)) ?_) | (refine wpList_reads (by rfl) (kr_load_cell K _ _ (by rfl) (by rfl) Has.auto (by decide +kernel) (if_from _)) ?_) | (refine wpList_reads (by rfl) (kr_load_cell K _ _ (by rfl) (by rfl) Has.auto (by decide +kernel) (if_r _)) ?_) | (refine wpList_reads (by rfl) (kr_load_cell K _ _ (by rfl) (by rfl) Has.auto (by decide +kernel) (if_next _)) ?_) | (refine wpList_reads (by rfl) (kr_load_cell K _ _ (by rfl) (by rfl) Has.auto (by decide +kernel) (if_last _)) ?_) | (refine wpList_reads (by rfl) (kr_load_cell K _ _ (by rfl) (by rfl) Has.auto (by decide +kernel) (if_left _)) ?_) | (refine wpList_reads (by rfl) (kr_load_cell K _ _ (by rfl) (by rfl) Has.auto (by decide +kernel) (if_lit _)) ?_) | (refine wpList_reads (by rfl) (kr_load_cell K _ _ (by rfl) (by rfl) Has.auto (by decide +kernel) (if_dist _)) ?_) | (refine wpList_reads (by rfl) (kr_load_cell K _ _ (by rfl) (by rfl) Has.auto (by decide +kernel) (if_e _)) ?_)); (try dsimp only)) | (go_at_call 38; (with_reducible refine (ibad_yes K _).mono ?_); clear K; rintro e w1 ⟨rfl, K⟩))
    rw [HF.out]; exact ⟨rfl, rfl, _, Xr, hR, K.cov Cov.auto⟩
  · obtain ⟨rm, hrm⟩ : ∃ rm, lf - n = rm := ⟨_, rfl⟩
    have HF := Lib.hid (show R0 = .ok { m with out := m.out ++ (bs.drop ((p + 7) / 8)).take n, left := rm, next := 2 } (((p + 7) / 8 + n) * 8) by rw [← H0.out, rawM, if_neg (by omega), hlf, hlq, hn, if_neg hn0, hrm])
    have HRN := Lib.hid (show (p + 7) / 8 + n ≤ bs.length by omega)
    have j2 : ((n : Int) == 0) = false := beq_eq_false_iff_ne.2 (by omega)
    have j3 := IntWalk.i64_in ((rm : Int)) (by have := HFT.out; have := hC.h5; omega)
    have j4 : (lf : Int) - (n : Int) = (rm : Int) := by omega
    have hlen2 : ((bs.drop ((p + 7) / 8)).take n).length = n := by rw [List.length_take, List.length_drop]; omega
    have HLN := Lib.hid hlen2
    have HBD := Lib.hid (show x.on + n ≤ 34000000000 by rw [hC.on]; have := HFT.out; have := hC.h5; omega)
    have HFT3 := Lib.hid (show (m.out.length : Int) + n ≤ m.most by have := HFT.out; omega)
    have HFT4 := Lib.hid (show (m.out.length : Int) + n + rm ≤ m.most by have := HFT.out; omega)
    clear hn hlf hlq hrm hlen2 hn0 hz
    go_enter Try.func41, Try.ntmps41
    go_upto_region 3 with ((first | (((with_reducible refine at_load rfl ?_); first | (refine wpList_reads (by rfl) (kr_load_cell K _ _ (by rfl) (by rfl) Has.auto (by decide +kernel) (if_most _)) ?_) | (refine wpList_reads (by rfl) (kr_load_cell K _ _ (by rfl) (by rfl) Has.auto (by decide +kernel) (if_out _)) ?_) | (refine wpList_reads (by rfl) (kr_load_cell K _ _ (by rfl) (by rfl) Has.auto (by decide +kernel) (if_rest _)) ?_) | (refine wpList_reads (by rfl) (kr_load_cell K _ _ (by rfl) (by rfl) Has.auto (by decide +kernel) (if_from _)) ?_) | (refine wpList_reads (by rfl) (kr_load_cell K _ _ (by rfl) (by rfl) Has.auto (by decide +kernel) (if_r _)) ?_) | (refine wpList_reads (by rfl) (kr_load_cell K _ _ (by rfl) (by rfl) Has.auto (by decide +kernel) (if_next _)) ?_) | (refine wpList_reads (by rfl) (kr_load_cell K _ _ (by rfl) (by rfl) Has.auto (by decide +kernel) (if_last _)) ?_) | (refine wpList_reads (by rfl) (kr_load_cell K _ _ (by rfl) (by rfl) Has.auto (by decide +kernel) (if_left _)) ?_) | (refine wpList_reads (by rfl) (kr_load_cell K _ _ (by rfl) (by rfl) Has.auto (by decide +kernel) (if_lit _)) ?_) | (refine wpList_reads (by rfl) (kr_load_cell K _ _ (by rfl) (by rfl) Has.auto (by decide +kernel) (if_dist _)) ?_) | (refine wpList_reads (by rfl) (kr_load_cell K _ _ (by rfl) (by rfl) Has.auto (by decide +kernel) (if_e _)) ?_)); (try dsimp only))))
    refine wp_region_GK (X := [row gx (ifC x) 53]) K Cov.auto (by kernel_rfl) (by kernel_rfl) (by kernel_rfl) (fun K hHeld => ?_)
    refine wpG_takeA 0 (v := ?_) ?_ hHeld ?_
    rotate_left
    · (intro w hS; (clear hS; go_simp); try with_reducible rfl)
    try simp only [Act.put, List.setIfInBounds_toArray, List.set_cons_zero, List.set_cons_succ]
    refine wpG_takeA 1 (v := ?_) ?_ hHeld ?_
    rotate_left
    · (intro w hS; (clear hS; go_simp); try with_reducible rfl)
    try simp only [Act.put, List.setIfInBounds_toArray, List.set_cons_zero, List.set_cons_succ]
    refine wpG_takeA 2 (v := ?_) ?_ hHeld ?_
    rotate_left
    · (intro w hS; (clear hS; go_simp); try with_reducible rfl)
    try simp only [Act.put, List.setIfInBounds_toArray, List.set_cons_zero, List.set_cons_succ]
    refine wpG_takeA 3 (v := .int .i64 x.left) ?_ hHeld ?_
    · (intro w hS; first | exact kr_load_cell hS _ _ (by rfl) (by rfl) Has.auto (by kernel_rfl) (if_left _))
    try simp only [Act.put, List.setIfInBounds_toArray, List.set_cons_zero, List.set_cons_succ]
    refine wpG_takeA 4 (v := ?_) ?_ hHeld ?_
    rotate_left
    · (intro w hS; (clear hS; go_simp); try with_reducible rfl)
    try simp only [Act.put, List.setIfInBounds_toArray, List.set_cons_zero, List.set_cons_succ]
    refine wpG_takeA 5 (v := ?_) ?_ hHeld ?_
    rotate_left
    · (intro w hS; (clear hS; go_simp); try with_reducible rfl)
    try simp only [Act.put, List.setIfInBounds_toArray, List.set_cons_zero, List.set_cons_succ]
    refine wpG_takeA 6 (v := ?_) ?_ hHeld ?_
    rotate_left
    · (intro w hS; (clear hS; go_simp); try with_reducible rfl)
    try simp only [Act.put, List.setIfInBounds_toArray, List.set_cons_zero, List.set_cons_succ]
    refine wpG_takeA 7 (v := x.r) ?_ hHeld ?_
    · (intro w hS; first | exact kr_load_cell hS _ _ (by rfl) (by rfl) Has.auto (by kernel_rfl) (if_r _))
    try simp only [Act.put, List.setIfInBounds_toArray, List.set_cons_zero, List.set_cons_succ]
    refine wpG_oneA 8 (fun K9 hK => ?_)
    go_simp
    (go_at_call 27; (with_reducible refine (rleft_any K hR _ HLV.out).mono ?_); clear K; rintro e w1 ⟨rfl, K⟩)
    refine hK.out _ _ (K.cov Cov.auto) (fun hHeld => ?_)
    clear hK K9
    try simp only [Act.put, List.setIfInBounds_toArray, List.set_cons_zero, List.set_cons_succ]
    refine wpG_takeA 9 (v := .int .i64 (lq : Nat)) ?_ hHeld ?_
    · (intro w hS; first | exact kr_quo8 (u := 8 * bs.length - p) (v := lq) (by rfl) (by rfl) (by rfl) (by omega) HLQ.out)
    try simp only [Act.put, List.setIfInBounds_toArray, List.set_cons_zero, List.set_cons_succ]
    refine wpG_takeA 10 (v := ?_) ?_ hHeld ?_
    rotate_left
    · (intro w hS; (clear hS; go_simp); try with_reducible rfl)
    try simp only [Act.put, List.setIfInBounds_toArray, List.set_cons_zero, List.set_cons_succ]
    refine wpG_takeA 11 (v := ?_) ?_ hHeld ?_
    rotate_left
    · (intro w hS; (clear hS; go_simp); try with_reducible rfl)
    try simp only [Act.put, List.setIfInBounds_toArray, List.set_cons_zero, List.set_cons_succ]
    refine wpG_done (by kernel_rfl) ?_
    skip
    go_wp2_with (first | (((with_reducible refine at_load rfl ?_); first | (refine wpList_reads (by rfl) (kr_load_cell K _ _ (by rfl) (by rfl) Has.auto (by decide +kernel) (if_most _)) ?_) | (refine wpList_reads (by rfl) (kr_load_cell K _ _ (by rfl) (by rfl) Has.auto (by decide +kernel) (if_out _)) ?_) | (refine wpList_reads (by rfl) (kr_load_cell K _ _ (by rfl) (by rfl) Has.auto (by decide +kernel) (if_rest _)) ?_) | (refine wpList_reads (by rfl) (kr_load_cell K _ _ (by rfl) (by rfl) Has.auto (by decide +kernel) (if_from _)) ?_) | (refine wpList_reads (by rfl) (kr_load_cell K _ _ (by rfl) (by rfl) Has.auto (by decide +kernel) (if_r _)) ?_) | (refine wpList_reads (by rfl) (kr_load_cell K _ _ (by rfl) (by rfl) Has.auto (by decide +kernel) (if_next _)) ?_) | (refine wpList_reads (by rfl) (kr_load_cell K _ _ (by rfl) (by rfl) Has.auto (by decide +kernel) (if_last _)) ?_) | (refine wpList_reads (by rfl) (kr_load_cell K _ _ (by rfl) (by rfl) Has.auto (by decide +kernel) (if_left _)) ?_) | (refine wpList_reads (by rfl) (kr_load_cell K _ _ (by rfl) (by rfl) Has.auto (by decide +kernel) (if_lit _)) ?_) | (refine wpList_reads (by rfl) (kr_load_cell K _ _ (by rfl) (by rfl) Has.auto (by decide +kernel) (if_dist _)) ?_) | (refine wpList_reads (by rfl) (kr_load_cell K _ _ (by rfl) (by rfl) Has.auto (by decide +kernel) (if_e _)) ?_)); (try dsimp only)) | (go_at_call 38; (with_reducible refine (ibad_no K _).mono ?_); clear K; rintro e w1 ⟨rfl, K⟩) | (go_at_call 54; (with_reducible refine (rraw_any K hR n HRN.out).mono ?_); clear K; rintro e w1 ⟨A3, c3, rfl, Z3, X3, O3, hR3, K⟩) | (at_builtin; refine wpList_does rfl (kd_appendN K _ _ rfl rfl rfl hO Seg.auto ((RdS.own (w0 := w0) (L := Z3) (xs := (bs.drop ((p + 7) / 8)).take n) O3 (Seg.all Z3)).at_ _ (K.cov Cov.auto)) (by kernel_rfl) (by kernel_rfl) HBD.out) ?_; clear K; rintro _ w1 ⟨A4, c4, X4, rfl, O4, K⟩; (try simp only [Nat.zero_add, List.nil_append] at O4)) | (((with_reducible refine at_store rfl ?_); first | (refine wpList_does (by rfl) (kd_store_cell K _ _ _ (by rfl) (by rfl) (by conv => lhs; whnf) Repl.auto (by rfl) (by rfl) (by decide +kernel) (by rfl) (if_s_out _ _ _ _)) ?_) | (refine wpList_does (by rfl) (kd_store_cell K _ _ _ (by rfl) (by rfl) (by conv => lhs; whnf) Repl.auto (by rfl) (by rfl) (by decide +kernel) (by rfl) (if_s_rest _ _ _ _)) ?_) | (refine wpList_does (by rfl) (kd_store_cell K _ _ _ (by rfl) (by rfl) (by conv => lhs; whnf) Repl.auto (by rfl) (by rfl) (by decide +kernel) (by rfl) (if_s_from _ _)) ?_) | (refine wpList_does (by rfl) (kd_store_cell K _ _ _ (by rfl) (by rfl) (by conv => lhs; whnf) Repl.auto (by rfl) (by rfl) (by decide +kernel) (by rfl) (if_s_r _ _)) ?_) | (refine wpList_does (by rfl) (kd_store_cell K _ _ _ (by rfl) (by rfl) (by conv => lhs; whnf) Repl.auto (by rfl) (by rfl) (by decide +kernel) (by rfl) (if_s_next _ _)) ?_) | (refine wpList_does (by rfl) (kd_store_cell K _ _ _ (by rfl) (by rfl) (by conv => lhs; whnf) Repl.auto (by rfl) (by rfl) (by decide +kernel) (by rfl) (if_s_last _ _)) ?_) | (refine wpList_does (by rfl) (kd_store_cell K _ _ _ (by rfl) (by rfl) (by conv => lhs; whnf) Repl.auto (by rfl) (by rfl) (by decide +kernel) (by rfl) (if_s_left _ _)) ?_) | (refine wpList_does (by rfl) (kd_store_cell K _ _ _ (by rfl) (by rfl) (by conv => lhs; whnf) Repl.auto (by rfl) (by rfl) (by decide +kernel) (by rfl) (if_s_lit _ _)) ?_) | (refine wpList_does (by rfl) (kd_store_cell K _ _ _ (by rfl) (by rfl) (by conv => lhs; whnf) Repl.auto (by rfl) (by rfl) (by decide +kernel) (by rfl) (if_s_dist _ _)) ?_) | (refine wpList_does (by rfl) (kd_store_cell K _ _ _ (by rfl) (by rfl) (by conv => lhs; whnf) Repl.auto (by rfl) (by rfl) (by decide +kernel) (by rfl) (if_s_e _ _)) ?_)); clear K; intro _ w1 K; (try dsimp only at K)))
    go_ret
    rw [HF.out]
    have hon : x.on + n = (m.out ++ (bs.drop ((p + 7) / 8)).take n).length := by rw [List.length_append, HLN.out, hC.on]
    refine ⟨rfl, { x with O := A4, on := x.on + n, oc := c4, left := (rm : Int) }, X3, X4 ++ [], hR3, ⟨⟨hC.most, hC.h0, hC.h5, hon, ?_, ?_, hC.last, rfl, fun _ => ?_, hC.e⟩, X4, [], O4, .inl ⟨(show (2 : Nat) ≠ 3 by decide), rfl⟩, rfl⟩, ⟨rfl, rfl, rfl, rfl, rfl⟩, by rw [List.append_nil]; exact K.cov Cov.auto⟩
    · have := HFT3.out
      show ((m.out ++ (bs.drop ((p + 7) / 8)).take n).length : Int) ≤ m.most
      rw [List.length_append, HLN.out]
      omega
    · intro v hv
      rcases List.mem_append.1 hv with h | h
      · exact hC.byte v h
      · exact hR.byte v (List.mem_of_mem_drop (List.mem_of_mem_take h))
    · have := HFT4.out
      show ((m.out ++ (bs.drop ((p + 7) / 8)).take n).length : Int) + (rm : Int) ≤ m.most
      rw [List.length_append, HLN.out]
      omega
end

section
variable {w0 w : World} {L : List Ent}
set_option maxHeartbeats 4000000 in
set_option maxRecDepth 100000 in
theorem ilength_any (K : Known w0 w L) (s : Nat) (h1 : 257 ≤ s) (h2 : s ≤ 285) (z : Int) (hz : z = s) : Calls Try.prog 60 #[.int .i64 z] w fun e w' => e = .returned (.tuple #[.int .i64 ((lenM s).1 : Int), .int .i64 ((lenM s).2 : Int)]) ∧ Known w0 w' L := by
  subst hz
  have h : s = 257 ∨ s = 258 ∨ s = 259 ∨ s = 260 ∨ s = 261 ∨ s = 262 ∨ s = 263 ∨ s = 264 ∨ s = 265 ∨ s = 266 ∨ s = 267 ∨ s = 268 ∨ s = 269 ∨ s = 270 ∨ s = 271 ∨ s = 272 ∨ s = 273 ∨ s = 274 ∨ s = 275 ∨ s = 276 ∨ s = 277 ∨ s = 278 ∨ s = 279 ∨ s = 280 ∨ s = 281 ∨ s = 282 ∨ s = 283 ∨ s = 284 ∨ s = 285 := by omega
  clear h1 h2
  rcases h with rfl | rfl | rfl | rfl | rfl | rfl | rfl | rfl | rfl | rfl | rfl | rfl | rfl | rfl | rfl | rfl | rfl | rfl | rfl | rfl | rfl | rfl | rfl | rfl | rfl | rfl | rfl | rfl | rfl
  all_goals
    go_enter Try.func60, Try.ntmps60
    go_wp2
    go_ret2
    exact ⟨rfl, K⟩
set_option maxHeartbeats 4000000 in
set_option maxRecDepth 100000 in
theorem idist_any (K : Known w0 w L) (s : Nat) (h2 : s ≤ 29) (z : Int) (hz : z = s) : Calls Try.prog 61 #[.int .i64 z] w fun e w' => e = .returned (.tuple #[.int .i64 ((disM s).1 : Int), .int .i64 ((disM s).2 : Int)]) ∧ Known w0 w' L := by
  subst hz
  have h : s = 0 ∨ s = 1 ∨ s = 2 ∨ s = 3 ∨ s = 4 ∨ s = 5 ∨ s = 6 ∨ s = 7 ∨ s = 8 ∨ s = 9 ∨ s = 10 ∨ s = 11 ∨ s = 12 ∨ s = 13 ∨ s = 14 ∨ s = 15 ∨ s = 16 ∨ s = 17 ∨ s = 18 ∨ s = 19 ∨ s = 20 ∨ s = 21 ∨ s = 22 ∨ s = 23 ∨ s = 24 ∨ s = 25 ∨ s = 26 ∨ s = 27 ∨ s = 28 ∨ s = 29 := by omega
  clear h2
  rcases h with rfl | rfl | rfl | rfl | rfl | rfl | rfl | rfl | rfl | rfl | rfl | rfl | rfl | rfl | rfl | rfl | rfl | rfl | rfl | rfl | rfl | rfl | rfl | rfl | rfl | rfl | rfl | rfl | rfl | rfl
  all_goals
    go_enter Try.func61, Try.ntmps61
    go_wp2
    go_ret2
    exact ⟨rfl, K⟩
end
end Go.Proofs.Ytemnahimheffgaa
