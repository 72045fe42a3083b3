/-
  Package inflate: Write, where nothing is thrown (contract).
-/
import Derived.Test.YtemnahimheffgaaInfD
import Derived.Test.YtemnahimheffgaaSlices
set_option linter.unusedVariables false
set_option linter.unusedSimpArgs false
namespace Go.Proofs.Ytemnahimheffgaa
open Go.RowKit


section
variable {w0 w : World} {L XR M : List Ent} {gx : Nat} {x : Ifl} {rs ys : List Int}
/-- a row of states -/
structure Run (w0 : World) (gx : Nat) (bs : List Int) (St : Nat → Nat → Ifl → List Ent → Prop) (F : Ifl → List Ent → Prop) : Prop where
  on : ∀ gr k x Z w E, St gr k x Z → 1 < k → Known w0 w (row gx (ifC x) 53 :: (Z ++ E)) → (∃ f, x.next = fnI f) ∧ Calls Try.prog 26 #[ptr' gx] w fun e w' => e = .returned (.bool true) ∧ ∃ x' Z' E', (St gr (k - 1) x' Z' ∧ x'.R = x.R ∧ x'.rn = x.rn ∧ x'.rc = x.rc) ∧ Known w0 w' (row gx (ifC x') 53 :: (Z' ++ (E ++ E')))
  off : ∀ gr x Z w E, St gr 1 x Z → Known w0 w (row gx (ifC x) 53 :: (Z ++ E)) → (∃ f, x.next = fnI f) ∧ Calls Try.prog 26 #[ptr' gx] w fun e w' => e = .returned (.bool false) ∧ ∃ x' Xr' Z' E', (F x' Z' ∧ x'.R = x.R ∧ x'.rn = x.rn ∧ x'.rc = x.rc ∧ x'.next = .nilFunc ∧ x'.e = 0 ∧ x'.r = ptr' gr ∧ Rdr gr bs (8 * bs.length) Xr') ∧ Known w0 w' (row gx (ifC x') 53 :: (Xr' ++ (Z' ++ (E ++ E'))))
set_option maxHeartbeats 1600000 in
set_option maxRecDepth 100000 in
theorem iwrite_run {A : Option Addr} {n c : Nat} {St : Nat → Nat → Ifl → List Ent → Prop} {F : Ifl → List Ent → Prop} (K : Known w0 w (row gx (ifC x) 53 :: (XR ++ (M ++ L)))) (O : OwnL 5 1 x.R x.rn x.rc (rs.map (Value.int .u8)) XR) (R : RdS w0 L .u8 A n ys)
    (hb : ∀ v ∈ rs ++ ys, 0 ≤ v ∧ v ≤ 255) (hn : n ≤ 10000000) (hrn : x.rn ≤ 10000000) (fr : Nat) (hf : x.from_ = (fr : Int)) (hfr : fr ≤ 8 * rs.length) (hnx : ∃ f, x.next = fnI f) (he : x.e = 0) (H : Run w0 gx (rs ++ ys) St F) (k0 : Nat) (hk : 0 < k0)
    (h0 : ∀ gr A1 c1 Xr, Rdr gr (rs ++ ys) fr Xr → St gr k0 { x with R := A1, rn := x.rn + n, rc := c1, r := ptr' gr } (Xr ++ M)) :
    Calls Try.prog 15 #[ptr' gx, .slice A n c] w fun e w' => e = .returned (.int .i64 0) ∧ ∃ x' Z' A' c' X', F x' Z' ∧ Known w0 w' (row gx (ifC { x' with R := A', rn := 0, rc := c', from_ := 0, r := .pointer none }) 53 :: (Z' ++ (X' ++ L))) := by
  have hl1 := O.len
  have hl2 := R.len
  have hl3 : rs.length = x.rn := by simpa using hl1
  have hl4 : (rs ++ ys).length = x.rn + n := by simp; omega
  have HB := Lib.hid hb
  have HK := Lib.hid hk
  have HF := Lib.hid hf
  have HNX := Lib.hid hnx
  clear hl1 hk hnx
  go_enter Try.func15, Try.ntmps15
  go_upto_region 7 with ((first | (at_builtin; refine wpList_does rfl (kd_appendN K _ _ rfl rfl rfl O Seg.auto (R.get K Cov.auto) (by kernel_rfl) (by kernel_rfl) (by omega)) ?_; clear K; rintro _ w1 ⟨A1, c1, X1, rfl, O1, K⟩; (try simp only [Nat.zero_add, List.nil_append] at O1)) | (go_at_call 24; (with_reducible refine (rnew_any K (RdS.own (w0 := w0) (xs := rs ++ ys) (by simpa using O1) Seg.auto) HB.out (by omega)).mono ?_); clear K; rintro e w1 ⟨gr, rfl, Xr, hR, K⟩) | (((with_reducible refine at_store rfl ?_); first | (refine wpList_does (by rfl) (kd_store_cell K _ _ _ (by rfl) (by rfl) (by conv => lhs; whnf) Repl.auto (by rfl) (by rfl) (by decide +kernel) (by rfl) (if_s_out _ _ _ _)) ?_) | (refine wpList_does (by rfl) (kd_store_cell K _ _ _ (by rfl) (by rfl) (by conv => lhs; whnf) Repl.auto (by rfl) (by rfl) (by decide +kernel) (by rfl) (if_s_rest _ _ _ _)) ?_) | (refine wpList_does (by rfl) (kd_store_cell K _ _ _ (by rfl) (by rfl) (by conv => lhs; whnf) Repl.auto (by rfl) (by rfl) (by decide +kernel) (by rfl) (if_s_from _ _)) ?_) | (refine wpList_does (by rfl) (kd_store_cell K _ _ _ (by rfl) (by rfl) (by conv => lhs; whnf) Repl.auto (by rfl) (by rfl) (by decide +kernel) (by rfl) (if_s_r _ _)) ?_) | (refine wpList_does (by rfl) (kd_store_cell K _ _ _ (by rfl) (by rfl) (by conv => lhs; whnf) Repl.auto (by rfl) (by rfl) (by decide +kernel) (by rfl) (if_s_next _ _)) ?_) | (refine wpList_does (by rfl) (kd_store_cell K _ _ _ (by rfl) (by rfl) (by conv => lhs; whnf) Repl.auto (by rfl) (by rfl) (by decide +kernel) (by rfl) (if_s_last _ _)) ?_) | (refine wpList_does (by rfl) (kd_store_cell K _ _ _ (by rfl) (by rfl) (by conv => lhs; whnf) Repl.auto (by rfl) (by rfl) (by decide +kernel) (by rfl) (if_s_left _ _)) ?_) | (refine wpList_does (by rfl) (kd_store_cell K _ _ _ (by rfl) (by rfl) (by conv => lhs; whnf) Repl.auto (by rfl) (by rfl) (by decide +kernel) (by rfl) (if_s_lit _ _)) ?_) | (refine wpList_does (by rfl) (kd_store_cell K _ _ _ (by rfl) (by rfl) (by conv => lhs; whnf) Repl.auto (by rfl) (by rfl) (by decide +kernel) (by rfl) (if_s_dist _ _)) ?_) | (refine wpList_does (by rfl) (kd_store_cell K _ _ _ (by rfl) (by rfl) (by conv => lhs; whnf) Repl.auto (by rfl) (by rfl) (by decide +kernel) (by rfl) (if_s_e _ _)) ?_)); clear K; intro _ w1 K; (try dsimp only at K)) | (((with_reducible refine at_load rfl ?_); first | (refine wpList_reads (by rfl) (kr_load_cell K _ _ (by rfl) (by rfl) Has.auto (by decide +kernel) (if_most _)) ?_) | (refine wpList_reads (by rfl) (kr_load_cell K _ _ (by rfl) (by rfl) Has.auto (by decide +kernel) (if_out _)) ?_) | (refine wpList_reads (by rfl) (kr_load_cell K _ _ (by rfl) (by rfl) Has.auto (by decide +kernel) (if_rest _)) ?_) | (refine wpList_reads (by rfl) (kr_load_cell K _ _ (by rfl) (by rfl) Has.auto (by decide +kernel) (if_from _)) ?_) | (refine wpList_reads (by rfl) (kr_load_cell K _ _ (by rfl) (by rfl) Has.auto (by decide +kernel) (if_r _)) ?_) | (refine wpList_reads (by rfl) (kr_load_cell K _ _ (by rfl) (by rfl) Has.auto (by decide +kernel) (if_next _)) ?_) | (refine wpList_reads (by rfl) (kr_load_cell K _ _ (by rfl) (by rfl) Has.auto (by decide +kernel) (if_last _)) ?_) | (refine wpList_reads (by rfl) (kr_load_cell K _ _ (by rfl) (by rfl) Has.auto (by decide +kernel) (if_left _)) ?_) | (refine wpList_reads (by rfl) (kr_load_cell K _ _ (by rfl) (by rfl) Has.auto (by decide +kernel) (if_lit _)) ?_) | (refine wpList_reads (by rfl) (kr_load_cell K _ _ (by rfl) (by rfl) Has.auto (by decide +kernel) (if_dist _)) ?_) | (refine wpList_reads (by rfl) (kr_load_cell K _ _ (by rfl) (by rfl) Has.auto (by decide +kernel) (if_e _)) ?_)); (try dsimp only))))
  refine wp_region_GK (X := [row gx (ifC { x with R := A1, rn := x.rn + n, rc := c1, r := ptr' gr }) 53]) K Cov.auto (by kernel_rfl) (by kernel_rfl) (by kernel_rfl) (fun K hHeld => ?_)
  refine wpG_takeA 0 (v := ?_) ?_ hHeld ?_
  rotate_left
  · (intro w hS; (clear hS; go_simp); try with_reducible rfl)
  try simp only [Act.put, List.setIfInBounds_toArray, List.set_cons_zero, List.set_cons_succ]
  refine wpG_takeA 1 (v := ?_) ?_ hHeld ?_
  rotate_left
  · (intro w hS; (clear hS; go_simp); try with_reducible rfl)
  try simp only [Act.put, List.setIfInBounds_toArray, List.set_cons_zero, List.set_cons_succ]
  refine wpG_takeA 2 (v := ?_) ?_ hHeld ?_
  rotate_left
  · (intro w hS; (clear hS; go_simp); try with_reducible rfl)
  try simp only [Act.put, List.setIfInBounds_toArray, List.set_cons_zero, List.set_cons_succ]
  refine wpG_takeA 3 (v := ptr' gr) ?_ hHeld ?_
  · (intro w hS; first | exact kr_load_cell hS _ _ (by rfl) (by rfl) Has.auto (by kernel_rfl) (if_r _))
  try simp only [Act.put, List.setIfInBounds_toArray, List.set_cons_zero, List.set_cons_succ]
  refine wpG_takeA 4 (v := ?_) ?_ hHeld ?_
  rotate_left
  · (intro w hS; (clear hS; go_simp); try with_reducible rfl)
  try simp only [Act.put, List.setIfInBounds_toArray, List.set_cons_zero, List.set_cons_succ]
  refine wpG_takeA 5 (v := ?_) ?_ hHeld ?_
  rotate_left
  · (intro w hS; (clear hS; go_simp); try with_reducible rfl)
  try simp only [Act.put, List.setIfInBounds_toArray, List.set_cons_zero, List.set_cons_succ]
  refine wpG_takeA 6 (v := ?_) ?_ hHeld ?_
  rotate_left
  · (intro w hS; (clear hS; go_simp); try with_reducible rfl)
  try simp only [Act.put, List.setIfInBounds_toArray, List.set_cons_zero, List.set_cons_succ]
  refine wpG_takeA 7 (v := .int .i64 (fr : Nat)) ?_ hHeld ?_
  · (intro w hS; first | exact kr_load_cell hS _ _ (by rfl) (by rfl) Has.auto (by kernel_rfl) (congrArg (fun v => some (Value.int .i64 v)) HF.out))
  try simp only [Act.put, List.setIfInBounds_toArray, List.set_cons_zero, List.set_cons_succ]
  refine wpG_lastA 8 (fun K9 hK => ?_)
  go_simp
  (go_at_call 25; (with_reducible refine (rseek_any (K.pickS (by repeat (first | with_reducible exact Sel.nil _ | with_reducible exact Sel.ap _ _ | with_reducible exact Sel.hd _ _ | with_reducible exact Sel.all _ | with_reducible apply Sel.tl | with_reducible apply Sel.sk))) hR fr (by omega)).mono ?_); clear K; rintro e w1 ⟨rfl, X2, hR2, K⟩)
  refine hK.out _ _ ?_
  clear hK K9
  try simp only [Act.put, List.setIfInBounds_toArray, List.set_cons_zero, List.set_cons_succ]
  skip
  go_upto_region 8 with (fail)
  go_loopg [] k0 (fun d wr => ∃ (k : Nat) (x1 : Ifl) (Z E : List Ent), (St gr k x1 Z ∧ 0 < k ∧ k ≤ d ∧ x1.R = A1 ∧ x1.rn = x.rn + n ∧ x1.rc = c1) ∧ Known w0 wr (row gx (ifC x1) 53 :: (Z ++ (X1 ++ (L ++ E)))))
  case atStart =>
    refine ⟨k0, _, _, [], ⟨h0 gr A1 c1 X2 hR2, HK.out, Nat.le_refl _, rfl, rfl, rfl⟩, ?_⟩
    rw [List.append_nil, List.append_assoc]
    exact K.cov Cov.auto
  case round =>
    clear K
    obtain ⟨k, x1, Z, E, ⟨hs, hk0, hkd, hA, hB1, hC⟩, K⟩ := hrel
    by_cases h1 : 1 < k
    · have HO := Lib.hid (H.on gr k x1 Z)
      obtain ⟨f, hnf⟩ := (HO.out _ _ hs h1 K).1
      go_wp2_with (first | (((with_reducible refine at_load rfl ?_); first | (refine wpList_reads (by rfl) (kr_load_cell K _ _ (by rfl) (by rfl) Has.auto (by decide +kernel) (if_most _)) ?_) | (refine wpList_reads (by rfl) (kr_load_cell K _ _ (by rfl) (by rfl) Has.auto (by decide +kernel) (if_out _)) ?_) | (refine wpList_reads (by rfl) (kr_load_cell K _ _ (by rfl) (by rfl) Has.auto (by decide +kernel) (if_rest _)) ?_) | (refine wpList_reads (by rfl) (kr_load_cell K _ _ (by rfl) (by rfl) Has.auto (by decide +kernel) (if_from _)) ?_) | (refine wpList_reads (by rfl) (kr_load_cell K _ _ (by rfl) (by rfl) Has.auto (by decide +kernel) (if_r _)) ?_) | (refine wpList_reads (by rfl) (kr_load_cell K _ _ (by rfl) (by rfl) Has.auto (by decide +kernel) (if_next _)) ?_) | (refine wpList_reads (by rfl) (kr_load_cell K _ _ (by rfl) (by rfl) Has.auto (by decide +kernel) (if_last _)) ?_) | (refine wpList_reads (by rfl) (kr_load_cell K _ _ (by rfl) (by rfl) Has.auto (by decide +kernel) (if_left _)) ?_) | (refine wpList_reads (by rfl) (kr_load_cell K _ _ (by rfl) (by rfl) Has.auto (by decide +kernel) (if_lit _)) ?_) | (refine wpList_reads (by rfl) (kr_load_cell K _ _ (by rfl) (by rfl) Has.auto (by decide +kernel) (if_dist _)) ?_) | (refine wpList_reads (by rfl) (kr_load_cell K _ _ (by rfl) (by rfl) Has.auto (by decide +kernel) (if_e _)) ?_)); (try dsimp only)) | ((with_reducible refine at_bin (b := .neq) (t := 50) rfl ?_); refine wpList_reads (by rfl) (kr_fn (by rfl) (hnf) st_neq_fn (.inr rfl)) ?_) | (go_at_call 26; (with_reducible refine ((HO.out _ _ hs h1 K).2).mono ?_); clear K; rintro e w1 ⟨rfl, x2, Z2, E2, ⟨hs2, hA2, hB2, hC2⟩, K⟩; simp only [List.append_assoc] at K))
      go_roundg (gk - 1)
      case measure => omega
      case rel => exact ⟨k - 1, x2, Z2, E ++ E2, ⟨hs2, by omega, by omega, by rw [hA2, hA], by rw [hB2, hB1], by rw [hC2, hC]⟩, K.cov Cov.auto⟩
    · obtain rfl : k = 1 := by omega
      have HO := Lib.hid (H.off gr x1 Z)
      obtain ⟨f, hnf⟩ := (HO.out _ _ hs K).1
      have HX1 : RdS w0 X1 .u8 A1 (x.rn + n) (rs ++ ys) := RdS.own (by simpa using O1) (Seg.all X1)
      have HL9 := Lib.hid (show 8 * ((rs ++ ys).length : Int) - ((8 * (rs ++ ys).length : Nat) : Int) = 0 by omega)
      have HQ8 := Lib.hid (show 8 * (rs ++ ys).length / 8 = x.rn + n by omega)
      have HR8 := Lib.hid (show 8 * (rs ++ ys).length % 8 = 0 by omega)
      have hle1 := O1.le
      have HU8 := Lib.hid (show 8 * (rs ++ ys).length ≤ 9000000000000000000 by omega)
      go_wp2_with (first | (((with_reducible refine at_load rfl ?_); first | (refine wpList_reads (by rfl) (kr_load_cell K _ _ (by rfl) (by rfl) Has.auto (by decide +kernel) (if_most _)) ?_) | (refine wpList_reads (by rfl) (kr_load_cell K _ _ (by rfl) (by rfl) Has.auto (by decide +kernel) (if_out _)) ?_) | (refine wpList_reads (by rfl) (kr_load_cell K _ _ (by rfl) (by rfl) Has.auto (by decide +kernel) (if_rest _)) ?_) | (refine wpList_reads (by rfl) (kr_load_cell K _ _ (by rfl) (by rfl) Has.auto (by decide +kernel) (if_from _)) ?_) | (refine wpList_reads (by rfl) (kr_load_cell K _ _ (by rfl) (by rfl) Has.auto (by decide +kernel) (if_r _)) ?_) | (refine wpList_reads (by rfl) (kr_load_cell K _ _ (by rfl) (by rfl) Has.auto (by decide +kernel) (if_next _)) ?_) | (refine wpList_reads (by rfl) (kr_load_cell K _ _ (by rfl) (by rfl) Has.auto (by decide +kernel) (if_last _)) ?_) | (refine wpList_reads (by rfl) (kr_load_cell K _ _ (by rfl) (by rfl) Has.auto (by decide +kernel) (if_left _)) ?_) | (refine wpList_reads (by rfl) (kr_load_cell K _ _ (by rfl) (by rfl) Has.auto (by decide +kernel) (if_lit _)) ?_) | (refine wpList_reads (by rfl) (kr_load_cell K _ _ (by rfl) (by rfl) Has.auto (by decide +kernel) (if_dist _)) ?_) | (refine wpList_reads (by rfl) (kr_load_cell K _ _ (by rfl) (by rfl) Has.auto (by decide +kernel) (if_e _)) ?_)); (try dsimp only)) | (go_at_call 26; (with_reducible refine ((HO.out _ _ hs K).2).mono ?_); clear K; rintro e w1 ⟨rfl, x2, Xr2, Z2, E2, ⟨hf2, hA2, hB2, hC2, hnx2, he2, hr2, hR2⟩, K⟩; have HA2 := hA2.trans hA; have HB2 := hB2.trans hB1; have HC2 := hC2.trans hC; have hR2 := Lib.hid hR2; simp only [List.append_assoc] at K) | ((with_reducible refine at_bin (b := .neq) (t := 50) rfl ?_); refine wpList_reads (by rfl) (kr_fn (by rfl) (hnf) st_neq_fn (.inr rfl)) ?_) | ((with_reducible refine at_bin (b := .eql) (t := 50) rfl ?_); refine wpList_reads (by rfl) (kr_fn (by rfl) hnx2 st_eql_nil (.inl rfl)) ?_) | (go_at_call 27; (with_reducible refine (rleft_any (K.pickS (by repeat (first | with_reducible exact Sel.nil _ | with_reducible exact Sel.ap _ _ | with_reducible exact Sel.hd _ _ | with_reducible exact Sel.all _ | with_reducible apply Sel.tl | with_reducible apply Sel.sk))) hR2.out _ HL9.out).mono ?_); clear K; rintro e w1 ⟨rfl, K⟩) | (go_at_call 28; (with_reducible refine (rat_any (K.pickS (by repeat (first | with_reducible exact Sel.nil _ | with_reducible exact Sel.ap _ _ | with_reducible exact Sel.hd _ _ | with_reducible exact Sel.all _ | with_reducible apply Sel.tl | with_reducible apply Sel.sk))) hR2.out).mono ?_); clear K; rintro e w1 ⟨rfl, K⟩) | ((with_reducible refine at_slot (N := 92) rfl ?_); refine wpList_reads (by rfl) (kr_quo8 (by rfl) (by rfl) (by rfl) HU8.out HQ8.out) ?_) | ((with_reducible refine at_slot (N := 96) rfl ?_); refine wpList_reads (by rfl) (kr_rem8 (by rfl) (by rfl) (by rfl) HU8.out HR8.out) ?_) | ((with_reducible refine at_slice (l := some _) (h := none) rfl ?_); refine wpList_does rfl (kd_slice K rfl rfl (x.rn + n) (x.rn + n) (.inr rfl) (.inl ⟨rfl, rfl⟩) (HX1.cov Cov.auto) (by omega) (by omega) (by omega) Try.underlying22 (by kernel_rfl)) ?_; rintro _ w1 ⟨rfl, B3, rfl, R3⟩; (try simp only [Nat.sub_zero, List.drop_zero] at R3); have R0 : RdS w0 X1 .u8 B3 0 [] := (by simpa using R3)) | (((with_reducible refine at_store rfl ?_); first | (refine wpList_does (by rfl) (kd_store_cell K _ _ _ (by rfl) (by rfl) (by conv => lhs; whnf) Repl.auto (by rfl) (by rfl) (by decide +kernel) (by rfl) (if_s_out _ _ _ _)) ?_) | (refine wpList_does (by rfl) (kd_store_cell K _ _ _ (by rfl) (by rfl) (by conv => lhs; whnf) Repl.auto (by rfl) (by rfl) (by decide +kernel) (by rfl) (if_s_rest _ _ _ _)) ?_) | (refine wpList_does (by rfl) (kd_store_cell K _ _ _ (by rfl) (by rfl) (by conv => lhs; whnf) Repl.auto (by rfl) (by rfl) (by decide +kernel) (by rfl) (if_s_from _ _)) ?_) | (refine wpList_does (by rfl) (kd_store_cell K _ _ _ (by rfl) (by rfl) (by conv => lhs; whnf) Repl.auto (by rfl) (by rfl) (by decide +kernel) (by rfl) (if_s_r _ _)) ?_) | (refine wpList_does (by rfl) (kd_store_cell K _ _ _ (by rfl) (by rfl) (by conv => lhs; whnf) Repl.auto (by rfl) (by rfl) (by decide +kernel) (by rfl) (if_s_next _ _)) ?_) | (refine wpList_does (by rfl) (kd_store_cell K _ _ _ (by rfl) (by rfl) (by conv => lhs; whnf) Repl.auto (by rfl) (by rfl) (by decide +kernel) (by rfl) (if_s_last _ _)) ?_) | (refine wpList_does (by rfl) (kd_store_cell K _ _ _ (by rfl) (by rfl) (by conv => lhs; whnf) Repl.auto (by rfl) (by rfl) (by decide +kernel) (by rfl) (if_s_left _ _)) ?_) | (refine wpList_does (by rfl) (kd_store_cell K _ _ _ (by rfl) (by rfl) (by conv => lhs; whnf) Repl.auto (by rfl) (by rfl) (by decide +kernel) (by rfl) (if_s_lit _ _)) ?_) | (refine wpList_does (by rfl) (kd_store_cell K _ _ _ (by rfl) (by rfl) (by conv => lhs; whnf) Repl.auto (by rfl) (by rfl) (by decide +kernel) (by rfl) (if_s_dist _ _)) ?_) | (refine wpList_does (by rfl) (kd_store_cell K _ _ _ (by rfl) (by rfl) (by conv => lhs; whnf) Repl.auto (by rfl) (by rfl) (by decide +kernel) (by rfl) (if_s_e _ _)) ?_)); clear K; intro _ w1 K; (try dsimp only at K)) | (go_at_call 29; (with_reducible refine (clone_any K (R0.cov Cov.auto) (by omega)).mono ?_); clear K; rintro e w1 ⟨A4, c4, X4, rfl, O4, K⟩))
      go_ret
      exact ⟨rfl, x2, Z2, A4, c4, X4, hf2, K.cov Cov.auto⟩
end
end Go.Proofs.Ytemnahimheffgaa
