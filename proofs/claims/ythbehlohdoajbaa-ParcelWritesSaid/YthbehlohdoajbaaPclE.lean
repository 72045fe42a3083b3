/-
  parcel, drogherref23: a chunk's row, its writing (contracts).
-/
import Derived.Test.YthbehlohdoajbaaPclA
set_option linter.unusedVariables false
set_option linter.unusedSimpArgs false
namespace Go.Proofs.Ythbehlohdoajbaa
open Go.RowKit
theorem u8s_oneE (xs : List Int) : (u8s xs).all (·.oneCell') = true := by simp [u8s, Value.oneCell']
/-- a chunk's row -/
def rowL (blk : Int) (pay : List Int) : List Int := beN 4 (IntKind.u64.wrap blk) ++ pay
def putOK (blk : Int) (wn pn : Nat) : Bool := decide (0 ≤ blk) && (decide (blk ≤ 4095) && (decide (wn ≤ 255) && decide (pn ≤ 65535)))
/-- a chunk's writing, ahead of its way -/
def putH (blk : Int) (wn pn : Nat) : List Int := beN 4 blk ++ beN 4 (pn : Int) ++ [(wn : Int)]
def putL (blk : Int) (way : List (List Int)) (pay : List Int) (wn pn : Nat) : List Int := putH blk wn pn ++ way.flatten ++ pay
theorem putOK_yes {blk : Int} {wn pn : Nat} (h : putOK blk wn pn = true) : (0 ≤ blk ∧ blk ≤ 4095) ∧ wn ≤ 255 ∧ pn ≤ 65535 := by
  simp only [putOK, Bool.and_eq_true, decide_eq_true_eq] at h
  omega
theorem u8s_all32 {d : List Int} (h : d.length = 32) : ((u8s d).toList.drop 0).take 32 = d.map (Value.int .u8) := by
  rw [List.drop_zero, List.take_of_length_le (by simp [u8s, h])]
  simp [u8s]
theorem kr_load_D {P : Program} {o : Oper} {a : Act} {w0 W : World} {L : List Ent} (K : Known w0 W L) (ty : TypeId) (x : Operand) (ho : o.op = .load ty x) {b off q n : Nat} {m : List (List Int)} (j : Nat) (r : List Int) (hx : a.eval x = .pointer (some ⟨b, q, none⟩)) (hR : RdM w0 L dgL 32 (some ⟨b, off, none⟩) n m) (hj : j < n) (he : encAt dgL m j = dgL r) (hq : q = off + j * 32) (hu : aggB P ty = true) (hi : sizeIs P ty 32 = true) (hl : r.length = 32) :
    (execOp a.eval o).run P W = .ok (.value (.agg (u8s r))) W := kr_load_rec K ty x ho j (dgL r) hx hR hj he hq hu hi (by simpa [dgL] using hl)
theorem RdM.digest {w0 w : World} {L : List Ent} {b off n : Nat} {m : List (List Int)} (h : RdM w0 L dgL 32 (some ⟨b, off, none⟩) n m) (K : Known w0 w L) {j : Nat} {d : List Int} (hj : j < n) (hd : m[j]? = some d) (hl : d.length = 32) : Rd w .u8 (some ⟨b, off + j * 32, none⟩) 32 d := by
  refine ⟨hl, fun i hi => ⟨b, off + j * 32, rfl, ?_⟩⟩
  obtain ⟨b', off', e, hc⟩ := h.rd.at_ w K j hj
  injection e with e
  injection e with e1 e2
  subst e1 e2
  refine hc i _ ?_
  rw [encAt, hd]
  simp only [Option.map_some, Option.getD_some, dgL]
  rw [List.getElem?_map, List.getElem?_eq_getElem (by omega)]
  simp [List.getD, List.getElem?_eq_getElem (show i < d.length by omega)]

section
variable {w0 w : World} {L : List Ent} {blk : Int} {W P : Option Addr} {wn wc pn pc : Nat} {way : List (List Int)} {pay : List Int}
set_option maxRecDepth 100000 in
theorem prow_any (K : Known w0 w L) (RP : RdS w0 L .u8 P pn pay) (hpn : pn ≤ 70000) : Calls Try.prog 19 #[.agg #[.int .i64 blk, .slice W wn wc, .slice P pn pc]] w fun e w' => ∃ A' c', e = .returned (.slice A' (4 + pn) c') ∧ ∃ X, OwnL 5 1 A' (4 + pn) c' ((rowL blk pay).map (Value.int .u8)) X ∧ Known w0 w' (X ++ L) := by
  go_enter Try.func19, Try.ntmps19
  go_upto_region 1 with ((first | ((with_reducible refine at_slot (N := 1) rfl ?_); (with_reducible refine at_box rfl ?_); refine wpList_does rfl (kd_box K _ _ rfl (by conv => lhs; whnf)) ?_; clear K; rintro _ w1 ⟨g, rfl, K⟩; (try dsimp only [Value.cells] at K))))
  refine wp_region_GK (X := [row g #[.int .i64 blk, .slice W wn wc, .slice P pn pc] 38]) K Cov.auto (by kernel_rfl) (by kernel_rfl) (by kernel_rfl) (fun K hHeld => ?_)
  refine wpG_takeA 0 (v := ?_) ?_ hHeld ?_
  rotate_left
  · (intro w hS; (clear hS; go_simp); try with_reducible rfl)
  try simp only [Act.put, List.setIfInBounds_toArray, List.set_cons_zero, List.set_cons_succ]
  refine wpG_takeA 1 (v := .int .i64 blk) ?_ hHeld ?_
  · (intro w hS; first | exact kr_load_cell hS _ _ (by rfl) (by rfl) Has.auto (by kernel_rfl) (by rfl))
  try simp only [Act.put, List.setIfInBounds_toArray, List.set_cons_zero, List.set_cons_succ]
  refine wpG_takeA 2 (v := ?_) ?_ hHeld ?_
  rotate_left
  · (intro w hS; (clear hS; go_simp); try with_reducible rfl)
  try simp only [Act.put, List.setIfInBounds_toArray, List.set_cons_zero, List.set_cons_succ]
  refine wpG_takeA 4 (v := ?_) ?_ hHeld ?_
  rotate_left
  · (intro w hS; (clear hS; go_simp); try with_reducible rfl)
  try simp only [Act.put, List.setIfInBounds_toArray, List.set_cons_zero, List.set_cons_succ]
  refine wpG_takeA 5 (v := .slice P pn pc) ?_ hHeld ?_
  · (intro w hS; first | exact kr_load_cell hS _ _ (by rfl) (by rfl) Has.auto (by kernel_rfl) (by rfl))
  try simp only [Act.put, List.setIfInBounds_toArray, List.set_cons_zero, List.set_cons_succ]
  refine wpG_oneA 3 (fun K9 hK => ?_)
  go_simp
  (go_at_call 34; (with_reducible refine (putK 4 _ 4 K (RdS.nil _ _ _ _) (by omega) rfl (by omega) (by omega)).mono ?_); clear K; rintro e w1 ⟨A1, c1, X1, rfl, O, K⟩)
  refine hK.out _ _ (K.cov Cov.auto) (fun hHeld => ?_)
  clear hK K9
  try simp only [Act.put, List.setIfInBounds_toArray, List.set_cons_zero, List.set_cons_succ]
  refine wpG_oneA 6 (fun K9 hK => ?_)
  refine st_does (by rfl) (kd_appendN K _ _ (by rfl) (by rfl) (by rfl) (by with_reducible assumption) Seg.auto ((RP.cov Cov.auto).at_ _ K) (by kernel_rfl) (by kernel_rfl) (by omega)) ?_
  clear K; rintro _ w1 ⟨A1, c1, X1, rfl, O, K⟩; (try simp only [Nat.zero_add, List.nil_append] at O)
  refine hK.out _ _ (K.cov Cov.auto) (fun hHeld => ?_)
  clear hK K9
  try simp only [Act.put, List.setIfInBounds_toArray, List.set_cons_zero, List.set_cons_succ]
  refine wpG_takeA 7 (v := ?_) ?_ hHeld ?_
  rotate_left
  · (intro w hS; (clear hS; go_simp); try with_reducible rfl)
  try simp only [Act.put, List.setIfInBounds_toArray, List.set_cons_zero, List.set_cons_succ]
  refine wpG_done (by kernel_rfl) ?_
  skip
  go_wp2
  go_ret
  exact ⟨A1, c1, by simp, X1, by simpa [rowL] using O, K.cov Cov.auto⟩
set_option maxRecDepth 100000 in
theorem rrow_any (K : Known w0 w L) (RP : RdS w0 L .u8 P pn pay) (hpn : pn ≤ 70000) : Calls Try.prog 20 #[.agg #[.int .i64 blk, .slice W wn wc, .slice P pn pc]] w fun e w' => ∃ A' c', e = .returned (.slice A' (4 + pn) c') ∧ ∃ X, OwnL 5 1 A' (4 + pn) c' ((rowL blk pay).map (Value.int .u8)) X ∧ Known w0 w' (X ++ L) := by
  go_enter Try.func20, Try.ntmps20
  go_wp2_with (first | ((with_reducible refine at_slot (N := 1) rfl ?_); (with_reducible refine at_box rfl ?_); refine wpList_does rfl (kd_box K _ _ rfl (by conv => lhs; whnf)) ?_; clear K; rintro _ w1 ⟨g, rfl, K⟩; (try dsimp only [Value.cells] at K)) | ((with_reducible refine at_buildSlice (n := 0) rfl ?_); refine wpList_does rfl (kd_lit0 K _ 5 1 rfl Try.underlying22 (by kernel_rfl)) ?_; clear K; rintro _ w1 ⟨g0, rfl, K⟩; have O : OwnL 5 1 (some ⟨g0, 0, none⟩) 0 0 (([] : List Int).map (Value.int .u8)) [row g0 #[] 5] := OwnL.lit0 _ _) | ((with_reducible refine at_eqnil rfl ?_); refine wpList_reads rfl (kr_eqnil rfl rfl (by kernel_rfl)) ?_) | ((with_reducible refine at_box rfl ?_); refine wpList_does rfl (kd_box K _ _ rfl (by conv => lhs; whnf)) ?_; clear K; rintro _ w1 ⟨g, rfl, K⟩; (try dsimp only [Value.cells] at K)) | ((with_reducible refine at_alloc rfl ?_); refine wpList_does rfl (kd_alloc K _ rfl rfl) ?_; clear K; rintro _ w1 ⟨g, rfl, K⟩; (try dsimp only [Value.cells] at K)) | ((with_reducible refine at_buildSlice rfl ?_); refine wpList_does rfl (kd_lits (cs := _) K _ _ _ rfl (by first | rfl | (go_simp; done) | (go_simp; rfl)) (by first | rfl | (go_simp; done) | (go_simp; rfl))) ?_; clear K; rintro _ w1 ⟨g, rfl, K⟩) | ((with_reducible refine at_load rfl ?_); first | (refine wpList_reads (by rfl) (kr_load_cell K _ _ (by rfl) (by rfl) Has.auto (by decide +kernel) (by (try simp only [List.getElem?_toArray, List.getElem?_cons_succ, List.getElem?_cons_zero]); exact rfl)) ?_) | (refine wpList_reads (by rfl) (kr_load_row K _ _ (by rfl) (by rfl) Has.auto (by decide +kernel) (by kernel_rfl)) ?_)) | ((with_reducible refine at_store rfl ?_); (first | (refine wpList_does rfl (kd_store_cell K _ _ _ rfl rfl (by conv => lhs; whnf) Repl.auto rfl rfl (by kernel_rfl) (by kernel_rfl) (by first | (simp only [List.setIfInBounds_toArray, List.set_cons_succ, List.set_cons_zero]; rfl) | rfl)) ?_) | (refine wpList_does rfl (kd_store_row K _ _ _ rfl rfl rfl Repl.auto (by kernel_rfl) (by kernel_rfl) (by kernel_rfl)) ?_)); clear K; intro _ w1 K; (try simp only [Act.put])) | (go_at_call 35; (with_reducible refine (rputoK 4 _ 4 K (RdS.own O Seg.auto) (by omega) rfl (by omega) (by omega)).mono ?_); clear K; rintro e w1 ⟨A1, c1, X1, rfl, O2, K⟩) | (at_builtin; refine wpList_does rfl (kd_appendN K _ _ rfl rfl rfl (by with_reducible assumption) Seg.auto ((RP.cov Cov.auto).at_ _ K) (by kernel_rfl) (by kernel_rfl) (by omega)) ?_; clear K; rintro _ w1 ⟨A2, c2, X2, rfl, O3, K⟩; (try simp only [Nat.zero_add, List.nil_append] at O3)))
  go_ret
  exact ⟨A2, c2, rfl, X2, by simpa [rowL] using O3, K.cov Cov.auto⟩

set_option maxRecDepth 100000 in
theorem pput_no (K : Known w0 w L) (h : putOK blk wn pn = false) : Calls Try.prog 17 #[.agg #[.int .i64 blk, .slice W wn wc, .slice P pn pc]] w fun e w' => e = .returned (.tuple #[.slice none 0 0, .int .i64 3]) ∧ Known w0 w' L := by
  have c1 : blk < 0 ∨ (¬ blk < 0 ∧ (4096 ≤ blk ∨ (¬ 4096 ≤ blk ∧ (255 < (wn : Int) ∨ (¬ 255 < (wn : Int) ∧ 65535 < (pn : Int)))))) := by
    simp only [putOK, Bool.and_eq_false_iff, decide_eq_false_iff_not] at h
    omega
  clear h
  rcases c1 with c1 | ⟨c1, c2 | ⟨c2, c3 | ⟨c3, c4⟩⟩⟩
  · have d1 : decide (blk < 0) = true := decide_eq_true c1
    go_enter Try.func17, Try.ntmps17
    go_wp2_with (first | ((with_reducible refine at_slot (N := 1) rfl ?_); (with_reducible refine at_box rfl ?_); refine wpList_does rfl (kd_box K _ _ rfl (by conv => lhs; whnf)) ?_; clear K; rintro _ w1 ⟨g, rfl, K⟩; (try dsimp only [Value.cells] at K)) | ((with_reducible refine at_eqnil rfl ?_); refine wpList_reads rfl (kr_eqnil rfl rfl (by kernel_rfl)) ?_) | ((with_reducible refine at_box rfl ?_); refine wpList_does rfl (kd_box K _ _ rfl (by conv => lhs; whnf)) ?_; clear K; rintro _ w1 ⟨g, rfl, K⟩; (try dsimp only [Value.cells] at K)) | ((with_reducible refine at_alloc rfl ?_); refine wpList_does rfl (kd_alloc K _ rfl rfl) ?_; clear K; rintro _ w1 ⟨g, rfl, K⟩; (try dsimp only [Value.cells] at K)) | ((with_reducible refine at_buildSlice rfl ?_); refine wpList_does rfl (kd_lits (cs := _) K _ _ _ rfl (by first | rfl | (go_simp; done) | (go_simp; rfl)) (by first | rfl | (go_simp; done) | (go_simp; rfl))) ?_; clear K; rintro _ w1 ⟨g, rfl, K⟩) | ((with_reducible refine at_load rfl ?_); first | (refine wpList_reads (by rfl) (kr_load_cell K _ _ (by rfl) (by rfl) Has.auto (by decide +kernel) (by (try simp only [List.getElem?_toArray, List.getElem?_cons_succ, List.getElem?_cons_zero]); exact rfl)) ?_) | (refine wpList_reads (by rfl) (kr_load_row K _ _ (by rfl) (by rfl) Has.auto (by decide +kernel) (by kernel_rfl)) ?_)) | ((with_reducible refine at_store rfl ?_); (first | (refine wpList_does rfl (kd_store_cell K _ _ _ rfl rfl (by conv => lhs; whnf) Repl.auto rfl rfl (by kernel_rfl) (by kernel_rfl) (by first | (simp only [List.setIfInBounds_toArray, List.set_cons_succ, List.set_cons_zero]; rfl) | rfl)) ?_) | (refine wpList_does rfl (kd_store_row K _ _ _ rfl rfl rfl Repl.auto (by kernel_rfl) (by kernel_rfl) (by kernel_rfl)) ?_)); clear K; intro _ w1 K; (try simp only [Act.put])))
    go_ret2
    exact ⟨rfl, K.cov Cov.auto⟩
  · have d1 : decide (blk < 0) = false := decide_eq_false c1
    have d2 : decide (4096 ≤ blk) = true := decide_eq_true c2
    have d3 : decide (4095 < blk) = true := decide_eq_true (by omega)
    go_enter Try.func17, Try.ntmps17
    go_wp2_with (first | ((with_reducible refine at_slot (N := 1) rfl ?_); (with_reducible refine at_box rfl ?_); refine wpList_does rfl (kd_box K _ _ rfl (by conv => lhs; whnf)) ?_; clear K; rintro _ w1 ⟨g, rfl, K⟩; (try dsimp only [Value.cells] at K)) | ((with_reducible refine at_eqnil rfl ?_); refine wpList_reads rfl (kr_eqnil rfl rfl (by kernel_rfl)) ?_) | ((with_reducible refine at_box rfl ?_); refine wpList_does rfl (kd_box K _ _ rfl (by conv => lhs; whnf)) ?_; clear K; rintro _ w1 ⟨g, rfl, K⟩; (try dsimp only [Value.cells] at K)) | ((with_reducible refine at_alloc rfl ?_); refine wpList_does rfl (kd_alloc K _ rfl rfl) ?_; clear K; rintro _ w1 ⟨g, rfl, K⟩; (try dsimp only [Value.cells] at K)) | ((with_reducible refine at_buildSlice rfl ?_); refine wpList_does rfl (kd_lits (cs := _) K _ _ _ rfl (by first | rfl | (go_simp; done) | (go_simp; rfl)) (by first | rfl | (go_simp; done) | (go_simp; rfl))) ?_; clear K; rintro _ w1 ⟨g, rfl, K⟩) | ((with_reducible refine at_load rfl ?_); first | (refine wpList_reads (by rfl) (kr_load_cell K _ _ (by rfl) (by rfl) Has.auto (by decide +kernel) (by (try simp only [List.getElem?_toArray, List.getElem?_cons_succ, List.getElem?_cons_zero]); exact rfl)) ?_) | (refine wpList_reads (by rfl) (kr_load_row K _ _ (by rfl) (by rfl) Has.auto (by decide +kernel) (by kernel_rfl)) ?_)) | ((with_reducible refine at_store rfl ?_); (first | (refine wpList_does rfl (kd_store_cell K _ _ _ rfl rfl (by conv => lhs; whnf) Repl.auto rfl rfl (by kernel_rfl) (by kernel_rfl) (by first | (simp only [List.setIfInBounds_toArray, List.set_cons_succ, List.set_cons_zero]; rfl) | rfl)) ?_) | (refine wpList_does rfl (kd_store_row K _ _ _ rfl rfl rfl Repl.auto (by kernel_rfl) (by kernel_rfl) (by kernel_rfl)) ?_)); clear K; intro _ w1 K; (try simp only [Act.put])))
    go_ret2
    exact ⟨rfl, K.cov Cov.auto⟩
  · have d1 : decide (blk < 0) = false := decide_eq_false c1
    have d2 : decide (4096 ≤ blk) = false := decide_eq_false c2
    have d3 : decide (4095 < blk) = false := decide_eq_false (by omega)
    go_enter Try.func17, Try.ntmps17
    go_wp2_with (first | ((with_reducible refine at_slot (N := 1) rfl ?_); (with_reducible refine at_box rfl ?_); refine wpList_does rfl (kd_box K _ _ rfl (by conv => lhs; whnf)) ?_; clear K; rintro _ w1 ⟨g, rfl, K⟩; (try dsimp only [Value.cells] at K)) | ((with_reducible refine at_eqnil rfl ?_); refine wpList_reads rfl (kr_eqnil rfl rfl (by kernel_rfl)) ?_) | ((with_reducible refine at_box rfl ?_); refine wpList_does rfl (kd_box K _ _ rfl (by conv => lhs; whnf)) ?_; clear K; rintro _ w1 ⟨g, rfl, K⟩; (try dsimp only [Value.cells] at K)) | ((with_reducible refine at_alloc rfl ?_); refine wpList_does rfl (kd_alloc K _ rfl rfl) ?_; clear K; rintro _ w1 ⟨g, rfl, K⟩; (try dsimp only [Value.cells] at K)) | ((with_reducible refine at_buildSlice rfl ?_); refine wpList_does rfl (kd_lits (cs := _) K _ _ _ rfl (by first | rfl | (go_simp; done) | (go_simp; rfl)) (by first | rfl | (go_simp; done) | (go_simp; rfl))) ?_; clear K; rintro _ w1 ⟨g, rfl, K⟩) | ((with_reducible refine at_load rfl ?_); first | (refine wpList_reads (by rfl) (kr_load_cell K _ _ (by rfl) (by rfl) Has.auto (by decide +kernel) (by (try simp only [List.getElem?_toArray, List.getElem?_cons_succ, List.getElem?_cons_zero]); exact rfl)) ?_) | (refine wpList_reads (by rfl) (kr_load_row K _ _ (by rfl) (by rfl) Has.auto (by decide +kernel) (by kernel_rfl)) ?_)) | ((with_reducible refine at_store rfl ?_); (first | (refine wpList_does rfl (kd_store_cell K _ _ _ rfl rfl (by conv => lhs; whnf) Repl.auto rfl rfl (by kernel_rfl) (by kernel_rfl) (by first | (simp only [List.setIfInBounds_toArray, List.set_cons_succ, List.set_cons_zero]; rfl) | rfl)) ?_) | (refine wpList_does rfl (kd_store_row K _ _ _ rfl rfl rfl Repl.auto (by kernel_rfl) (by kernel_rfl) (by kernel_rfl)) ?_)); clear K; intro _ w1 K; (try simp only [Act.put])))
    go_ret2
    exact ⟨rfl, K.cov Cov.auto⟩
  · have d1 : decide (blk < 0) = false := decide_eq_false c1
    have d2 : decide (4096 ≤ blk) = false := decide_eq_false c2
    have d3 : decide (4095 < blk) = false := decide_eq_false (by omega)
    go_enter Try.func17, Try.ntmps17
    go_wp2_with (first | ((with_reducible refine at_slot (N := 1) rfl ?_); (with_reducible refine at_box rfl ?_); refine wpList_does rfl (kd_box K _ _ rfl (by conv => lhs; whnf)) ?_; clear K; rintro _ w1 ⟨g, rfl, K⟩; (try dsimp only [Value.cells] at K)) | ((with_reducible refine at_eqnil rfl ?_); refine wpList_reads rfl (kr_eqnil rfl rfl (by kernel_rfl)) ?_) | ((with_reducible refine at_box rfl ?_); refine wpList_does rfl (kd_box K _ _ rfl (by conv => lhs; whnf)) ?_; clear K; rintro _ w1 ⟨g, rfl, K⟩; (try dsimp only [Value.cells] at K)) | ((with_reducible refine at_alloc rfl ?_); refine wpList_does rfl (kd_alloc K _ rfl rfl) ?_; clear K; rintro _ w1 ⟨g, rfl, K⟩; (try dsimp only [Value.cells] at K)) | ((with_reducible refine at_buildSlice rfl ?_); refine wpList_does rfl (kd_lits (cs := _) K _ _ _ rfl (by first | rfl | (go_simp; done) | (go_simp; rfl)) (by first | rfl | (go_simp; done) | (go_simp; rfl))) ?_; clear K; rintro _ w1 ⟨g, rfl, K⟩) | ((with_reducible refine at_load rfl ?_); first | (refine wpList_reads (by rfl) (kr_load_cell K _ _ (by rfl) (by rfl) Has.auto (by decide +kernel) (by (try simp only [List.getElem?_toArray, List.getElem?_cons_succ, List.getElem?_cons_zero]); exact rfl)) ?_) | (refine wpList_reads (by rfl) (kr_load_row K _ _ (by rfl) (by rfl) Has.auto (by decide +kernel) (by kernel_rfl)) ?_)) | ((with_reducible refine at_store rfl ?_); (first | (refine wpList_does rfl (kd_store_cell K _ _ _ rfl rfl (by conv => lhs; whnf) Repl.auto rfl rfl (by kernel_rfl) (by kernel_rfl) (by first | (simp only [List.setIfInBounds_toArray, List.set_cons_succ, List.set_cons_zero]; rfl) | rfl)) ?_) | (refine wpList_does rfl (kd_store_row K _ _ _ rfl rfl rfl Repl.auto (by kernel_rfl) (by kernel_rfl) (by kernel_rfl)) ?_)); clear K; intro _ w1 K; (try simp only [Act.put])))
    go_ret2
    exact ⟨rfl, K.cov Cov.auto⟩
set_option maxRecDepth 100000 in
theorem rpput_no (K : Known w0 w L) (h : putOK blk wn pn = false) : Calls Try.prog 18 #[.agg #[.int .i64 blk, .slice W wn wc, .slice P pn pc]] w fun e w' => (∃ g, e = .returned (.tuple #[.slice (some ⟨g, 0, none⟩) 0 0, .int .i64 3])) ∧ Known w0 w' L := by
  have c1 : blk < 0 ∨ (¬ blk < 0 ∧ (4096 ≤ blk ∨ (¬ 4096 ≤ blk ∧ (255 < (wn : Int) ∨ (¬ 255 < (wn : Int) ∧ 65535 < (pn : Int)))))) := by
    simp only [putOK, Bool.and_eq_false_iff, decide_eq_false_iff_not] at h
    omega
  clear h
  rcases c1 with c1 | ⟨c1, c2 | ⟨c2, c3 | ⟨c3, c4⟩⟩⟩
  · have d1 : decide (blk < 0) = true := decide_eq_true c1
    go_enter Try.func18, Try.ntmps18
    go_wp2_with (first | ((with_reducible refine at_slot (N := 1) rfl ?_); (with_reducible refine at_box rfl ?_); refine wpList_does rfl (kd_box K _ _ rfl (by conv => lhs; whnf)) ?_; clear K; rintro _ w1 ⟨g, rfl, K⟩; (try dsimp only [Value.cells] at K)) | ((with_reducible refine at_buildSlice (n := 0) rfl ?_); refine wpList_does rfl (kd_lit0 K _ 5 1 rfl Try.underlying22 (by kernel_rfl)) ?_; clear K; rintro _ w1 ⟨g0, rfl, K⟩; have O : OwnL 5 1 (some ⟨g0, 0, none⟩) 0 0 (([] : List Int).map (Value.int .u8)) [row g0 #[] 5] := OwnL.lit0 _ _) | ((with_reducible refine at_eqnil rfl ?_); refine wpList_reads rfl (kr_eqnil rfl rfl (by kernel_rfl)) ?_) | ((with_reducible refine at_box rfl ?_); refine wpList_does rfl (kd_box K _ _ rfl (by conv => lhs; whnf)) ?_; clear K; rintro _ w1 ⟨g, rfl, K⟩; (try dsimp only [Value.cells] at K)) | ((with_reducible refine at_alloc rfl ?_); refine wpList_does rfl (kd_alloc K _ rfl rfl) ?_; clear K; rintro _ w1 ⟨g, rfl, K⟩; (try dsimp only [Value.cells] at K)) | ((with_reducible refine at_buildSlice rfl ?_); refine wpList_does rfl (kd_lits (cs := _) K _ _ _ rfl (by first | rfl | (go_simp; done) | (go_simp; rfl)) (by first | rfl | (go_simp; done) | (go_simp; rfl))) ?_; clear K; rintro _ w1 ⟨g, rfl, K⟩) | ((with_reducible refine at_load rfl ?_); first | (refine wpList_reads (by rfl) (kr_load_cell K _ _ (by rfl) (by rfl) Has.auto (by decide +kernel) (by (try simp only [List.getElem?_toArray, List.getElem?_cons_succ, List.getElem?_cons_zero]); exact rfl)) ?_) | (refine wpList_reads (by rfl) (kr_load_row K _ _ (by rfl) (by rfl) Has.auto (by decide +kernel) (by kernel_rfl)) ?_)) | ((with_reducible refine at_store rfl ?_); (first | (refine wpList_does rfl (kd_store_cell K _ _ _ rfl rfl (by conv => lhs; whnf) Repl.auto rfl rfl (by kernel_rfl) (by kernel_rfl) (by first | (simp only [List.setIfInBounds_toArray, List.set_cons_succ, List.set_cons_zero]; rfl) | rfl)) ?_) | (refine wpList_does rfl (kd_store_row K _ _ _ rfl rfl rfl Repl.auto (by kernel_rfl) (by kernel_rfl) (by kernel_rfl)) ?_)); clear K; intro _ w1 K; (try simp only [Act.put])))
    go_ret2
    exact ⟨⟨g0, rfl⟩, K.cov Cov.auto⟩
  · have d1 : decide (blk < 0) = false := decide_eq_false c1
    have d2 : decide (4096 ≤ blk) = true := decide_eq_true c2
    have d3 : decide (4095 < blk) = true := decide_eq_true (by omega)
    go_enter Try.func18, Try.ntmps18
    go_wp2_with (first | ((with_reducible refine at_slot (N := 1) rfl ?_); (with_reducible refine at_box rfl ?_); refine wpList_does rfl (kd_box K _ _ rfl (by conv => lhs; whnf)) ?_; clear K; rintro _ w1 ⟨g, rfl, K⟩; (try dsimp only [Value.cells] at K)) | ((with_reducible refine at_buildSlice (n := 0) rfl ?_); refine wpList_does rfl (kd_lit0 K _ 5 1 rfl Try.underlying22 (by kernel_rfl)) ?_; clear K; rintro _ w1 ⟨g0, rfl, K⟩; have O : OwnL 5 1 (some ⟨g0, 0, none⟩) 0 0 (([] : List Int).map (Value.int .u8)) [row g0 #[] 5] := OwnL.lit0 _ _) | ((with_reducible refine at_eqnil rfl ?_); refine wpList_reads rfl (kr_eqnil rfl rfl (by kernel_rfl)) ?_) | ((with_reducible refine at_box rfl ?_); refine wpList_does rfl (kd_box K _ _ rfl (by conv => lhs; whnf)) ?_; clear K; rintro _ w1 ⟨g, rfl, K⟩; (try dsimp only [Value.cells] at K)) | ((with_reducible refine at_alloc rfl ?_); refine wpList_does rfl (kd_alloc K _ rfl rfl) ?_; clear K; rintro _ w1 ⟨g, rfl, K⟩; (try dsimp only [Value.cells] at K)) | ((with_reducible refine at_buildSlice rfl ?_); refine wpList_does rfl (kd_lits (cs := _) K _ _ _ rfl (by first | rfl | (go_simp; done) | (go_simp; rfl)) (by first | rfl | (go_simp; done) | (go_simp; rfl))) ?_; clear K; rintro _ w1 ⟨g, rfl, K⟩) | ((with_reducible refine at_load rfl ?_); first | (refine wpList_reads (by rfl) (kr_load_cell K _ _ (by rfl) (by rfl) Has.auto (by decide +kernel) (by (try simp only [List.getElem?_toArray, List.getElem?_cons_succ, List.getElem?_cons_zero]); exact rfl)) ?_) | (refine wpList_reads (by rfl) (kr_load_row K _ _ (by rfl) (by rfl) Has.auto (by decide +kernel) (by kernel_rfl)) ?_)) | ((with_reducible refine at_store rfl ?_); (first | (refine wpList_does rfl (kd_store_cell K _ _ _ rfl rfl (by conv => lhs; whnf) Repl.auto rfl rfl (by kernel_rfl) (by kernel_rfl) (by first | (simp only [List.setIfInBounds_toArray, List.set_cons_succ, List.set_cons_zero]; rfl) | rfl)) ?_) | (refine wpList_does rfl (kd_store_row K _ _ _ rfl rfl rfl Repl.auto (by kernel_rfl) (by kernel_rfl) (by kernel_rfl)) ?_)); clear K; intro _ w1 K; (try simp only [Act.put])))
    go_ret2
    exact ⟨⟨g0, rfl⟩, K.cov Cov.auto⟩
  · have d1 : decide (blk < 0) = false := decide_eq_false c1
    have d2 : decide (4096 ≤ blk) = false := decide_eq_false c2
    have d3 : decide (4095 < blk) = false := decide_eq_false (by omega)
    go_enter Try.func18, Try.ntmps18
    go_wp2_with (first | ((with_reducible refine at_slot (N := 1) rfl ?_); (with_reducible refine at_box rfl ?_); refine wpList_does rfl (kd_box K _ _ rfl (by conv => lhs; whnf)) ?_; clear K; rintro _ w1 ⟨g, rfl, K⟩; (try dsimp only [Value.cells] at K)) | ((with_reducible refine at_buildSlice (n := 0) rfl ?_); refine wpList_does rfl (kd_lit0 K _ 5 1 rfl Try.underlying22 (by kernel_rfl)) ?_; clear K; rintro _ w1 ⟨g0, rfl, K⟩; have O : OwnL 5 1 (some ⟨g0, 0, none⟩) 0 0 (([] : List Int).map (Value.int .u8)) [row g0 #[] 5] := OwnL.lit0 _ _) | ((with_reducible refine at_eqnil rfl ?_); refine wpList_reads rfl (kr_eqnil rfl rfl (by kernel_rfl)) ?_) | ((with_reducible refine at_box rfl ?_); refine wpList_does rfl (kd_box K _ _ rfl (by conv => lhs; whnf)) ?_; clear K; rintro _ w1 ⟨g, rfl, K⟩; (try dsimp only [Value.cells] at K)) | ((with_reducible refine at_alloc rfl ?_); refine wpList_does rfl (kd_alloc K _ rfl rfl) ?_; clear K; rintro _ w1 ⟨g, rfl, K⟩; (try dsimp only [Value.cells] at K)) | ((with_reducible refine at_buildSlice rfl ?_); refine wpList_does rfl (kd_lits (cs := _) K _ _ _ rfl (by first | rfl | (go_simp; done) | (go_simp; rfl)) (by first | rfl | (go_simp; done) | (go_simp; rfl))) ?_; clear K; rintro _ w1 ⟨g, rfl, K⟩) | ((with_reducible refine at_load rfl ?_); first | (refine wpList_reads (by rfl) (kr_load_cell K _ _ (by rfl) (by rfl) Has.auto (by decide +kernel) (by (try simp only [List.getElem?_toArray, List.getElem?_cons_succ, List.getElem?_cons_zero]); exact rfl)) ?_) | (refine wpList_reads (by rfl) (kr_load_row K _ _ (by rfl) (by rfl) Has.auto (by decide +kernel) (by kernel_rfl)) ?_)) | ((with_reducible refine at_store rfl ?_); (first | (refine wpList_does rfl (kd_store_cell K _ _ _ rfl rfl (by conv => lhs; whnf) Repl.auto rfl rfl (by kernel_rfl) (by kernel_rfl) (by first | (simp only [List.setIfInBounds_toArray, List.set_cons_succ, List.set_cons_zero]; rfl) | rfl)) ?_) | (refine wpList_does rfl (kd_store_row K _ _ _ rfl rfl rfl Repl.auto (by kernel_rfl) (by kernel_rfl) (by kernel_rfl)) ?_)); clear K; intro _ w1 K; (try simp only [Act.put])))
    go_ret2
    exact ⟨⟨g0, rfl⟩, K.cov Cov.auto⟩
  · have d1 : decide (blk < 0) = false := decide_eq_false c1
    have d2 : decide (4096 ≤ blk) = false := decide_eq_false c2
    have d3 : decide (4095 < blk) = false := decide_eq_false (by omega)
    go_enter Try.func18, Try.ntmps18
    go_wp2_with (first | ((with_reducible refine at_slot (N := 1) rfl ?_); (with_reducible refine at_box rfl ?_); refine wpList_does rfl (kd_box K _ _ rfl (by conv => lhs; whnf)) ?_; clear K; rintro _ w1 ⟨g, rfl, K⟩; (try dsimp only [Value.cells] at K)) | ((with_reducible refine at_buildSlice (n := 0) rfl ?_); refine wpList_does rfl (kd_lit0 K _ 5 1 rfl Try.underlying22 (by kernel_rfl)) ?_; clear K; rintro _ w1 ⟨g0, rfl, K⟩; have O : OwnL 5 1 (some ⟨g0, 0, none⟩) 0 0 (([] : List Int).map (Value.int .u8)) [row g0 #[] 5] := OwnL.lit0 _ _) | ((with_reducible refine at_eqnil rfl ?_); refine wpList_reads rfl (kr_eqnil rfl rfl (by kernel_rfl)) ?_) | ((with_reducible refine at_box rfl ?_); refine wpList_does rfl (kd_box K _ _ rfl (by conv => lhs; whnf)) ?_; clear K; rintro _ w1 ⟨g, rfl, K⟩; (try dsimp only [Value.cells] at K)) | ((with_reducible refine at_alloc rfl ?_); refine wpList_does rfl (kd_alloc K _ rfl rfl) ?_; clear K; rintro _ w1 ⟨g, rfl, K⟩; (try dsimp only [Value.cells] at K)) | ((with_reducible refine at_buildSlice rfl ?_); refine wpList_does rfl (kd_lits (cs := _) K _ _ _ rfl (by first | rfl | (go_simp; done) | (go_simp; rfl)) (by first | rfl | (go_simp; done) | (go_simp; rfl))) ?_; clear K; rintro _ w1 ⟨g, rfl, K⟩) | ((with_reducible refine at_load rfl ?_); first | (refine wpList_reads (by rfl) (kr_load_cell K _ _ (by rfl) (by rfl) Has.auto (by decide +kernel) (by (try simp only [List.getElem?_toArray, List.getElem?_cons_succ, List.getElem?_cons_zero]); exact rfl)) ?_) | (refine wpList_reads (by rfl) (kr_load_row K _ _ (by rfl) (by rfl) Has.auto (by decide +kernel) (by kernel_rfl)) ?_)) | ((with_reducible refine at_store rfl ?_); (first | (refine wpList_does rfl (kd_store_cell K _ _ _ rfl rfl (by conv => lhs; whnf) Repl.auto rfl rfl (by kernel_rfl) (by kernel_rfl) (by first | (simp only [List.setIfInBounds_toArray, List.set_cons_succ, List.set_cons_zero]; rfl) | rfl)) ?_) | (refine wpList_does rfl (kd_store_row K _ _ _ rfl rfl rfl Repl.auto (by kernel_rfl) (by kernel_rfl) (by kernel_rfl)) ?_)); clear K; intro _ w1 K; (try simp only [Act.put])))
    go_ret2
    exact ⟨⟨g0, rfl⟩, K.cov Cov.auto⟩
set_option maxHeartbeats 800000 in
set_option maxRecDepth 100000 in
theorem pput_yes (K : Known w0 w L) (h : putOK blk wn pn = true) (RW : RdM w0 L dgL 32 W wn way) (hd : ∀ d ∈ way, d.length = 32) (RP : RdS w0 L .u8 P pn pay) : Calls Try.prog 17 #[.agg #[.int .i64 blk, .slice W wn wc, .slice P pn pc]] w fun e w' => ∃ A' c', e = .returned (.tuple #[.slice A' (9 + 32 * wn + pn) c', .int .i64 0]) ∧ ∃ X, OwnL 5 1 A' (9 + 32 * wn + pn) c' ((putL blk way pay wn pn).map (Value.int .u8)) X ∧ Known w0 w' (X ++ L) := by
  have hk := putOK_yes h
  have d1 : decide (blk < 0) = false := decide_eq_false (by omega)
  have d2 : decide (4096 ≤ blk) = false := decide_eq_false (by omega)
  have d3 : decide (255 < (wn : Int)) = false := decide_eq_false (by omega)
  have d4 : decide (65535 < (pn : Int)) = false := decide_eq_false (by omega)
  have iB := IntWalk.u64_in blk (by omega)
  have iP := IntWalk.u64_in (pn : Int) (by omega)
  have iW := IntWalk.u8_in (wn : Int) (by omega)
  have hwl := RW.len
  have HWD := Lib.hid hd
  clear h hd
  go_enter Try.func17, Try.ntmps17
  go_upto_region 3 with ((first | ((with_reducible refine at_slot (N := 1) rfl ?_); (with_reducible refine at_box rfl ?_); refine wpList_does rfl (kd_box K _ _ rfl (by conv => lhs; whnf)) ?_; clear K; rintro _ w1 ⟨g, rfl, K⟩; (try dsimp only [Value.cells] at K)) | ((with_reducible refine at_eqnil rfl ?_); refine wpList_reads rfl (kr_eqnil rfl rfl (by kernel_rfl)) ?_) | ((with_reducible refine at_box rfl ?_); refine wpList_does rfl (kd_box K _ _ rfl (by conv => lhs; whnf)) ?_; clear K; rintro _ w1 ⟨g, rfl, K⟩; (try dsimp only [Value.cells] at K)) | ((with_reducible refine at_alloc rfl ?_); refine wpList_does rfl (kd_alloc K _ rfl rfl) ?_; clear K; rintro _ w1 ⟨g, rfl, K⟩; (try dsimp only [Value.cells] at K)) | ((with_reducible refine at_buildSlice rfl ?_); refine wpList_does rfl (kd_lits (cs := _) K _ _ _ rfl (by first | rfl | (go_simp; done) | (go_simp; rfl)) (by first | rfl | (go_simp; done) | (go_simp; rfl))) ?_; clear K; rintro _ w1 ⟨g, rfl, K⟩) | ((with_reducible refine at_load rfl ?_); first | (refine wpList_reads (by rfl) (kr_load_cell K _ _ (by rfl) (by rfl) Has.auto (by decide +kernel) (by (try simp only [List.getElem?_toArray, List.getElem?_cons_succ, List.getElem?_cons_zero]); exact rfl)) ?_) | (refine wpList_reads (by rfl) (kr_load_row K _ _ (by rfl) (by rfl) Has.auto (by decide +kernel) (by kernel_rfl)) ?_)) | ((with_reducible refine at_store rfl ?_); (first | (refine wpList_does rfl (kd_store_cell K _ _ _ rfl rfl (by conv => lhs; whnf) Repl.auto rfl rfl (by kernel_rfl) (by kernel_rfl) (by first | (simp only [List.setIfInBounds_toArray, List.set_cons_succ, List.set_cons_zero]; rfl) | rfl)) ?_) | (refine wpList_does rfl (kd_store_row K _ _ _ rfl rfl rfl Repl.auto (by kernel_rfl) (by kernel_rfl) (by kernel_rfl)) ?_)); clear K; intro _ w1 K; (try simp only [Act.put]))))
  refine wp_region_GK (X := [row g #[.int .i64 blk, .slice W wn wc, .slice P pn pc] 38]) K Cov.auto (by kernel_rfl) (by kernel_rfl) (by kernel_rfl) (fun K hHeld => ?_)
  refine wpG_takeA 0 (v := ?_) ?_ hHeld ?_
  rotate_left
  · (intro w hS; (clear hS; go_simp); try with_reducible rfl)
  try simp only [Act.put, List.setIfInBounds_toArray, List.set_cons_zero, List.set_cons_succ]
  refine wpG_takeA 1 (v := .int .i64 blk) ?_ hHeld ?_
  · (intro w hS; first | exact kr_load_cell hS _ _ (by rfl) (by rfl) Has.auto (by kernel_rfl) (by rfl))
  try simp only [Act.put, List.setIfInBounds_toArray, List.set_cons_zero, List.set_cons_succ]
  refine wpG_takeA 2 (v := ?_) ?_ hHeld ?_
  rotate_left
  · (intro w hS; (clear hS; go_simp); try with_reducible rfl)
  try simp only [Act.put, List.setIfInBounds_toArray, List.set_cons_zero, List.set_cons_succ]
  refine wpG_takeA 4 (v := ?_) ?_ hHeld ?_
  rotate_left
  · (intro w hS; (clear hS; go_simp); try with_reducible rfl)
  try simp only [Act.put, List.setIfInBounds_toArray, List.set_cons_zero, List.set_cons_succ]
  refine wpG_takeA 5 (v := .slice P pn pc) ?_ hHeld ?_
  · (intro w hS; first | exact kr_load_cell hS _ _ (by rfl) (by rfl) Has.auto (by kernel_rfl) (by rfl))
  try simp only [Act.put, List.setIfInBounds_toArray, List.set_cons_zero, List.set_cons_succ]
  refine wpG_takeA 6 (v := ?_) ?_ hHeld ?_
  rotate_left
  · (intro w hS; (clear hS; go_simp); try with_reducible rfl)
  try simp only [Act.put, List.setIfInBounds_toArray, List.set_cons_zero, List.set_cons_succ]
  refine wpG_takeA 7 (v := ?_) ?_ hHeld ?_
  rotate_left
  · (intro w hS; (clear hS; go_simp); try with_reducible rfl)
  try simp only [Act.put, List.setIfInBounds_toArray, List.set_cons_zero, List.set_cons_succ]
  refine wpG_oneA 3 (fun K9 hK => ?_)
  go_simp
  (go_at_call 34; (with_reducible refine (putK 4 _ 4 K (RdS.nil _ _ _ _) (by omega) rfl (by omega) (by omega)).mono ?_); clear K; rintro e w1 ⟨A1, c1, X1, rfl, O, K⟩)
  refine hK.out _ _ (K.cov Cov.auto) (fun hHeld => ?_)
  clear hK K9
  try simp only [Act.put, List.setIfInBounds_toArray, List.set_cons_zero, List.set_cons_succ]
  refine wpG_oneA 8 (fun K9 hK => ?_)
  go_simp
  (go_at_call 34; (with_reducible refine (putK 4 _ 4 K (RdS.own O Seg.auto) (by omega) rfl (by omega) (by omega)).mono ?_); clear K; rintro e w1 ⟨A1, c1, X1, rfl, O, K⟩)
  refine hK.out _ _ (K.cov Cov.auto) (fun hHeld => ?_)
  clear hK K9
  try simp only [Act.put, List.setIfInBounds_toArray, List.set_cons_zero, List.set_cons_succ]
  refine wpG_takeA 9 (v := ?_) ?_ hHeld ?_
  rotate_left
  · (intro w hS; (clear hS; go_simp); try with_reducible rfl)
  try simp only [Act.put, List.setIfInBounds_toArray, List.set_cons_zero, List.set_cons_succ]
  refine wpG_done (by kernel_rfl) ?_
  skip
  replace O : OwnL 5 1 A1 8 c1 ((beN 4 blk ++ beN 4 (pn : Int)).map (Value.int .u8)) X1 := by simpa using O
  have hb1 := O.le
  go_upto_region 6 with ((first | ((with_reducible refine at_buildSlice (n := 1) rfl ?_); refine wpList_does rfl (kd_lits (cs := _) K _ _ _ rfl (by first | rfl | (go_simp; done) | (go_simp; rfl)) (by first | rfl | (go_simp; done) | (go_simp; rfl))) ?_; clear K; rintro _ w1 ⟨gw, rfl, K⟩) | (at_builtin; refine wpList_does rfl (kd_appendN K _ _ rfl rfl rfl O Seg.auto (Rd.ofBlk (n := 1) (xs := [(wn : Int)]) (K.blk Has.auto) rfl rfl) (by kernel_rfl) (by kernel_rfl) (by omega)) ?_; clear K; rintro _ w1 ⟨A3, c3, X3, rfl, O3, K⟩; (try simp only [Nat.zero_add, List.nil_append] at O3)) | ((with_reducible refine at_eqnil rfl ?_); refine wpList_reads rfl (kr_eqnil rfl rfl (by kernel_rfl)) ?_) | ((with_reducible refine at_box rfl ?_); refine wpList_does rfl (kd_box K _ _ rfl (by conv => lhs; whnf)) ?_; clear K; rintro _ w1 ⟨g, rfl, K⟩; (try dsimp only [Value.cells] at K)) | ((with_reducible refine at_alloc rfl ?_); refine wpList_does rfl (kd_alloc K _ rfl rfl) ?_; clear K; rintro _ w1 ⟨g, rfl, K⟩; (try dsimp only [Value.cells] at K)) | ((with_reducible refine at_buildSlice rfl ?_); refine wpList_does rfl (kd_lits (cs := _) K _ _ _ rfl (by first | rfl | (go_simp; done) | (go_simp; rfl)) (by first | rfl | (go_simp; done) | (go_simp; rfl))) ?_; clear K; rintro _ w1 ⟨g, rfl, K⟩) | ((with_reducible refine at_load rfl ?_); first | (refine wpList_reads (by rfl) (kr_load_cell K _ _ (by rfl) (by rfl) Has.auto (by decide +kernel) (by (try simp only [List.getElem?_toArray, List.getElem?_cons_succ, List.getElem?_cons_zero]); exact rfl)) ?_) | (refine wpList_reads (by rfl) (kr_load_row K _ _ (by rfl) (by rfl) Has.auto (by decide +kernel) (by kernel_rfl)) ?_)) | ((with_reducible refine at_store rfl ?_); (first | (refine wpList_does rfl (kd_store_cell K _ _ _ rfl rfl (by conv => lhs; whnf) Repl.auto rfl rfl (by kernel_rfl) (by kernel_rfl) (by first | (simp only [List.setIfInBounds_toArray, List.set_cons_succ, List.set_cons_zero]; rfl) | rfl)) ?_) | (refine wpList_does rfl (kd_store_row K _ _ _ rfl rfl rfl Repl.auto (by kernel_rfl) (by kernel_rfl) (by kernel_rfl)) ?_)); clear K; intro _ w1 K; (try simp only [Act.put]))))
  replace O3 : OwnL 5 1 A3 9 c3 ((putH blk wn pn).map (Value.int .u8)) X3 := by simpa [putH] using O3
  go_loopg [4, 46] wn (fun q v4 v46 wr => ∃ (i : Nat) (A2 : Option Addr) (c2 : Nat) (X2 : List Ent), v4 = .slice A2 (9 + 32 * i) c2 ∧ v46 = .int .i64 i ∧ i + q = wn ∧ OwnL 5 1 A2 (9 + 32 * i) c2 ((putH blk wn pn ++ (way.take i).flatten).map (Value.int .u8)) X2 ∧ Known w0 wr (X2 ++ (row g #[.int .i64 blk, .slice W wn wc, .slice P pn pc] 38 :: L)))
  case atStart => exact ⟨0, A3, c3, X3, rfl, by go_num, by omega, by simpa using O3, K.cov Cov.auto⟩
  case round =>
    clear K O O3
    obtain ⟨i, A2, c2, X2, rfl, rfl, hi, O, K⟩ := hrel
    by_cases hiw : i < wn
    · have h2 : (i : Int) < (wn : Int) := by omega
      obtain ⟨b, off, rfl⟩ := RW.form (K.cov Cov.auto) (by omega)
      obtain ⟨d, hdd⟩ : ∃ d, way[i]? = some d := ⟨way[i]'(by omega), List.getElem?_eq_getElem (by omega)⟩
      have HDL := Lib.hid (HWD.out d (List.mem_of_getElem? hdd))
      have HD := Lib.hid (show encAt dgL way i = dgL d by simp [encAt, hdd])
      have HIN := Lib.hid hiw
      have HT := Lib.hid (show (way.take (i + 1)).flatten = (way.take i).flatten ++ d by rw [List.take_add_one, hdd]; simp)
      have i1 := IntWalk.i64_in ((i : Int) + 1) (by omega)
      have HS9 := Lib.hid (show 9 + 32 * (i + 1) = 9 + 32 * i + 32 by omega)
      clear hdd
      go_wp2_with (first | ((with_reducible refine at_load (t := 30) rfl ?_); refine wpList_reads (by rfl) (kr_load_D K _ _ (by rfl) i d (by rfl) (RW.cov Cov.auto) HIN.out HD.out rfl (by kernel_rfl) (by kernel_rfl) HDL.out) ?_) | ((with_reducible refine at_slot (N := 6) rfl ?_); (with_reducible refine at_alloc rfl ?_); refine wpList_does rfl (kd_alloc (z := (.agg (u8s (List.replicate 32 0)))) K _ rfl (by kernel_rfl)) ?_; clear K; rintro _ w1 ⟨gd, rfl, K⟩; (try dsimp only [Value.cells] at K)) | ((with_reducible refine at_store rfl ?_); refine wpList_does (by rfl) (kd_store_row K _ _ _ (by rfl) (by rfl) (by rfl) Repl.auto (by rw [u8s_size, HDL.out]; kernel_rfl) (by rw [u8s_size, u8s_size, HDL.out]; rfl) (u8s_oneE _)) ?_; clear K; intro _ w1 K; (try simp only [Act.put])) | ((with_reducible refine at_slice (l := none) (h := none) rfl ?_); refine wpList_reads rfl (kr_slice_arr rfl rfl (0) (32) (.inl ⟨rfl, rfl⟩) (.inl ⟨rfl, rfl⟩) (by omega) (by omega) Try.underlying30 (by kernel_rfl)) ?_) | (at_builtin; refine wpList_does rfl (kd_appendN K _ _ rfl rfl rfl O Seg.auto (Rd.ofBlk (n := 32) (xs := d) (K.blk Has.auto) HDL.out (u8s_all32 HDL.out)) (by kernel_rfl) (by kernel_rfl) (by omega)) ?_; clear K; rintro _ w1 ⟨A4, c4, X4, rfl, O4, K⟩; (try simp only [Nat.zero_add, List.nil_append] at O4)))
      replace O4 : OwnL 5 1 A4 (9 + 32 * (i + 1)) c4 ((putH blk wn pn ++ (way.take (i + 1)).flatten).map (Value.int .u8)) X4 := by rw [HT.out, HS9.out]; simpa using O4
      go_roundg (gk - 1)
      case measure => omega
      case rel => exact ⟨i + 1, A4, c4, X4, by rw [HS9.out], by go_num, by omega, O4, K.cov Cov.auto⟩
    · have h2 : ¬ (i : Int) < (wn : Int) := by omega
      obtain rfl : i = wn := by omega
      have HT := Lib.hid (show way.take i = way from List.take_of_length_le (by omega))
      go_wp2_with (first | (at_builtin; refine wpList_does rfl (kd_appendN K _ _ rfl rfl rfl O Seg.auto ((RP.cov Cov.auto).at_ _ K) (by kernel_rfl) (by kernel_rfl) (by omega)) ?_; clear K; rintro _ w1 ⟨A4, c4, X4, rfl, O4, K⟩; (try simp only [Nat.zero_add, List.nil_append] at O4)) | ((with_reducible refine at_eqnil rfl ?_); refine wpList_reads rfl (kr_eqnil rfl rfl (by kernel_rfl)) ?_) | ((with_reducible refine at_box rfl ?_); refine wpList_does rfl (kd_box K _ _ rfl (by conv => lhs; whnf)) ?_; clear K; rintro _ w1 ⟨g, rfl, K⟩; (try dsimp only [Value.cells] at K)) | ((with_reducible refine at_alloc rfl ?_); refine wpList_does rfl (kd_alloc K _ rfl rfl) ?_; clear K; rintro _ w1 ⟨g, rfl, K⟩; (try dsimp only [Value.cells] at K)) | ((with_reducible refine at_buildSlice rfl ?_); refine wpList_does rfl (kd_lits (cs := _) K _ _ _ rfl (by first | rfl | (go_simp; done) | (go_simp; rfl)) (by first | rfl | (go_simp; done) | (go_simp; rfl))) ?_; clear K; rintro _ w1 ⟨g, rfl, K⟩) | ((with_reducible refine at_load rfl ?_); first | (refine wpList_reads (by rfl) (kr_load_cell K _ _ (by rfl) (by rfl) Has.auto (by decide +kernel) (by (try simp only [List.getElem?_toArray, List.getElem?_cons_succ, List.getElem?_cons_zero]); exact rfl)) ?_) | (refine wpList_reads (by rfl) (kr_load_row K _ _ (by rfl) (by rfl) Has.auto (by decide +kernel) (by kernel_rfl)) ?_)) | ((with_reducible refine at_store rfl ?_); (first | (refine wpList_does rfl (kd_store_cell K _ _ _ rfl rfl (by conv => lhs; whnf) Repl.auto rfl rfl (by kernel_rfl) (by kernel_rfl) (by first | (simp only [List.setIfInBounds_toArray, List.set_cons_succ, List.set_cons_zero]; rfl) | rfl)) ?_) | (refine wpList_does rfl (kd_store_row K _ _ _ rfl rfl rfl Repl.auto (by kernel_rfl) (by kernel_rfl) (by kernel_rfl)) ?_)); clear K; intro _ w1 K; (try simp only [Act.put])))
      rw [HT.out] at O4
      go_ret2
      exact ⟨A4, c4, rfl, X4, O4, K.cov Cov.auto⟩

set_option maxHeartbeats 800000 in
set_option maxRecDepth 100000 in
theorem rpput_yes (K : Known w0 w L) (h : putOK blk wn pn = true) (RW : RdM w0 L dgL 32 W wn way) (hd : ∀ d ∈ way, d.length = 32) (RP : RdS w0 L .u8 P pn pay) : Calls Try.prog 18 #[.agg #[.int .i64 blk, .slice W wn wc, .slice P pn pc]] w fun e w' => ∃ A' c', e = .returned (.tuple #[.slice A' (9 + 32 * wn + pn) c', .int .i64 0]) ∧ ∃ X, OwnL 5 1 A' (9 + 32 * wn + pn) c' ((putL blk way pay wn pn).map (Value.int .u8)) X ∧ Known w0 w' (X ++ L) := by
  have hk := putOK_yes h
  have d1 : decide (blk < 0) = false := decide_eq_false (by omega)
  have d2 : decide (4095 < blk) = false := decide_eq_false (by omega)
  have d3 : decide (255 < (wn : Int)) = false := decide_eq_false (by omega)
  have d4 : decide (65535 < (pn : Int)) = false := decide_eq_false (by omega)
  have iB := IntWalk.u64_in blk (by omega)
  have iP := IntWalk.u64_in (pn : Int) (by omega)
  have iW := IntWalk.u8_in (wn : Int) (by omega)
  have hwl := RW.len
  have HWD := Lib.hid hd
  clear h hd
  go_enter Try.func18, Try.ntmps18
  go_upto_region 7 with ((first | ((with_reducible refine at_slot (N := 1) rfl ?_); (with_reducible refine at_box rfl ?_); refine wpList_does rfl (kd_box K _ _ rfl (by conv => lhs; whnf)) ?_; clear K; rintro _ w1 ⟨g, rfl, K⟩; (try dsimp only [Value.cells] at K)) | ((with_reducible refine at_buildSlice (n := 0) rfl ?_); refine wpList_does rfl (kd_lit0 K _ 5 1 rfl Try.underlying22 (by kernel_rfl)) ?_; clear K; rintro _ w1 ⟨g0, rfl, K⟩; have O : OwnL 5 1 (some ⟨g0, 0, none⟩) 0 0 (([] : List Int).map (Value.int .u8)) [row g0 #[] 5] := OwnL.lit0 _ _; have O0 := O; clear O) | (go_at_call 35; (with_reducible refine (rputoK 4 _ 4 K (RdS.own O1 Seg.auto) (by omega) rfl (by omega) (by omega)).mono ?_); clear K; rintro e w1 ⟨A2, c2, X2, rfl, O2, K⟩; replace O2 : OwnL 5 1 A2 8 c2 ((beN 4 blk ++ beN 4 (pn : Int)).map (Value.int .u8)) X2 := by simpa using O2) | (go_at_call 35; (with_reducible refine (rputoK 4 _ 4 K (RdS.own O0 Seg.auto) (by omega) rfl (by omega) (by omega)).mono ?_); clear K; rintro e w1 ⟨A1, c1, X1, rfl, O1, K⟩; clear O0) | ((with_reducible refine at_buildSlice (n := 1) rfl ?_); refine wpList_does rfl (kd_lits (cs := _) K _ _ _ rfl (by first | rfl | (go_simp; done) | (go_simp; rfl)) (by first | rfl | (go_simp; done) | (go_simp; rfl))) ?_; clear K; rintro _ w1 ⟨gw, rfl, K⟩) | (at_builtin; refine wpList_does rfl (kd_appendN K _ _ rfl rfl rfl O2 Seg.auto (Rd.ofBlk (n := 1) (xs := [(wn : Int)]) (K.blk Has.auto) rfl rfl) (by kernel_rfl) (by kernel_rfl) (by omega)) ?_; clear K; rintro _ w1 ⟨A3, c3, X3, rfl, O3, K⟩; (try simp only [Nat.zero_add, List.nil_append] at O3)) | ((with_reducible refine at_eqnil rfl ?_); refine wpList_reads rfl (kr_eqnil rfl rfl (by kernel_rfl)) ?_) | ((with_reducible refine at_box rfl ?_); refine wpList_does rfl (kd_box K _ _ rfl (by conv => lhs; whnf)) ?_; clear K; rintro _ w1 ⟨g, rfl, K⟩; (try dsimp only [Value.cells] at K)) | ((with_reducible refine at_alloc rfl ?_); refine wpList_does rfl (kd_alloc K _ rfl rfl) ?_; clear K; rintro _ w1 ⟨g, rfl, K⟩; (try dsimp only [Value.cells] at K)) | ((with_reducible refine at_buildSlice rfl ?_); refine wpList_does rfl (kd_lits (cs := _) K _ _ _ rfl (by first | rfl | (go_simp; done) | (go_simp; rfl)) (by first | rfl | (go_simp; done) | (go_simp; rfl))) ?_; clear K; rintro _ w1 ⟨g, rfl, K⟩) | ((with_reducible refine at_load rfl ?_); first | (refine wpList_reads (by rfl) (kr_load_cell K _ _ (by rfl) (by rfl) Has.auto (by decide +kernel) (by (try simp only [List.getElem?_toArray, List.getElem?_cons_succ, List.getElem?_cons_zero]); exact rfl)) ?_) | (refine wpList_reads (by rfl) (kr_load_row K _ _ (by rfl) (by rfl) Has.auto (by decide +kernel) (by kernel_rfl)) ?_)) | ((with_reducible refine at_store rfl ?_); (first | (refine wpList_does rfl (kd_store_cell K _ _ _ rfl rfl (by conv => lhs; whnf) Repl.auto rfl rfl (by kernel_rfl) (by kernel_rfl) (by first | (simp only [List.setIfInBounds_toArray, List.set_cons_succ, List.set_cons_zero]; rfl) | rfl)) ?_) | (refine wpList_does rfl (kd_store_row K _ _ _ rfl rfl rfl Repl.auto (by kernel_rfl) (by kernel_rfl) (by kernel_rfl)) ?_)); clear K; intro _ w1 K; (try simp only [Act.put]))))
  replace O3 : OwnL 5 1 A3 9 c3 ((putH blk wn pn).map (Value.int .u8)) X3 := by simpa [putH] using O3
  go_loopg [4, 48] wn (fun q v4 v46 wr => ∃ (i : Nat) (A2 : Option Addr) (c2 : Nat) (X2 : List Ent), v4 = .slice A2 (9 + 32 * i) c2 ∧ v46 = .int .i64 i ∧ i + q = wn ∧ OwnL 5 1 A2 (9 + 32 * i) c2 ((putH blk wn pn ++ (way.take i).flatten).map (Value.int .u8)) X2 ∧ Known w0 wr (X2 ++ (row g #[.int .i64 blk, .slice W wn wc, .slice P pn pc] 38 :: L)))
  case atStart => exact ⟨0, A3, c3, X3, rfl, by go_num, by omega, by simpa using O3, K.cov Cov.auto⟩
  case round =>
    clear K O1 O2 O3
    obtain ⟨i, A2, c2, X2, rfl, rfl, hi, O, K⟩ := hrel
    by_cases hiw : i < wn
    · have h2 : (i : Int) < (wn : Int) := by omega
      obtain ⟨b, off, rfl⟩ := RW.form (K.cov Cov.auto) (by omega)
      obtain ⟨d, hdd⟩ : ∃ d, way[i]? = some d := ⟨way[i]'(by omega), List.getElem?_eq_getElem (by omega)⟩
      have HDL := Lib.hid (HWD.out d (List.mem_of_getElem? hdd))
      have HDD := Lib.hid hdd
      have HIN := Lib.hid hiw
      have HT := Lib.hid (show (way.take (i + 1)).flatten = (way.take i).flatten ++ d by rw [List.take_add_one, hdd]; simp)
      have i1 := IntWalk.i64_in ((i : Int) + 1) (by omega)
      have HS9 := Lib.hid (show 9 + 32 * (i + 1) = 9 + 32 * i + 32 by omega)
      clear hdd
      go_wp2_with (first | ((with_reducible refine at_slice (l := none) (h := none) rfl ?_); refine wpList_reads rfl (kr_slice_arr rfl rfl (0) (32) (.inl ⟨rfl, rfl⟩) (.inl ⟨rfl, rfl⟩) (by omega) (by omega) Try.underlying30 (by kernel_rfl)) ?_) | (at_builtin; refine wpList_does rfl (kd_appendN K _ _ rfl rfl rfl O Seg.auto ((RW.cov Cov.auto).digest K HIN.out HDD.out HDL.out) (by kernel_rfl) (by kernel_rfl) (by omega)) ?_; clear K; rintro _ w1 ⟨A4, c4, X4, rfl, O4, K⟩; (try simp only [Nat.zero_add, List.nil_append] at O4)) | ((with_reducible refine at_eqnil rfl ?_); refine wpList_reads rfl (kr_eqnil rfl rfl (by kernel_rfl)) ?_) | ((with_reducible refine at_box rfl ?_); refine wpList_does rfl (kd_box K _ _ rfl (by conv => lhs; whnf)) ?_; clear K; rintro _ w1 ⟨g, rfl, K⟩; (try dsimp only [Value.cells] at K)) | ((with_reducible refine at_alloc rfl ?_); refine wpList_does rfl (kd_alloc K _ rfl rfl) ?_; clear K; rintro _ w1 ⟨g, rfl, K⟩; (try dsimp only [Value.cells] at K)) | ((with_reducible refine at_buildSlice rfl ?_); refine wpList_does rfl (kd_lits (cs := _) K _ _ _ rfl (by first | rfl | (go_simp; done) | (go_simp; rfl)) (by first | rfl | (go_simp; done) | (go_simp; rfl))) ?_; clear K; rintro _ w1 ⟨g, rfl, K⟩) | ((with_reducible refine at_load rfl ?_); first | (refine wpList_reads (by rfl) (kr_load_cell K _ _ (by rfl) (by rfl) Has.auto (by decide +kernel) (by (try simp only [List.getElem?_toArray, List.getElem?_cons_succ, List.getElem?_cons_zero]); exact rfl)) ?_) | (refine wpList_reads (by rfl) (kr_load_row K _ _ (by rfl) (by rfl) Has.auto (by decide +kernel) (by kernel_rfl)) ?_)) | ((with_reducible refine at_store rfl ?_); (first | (refine wpList_does rfl (kd_store_cell K _ _ _ rfl rfl (by conv => lhs; whnf) Repl.auto rfl rfl (by kernel_rfl) (by kernel_rfl) (by first | (simp only [List.setIfInBounds_toArray, List.set_cons_succ, List.set_cons_zero]; rfl) | rfl)) ?_) | (refine wpList_does rfl (kd_store_row K _ _ _ rfl rfl rfl Repl.auto (by kernel_rfl) (by kernel_rfl) (by kernel_rfl)) ?_)); clear K; intro _ w1 K; (try simp only [Act.put])))
      replace O4 : OwnL 5 1 A4 (9 + 32 * (i + 1)) c4 ((putH blk wn pn ++ (way.take (i + 1)).flatten).map (Value.int .u8)) X4 := by rw [HT.out, HS9.out]; simpa using O4
      go_roundg (gk - 1)
      case measure => omega
      case rel => exact ⟨i + 1, A4, c4, X4, by rw [HS9.out], by go_num, by omega, O4, K.cov Cov.auto⟩
    · have h2 : ¬ (i : Int) < (wn : Int) := by omega
      obtain rfl : i = wn := by omega
      have HT := Lib.hid (show way.take i = way from List.take_of_length_le (by omega))
      go_wp2_with (first | (at_builtin; refine wpList_does rfl (kd_appendN K _ _ rfl rfl rfl O Seg.auto ((RP.cov Cov.auto).at_ _ (K.cov (Cov.all _))) (by kernel_rfl) (by kernel_rfl) (by omega)) ?_; clear K; rintro _ w1 ⟨A4, c4, X4, rfl, O4, K⟩; (try simp only [Nat.zero_add, List.nil_append] at O4)) | ((with_reducible refine at_eqnil rfl ?_); refine wpList_reads rfl (kr_eqnil rfl rfl (by kernel_rfl)) ?_) | ((with_reducible refine at_box rfl ?_); refine wpList_does rfl (kd_box K _ _ rfl (by conv => lhs; whnf)) ?_; clear K; rintro _ w1 ⟨g, rfl, K⟩; (try dsimp only [Value.cells] at K)) | ((with_reducible refine at_alloc rfl ?_); refine wpList_does rfl (kd_alloc K _ rfl rfl) ?_; clear K; rintro _ w1 ⟨g, rfl, K⟩; (try dsimp only [Value.cells] at K)) | ((with_reducible refine at_buildSlice rfl ?_); refine wpList_does rfl (kd_lits (cs := _) K _ _ _ rfl (by first | rfl | (go_simp; done) | (go_simp; rfl)) (by first | rfl | (go_simp; done) | (go_simp; rfl))) ?_; clear K; rintro _ w1 ⟨g, rfl, K⟩) | ((with_reducible refine at_load rfl ?_); first | (refine wpList_reads (by rfl) (kr_load_cell K _ _ (by rfl) (by rfl) Has.auto (by decide +kernel) (by (try simp only [List.getElem?_toArray, List.getElem?_cons_succ, List.getElem?_cons_zero]); exact rfl)) ?_) | (refine wpList_reads (by rfl) (kr_load_row K _ _ (by rfl) (by rfl) Has.auto (by decide +kernel) (by kernel_rfl)) ?_)) | ((with_reducible refine at_store rfl ?_); (first | (refine wpList_does rfl (kd_store_cell K _ _ _ rfl rfl (by conv => lhs; whnf) Repl.auto rfl rfl (by kernel_rfl) (by kernel_rfl) (by first | (simp only [List.setIfInBounds_toArray, List.set_cons_succ, List.set_cons_zero]; rfl) | rfl)) ?_) | (refine wpList_does rfl (kd_store_row K _ _ _ rfl rfl rfl Repl.auto (by kernel_rfl) (by kernel_rfl) (by kernel_rfl)) ?_)); clear K; intro _ w1 K; (try simp only [Act.put])))
      rw [HT.out] at O4
      go_ret2
      exact ⟨A4, c4, rfl, X4, O4, K.cov Cov.auto⟩
end
end Go.Proofs.Ythbehlohdoajbaa
