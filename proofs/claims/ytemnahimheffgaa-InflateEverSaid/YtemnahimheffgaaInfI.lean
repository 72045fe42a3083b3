/-
  Package inflate: what throws (contracts): bad, number, symbol, room, table.
-/
import Derived.Test.YtemnahimheffgaaInfE
import Derived.Test.YtemnahimheffgaaInfP
set_option linter.unusedVariables false
set_option linter.unusedSimpArgs false
namespace Go.Proofs.Ytemnahimheffgaa
open Go.RowKit
/-- an error is thrown -/
abbrev stopE (c : Int) : Ending := .panicked [{ v := .iface 77 (.agg #[.int .i64 c]), recovered := false }]


section
variable {w0 w : World} {L Xr : List Ent} {gx gr p : Nat} {x : Ifl} {bs : List Int}
theorem ibad_yes (K : Known w0 w L) (c : Int) : Calls Try.prog 38 #[.bool true, .int .i64 c] w fun e' w' => e' = stopE c ∧ Known w0 w' L := by
  go_enter Try.func38, Try.ntmps38
  go_wp2
  exact ⟨rfl, rfl, K⟩
set_option maxRecDepth 100000 in
theorem inum_th (K : Known w0 w (Xr ++ L)) (hx : Has (row gx (ifC x) 53) L) (hr : x.r = ptr' gr) (hR : Rdr gr bs p Xr) (n : Nat) (z : Int) (hz : z = n) (hn : n ≤ 32) {c : Int} (h : numM (ofBytes bs) p n = .th c) :
    Calls Try.prog 37 #[ptr' gx, .int .i64 z] w fun e w' => e = stopE c ∧ Known w0 w' (Xr ++ L) := by
  obtain ⟨h', rfl⟩ := numM_th h
  rw [ofBytes_length] at h'
  clear h
  subst hz
  go_enter Try.func37, Try.ntmps37
  go_wp2_with (first | ((with_reducible refine at_load rfl ?_); first | (refine wpList_reads (by rfl) (kr_load_cell K _ _ (by rfl) (by rfl) (hx.ap _) (by decide +kernel) (if_r x)) ?_)) | (go_at_call 52; (with_reducible refine (rget_no K hR n _ rfl hn (by omega)).mono ?_); clear K; rintro e w1 ⟨rfl, K⟩) | (go_at_call 38; (with_reducible refine (ibad_yes K _).mono ?_); clear K; rintro e w1 ⟨rfl, K⟩))
  exact ⟨rfl, rfl, K⟩
theorem inum_ok (K : Known w0 w (Xr ++ L)) (hx : Has (row gx (ifC x) 53) L) (hr : x.r = ptr' gr) (hR : Rdr gr bs p Xr) (n : Nat) (z : Int) (hz : z = n) (hn : n ≤ 32) {v q : Nat} (h : numM (ofBytes bs) p n = .ok v q) :
    Calls Try.prog 37 #[ptr' gx, .int .i64 z] w fun e w' => e = .returned (.int .i64 (v : Int)) ∧ ∃ X', Rdr gr bs q X' ∧ Known w0 w' (X' ++ L) := by
  obtain ⟨h', hv, rfl⟩ := numM_ok h
  rw [ofBytes_length] at h'
  exact inum_yes K hx hr hR n z hz hn h' v hv
theorem isym_ok {Xt : List Ent} {gt : Nat} {l : List Int} (K : Known w0 w (Xt ++ (Xr ++ L))) (hx : Has (row gx (ifC x) 53) L) (hr : x.r = ptr' gr) (hT : TbIs gt l Xt) (hR : Rdr gr bs p Xr) (hl : l.length ≤ 300) {s q : Nat} (h : symM l (ofBytes bs) p = .ok s q) :
    Calls Try.prog 59 #[ptr' gx, ptr' gt] w fun e w' => e = .returned (.int .i64 (s : Int)) ∧ ∃ X', Rdr gr bs q X' ∧ Known w0 w' (Xt ++ (X' ++ L)) := isym_yes K hx hr hT hR hl _ q (symM_ok h).1


set_option maxRecDepth 100000 in
theorem isym_th {Xt : List Ent} {gt : Nat} {l : List Int} (K : Known w0 w (Xt ++ (Xr ++ L))) (hx : Has (row gx (ifC x) 53) L) (hr : x.r = ptr' gr) (hT : TbIs gt l Xt) (hR : Rdr gr bs p Xr) (hl : l.length ≤ 300) {c : Int} (h : symM l (ofBytes bs) p = .th c) :
    Calls Try.prog 59 #[ptr' gx, ptr' gt] w fun e w' => e = stopE c ∧ ∃ X', Rdr gr bs p X' ∧ Known w0 w' (Xt ++ (X' ++ L)) := by
  obtain ⟨h, hq⟩ := symM_th h
  have HQ := Lib.hid hq
  clear hq
  rcases h with ⟨he, rfl⟩ | ⟨he, rfl⟩
  · have HE := Lib.hid he
    clear he
    go_enter Try.func59, Try.ntmps59
    go_wp2_with (first | ((with_reducible refine at_load rfl ?_); first | (refine wpList_reads (by rfl) (kr_load_cell K _ _ (by rfl) (by rfl) ((hx.ap _).ap _) (by decide +kernel) (if_r x)) ?_)) | (go_at_call 70; (with_reducible refine (hnext_any K hT hR hl).mono ?_); clear K; rintro e w1 ⟨rfl, X1, hR1, K⟩; rw [HE.out]; rw [HQ.out] at hR1) | (go_at_call 38; (with_reducible refine (ibad_yes K _).mono ?_); clear K; rintro e w1 ⟨rfl, K⟩))
    exact ⟨rfl, rfl, X1, hR1, K⟩
  · have HE := Lib.hid he
    clear he
    go_enter Try.func59, Try.ntmps59
    go_wp2_with (first | ((with_reducible refine at_load rfl ?_); first | (refine wpList_reads (by rfl) (kr_load_cell K _ _ (by rfl) (by rfl) ((hx.ap _).ap _) (by decide +kernel) (if_r x)) ?_)) | (go_at_call 70; (with_reducible refine (hnext_any K hT hR hl).mono ?_); clear K; rintro e w1 ⟨rfl, X1, hR1, K⟩; rw [HE.out]; rw [HQ.out] at hR1) | (go_at_call 38; (with_reducible refine (ibad_no K _).mono ?_); clear K; rintro e w1 ⟨rfl, K⟩) | (go_at_call 38; (with_reducible refine (ibad_yes K _).mono ?_); clear K; rintro e w1 ⟨rfl, K⟩))
    exact ⟨rfl, rfl, X1, hR1, K⟩
set_option maxRecDepth 100000 in
theorem iroom_th {M : List Ent} (K : Known w0 w M) (hx : Has (row gx (ifC x) 53) M) (n : Int) (h0 : 0 ≤ x.most ∧ x.most ≤ 9223372036854775807) (ho : x.on ≤ 9223372036854775807) (hn : x.most - x.on < n) :
    Calls Try.prog 40 #[ptr' gx, .int .i64 n] w fun e w' => e = stopE 12 ∧ Known w0 w' M := by
  have j1 := IntWalk.i64_in (x.most - (x.on : Int)) (by omega)
  have d1 : decide (x.most - (x.on : Int) < n) = true := decide_eq_true (by omega)
  go_enter Try.func40, Try.ntmps40
  refine wp_region_GK K (Cov.all _) (by kernel_rfl) (by kernel_rfl) (by kernel_rfl) (fun K hHeld => ?_)
  refine wpG_takeA 0 (v := ?_) ?_ hHeld ?_
  rotate_left
  · (intro w hS; (clear hS; go_simp); try with_reducible rfl)
  try simp only [Act.put, List.setIfInBounds_toArray, List.set_cons_zero, List.set_cons_succ]
  refine wpG_takeA 1 (v := ?_) ?_ hHeld ?_
  rotate_left
  · (intro w hS; (clear hS; go_simp); try with_reducible rfl)
  try simp only [Act.put, List.setIfInBounds_toArray, List.set_cons_zero, List.set_cons_succ]
  refine wpG_takeA 2 (v := ?_) ?_ hHeld ?_
  rotate_left
  · (intro w hS; (clear hS; go_simp); try with_reducible rfl)
  try simp only [Act.put, List.setIfInBounds_toArray, List.set_cons_zero, List.set_cons_succ]
  refine wpG_takeA 3 (v := ?_) ?_ hHeld ?_
  rotate_left
  · (intro w hS; (clear hS; go_simp); try with_reducible rfl)
  try simp only [Act.put, List.setIfInBounds_toArray, List.set_cons_zero, List.set_cons_succ]
  refine wpG_takeA 4 (v := .int .i64 x.most) ?_ hHeld ?_
  · (intro w hS; first | exact kr_load_cell hS _ _ (by rfl) (by rfl) hx (by kernel_rfl) (if_most x))
  try simp only [Act.put, List.setIfInBounds_toArray, List.set_cons_zero, List.set_cons_succ]
  refine wpG_takeA 5 (v := ?_) ?_ hHeld ?_
  rotate_left
  · (intro w hS; (clear hS; go_simp); try with_reducible rfl)
  try simp only [Act.put, List.setIfInBounds_toArray, List.set_cons_zero, List.set_cons_succ]
  refine wpG_takeA 6 (v := ?_) ?_ hHeld ?_
  rotate_left
  · (intro w hS; (clear hS; go_simp); try with_reducible rfl)
  try simp only [Act.put, List.setIfInBounds_toArray, List.set_cons_zero, List.set_cons_succ]
  refine wpG_takeA 7 (v := ?_) ?_ hHeld ?_
  rotate_left
  · (intro w hS; (clear hS; go_simp); try with_reducible rfl)
  try simp only [Act.put, List.setIfInBounds_toArray, List.set_cons_zero, List.set_cons_succ]
  refine wpG_takeA 8 (v := .slice x.O x.on x.oc) ?_ hHeld ?_
  · (intro w hS; first | exact kr_load_cell hS _ _ (by rfl) (by rfl) hx (by kernel_rfl) (if_out x))
  try simp only [Act.put, List.setIfInBounds_toArray, List.set_cons_zero, List.set_cons_succ]
  refine wpG_takeA 9 (v := ?_) ?_ hHeld ?_
  rotate_left
  · (intro w hS; (clear hS; go_simp); try with_reducible rfl)
  try simp only [Act.put, List.setIfInBounds_toArray, List.set_cons_zero, List.set_cons_succ]
  refine wpG_takeA 10 (v := ?_) ?_ hHeld ?_
  rotate_left
  · (intro w hS; (clear hS; go_simp); try with_reducible rfl)
  try simp only [Act.put, List.setIfInBounds_toArray, List.set_cons_zero, List.set_cons_succ]
  refine wpG_takeA 11 (v := ?_) ?_ hHeld ?_
  rotate_left
  · (intro w hS; (clear hS; go_simp); try with_reducible rfl)
  try simp only [Act.put, List.setIfInBounds_toArray, List.set_cons_zero, List.set_cons_succ]
  refine wpG_lastA 12 (fun K9 hK => ?_)
  go_simp
  (go_at_call 38; (with_reducible refine (ibad_yes K _).mono ?_); clear K; rintro e w1 ⟨rfl, K⟩)
  exact ⟨rfl, rfl, K⟩


set_option maxRecDepth 100000 in
theorem itable_th {A : Option Addr} {n c : Nat} {l : List Int} (K : Known w0 w L) (R : RdS w0 L .u8 A n l) (hb : ∀ v ∈ l, 0 ≤ v ∧ v ≤ 255) (hn : n ≤ 100000) (hm : mayH l = false) : Calls Try.prog 58 #[.slice A n c] w fun e w' => e = stopE 11 ∧ Known w0 w' L := by
  go_enter Try.func58, Try.ntmps58
  go_wp2_with (first | (go_at_call 56; (with_reducible refine (hnew_no K R hb hn hm).mono ?_); clear K; rintro e w1 ⟨rfl, K⟩) | (go_at_call 38; (with_reducible refine (ibad_yes K _).mono ?_); clear K; rintro e w1 ⟨rfl, K⟩))
  exact ⟨rfl, rfl, K⟩
set_option maxRecDepth 100000 in
theorem itable_ok {A : Option Addr} {n c : Nat} {l : List Int} (K : Known w0 w L) (R : RdS w0 L .u8 A n l) (hb : ∀ v ∈ l, 0 ≤ v ∧ v ≤ 255) (hm : mayH l = true) : Calls Try.prog 58 #[.slice A n c] w fun e w' => ∃ gt, e = .returned (ptr' gt) ∧ ∃ X, TbIs gt l X ∧ Known w0 w' (X ++ L) := by
  go_enter Try.func58, Try.ntmps58
  go_wp2_with (first | (go_at_call 56; (with_reducible refine (hnew_yes K R hb hm).mono ?_); clear K; rintro e w1 ⟨gt, rfl, X1, hT, K⟩) | (go_at_call 38; (with_reducible refine (ibad_no K _).mono ?_); clear K; rintro e w1 ⟨rfl, K⟩))
  go_ret
  exact ⟨gt, rfl, X1, hT, K⟩
end
end Go.Proofs.Ytemnahimheffgaa
