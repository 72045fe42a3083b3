/-
  Package inflate: New, Done, Out, Inflate, where nothing is thrown; nil (contracts).
-/
import Derived.Test.YtemnahimheffgaaInfE
set_option linter.unusedVariables false
set_option linter.unusedSimpArgs false
namespace Go.Proofs.Ytemnahimheffgaa
open Go.RowKit


def inf0 (most : Int) : Ifl := ⟨most, none, 0, 0, none, 0, 0, 0, .pointer none, fnI 23, false, 0, .pointer none, .pointer none, 0⟩
section
variable {w0 w : World} {L XO : List Ent} {gx : Nat} {x : Ifl} {os bs : List Int}
set_option maxRecDepth 100000 in
theorem inew_any (K : Known w0 w L) (most : Int) (h : -9223372036854775808 ≤ most ∧ most ≤ 9223372036854775807) (z : Int) (hz : max most 0 = z) : Calls Try.prog 14 #[.int .i64 most] w fun e w' => ∃ gx, e = .returned (ptr' gx) ∧ Known w0 w' (row gx (ifC (inf0 z)) 53 :: L) := by
  subst hz
  go_enter Try.func14, Try.ntmps14
  go_wp2_with (first | ((with_reducible refine at_eqnil rfl ?_); refine wpList_reads rfl (kr_eqnil rfl rfl (by kernel_rfl)) ?_) | ((with_reducible refine at_box rfl ?_); refine wpList_does rfl (kd_box K _ _ rfl (by conv => lhs; whnf)) ?_; clear K; rintro _ w1 ⟨g, rfl, K⟩; (try dsimp only [Value.cells] at K)) | ((with_reducible refine at_alloc rfl ?_); refine wpList_does rfl (kd_alloc K _ rfl rfl) ?_; clear K; rintro _ w1 ⟨g, rfl, K⟩; (try dsimp only [Value.cells] at K)) | ((with_reducible refine at_buildSlice rfl ?_); refine wpList_does rfl (kd_lits (cs := _) K _ _ _ rfl (by first | rfl | (go_simp; done) | (go_simp; rfl)) (by first | rfl | (go_simp; done) | (go_simp; rfl))) ?_; clear K; rintro _ w1 ⟨g, rfl, K⟩) | ((with_reducible refine at_load rfl ?_); first | (refine wpList_reads (by rfl) (kr_load_cell K _ _ (by rfl) (by rfl) Has.auto (by decide +kernel) (by (try simp only [List.getElem?_toArray, List.getElem?_cons_succ, List.getElem?_cons_zero]); exact rfl)) ?_) | (refine wpList_reads (by rfl) (kr_load_row K _ _ (by rfl) (by rfl) Has.auto (by decide +kernel) (by kernel_rfl)) ?_)) | ((with_reducible refine at_store rfl ?_); (first | (refine wpList_does rfl (kd_store_cell K _ _ _ rfl rfl (by conv => lhs; whnf) Repl.auto rfl rfl (by kernel_rfl) (by kernel_rfl) (by first | (simp only [List.setIfInBounds_toArray, List.set_cons_succ, List.set_cons_zero]; rfl) | rfl)) ?_) | (refine wpList_does rfl (kd_store_row K _ _ _ rfl rfl rfl Repl.auto (by kernel_rfl) (by kernel_rfl) (by kernel_rfl)) ?_)); clear K; intro _ w1 K; (try simp only [Act.put])))
  go_ret
  exact ⟨g, rfl, K⟩
set_option maxRecDepth 100000 in
theorem idone_yes (K : Known w0 w L) (hx : Has (row gx (ifC x) 53) L) (hnx : x.next = .nilFunc) (he : x.e = 0) : Calls Try.prog 17 #[ptr' gx] w fun e w' => e = .returned (.bool true) ∧ Known w0 w' L := by
  go_enter Try.func17, Try.ntmps17
  go_wp2_with (first | (((with_reducible refine at_load rfl ?_); first | (refine wpList_reads (by rfl) (kr_load_cell K _ _ (by rfl) (by rfl) hx (by decide +kernel) (if_most _)) ?_) | (refine wpList_reads (by rfl) (kr_load_cell K _ _ (by rfl) (by rfl) hx (by decide +kernel) (if_out _)) ?_) | (refine wpList_reads (by rfl) (kr_load_cell K _ _ (by rfl) (by rfl) hx (by decide +kernel) (if_rest _)) ?_) | (refine wpList_reads (by rfl) (kr_load_cell K _ _ (by rfl) (by rfl) hx (by decide +kernel) (if_from _)) ?_) | (refine wpList_reads (by rfl) (kr_load_cell K _ _ (by rfl) (by rfl) hx (by decide +kernel) (if_r _)) ?_) | (refine wpList_reads (by rfl) (kr_load_cell K _ _ (by rfl) (by rfl) hx (by decide +kernel) (if_next _)) ?_) | (refine wpList_reads (by rfl) (kr_load_cell K _ _ (by rfl) (by rfl) hx (by decide +kernel) (if_last _)) ?_) | (refine wpList_reads (by rfl) (kr_load_cell K _ _ (by rfl) (by rfl) hx (by decide +kernel) (if_left _)) ?_) | (refine wpList_reads (by rfl) (kr_load_cell K _ _ (by rfl) (by rfl) hx (by decide +kernel) (if_lit _)) ?_) | (refine wpList_reads (by rfl) (kr_load_cell K _ _ (by rfl) (by rfl) hx (by decide +kernel) (if_dist _)) ?_) | (refine wpList_reads (by rfl) (kr_load_cell K _ _ (by rfl) (by rfl) hx (by decide +kernel) (if_e _)) ?_)); (try dsimp only)) | ((with_reducible refine at_bin (b := .eql) (t := 50) rfl ?_); refine wpList_reads (by rfl) (kr_fn (by rfl) hnx st_eql_nil (.inl rfl)) ?_))
  go_ret
  exact ⟨rfl, K⟩
set_option maxRecDepth 100000 in
theorem iout_any (K : Known w0 w (row gx (ifC x) 53 :: (XO ++ L))) (O : OwnL 5 1 x.O x.on x.oc (os.map (Value.int .u8)) XO) (ho : x.on ≤ 34000000000) : Calls Try.prog 16 #[ptr' gx] w fun e w' => ∃ A c X, e = .returned (.slice A x.on c) ∧ OwnL 5 1 A x.on c (os.map (Value.int .u8)) X ∧ Known w0 w' (X ++ (row gx (ifC x) 53 :: (XO ++ L))) := by
  go_enter Try.func16, Try.ntmps16
  go_wp2_with (first | (((with_reducible refine at_load rfl ?_); first | (refine wpList_reads (by rfl) (kr_load_cell K _ _ (by rfl) (by rfl) Has.auto (by decide +kernel) (if_most _)) ?_) | (refine wpList_reads (by rfl) (kr_load_cell K _ _ (by rfl) (by rfl) Has.auto (by decide +kernel) (if_out _)) ?_) | (refine wpList_reads (by rfl) (kr_load_cell K _ _ (by rfl) (by rfl) Has.auto (by decide +kernel) (if_rest _)) ?_) | (refine wpList_reads (by rfl) (kr_load_cell K _ _ (by rfl) (by rfl) Has.auto (by decide +kernel) (if_from _)) ?_) | (refine wpList_reads (by rfl) (kr_load_cell K _ _ (by rfl) (by rfl) Has.auto (by decide +kernel) (if_r _)) ?_) | (refine wpList_reads (by rfl) (kr_load_cell K _ _ (by rfl) (by rfl) Has.auto (by decide +kernel) (if_next _)) ?_) | (refine wpList_reads (by rfl) (kr_load_cell K _ _ (by rfl) (by rfl) Has.auto (by decide +kernel) (if_last _)) ?_) | (refine wpList_reads (by rfl) (kr_load_cell K _ _ (by rfl) (by rfl) Has.auto (by decide +kernel) (if_left _)) ?_) | (refine wpList_reads (by rfl) (kr_load_cell K _ _ (by rfl) (by rfl) Has.auto (by decide +kernel) (if_lit _)) ?_) | (refine wpList_reads (by rfl) (kr_load_cell K _ _ (by rfl) (by rfl) Has.auto (by decide +kernel) (if_dist _)) ?_) | (refine wpList_reads (by rfl) (kr_load_cell K _ _ (by rfl) (by rfl) Has.auto (by decide +kernel) (if_e _)) ?_)); (try dsimp only)) | (go_at_call 29; (with_reducible refine (clone_any K (RdS.own (w0 := w0) O Seg.auto) ho).mono ?_); clear K; rintro e w1 ⟨A4, c4, X4, rfl, O4, K⟩))
  go_ret
  exact ⟨A4, c4, X4, rfl, O4, K⟩
theorem inil_write (v : Value) : Calls Try.prog 15 #[.pointer none, v] w fun e w' => e = .returned (.int .i64 1) ∧ w = w' := by
  go_enter Try.func15, Try.ntmps15
  go_wp2
  go_ret
  exact ⟨rfl, rfl⟩
theorem inil_done : Calls Try.prog 17 #[.pointer none] w fun e w' => e = .returned (.bool false) ∧ w = w' := by
  go_enter Try.func17, Try.ntmps17
  go_wp2
  go_ret
  exact ⟨rfl, rfl⟩
theorem inil_out : Calls Try.prog 16 #[.pointer none] w fun e w' => e = .returned (.slice none 0 0) ∧ w = w' := by
  go_enter Try.func16, Try.ntmps16
  go_wp2
  go_ret
  exact ⟨rfl, rfl⟩
theorem inil_held : Calls Try.prog 18 #[.pointer none] w fun e w' => e = .returned (.int .i64 0) ∧ w = w' := by
  go_enter Try.func18, Try.ntmps18
  go_wp2
  go_ret
  exact ⟨rfl, rfl⟩
/-- what is told, at the end -/
def Told (os : List Int) (x : Ifl) (Z : List Ent) : Prop := ∃ XO Z', Z = XO ++ Z' ∧ OwnL 5 1 x.O x.on x.oc (os.map (Value.int .u8)) XO ∧ x.next = .nilFunc ∧ x.e = 0


set_option maxHeartbeats 800000 in
set_option maxRecDepth 100000 in
theorem iinflate_run {A : Option Addr} {n c : Nat} {St : Nat → Nat → Nat → Ifl → List Ent → Prop} (K : Known w0 w L) (R : RdS w0 L .u8 A n bs) (hb : ∀ v ∈ bs, 0 ≤ v ∧ v ≤ 255) (hn : n ≤ 10000000) (hol : os.length ≤ 10000000) (hrun : ∀ gx, Run w0 gx bs (St gx) (Told os)) (k0 : Nat) (hk : 0 < k0)
    (h0 : ∀ gx gr A1 c1 Xr, Rdr gr bs 0 Xr → St gx gr k0 { inf0 5 with R := A1, rn := (inf0 5).rn + n, rc := c1, r := ptr' gr } (Xr ++ [])) :
    Calls Try.prog 9 #[.slice A n c, .int .i64 5] w fun e w' => ∃ A' c', e = .returned (.tuple #[.slice A' os.length c', .int .i64 0]) ∧ ∃ X, OwnL 5 1 A' os.length c' (os.map (Value.int .u8)) X ∧ Known w0 w' (X ++ L) := by
  have HB := Lib.hid hb
  have HK := Lib.hid hk
  have HRUN := Lib.hid hrun
  have H0 := Lib.hid h0
  have hos : ∀ (x : Ifl) XO, OwnL 5 1 x.O x.on x.oc (os.map (Value.int .u8)) XO → x.on ≤ 34000000000 := fun x XO O => by have := O.len; simp at this; omega
  clear hb hk hrun h0
  go_enter Try.func9, Try.ntmps9
  go_wp2_with (first | (go_at_call 14; (with_reducible refine (inew_any K 5 ⟨by decide, by decide⟩ 5 (by decide)).mono ?_); clear K; rintro e w1 ⟨gx, rfl, K⟩) | (go_at_call 15; (refine ((iwrite_run (x := inf0 5) (XR := []) (M := []) (L := L) (rs := []) (ys := bs) (St := St gx) (F := Told os) K (OwnL.nil _ _) R HB.out (by omega) (by decide) 0 (by rfl) (by omega) ⟨_, rfl⟩ (by rfl) (HRUN.out gx) k0 HK.out (H0.out gx))).mono ?_); clear K; rintro e w1 ⟨rfl, x2, Z2, A2, c2, X2, hf, K⟩; obtain ⟨XO, Z3, hZ, O, hnx, he⟩ := hf; have HON := Lib.hid (hos x2 _ O); subst hZ; simp only [List.append_assoc] at K) | (go_at_call 17; (with_reducible refine (idone_yes K Has.auto (by exact hnx) (by exact he)).mono ?_); clear K; rintro e w1 ⟨rfl, K⟩) | (go_at_call 16; (with_reducible refine (iout_any (L := Z3 ++ (X2 ++ L)) K (by exact O) HON.out).mono ?_); clear K; rintro e w1 ⟨A4, c4, X4, rfl, O4, K⟩))
  have hl : os.length = x2.on := by have := O.len; simpa using this
  go_ret2
  refine ⟨A4, c4, ?_⟩
  rw [hl]
  exact ⟨rfl, X4, O4, K.cov Cov.auto⟩
end
end Go.Proofs.Ytemnahimheffgaa
