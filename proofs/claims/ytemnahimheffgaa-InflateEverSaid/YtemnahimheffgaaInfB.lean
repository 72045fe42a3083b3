/-
  Package inflate: row, fixed (contracts).
-/
import Derived.Test.YtemnahimheffgaaInfA
set_option linter.unusedVariables false
set_option linter.unusedSimpArgs false
namespace Go.Proofs.Ytemnahimheffgaa
open Go.RowKit
theorem u8s_setI (l : List Int) (i : Nat) (v : Int) : (u8s l).setIfInBounds i (.int .u8 v) = u8s (l.set i v) := by simp [u8s, List.map_set]
theorem rep_set (x : Int) (n i : Nat) (h : i < n) : (List.replicate i x ++ List.replicate (n - i) 0).set i x = List.replicate (i + 1) x ++ List.replicate (n - (i + 1)) 0 := by
  rw [List.set_append_right _ _ (by simp), List.length_replicate, Nat.sub_self, show n - i = (n - (i + 1)) + 1 by omega, List.replicate_succ, List.set_cons_zero, List.replicate_succ', List.append_assoc]
  rfl


section
variable {w0 w : World} {L : List Ent}
set_option maxRecDepth 100000 in
theorem irow_any (K : Known w0 w L) (x : Int) (n : Nat) (z : Int) (hz : z = n) (hn : n ≤ 1000) : Calls Try.prog 55 #[.int .u8 x, .int .i64 z] w fun e w' => ∃ A c, e = .returned (.slice A n c) ∧ ∃ X, OwnL 5 1 A n c ((List.replicate n x).map (Value.int .u8)) X ∧ Known w0 w' (X ++ L) := by
  subst hz
  go_enter Try.func55, Try.ntmps55
  go_upto_region 3 with ((first | ((with_reducible refine at_slot (N := 8) rfl ?_); refine wpList_does rfl (kd_make K 22 5 rfl (z := .int .u8 0) (bytes := 1) Try.underlying22 (by kernel_rfl) rfl n n rfl rfl (Nat.le_refl n) (by omega) (by omega)) ?_; clear K; rintro _ w1 ⟨g, rfl, K⟩)))
  have HZ := Lib.hid (show Array.replicate n (Value.int .u8 0) = u8s (List.replicate 0 x ++ List.replicate (n - 0) 0) by simp [u8s])
  go_loopg [11] n (fun d v wr => ∃ i : Nat, v = .int .i64 i ∧ i + d = n ∧ Known w0 wr (row g (u8s (List.replicate i x ++ List.replicate (n - i) 0)) 5 :: L))
  case atStart => exact ⟨0, by go_num, by omega, by rw [← HZ.out]; exact K⟩
  case round =>
    clear K
    obtain ⟨i, rfl, hi, K⟩ := hrel
    by_cases hin : i < n
    · have h2 : (i : Int) < (n : Int) := by omega
      have HIL := Lib.hid (show decide (i < (List.replicate i x ++ List.replicate (n - i) 0).length) = true from decide_eq_true (by simp; omega))
      have HS := Lib.hid (rep_set x n i hin)
      have i1 := IntWalk.i64_in ((i : Int) + 1) (by omega)
      go_wp2_with (first | ((with_reducible refine at_store rfl ?_); refine wpList_does rfl (kd_store_cell K _ _ _ rfl rfl (by conv => lhs; whnf) Repl.auto rfl rfl (by kernel_rfl) (by rw [u8s_size]; exact HIL.out) (u8s_setI _ _ _)) ?_; clear K; intro _ w1 K))
      rw [HS.out] at K
      go_roundg (gk - 1)
      case measure => omega
      case rel => exact ⟨i + 1, by go_num, by omega, K⟩
    · have h2 : ¬ (i : Int) < (n : Int) := by omega
      obtain rfl : i = n := by omega
      have HE := Lib.hid (show u8s (List.replicate i x ++ List.replicate (i - i) 0) = u8s (List.replicate i x) by simp)
      rw [HE.out] at K
      go_wp2
      go_ret
      have O : OwnL 5 1 (some ⟨g, 0, none⟩) i i ((List.replicate i x).map (Value.int .u8)) [row g (u8s (List.replicate i x)) 5] := OwnL.ofLit (by simp [u8s]) (by simp) (by omega)
      exact ⟨_, i, rfl, [row g (u8s (List.replicate i x)) 5], by simpa using O, K⟩
/-- the codes that are the same always -/
def fixL : List Int := List.replicate 144 8 ++ List.replicate 112 9 ++ List.replicate 24 7 ++ List.replicate 8 8
def fixD : List Int := List.replicate 32 5
theorem fixL_byte : ∀ v ∈ fixL, 0 ≤ v ∧ v ≤ 255 := by decide +kernel
theorem fixD_byte : ∀ v ∈ fixD, 0 ≤ v ∧ v ≤ 255 := by decide +kernel
theorem fixL_may : mayH fixL = true := by decide +kernel
theorem fixD_may : mayH fixD = true := by decide +kernel


set_option maxHeartbeats 800000 in
set_option maxRecDepth 100000 in
theorem fixed_any (K : Known w0 w L) : Calls Try.prog 42 #[] w fun e w' => ∃ g1 g2, e = .returned (.tuple #[.pointer (some ⟨g1, 0, none⟩), .pointer (some ⟨g2, 0, none⟩)]) ∧ ∃ T1 T2, TbIs g1 fixL T1 ∧ TbIs g2 fixD T2 ∧ Known w0 w' (T1 ++ (T2 ++ L)) := by
  go_enter Try.func42, Try.ntmps42
  go_upto_region 2 with ((first | (go_at_call 55; (with_reducible refine (irow_any K 8 144 _ (by omega) (by omega)).mono ?_); clear K; rintro e w1 ⟨A1, c1, rfl, X1, O1, K⟩) | (go_at_call 55; (with_reducible refine (irow_any K 9 112 _ (by omega) (by omega)).mono ?_); clear K; rintro e w1 ⟨A2, c2, rfl, X2, O2, K⟩) | (go_at_call 55; (with_reducible refine (irow_any K 7 24 _ (by omega) (by omega)).mono ?_); clear K; rintro e w1 ⟨A4, c4, rfl, X4, O4, K⟩) | (go_at_call 55; (with_reducible refine (irow_any K 8 8 _ (by omega) (by omega)).mono ?_); clear K; rintro e w1 ⟨A6, c6, rfl, X6, O6, K⟩) | ((with_reducible refine at_slot (N := 9) rfl ?_); at_builtin; refine wpList_does rfl (kd_appendN K _ _ rfl rfl rfl O1 Seg.auto ((RdS.own (w0 := w0) O2 Seg.auto).at_ _ K) (by kernel_rfl) (by kernel_rfl) (by omega)) ?_; clear K; rintro _ w1 ⟨A3, c3, X3, rfl, O3, K⟩; (try simp only [Nat.zero_add, List.nil_append] at O3)) | ((with_reducible refine at_slot (N := 11) rfl ?_); at_builtin; refine wpList_does rfl (kd_appendN K _ _ rfl rfl rfl O3 Seg.auto ((RdS.own (w0 := w0) O4 Seg.auto).at_ _ K) (by kernel_rfl) (by kernel_rfl) (by omega)) ?_; clear K; rintro _ w1 ⟨A5, c5, X5, rfl, O5, K⟩; (try simp only [Nat.zero_add, List.nil_append] at O5)) | ((with_reducible refine at_slot (N := 13) rfl ?_); at_builtin; refine wpList_does rfl (kd_appendN K _ _ rfl rfl rfl O5 Seg.auto ((RdS.own (w0 := w0) O6 Seg.auto).at_ _ K) (by kernel_rfl) (by kernel_rfl) (by omega)) ?_; clear K; rintro _ w1 ⟨A7, c7, X7, rfl, O7, K⟩; (try simp only [Nat.zero_add, List.nil_append] at O7))))
  replace O7 : OwnL 5 1 A7 288 c7 (fixL.map (Value.int .u8)) X7 := O7
  go_upto_region 3 with ((first | (go_at_call 56; (with_reducible refine (hnew_yes K (RdS.own (w0 := w0) (xs := fixL) O7 Seg.auto) fixL_byte fixL_may).mono ?_); clear K; rintro e w1 ⟨g1, rfl, T1, hT1, K⟩)))
  go_wp2_with (first | (go_at_call 55; (with_reducible refine (irow_any K 5 32 _ (by omega) (by omega)).mono ?_); clear K; rintro e w1 ⟨A8, c8, rfl, X8, O8, K⟩) | (go_at_call 56; (with_reducible refine (hnew_yes K (RdS.own (w0 := w0) (xs := fixD) O8 Seg.auto) fixD_byte fixD_may).mono ?_); clear K; rintro e w1 ⟨g2, rfl, T2, hT2, K⟩))
  go_ret2
  exact ⟨g1, g2, rfl, T1, T2, hT1, hT2, K.cov Cov.auto⟩
end
end Go.Proofs.Ytemnahimheffgaa
