/-
  drogherlaw13: awake, InflateNil (walks).
-/
import Derived.Test.YtemnahimheffgaaInfG
set_option linter.unusedVariables false
set_option linter.unusedSimpArgs false
namespace Go.Proofs.Ytemnahimheffgaa
open Go.RowKit

section
variable {w0 w : World} {L : List Ent} {A : Option Addr} {n c : Nat}
theorem fst_any (gr : Nat) (bs : List Int) (n : Nat) (A1 : Option Addr) (c1 : Nat) (Xr : List Ent) (h : Rdr gr bs 0 Xr) : Fst gr bs { inf0 5 with R := A1, rn := (inf0 5).rn + n, rc := c1, r := ptr' gr } (Xr ++ []) := by
  rw [List.append_nil]
  exact ⟨h, rfl, rfl, rfl, rfl, rfl, rfl, rfl⟩
set_option maxHeartbeats 800000 in
set_option maxRecDepth 100000 in
theorem awake13K (K : Known w0 w L) : Calls Try.prog 8 #[] w fun e w' => e = .returned (.bool true) ∧ Known w0 w' L := by
  have HIA := Lib.hid (show ∀ (gx gr : Nat) A1 c1 Xr, Rdr gr bsA 0 Xr → StA gr 2 { inf0 5 with R := A1, rn := (inf0 5).rn + 2, rc := c1, r := ptr' gr } (Xr ++ []) from fun gx gr A1 c1 Xr h => by rw [StA, if_pos rfl]; exact fst_any gr bsA 2 A1 c1 Xr h)
  have HIB := Lib.hid (show ∀ (gx gr : Nat) A1 c1 Xr, Rdr gr bsB 0 Xr → StB gr 3 { inf0 5 with R := A1, rn := (inf0 5).rn + 6, rc := c1, r := ptr' gr } (Xr ++ []) from fun gx gr A1 c1 Xr h => by rw [StB, if_pos rfl]; exact fst_any gr bsB 6 A1 c1 Xr h)
  go_enter Try.func8, Try.ntmps8
  go_upto_region 2 with ((first | ((with_reducible refine at_buildSlice (n := 2) rfl ?_); refine wpList_does rfl (kd_litsN K _ _ _ rfl (by first | rfl | (go_simp; done) | (go_simp; rfl)) (by first | rfl | (go_simp; done) | (go_simp; rfl)) (xs := [_, _]) (by rfl) (by rfl) (by kernel_rfl)) ?_; clear K; rintro _ w1 ⟨gl, rfl, K, OL⟩; rw [show ([3, 0] : List Int) = bsA from rfl] at OL) | (go_at_call 9; (with_reducible refine (iinflate_run (bs := bsA) (os := []) (St := fun _ => StA) K (RdS.own (w0 := w0) OL Seg.auto) (by decide) (by decide) (by decide) (fun _ => runA) 2 (by decide) HIA.out).mono ?_); clear K; rintro e w1 ⟨A1, c1, rfl, X1, O1, K⟩)))
  go_upto_region 3 with ((first | ((with_reducible refine at_buildSlice (n := 6) rfl ?_); refine wpList_does rfl (kd_litsN K _ _ _ rfl (by first | rfl | (go_simp; done) | (go_simp; rfl)) (by first | rfl | (go_simp; done) | (go_simp; rfl)) (xs := [_, _, _, _, _, _]) (by rfl) (by rfl) (by kernel_rfl)) ?_; clear K; rintro _ w1 ⟨gl2, rfl, K, OL⟩; rw [show ([1, 1, 0, 254, 255, 77] : List Int) = bsB from rfl] at OL) | (go_at_call 9; (with_reducible refine (iinflate_run (bs := bsB) (os := [77]) (St := fun _ => StB) K (RdS.own (w0 := w0) OL Seg.auto) (by decide) (by decide) (by decide) (fun _ => runB) 3 (by decide) HIB.out).mono ?_); clear K; rintro e w1 ⟨A2, c2, rfl, X2, O2, K⟩)))
  have hs77 : (strOfNums ([77] : List Int)).toList = [77] := by decide +kernel
  go_wp2_with (first | ((with_reducible refine at_convert (t := 22) (u := 9) rfl ?_); refine wpList_reads rfl (kr_string rfl rfl ((RdS.own (L := _) O2 Seg.auto).at_ _ K) Try.underlying22 Try.underlying5 Try.underlying9) ?_))
  go_ret
  exact ⟨rfl, K.cov Cov.auto⟩
set_option maxRecDepth 100000 in
theorem inflateNil_any (K : Known w0 w L) : Calls Try.prog 7 #[.slice A n c] w fun e w' => e = .returned (.bool true) ∧ Known w0 w' L := by
  go_enter Try.func7, Try.ntmps7
  go_wp2_with (first | (go_at_call 8; (with_reducible refine (awake13K K).mono ?_); clear K; rintro e w1 ⟨rfl, K⟩) | (go_at_call 15; (with_reducible refine (inil_write _).mono ?_); rintro e w' ⟨rfl, rfl⟩) | (go_at_call 17; (with_reducible refine (inil_done).mono ?_); rintro e w' ⟨rfl, rfl⟩) | (go_at_call 16; (with_reducible refine (inil_out).mono ?_); rintro e w' ⟨rfl, rfl⟩) | (go_at_call 18; (with_reducible refine (inil_held).mono ?_); rintro e w' ⟨rfl, rfl⟩))
  all_goals
    go_ret
    exact ⟨rfl, K⟩
end
end Go.Proofs.Ytemnahimheffgaa
