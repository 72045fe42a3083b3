/-
  drogherlaw20.SafeFolds (walk).
-/
import Derived.Test.YtffednkdmkohdaaSfR
set_option linter.unusedVariables false
set_option linter.unusedSimpArgs false
namespace Go.Proofs.Ytffednkdmkohdaa
open Go.RowKit

section
variable {w0 w : World} {L : List Ent} {bA A B : Option Addr} {bn bc n c m d : Nat} {bs : List Int} {rows : List (Arow Ast)} {os : List Int} {block new : Int}
set_option maxHeartbeats 1600000 in
set_option maxRecDepth 100000 in
theorem safeFolds_any (K : Known w0 w L) (Rb : RdS w0 [] .u8 bA bn bs) (hbc : bn ≤ bc) (G : Plans w0 [] A n rows) (hc : n ≤ c) (R : RdS w0 [] .i64 B m os) (hd : m ≤ d) : Calls Try.prog 7 #[.slice bA bn bc, .slice A n c, .slice B m d, .int .i64 block, .int .i64 new] w fun e w' => e = .returned (.bool true) ∧ Known w0 w' L := by
  cases hg : greatP rows
  · have HG := Lib.hid hg
    obtain ⟨hgn, hg6⟩ := greatP_no hg
    have hl := G.R.len
    have hn4 : n ≤ 40 := by omega
    have h6 : ∀ r ∈ rows, r.n ≤ 60 := fun r hr => by
      have h1 := greatA_no (hg6 r hr)
      have h2 := (G.row r hr).1.len
      omega
    clear hg hgn hg6 hl
    by_cases hm6 : 60 < m
    · have d1 : decide (60 < (m : Int)) = true := decide_eq_true (by omega)
      go_enter Try.func7, Try.ntmps7
      go_wp2_with (first | (go_at_call 24; (with_reducible refine (pgreat_any K G hc).mono ?_); rintro e w' ⟨rfl, rfl⟩; rw [HG.out]) | (go_at_call 27; (with_reducible refine (awake20K K).mono ?_); clear K; rintro e w1 ⟨rfl, K⟩))
      go_ret
      exact ⟨rfl, K⟩
    have d1 : decide (60 < (m : Int)) = false := decide_eq_false (by omega)
    by_cases hb5 : 5000 < bn
    · have d2 : decide (5000 < (bn : Int)) = true := decide_eq_true (by omega)
      go_enter Try.func7, Try.ntmps7
      go_wp2_with (first | (go_at_call 24; (with_reducible refine (pgreat_any K G hc).mono ?_); rintro e w' ⟨rfl, rfl⟩; rw [HG.out]) | (go_at_call 27; (with_reducible refine (awake20K K).mono ?_); clear K; rintro e w1 ⟨rfl, K⟩))
      go_ret
      exact ⟨rfl, K⟩
    have d2 : decide (5000 < (bn : Int)) = false := decide_eq_false (by omega)
    by_cases hn5 : 5000 < new
    · have d3 : decide (5000 < new) = true := decide_eq_true (by omega)
      go_enter Try.func7, Try.ntmps7
      go_wp2_with (first | (go_at_call 24; (with_reducible refine (pgreat_any K G hc).mono ?_); rintro e w' ⟨rfl, rfl⟩; rw [HG.out]) | (go_at_call 27; (with_reducible refine (awake20K K).mono ?_); clear K; rintro e w1 ⟨rfl, K⟩))
      go_ret
      exact ⟨rfl, K⟩
    have d3 : decide (5000 < new) = false := decide_eq_false (by omega)
    obtain ⟨xl, x, hx⟩ : ∃ xl x, foldE bs (rows.map (·.l)) os block new = (xl, x) := ⟨_, _, rfl⟩
    have HX := Lib.hid hx
    have e1 : (x == x) = true := by simp
    clear hx
    go_enter Try.func7, Try.ntmps7
    go_wp2_with (first | (go_at_call 24; (with_reducible refine (pgreat_any K G hc).mono ?_); rintro e w' ⟨rfl, rfl⟩; rw [HG.out]) | ((with_reducible refine at_slot (N := 33) rfl ?_); (with_reducible refine at_buildSlice (n := 0) rfl ?_); refine wpList_does rfl (kd_lit0 K _ 5 1 rfl Try.underlying48 (by kernel_rfl)) ?_; clear K; rintro _ w1 ⟨go, rfl, K⟩; have OW : OwnL 5 1 (some ⟨go, 0, none⟩) 0 0 (([] : List Int).map (Value.int .u8)) [row go #[] 5] := OwnL.lit0 _ _) | (at_builtin; refine wpList_does rfl (kd_appendN K _ _ rfl rfl rfl (by with_reducible assumption) Seg.auto ((Rb.cov Cov.auto).get K (Cov.all _)) (by kernel_rfl) (by kernel_rfl) (by omega)) ?_; clear K; rintro _ w1 ⟨Ao, co, Xo, rfl, OW, K⟩; (try simp only [Nat.zero_add, List.nil_append] at OW); have hco := OW.le) | (go_at_call 30; (with_reducible refine (sfold_any K (RdS.own (w0 := w0) OW Seg.auto) hco (by omega) G hc R hd (by omega) (by omega) h6 (by omega)).mono ?_); clear K; rintro e w1 ⟨A1, k1, c1, rfl, hc1, hk1, X1, R1, K⟩; rw [HX.out]; rw [HX.out] at R1 hk1) | (go_at_call 31; (with_reducible refine (rfold_any K (Rb.cov Cov.auto) hbc (by omega) G hc R hd (by omega) (by omega) h6 (by omega)).mono ?_); clear K; rintro e w1 ⟨A2, k2, c2, rfl, hc2, hk2, X2, R2, K⟩; rw [HX.out]; rw [HX.out] at R2 hk2) | ((with_reducible refine at_slot (N := 56) rfl ?_); (with_reducible refine at_convert (t := 48) (u := 9) rfl ?_); refine wpList_reads rfl (kr_string rfl rfl ((R1.cov Cov.auto).at_ _ K) Try.underlying48 Try.underlying5 Try.underlying9) ?_) | ((with_reducible refine at_slot (N := 58) rfl ?_); (with_reducible refine at_convert (t := 48) (u := 9) rfl ?_); refine wpList_reads rfl (kr_string rfl rfl ((R2.cov Cov.auto).at_ _ K) Try.underlying48 Try.underlying5 Try.underlying9) ?_) | ((with_reducible refine at_slot (N := 67) rfl ?_); (with_reducible refine at_convert (t := 48) (u := 9) rfl ?_); refine wpList_reads rfl (kr_string rfl rfl ((RdS.own (L := _) OW Seg.auto).at_ _ K) Try.underlying48 Try.underlying5 Try.underlying9) ?_) | ((with_reducible refine at_slot (N := 69) rfl ?_); (with_reducible refine at_convert (t := 48) (u := 9) rfl ?_); refine wpList_reads rfl (kr_string rfl rfl ((Rb.cov Cov.auto).at_ _ K) Try.underlying48 Try.underlying5 Try.underlying9) ?_) | (go_at_call 27; (with_reducible refine (awake20K K).mono ?_); clear K; rintro e w1 ⟨rfl, K⟩))
    go_ret
    exact ⟨rfl, K.cov Cov.auto⟩
  · have HG := Lib.hid hg
    clear hg
    go_enter Try.func7, Try.ntmps7
    go_wp2_with (first | (go_at_call 24; (with_reducible refine (pgreat_any K G hc).mono ?_); rintro e w' ⟨rfl, rfl⟩; rw [HG.out]) | (go_at_call 27; (with_reducible refine (awake20K K).mono ?_); clear K; rintro e w1 ⟨rfl, K⟩))
    go_ret
    exact ⟨rfl, K⟩
end
end Go.Proofs.Ytffednkdmkohdaa
