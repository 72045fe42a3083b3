/-
  Package inflate: symbols (contract).
-/
import Derived.Test.YtemnahimheffgaaInfM
set_option linter.unusedVariables false
set_option linter.unusedSimpArgs false
namespace Go.Proofs.Ytemnahimheffgaa
open Go.RowKit

theorem lenM_le : ∀ s, s < 286 → (lenM s).1 ≤ 258 ∧ (lenM s).2 ≤ 5 := by decide +kernel
theorem disM_le : ∀ s, s < 30 → (disM s).1 ≤ 24577 ∧ (disM s).2 ≤ 13 ∧ 1 ≤ (disM s).1 := by decide +kernel
section
variable {w0 w : World} {L Xr Z : List Ent} {gx gr p : Nat} {x : Ifl} {bs : List Int} {m : Mo}
set_option maxHeartbeats 1600000 in
set_option maxRecDepth 100000 in
theorem isymbols_any (K : Known w0 w (Xr ++ (row gx (ifC x) 53 :: (Z ++ L)))) (hR : Rdr gr bs p Xr) (hr : x.r = ptr' gr) (hI : Is m x Z) (hn1 : m.next = 3) :
    Calls Try.prog 44 #[ptr' gx] w (StP w0 gx gr bs x Z L (symbolsM (ofBytes bs) m p)) := by
  obtain ⟨R0, hR0⟩ : ∃ R0, symbolsM (ofBytes bs) m p = R0 := ⟨_, rfl⟩
  have H0 := Lib.hid hR0
  rw [hR0]
  clear hR0
  obtain ⟨hC, XO, T, hO, hT, rfl⟩ := hI
  obtain ⟨-, g1, g2, T1, T2, hlit, hdist, hT1, hT2, hl1, hl2, rfl⟩ : m.next = 3 ∧ ∃ g1 g2 T1 T2, x.lit = ptr' g1 ∧ x.dist = ptr' g2 ∧ TbIs g1 m.lit T1 ∧ TbIs g2 m.dist T2 ∧ m.lit.length ≤ 300 ∧ m.dist.length ≤ 300 ∧ T = T1 ++ T2 := by
    rcases hT with ⟨h, -⟩ | h
    · exact absurd hn1 h
    · exact h
  have HN := Lib.hid hn1
  clear hT hn1
  replace K : Known w0 w (T1 ++ (Xr ++ (row gx (ifC x) 53 :: (XO ++ (T2 ++ L))))) := by
    simp only [List.append_assoc] at K
    exact K.cov Cov.auto
  have HM0 := Lib.hid (show 0 ≤ x.most ∧ x.most ≤ 9223372036854775807 by rw [hC.most]; have := hC.h0; have := hC.h5; omega)
  have HON := Lib.hid (show x.on ≤ 9223372036854775807 by rw [hC.on]; have := hC.room; have := hC.h5; omega)
  have HON2 := Lib.hid (show x.on ≤ 5000 by rw [hC.on]; have := hC.room; have := hC.h5; omega)
  cases h1 : symM m.lit (ofBytes bs) p with
  | th cc =>
    have H1 := Lib.hid h1
    have HF := Lib.hid (show R0 = .th cc by rw [← H0.out, symbolsM, h1]; rfl)
    clear h1
    go_enter Try.func44, Try.ntmps44
    go_wp2_with (first | (((with_reducible refine at_load rfl ?_); first | (refine wpList_reads (by rfl) (kr_load_cell K _ _ (by rfl) (by rfl) Has.auto (by decide +kernel) (if_most _)) ?_) | (refine wpList_reads (by rfl) (kr_load_cell K _ _ (by rfl) (by rfl) Has.auto (by decide +kernel) (if_out _)) ?_) | (refine wpList_reads (by rfl) (kr_load_cell K _ _ (by rfl) (by rfl) Has.auto (by decide +kernel) (if_rest _)) ?_) | (refine wpList_reads (by rfl) (kr_load_cell K _ _ (by rfl) (by rfl) Has.auto (by decide +kernel) (if_from _)) ?_) | (refine wpList_reads (by rfl) (kr_load_cell K _ _ (by rfl) (by rfl) Has.auto (by decide +kernel) (if_r _)) ?_) | (refine wpList_reads (by rfl) (kr_load_cell K _ _ (by rfl) (by rfl) Has.auto (by decide +kernel) (if_next _)) ?_) | (refine wpList_reads (by rfl) (kr_load_cell K _ _ (by rfl) (by rfl) Has.auto (by decide +kernel) (if_last _)) ?_) | (refine wpList_reads (by rfl) (kr_load_cell K _ _ (by rfl) (by rfl) Has.auto (by decide +kernel) (if_left _)) ?_) | (refine wpList_reads (by rfl) (kr_load_cell K _ _ (by rfl) (by rfl) Has.auto (by decide +kernel) (if_lit _)) ?_) | (refine wpList_reads (by rfl) (kr_load_cell K _ _ (by rfl) (by rfl) Has.auto (by decide +kernel) (if_dist _)) ?_) | (refine wpList_reads (by rfl) (kr_load_cell K _ _ (by rfl) (by rfl) Has.auto (by decide +kernel) (if_e _)) ?_)); (try dsimp only)) | (go_at_call 59; (with_reducible refine (isym_th (L := row gx (ifC x) 53 :: (XO ++ (T2 ++ L))) K Has.auto hr hT1 hR hl1 H1.out).mono ?_); clear K; rintro e w1 ⟨rfl, X1, hX1, K⟩))
    rw [HF.out]; exact ⟨rfl, rfl, _, X1, hX1, by simp only [List.append_assoc]; exact K.cov Cov.auto⟩
  | ok s q1 =>
  have H1 := Lib.hid h1
  have HA := Lib.hid (show R0 = _ from (H0.out.symm.trans (by rw [symbolsM, h1, Rs.andThen_ok])))
  clear h1
  by_cases hs1 : s < 256
  · have e1 : (s : Int) % 256 = (s : Int) := by omega
    by_cases hm : m.most - m.out.length < 1
    · have HF := Lib.hid (show R0 = .th 12 by rw [HA.out, if_pos hs1, if_pos hm])
      have HRM := Lib.hid (show x.most - x.on < (1 : Int) by rw [hC.most, hC.on]; exact hm)
      clear hm HA
      go_enter Try.func44, Try.ntmps44
      go_wp2_with (first | (go_at_call 59; (with_reducible refine (isym_ok (L := row gx (ifC x) 53 :: (XO ++ (T2 ++ L))) K Has.auto hr hT1 hR hl1 H1.out).mono ?_); clear K; rintro e w1 ⟨rfl, X1, hX1, K⟩) | (((with_reducible refine at_load rfl ?_); first | (refine wpList_reads (by rfl) (kr_load_cell K _ _ (by rfl) (by rfl) Has.auto (by decide +kernel) (if_most _)) ?_) | (refine wpList_reads (by rfl) (kr_load_cell K _ _ (by rfl) (by rfl) Has.auto (by decide +kernel) (if_out _)) ?_) | (refine wpList_reads (by rfl) (kr_load_cell K _ _ (by rfl) (by rfl) Has.auto (by decide +kernel) (if_rest _)) ?_) | (refine wpList_reads (by rfl) (kr_load_cell K _ _ (by rfl) (by rfl) Has.auto (by decide +kernel) (if_from _)) ?_) | (refine wpList_reads (by rfl) (kr_load_cell K _ _ (by rfl) (by rfl) Has.auto (by decide +kernel) (if_r _)) ?_) | (refine wpList_reads (by rfl) (kr_load_cell K _ _ (by rfl) (by rfl) Has.auto (by decide +kernel) (if_next _)) ?_) | (refine wpList_reads (by rfl) (kr_load_cell K _ _ (by rfl) (by rfl) Has.auto (by decide +kernel) (if_last _)) ?_) | (refine wpList_reads (by rfl) (kr_load_cell K _ _ (by rfl) (by rfl) Has.auto (by decide +kernel) (if_left _)) ?_) | (refine wpList_reads (by rfl) (kr_load_cell K _ _ (by rfl) (by rfl) Has.auto (by decide +kernel) (if_lit _)) ?_) | (refine wpList_reads (by rfl) (kr_load_cell K _ _ (by rfl) (by rfl) Has.auto (by decide +kernel) (if_dist _)) ?_) | (refine wpList_reads (by rfl) (kr_load_cell K _ _ (by rfl) (by rfl) Has.auto (by decide +kernel) (if_e _)) ?_)); (try dsimp only)) | (go_at_call 40; (with_reducible refine (iroom_th K Has.auto _ HM0.out HON.out HRM.out).mono ?_); clear K; rintro e w1 ⟨rfl, K⟩))
      rw [HF.out]; exact ⟨rfl, rfl, _, X1, hX1, by simp only [List.append_assoc]; exact K.cov Cov.auto⟩
    · have HF := Lib.hid (show R0 = .ok { m with out := m.out ++ [(s : Int)], next := 3 } q1 by rw [HA.out, if_pos hs1, if_neg hm])
      have HRM := Lib.hid (show (1 : Int) ≤ x.most - x.on by rw [hC.most, hC.on]; omega)
      have HRO := Lib.hid (show (m.out.length : Int) + 1 ≤ m.most by omega)
      have HBD := Lib.hid (show x.on + 1 ≤ 34000000000 by have := HON2.out; omega)
      clear hm HA
      go_enter Try.func44, Try.ntmps44
      go_wp2_with (first | (go_at_call 59; (with_reducible refine (isym_ok (L := row gx (ifC x) 53 :: (XO ++ (T2 ++ L))) K Has.auto hr hT1 hR hl1 H1.out).mono ?_); clear K; rintro e w1 ⟨rfl, X1, hX1, K⟩) | (((with_reducible refine at_load rfl ?_); first | (refine wpList_reads (by rfl) (kr_load_cell K _ _ (by rfl) (by rfl) Has.auto (by decide +kernel) (if_most _)) ?_) | (refine wpList_reads (by rfl) (kr_load_cell K _ _ (by rfl) (by rfl) Has.auto (by decide +kernel) (if_out _)) ?_) | (refine wpList_reads (by rfl) (kr_load_cell K _ _ (by rfl) (by rfl) Has.auto (by decide +kernel) (if_rest _)) ?_) | (refine wpList_reads (by rfl) (kr_load_cell K _ _ (by rfl) (by rfl) Has.auto (by decide +kernel) (if_from _)) ?_) | (refine wpList_reads (by rfl) (kr_load_cell K _ _ (by rfl) (by rfl) Has.auto (by decide +kernel) (if_r _)) ?_) | (refine wpList_reads (by rfl) (kr_load_cell K _ _ (by rfl) (by rfl) Has.auto (by decide +kernel) (if_next _)) ?_) | (refine wpList_reads (by rfl) (kr_load_cell K _ _ (by rfl) (by rfl) Has.auto (by decide +kernel) (if_last _)) ?_) | (refine wpList_reads (by rfl) (kr_load_cell K _ _ (by rfl) (by rfl) Has.auto (by decide +kernel) (if_left _)) ?_) | (refine wpList_reads (by rfl) (kr_load_cell K _ _ (by rfl) (by rfl) Has.auto (by decide +kernel) (if_lit _)) ?_) | (refine wpList_reads (by rfl) (kr_load_cell K _ _ (by rfl) (by rfl) Has.auto (by decide +kernel) (if_dist _)) ?_) | (refine wpList_reads (by rfl) (kr_load_cell K _ _ (by rfl) (by rfl) Has.auto (by decide +kernel) (if_e _)) ?_)); (try dsimp only)) | (go_at_call 40; (with_reducible refine (iroom_yes K Has.auto _ HM0.out HON.out HRM.out).mono ?_); clear K; rintro e w1 ⟨rfl, K⟩) | ((with_reducible refine at_buildSlice rfl ?_); refine wpList_does rfl (kd_lits (cs := _) K _ _ _ rfl (by first | rfl | (go_simp; done) | (go_simp; rfl)) (by first | rfl | (go_simp; done) | (go_simp; rfl))) ?_; clear K; rintro _ w1 ⟨g, rfl, K⟩) | (at_builtin; refine wpList_does rfl (kd_appendN K _ _ rfl rfl rfl hO Seg.auto (Rd.ofBlk (n := 1) (xs := [_]) (K.blk Has.auto) rfl rfl) (by kernel_rfl) (by kernel_rfl) HBD.out) ?_; clear K; rintro _ w1 ⟨A5, c5, X5, rfl, O5, K⟩; (try simp only [Nat.zero_add, List.nil_append] at O5)) | (((with_reducible refine at_store rfl ?_); first | (refine wpList_does (by rfl) (kd_store_cell K _ _ _ (by rfl) (by rfl) (by conv => lhs; whnf) Repl.auto (by rfl) (by rfl) (by decide +kernel) (by rfl) (if_s_out _ _ _ _)) ?_) | (refine wpList_does (by rfl) (kd_store_cell K _ _ _ (by rfl) (by rfl) (by conv => lhs; whnf) Repl.auto (by rfl) (by rfl) (by decide +kernel) (by rfl) (if_s_rest _ _ _ _)) ?_) | (refine wpList_does (by rfl) (kd_store_cell K _ _ _ (by rfl) (by rfl) (by conv => lhs; whnf) Repl.auto (by rfl) (by rfl) (by decide +kernel) (by rfl) (if_s_from _ _)) ?_) | (refine wpList_does (by rfl) (kd_store_cell K _ _ _ (by rfl) (by rfl) (by conv => lhs; whnf) Repl.auto (by rfl) (by rfl) (by decide +kernel) (by rfl) (if_s_r _ _)) ?_) | (refine wpList_does (by rfl) (kd_store_cell K _ _ _ (by rfl) (by rfl) (by conv => lhs; whnf) Repl.auto (by rfl) (by rfl) (by decide +kernel) (by rfl) (if_s_next _ _)) ?_) | (refine wpList_does (by rfl) (kd_store_cell K _ _ _ (by rfl) (by rfl) (by conv => lhs; whnf) Repl.auto (by rfl) (by rfl) (by decide +kernel) (by rfl) (if_s_last _ _)) ?_) | (refine wpList_does (by rfl) (kd_store_cell K _ _ _ (by rfl) (by rfl) (by conv => lhs; whnf) Repl.auto (by rfl) (by rfl) (by decide +kernel) (by rfl) (if_s_left _ _)) ?_) | (refine wpList_does (by rfl) (kd_store_cell K _ _ _ (by rfl) (by rfl) (by conv => lhs; whnf) Repl.auto (by rfl) (by rfl) (by decide +kernel) (by rfl) (if_s_lit _ _)) ?_) | (refine wpList_does (by rfl) (kd_store_cell K _ _ _ (by rfl) (by rfl) (by conv => lhs; whnf) Repl.auto (by rfl) (by rfl) (by decide +kernel) (by rfl) (if_s_dist _ _)) ?_) | (refine wpList_does (by rfl) (kd_store_cell K _ _ _ (by rfl) (by rfl) (by conv => lhs; whnf) Repl.auto (by rfl) (by rfl) (by decide +kernel) (by rfl) (if_s_e _ _)) ?_)); clear K; intro _ w1 K; (try dsimp only at K)))
      go_ret
      rw [HF.out]
      refine ⟨rfl, { x with O := A5, on := x.on + 1, oc := c5 }, X1, X5 ++ (T1 ++ T2), hX1, ⟨⟨hC.most, hC.h0, hC.h5, ?_, ?_, ?_, hC.last, hC.left, (fun h => by cases h), hC.e⟩, X5, T1 ++ T2, O5, .inr ⟨rfl, g1, g2, T1, T2, hlit, hdist, hT1, hT2, hl1, hl2, rfl⟩, rfl⟩, ⟨rfl, rfl, rfl, rfl, rfl⟩, by simp only [List.append_assoc]; exact K.cov Cov.auto⟩
      · show x.on + 1 = (m.out ++ [(s : Int)]).length
        rw [hC.on, List.length_append]
        rfl
      · show ((m.out ++ [(s : Int)]).length : Int) ≤ m.most
        rw [List.length_append]
        exact HRO.out
      · intro v hv
        rcases List.mem_append.1 hv with h | h
        · exact hC.byte v h
        · obtain rfl := List.mem_singleton.1 h
          omega
  by_cases hs2 : s = 256
  · subst hs2
    have HF := Lib.hid (show R0 = .ok { m with next := endN m.last } (endP m.last q1) by rw [HA.out, if_neg hs1, if_pos rfl, endsM_eq])
    have HLA := Lib.hid hC.last
    clear HA
    go_enter Try.func44, Try.ntmps44
    go_wp2_with (first | (go_at_call 59; (with_reducible refine (isym_ok (L := row gx (ifC x) 53 :: (XO ++ (T2 ++ L))) K Has.auto hr hT1 hR hl1 H1.out).mono ?_); clear K; rintro e w1 ⟨rfl, X1, hX1, K⟩) | (((with_reducible refine at_load rfl ?_); first | (refine wpList_reads (by rfl) (kr_load_cell K _ _ (by rfl) (by rfl) Has.auto (by decide +kernel) (if_most _)) ?_) | (refine wpList_reads (by rfl) (kr_load_cell K _ _ (by rfl) (by rfl) Has.auto (by decide +kernel) (if_out _)) ?_) | (refine wpList_reads (by rfl) (kr_load_cell K _ _ (by rfl) (by rfl) Has.auto (by decide +kernel) (if_rest _)) ?_) | (refine wpList_reads (by rfl) (kr_load_cell K _ _ (by rfl) (by rfl) Has.auto (by decide +kernel) (if_from _)) ?_) | (refine wpList_reads (by rfl) (kr_load_cell K _ _ (by rfl) (by rfl) Has.auto (by decide +kernel) (if_r _)) ?_) | (refine wpList_reads (by rfl) (kr_load_cell K _ _ (by rfl) (by rfl) Has.auto (by decide +kernel) (if_next _)) ?_) | (refine wpList_reads (by rfl) (kr_load_cell K _ _ (by rfl) (by rfl) Has.auto (by decide +kernel) (if_last _)) ?_) | (refine wpList_reads (by rfl) (kr_load_cell K _ _ (by rfl) (by rfl) Has.auto (by decide +kernel) (if_left _)) ?_) | (refine wpList_reads (by rfl) (kr_load_cell K _ _ (by rfl) (by rfl) Has.auto (by decide +kernel) (if_lit _)) ?_) | (refine wpList_reads (by rfl) (kr_load_cell K _ _ (by rfl) (by rfl) Has.auto (by decide +kernel) (if_dist _)) ?_) | (refine wpList_reads (by rfl) (kr_load_cell K _ _ (by rfl) (by rfl) Has.auto (by decide +kernel) (if_e _)) ?_)); (try dsimp only)) | (go_at_call 53; (with_reducible refine (iends_any (L := T1 ++ (XO ++ (T2 ++ L))) (K.cov Cov.auto) hX1 hr _ HLA.out).mono ?_); clear K; rintro e w1 ⟨rfl, X4, hX4, K⟩))
    go_ret
    rw [HF.out]
    refine ⟨rfl, x, X4, XO ++ [], hX4, ⟨⟨hC.most, hC.h0, hC.h5, hC.on, hC.room, hC.byte, hC.last, hC.left, (fun h => ?_), hC.e⟩, XO, [], hO, .inl ⟨?_, rfl⟩, rfl⟩, ⟨rfl, rfl, rfl, rfl, rfl⟩, by rw [List.append_nil]; exact K.cov Cov.auto⟩
    · exfalso
      revert h
      show ¬ endN m.last = 2
      unfold endN
      split <;> decide
    · show endN m.last ≠ 3
      unfold endN
      split <;> decide
  have e2 : ((s : Int) == 256) = false := beq_eq_false_iff_ne.2 (by omega)
  have e3 : ¬ (s : Int) < 256 := by omega
  by_cases hs3 : 285 < s
  · have HF := Lib.hid (show R0 = .th 11 by rw [HA.out, if_neg hs1, if_neg hs2, if_pos hs3])
    have d1 : decide ((285 : Int) < (s : Int)) = true := decide_eq_true (by omega)
    clear HA
    go_enter Try.func44, Try.ntmps44
    go_wp2_with (first | (go_at_call 59; (with_reducible refine (isym_ok (L := row gx (ifC x) 53 :: (XO ++ (T2 ++ L))) K Has.auto hr hT1 hR hl1 H1.out).mono ?_); clear K; rintro e w1 ⟨rfl, X1, hX1, K⟩) | (((with_reducible refine at_load rfl ?_); first | (refine wpList_reads (by rfl) (kr_load_cell K _ _ (by rfl) (by rfl) Has.auto (by decide +kernel) (if_most _)) ?_) | (refine wpList_reads (by rfl) (kr_load_cell K _ _ (by rfl) (by rfl) Has.auto (by decide +kernel) (if_out _)) ?_) | (refine wpList_reads (by rfl) (kr_load_cell K _ _ (by rfl) (by rfl) Has.auto (by decide +kernel) (if_rest _)) ?_) | (refine wpList_reads (by rfl) (kr_load_cell K _ _ (by rfl) (by rfl) Has.auto (by decide +kernel) (if_from _)) ?_) | (refine wpList_reads (by rfl) (kr_load_cell K _ _ (by rfl) (by rfl) Has.auto (by decide +kernel) (if_r _)) ?_) | (refine wpList_reads (by rfl) (kr_load_cell K _ _ (by rfl) (by rfl) Has.auto (by decide +kernel) (if_next _)) ?_) | (refine wpList_reads (by rfl) (kr_load_cell K _ _ (by rfl) (by rfl) Has.auto (by decide +kernel) (if_last _)) ?_) | (refine wpList_reads (by rfl) (kr_load_cell K _ _ (by rfl) (by rfl) Has.auto (by decide +kernel) (if_left _)) ?_) | (refine wpList_reads (by rfl) (kr_load_cell K _ _ (by rfl) (by rfl) Has.auto (by decide +kernel) (if_lit _)) ?_) | (refine wpList_reads (by rfl) (kr_load_cell K _ _ (by rfl) (by rfl) Has.auto (by decide +kernel) (if_dist _)) ?_) | (refine wpList_reads (by rfl) (kr_load_cell K _ _ (by rfl) (by rfl) Has.auto (by decide +kernel) (if_e _)) ?_)); (try dsimp only)) | (go_at_call 38; (with_reducible refine (ibad_yes K _).mono ?_); clear K; rintro e w1 ⟨rfl, K⟩))
    rw [HF.out]; exact ⟨rfl, rfl, _, X1, hX1, by simp only [List.append_assoc]; exact K.cov Cov.auto⟩
  have d1 : decide ((285 : Int) < (s : Int)) = false := decide_eq_false (by omega)
  have HS1 := Lib.hid (show 257 ≤ s by omega)
  have HS2 := Lib.hid (show s ≤ 285 by omega)
  obtain ⟨ln, lm, hln⟩ : ∃ ln lm, lenM s = (ln, lm) := ⟨_, _, rfl⟩
  have HLN := Lib.hid hln
  have hle := lenM_le s (by omega)
  rw [hln] at hle
  replace hle : ln ≤ 258 ∧ lm ≤ 5 := hle
  have HB := Lib.hid (show R0 = _ from (HA.out.trans (by rw [if_neg hs1, if_neg hs2, if_neg hs3, hln])))
  clear hln HA
  cases h2 : numM (ofBytes bs) q1 lm with
  | th cc =>
    have H2 := Lib.hid h2
    have HF := Lib.hid (show R0 = .th cc by rw [HB.out, h2]; rfl)
    clear h2 HB
    go_enter Try.func44, Try.ntmps44
    go_wp2_with (first | (go_at_call 37; (with_reducible refine (inum_th (L := T1 ++ (row gx (ifC x) 53 :: (XO ++ (T2 ++ L)))) (K.cov Cov.auto) Has.auto hr hX1 lm _ (by omega) (by omega) H2.out).mono ?_); clear K; rintro e w1 ⟨rfl, K⟩) | (go_at_call 59; (with_reducible refine (isym_ok (L := row gx (ifC x) 53 :: (XO ++ (T2 ++ L))) K Has.auto hr hT1 hR hl1 H1.out).mono ?_); clear K; rintro e w1 ⟨rfl, X1, hX1, K⟩) | (((with_reducible refine at_load rfl ?_); first | (refine wpList_reads (by rfl) (kr_load_cell K _ _ (by rfl) (by rfl) Has.auto (by decide +kernel) (if_most _)) ?_) | (refine wpList_reads (by rfl) (kr_load_cell K _ _ (by rfl) (by rfl) Has.auto (by decide +kernel) (if_out _)) ?_) | (refine wpList_reads (by rfl) (kr_load_cell K _ _ (by rfl) (by rfl) Has.auto (by decide +kernel) (if_rest _)) ?_) | (refine wpList_reads (by rfl) (kr_load_cell K _ _ (by rfl) (by rfl) Has.auto (by decide +kernel) (if_from _)) ?_) | (refine wpList_reads (by rfl) (kr_load_cell K _ _ (by rfl) (by rfl) Has.auto (by decide +kernel) (if_r _)) ?_) | (refine wpList_reads (by rfl) (kr_load_cell K _ _ (by rfl) (by rfl) Has.auto (by decide +kernel) (if_next _)) ?_) | (refine wpList_reads (by rfl) (kr_load_cell K _ _ (by rfl) (by rfl) Has.auto (by decide +kernel) (if_last _)) ?_) | (refine wpList_reads (by rfl) (kr_load_cell K _ _ (by rfl) (by rfl) Has.auto (by decide +kernel) (if_left _)) ?_) | (refine wpList_reads (by rfl) (kr_load_cell K _ _ (by rfl) (by rfl) Has.auto (by decide +kernel) (if_lit _)) ?_) | (refine wpList_reads (by rfl) (kr_load_cell K _ _ (by rfl) (by rfl) Has.auto (by decide +kernel) (if_dist _)) ?_) | (refine wpList_reads (by rfl) (kr_load_cell K _ _ (by rfl) (by rfl) Has.auto (by decide +kernel) (if_e _)) ?_)); (try dsimp only)) | (go_at_call 60; (with_reducible refine (ilength_any K s HS1.out HS2.out _ rfl).mono ?_); clear K; rintro e w1 ⟨rfl, K⟩; rw [HLN.out]) | (go_at_call 38; (with_reducible refine (ibad_no K _).mono ?_); clear K; rintro e w1 ⟨rfl, K⟩))
    rw [HF.out]; exact ⟨rfl, rfl, _, X1, hX1, by simp only [List.append_assoc]; exact K.cov Cov.auto⟩
  | ok k q2 =>
  have H2 := Lib.hid h2
  have hk : k < 2 ^ 5 := Nat.lt_of_lt_of_le (by rw [← (numM_ok h2).2.1]; exact bitsAt_lt _ _ _) (Nat.pow_le_pow_right (by omega) hle.2)
  obtain ⟨cn, hcn⟩ : ∃ cn, ln + k = cn := ⟨_, rfl⟩
  have hcnI : (ln : Int) + (k : Int) = (cn : Int) := by omega
  have i1 := IntWalk.i64_in (cn : Int) (by omega)
  have HB2 := Lib.hid (show R0 = _ from (HB.out.trans (by rw [h2, Rs.andThen_ok, hcn])))
  clear h2 HB hcn
  cases h3 : symM m.dist (ofBytes bs) q2 with
  | th cc =>
    have H3 := Lib.hid h3
    have HF := Lib.hid (show R0 = .th cc by rw [HB2.out, h3]; rfl)
    clear h3 HB2
    go_enter Try.func44, Try.ntmps44
    go_wp2_with (first | (go_at_call 37; (with_reducible refine (inum_ok (L := T1 ++ (row gx (ifC x) 53 :: (XO ++ (T2 ++ L)))) (K.cov Cov.auto) Has.auto hr hX1 lm _ (by omega) (by omega) H2.out).mono ?_); clear K; rintro e w1 ⟨rfl, X2, hX2, K⟩) | (go_at_call 59; (with_reducible refine (isym_th (Xt := T2) (L := T1 ++ (row gx (ifC x) 53 :: (XO ++ L))) (K.cov Cov.auto) Has.auto hr hT2 hX2 hl2 H3.out).mono ?_); clear K; rintro e w1 ⟨rfl, X3, hX3, K⟩) | (go_at_call 59; (with_reducible refine (isym_ok (L := row gx (ifC x) 53 :: (XO ++ (T2 ++ L))) K Has.auto hr hT1 hR hl1 H1.out).mono ?_); clear K; rintro e w1 ⟨rfl, X1, hX1, K⟩) | (((with_reducible refine at_load rfl ?_); first | (refine wpList_reads (by rfl) (kr_load_cell K _ _ (by rfl) (by rfl) Has.auto (by decide +kernel) (if_most _)) ?_) | (refine wpList_reads (by rfl) (kr_load_cell K _ _ (by rfl) (by rfl) Has.auto (by decide +kernel) (if_out _)) ?_) | (refine wpList_reads (by rfl) (kr_load_cell K _ _ (by rfl) (by rfl) Has.auto (by decide +kernel) (if_rest _)) ?_) | (refine wpList_reads (by rfl) (kr_load_cell K _ _ (by rfl) (by rfl) Has.auto (by decide +kernel) (if_from _)) ?_) | (refine wpList_reads (by rfl) (kr_load_cell K _ _ (by rfl) (by rfl) Has.auto (by decide +kernel) (if_r _)) ?_) | (refine wpList_reads (by rfl) (kr_load_cell K _ _ (by rfl) (by rfl) Has.auto (by decide +kernel) (if_next _)) ?_) | (refine wpList_reads (by rfl) (kr_load_cell K _ _ (by rfl) (by rfl) Has.auto (by decide +kernel) (if_last _)) ?_) | (refine wpList_reads (by rfl) (kr_load_cell K _ _ (by rfl) (by rfl) Has.auto (by decide +kernel) (if_left _)) ?_) | (refine wpList_reads (by rfl) (kr_load_cell K _ _ (by rfl) (by rfl) Has.auto (by decide +kernel) (if_lit _)) ?_) | (refine wpList_reads (by rfl) (kr_load_cell K _ _ (by rfl) (by rfl) Has.auto (by decide +kernel) (if_dist _)) ?_) | (refine wpList_reads (by rfl) (kr_load_cell K _ _ (by rfl) (by rfl) Has.auto (by decide +kernel) (if_e _)) ?_)); (try dsimp only)) | (go_at_call 60; (with_reducible refine (ilength_any K s HS1.out HS2.out _ rfl).mono ?_); clear K; rintro e w1 ⟨rfl, K⟩; rw [HLN.out]) | (go_at_call 38; (with_reducible refine (ibad_no K _).mono ?_); clear K; rintro e w1 ⟨rfl, K⟩))
    rw [HF.out]; exact ⟨rfl, rfl, _, X3, hX3, by simp only [List.append_assoc]; exact K.cov Cov.auto⟩
  | ok d q3 =>
  have H3 := Lib.hid h3
  have HB3 := Lib.hid (show R0 = _ from (HB2.out.trans (by rw [h3, Rs.andThen_ok])))
  clear h3 HB2
  by_cases hd : 29 < d
  · have HF := Lib.hid (show R0 = .th 11 by rw [HB3.out, if_pos hd])
    have d2 : decide ((29 : Int) < (d : Int)) = true := decide_eq_true (by omega)
    clear HB3
    go_enter Try.func44, Try.ntmps44
    go_wp2_with (first | (go_at_call 37; (with_reducible refine (inum_ok (L := T1 ++ (row gx (ifC x) 53 :: (XO ++ (T2 ++ L)))) (K.cov Cov.auto) Has.auto hr hX1 lm _ (by omega) (by omega) H2.out).mono ?_); clear K; rintro e w1 ⟨rfl, X2, hX2, K⟩) | (go_at_call 59; (with_reducible refine (isym_ok (Xt := T2) (L := T1 ++ (row gx (ifC x) 53 :: (XO ++ L))) (K.cov Cov.auto) Has.auto hr hT2 hX2 hl2 H3.out).mono ?_); clear K; rintro e w1 ⟨rfl, X3, hX3, K⟩) | (go_at_call 59; (with_reducible refine (isym_ok (L := row gx (ifC x) 53 :: (XO ++ (T2 ++ L))) K Has.auto hr hT1 hR hl1 H1.out).mono ?_); clear K; rintro e w1 ⟨rfl, X1, hX1, K⟩) | (((with_reducible refine at_load rfl ?_); first | (refine wpList_reads (by rfl) (kr_load_cell K _ _ (by rfl) (by rfl) Has.auto (by decide +kernel) (if_most _)) ?_) | (refine wpList_reads (by rfl) (kr_load_cell K _ _ (by rfl) (by rfl) Has.auto (by decide +kernel) (if_out _)) ?_) | (refine wpList_reads (by rfl) (kr_load_cell K _ _ (by rfl) (by rfl) Has.auto (by decide +kernel) (if_rest _)) ?_) | (refine wpList_reads (by rfl) (kr_load_cell K _ _ (by rfl) (by rfl) Has.auto (by decide +kernel) (if_from _)) ?_) | (refine wpList_reads (by rfl) (kr_load_cell K _ _ (by rfl) (by rfl) Has.auto (by decide +kernel) (if_r _)) ?_) | (refine wpList_reads (by rfl) (kr_load_cell K _ _ (by rfl) (by rfl) Has.auto (by decide +kernel) (if_next _)) ?_) | (refine wpList_reads (by rfl) (kr_load_cell K _ _ (by rfl) (by rfl) Has.auto (by decide +kernel) (if_last _)) ?_) | (refine wpList_reads (by rfl) (kr_load_cell K _ _ (by rfl) (by rfl) Has.auto (by decide +kernel) (if_left _)) ?_) | (refine wpList_reads (by rfl) (kr_load_cell K _ _ (by rfl) (by rfl) Has.auto (by decide +kernel) (if_lit _)) ?_) | (refine wpList_reads (by rfl) (kr_load_cell K _ _ (by rfl) (by rfl) Has.auto (by decide +kernel) (if_dist _)) ?_) | (refine wpList_reads (by rfl) (kr_load_cell K _ _ (by rfl) (by rfl) Has.auto (by decide +kernel) (if_e _)) ?_)); (try dsimp only)) | (go_at_call 60; (with_reducible refine (ilength_any K s HS1.out HS2.out _ rfl).mono ?_); clear K; rintro e w1 ⟨rfl, K⟩; rw [HLN.out]) | (go_at_call 38; (with_reducible refine (ibad_no K _).mono ?_); clear K; rintro e w1 ⟨rfl, K⟩) | (go_at_call 38; (with_reducible refine (ibad_yes K _).mono ?_); clear K; rintro e w1 ⟨rfl, K⟩))
    rw [HF.out]; exact ⟨rfl, rfl, _, X3, hX3, by simp only [List.append_assoc]; exact K.cov Cov.auto⟩
  have d2 : decide ((29 : Int) < (d : Int)) = false := decide_eq_false (by omega)
  have HD2 := Lib.hid (show d ≤ 29 by omega)
  obtain ⟨dn, dm, hdn⟩ : ∃ dn dm, disM d = (dn, dm) := ⟨_, _, rfl⟩
  have HDN := Lib.hid hdn
  have hde := disM_le d (by omega)
  rw [hdn] at hde
  replace hde : dn ≤ 24577 ∧ dm ≤ 13 ∧ 1 ≤ dn := hde
  have HB4 := Lib.hid (show R0 = _ from (HB3.out.trans (by rw [if_neg hd, hdn])))
  clear hdn HB3
  cases h4 : numM (ofBytes bs) q3 dm with
  | th cc =>
    have H4 := Lib.hid h4
    have HF := Lib.hid (show R0 = .th cc by rw [HB4.out, h4]; rfl)
    clear h4 HB4
    go_enter Try.func44, Try.ntmps44
    go_wp2_with (first | (go_at_call 37; (with_reducible refine (inum_th (L := T2 ++ (T1 ++ (row gx (ifC x) 53 :: (XO ++ L)))) (K.cov Cov.auto) Has.auto hr hX3 dm _ (by omega) (by omega) H4.out).mono ?_); clear K; rintro e w1 ⟨rfl, K⟩) | (go_at_call 37; (with_reducible refine (inum_ok (L := T1 ++ (row gx (ifC x) 53 :: (XO ++ (T2 ++ L)))) (K.cov Cov.auto) Has.auto hr hX1 lm _ (by omega) (by omega) H2.out).mono ?_); clear K; rintro e w1 ⟨rfl, X2, hX2, K⟩) | (go_at_call 59; (with_reducible refine (isym_ok (Xt := T2) (L := T1 ++ (row gx (ifC x) 53 :: (XO ++ L))) (K.cov Cov.auto) Has.auto hr hT2 hX2 hl2 H3.out).mono ?_); clear K; rintro e w1 ⟨rfl, X3, hX3, K⟩) | (go_at_call 59; (with_reducible refine (isym_ok (L := row gx (ifC x) 53 :: (XO ++ (T2 ++ L))) K Has.auto hr hT1 hR hl1 H1.out).mono ?_); clear K; rintro e w1 ⟨rfl, X1, hX1, K⟩) | (((with_reducible refine at_load rfl ?_); first | (refine wpList_reads (by rfl) (kr_load_cell K _ _ (by rfl) (by rfl) Has.auto (by decide +kernel) (if_most _)) ?_) | (refine wpList_reads (by rfl) (kr_load_cell K _ _ (by rfl) (by rfl) Has.auto (by decide +kernel) (if_out _)) ?_) | (refine wpList_reads (by rfl) (kr_load_cell K _ _ (by rfl) (by rfl) Has.auto (by decide +kernel) (if_rest _)) ?_) | (refine wpList_reads (by rfl) (kr_load_cell K _ _ (by rfl) (by rfl) Has.auto (by decide +kernel) (if_from _)) ?_) | (refine wpList_reads (by rfl) (kr_load_cell K _ _ (by rfl) (by rfl) Has.auto (by decide +kernel) (if_r _)) ?_) | (refine wpList_reads (by rfl) (kr_load_cell K _ _ (by rfl) (by rfl) Has.auto (by decide +kernel) (if_next _)) ?_) | (refine wpList_reads (by rfl) (kr_load_cell K _ _ (by rfl) (by rfl) Has.auto (by decide +kernel) (if_last _)) ?_) | (refine wpList_reads (by rfl) (kr_load_cell K _ _ (by rfl) (by rfl) Has.auto (by decide +kernel) (if_left _)) ?_) | (refine wpList_reads (by rfl) (kr_load_cell K _ _ (by rfl) (by rfl) Has.auto (by decide +kernel) (if_lit _)) ?_) | (refine wpList_reads (by rfl) (kr_load_cell K _ _ (by rfl) (by rfl) Has.auto (by decide +kernel) (if_dist _)) ?_) | (refine wpList_reads (by rfl) (kr_load_cell K _ _ (by rfl) (by rfl) Has.auto (by decide +kernel) (if_e _)) ?_)); (try dsimp only)) | (go_at_call 60; (with_reducible refine (ilength_any K s HS1.out HS2.out _ rfl).mono ?_); clear K; rintro e w1 ⟨rfl, K⟩; rw [HLN.out]) | (go_at_call 61; (with_reducible refine (idist_any K d HD2.out _ rfl).mono ?_); clear K; rintro e w1 ⟨rfl, K⟩; rw [HDN.out]) | (go_at_call 38; (with_reducible refine (ibad_no K _).mono ?_); clear K; rintro e w1 ⟨rfl, K⟩))
    rw [HF.out]; exact ⟨rfl, rfl, _, X3, hX3, by simp only [List.append_assoc]; exact K.cov Cov.auto⟩
  | ok j q4 =>
  have H4 := Lib.hid h4
  have hj : j < 2 ^ 13 := Nat.lt_of_lt_of_le (by rw [← (numM_ok h4).2.1]; exact bitsAt_lt _ _ _) (Nat.pow_le_pow_right (by omega) hde.2.1)
  obtain ⟨far, hfar⟩ : ∃ far, dn + j = far := ⟨_, rfl⟩
  have hfarI : (dn : Int) + (j : Int) = (far : Int) := by omega
  have i2 := IntWalk.i64_in (far : Int) (by omega)
  have HB5 := Lib.hid (show R0 = _ from (HB4.out.trans (by rw [h4, Rs.andThen_ok, hfar])))
  clear h4 HB4 hfar
  by_cases hf : m.out.length < far
  · have HF := Lib.hid (show R0 = .th 11 by rw [HB5.out, if_pos hf])
    have d3 : decide (x.on < far) = true := decide_eq_true (by rw [hC.on]; omega)
    clear HB5 hf
    go_enter Try.func44, Try.ntmps44
    go_wp2_with (first | (go_at_call 37; (with_reducible refine (inum_ok (L := T2 ++ (T1 ++ (row gx (ifC x) 53 :: (XO ++ L)))) (K.cov Cov.auto) Has.auto hr hX3 dm _ (by omega) (by omega) H4.out).mono ?_); clear K; rintro e w1 ⟨rfl, X4, hX4, K⟩) | (go_at_call 37; (with_reducible refine (inum_ok (L := T1 ++ (row gx (ifC x) 53 :: (XO ++ (T2 ++ L)))) (K.cov Cov.auto) Has.auto hr hX1 lm _ (by omega) (by omega) H2.out).mono ?_); clear K; rintro e w1 ⟨rfl, X2, hX2, K⟩) | (go_at_call 59; (with_reducible refine (isym_ok (Xt := T2) (L := T1 ++ (row gx (ifC x) 53 :: (XO ++ L))) (K.cov Cov.auto) Has.auto hr hT2 hX2 hl2 H3.out).mono ?_); clear K; rintro e w1 ⟨rfl, X3, hX3, K⟩) | (go_at_call 59; (with_reducible refine (isym_ok (L := row gx (ifC x) 53 :: (XO ++ (T2 ++ L))) K Has.auto hr hT1 hR hl1 H1.out).mono ?_); clear K; rintro e w1 ⟨rfl, X1, hX1, K⟩) | (((with_reducible refine at_load rfl ?_); first | (refine wpList_reads (by rfl) (kr_load_cell K _ _ (by rfl) (by rfl) Has.auto (by decide +kernel) (if_most _)) ?_) | (refine wpList_reads (by rfl) (kr_load_cell K _ _ (by rfl) (by rfl) Has.auto (by decide +kernel) (if_out _)) ?_) | (refine wpList_reads (by rfl) (kr_load_cell K _ _ (by rfl) (by rfl) Has.auto (by decide +kernel) (if_rest _)) ?_) | (refine wpList_reads (by rfl) (kr_load_cell K _ _ (by rfl) (by rfl) Has.auto (by decide +kernel) (if_from _)) ?_) | (refine wpList_reads (by rfl) (kr_load_cell K _ _ (by rfl) (by rfl) Has.auto (by decide +kernel) (if_r _)) ?_) | (refine wpList_reads (by rfl) (kr_load_cell K _ _ (by rfl) (by rfl) Has.auto (by decide +kernel) (if_next _)) ?_) | (refine wpList_reads (by rfl) (kr_load_cell K _ _ (by rfl) (by rfl) Has.auto (by decide +kernel) (if_last _)) ?_) | (refine wpList_reads (by rfl) (kr_load_cell K _ _ (by rfl) (by rfl) Has.auto (by decide +kernel) (if_left _)) ?_) | (refine wpList_reads (by rfl) (kr_load_cell K _ _ (by rfl) (by rfl) Has.auto (by decide +kernel) (if_lit _)) ?_) | (refine wpList_reads (by rfl) (kr_load_cell K _ _ (by rfl) (by rfl) Has.auto (by decide +kernel) (if_dist _)) ?_) | (refine wpList_reads (by rfl) (kr_load_cell K _ _ (by rfl) (by rfl) Has.auto (by decide +kernel) (if_e _)) ?_)); (try dsimp only)) | (go_at_call 60; (with_reducible refine (ilength_any K s HS1.out HS2.out _ rfl).mono ?_); clear K; rintro e w1 ⟨rfl, K⟩; rw [HLN.out]) | (go_at_call 61; (with_reducible refine (idist_any K d HD2.out _ rfl).mono ?_); clear K; rintro e w1 ⟨rfl, K⟩; rw [HDN.out]) | (go_at_call 38; (with_reducible refine (ibad_no K _).mono ?_); clear K; rintro e w1 ⟨rfl, K⟩) | (go_at_call 38; (with_reducible refine (ibad_yes K _).mono ?_); clear K; rintro e w1 ⟨rfl, K⟩))
    rw [HF.out]; exact ⟨rfl, rfl, _, X4, hX4, by simp only [List.append_assoc]; exact K.cov Cov.auto⟩
  have d3 : decide (x.on < far) = false := decide_eq_false (by rw [hC.on]; omega)
  by_cases hm : m.most - m.out.length < (cn : Int)
  · have HF := Lib.hid (show R0 = .th 12 by rw [HB5.out, if_neg hf, if_pos hm])
    have HRM := Lib.hid (show x.most - x.on < (cn : Int) by rw [hC.most, hC.on]; exact hm)
    clear HB5 hf hm
    go_enter Try.func44, Try.ntmps44
    go_wp2_with (first | (go_at_call 37; (with_reducible refine (inum_ok (L := T2 ++ (T1 ++ (row gx (ifC x) 53 :: (XO ++ L)))) (K.cov Cov.auto) Has.auto hr hX3 dm _ (by omega) (by omega) H4.out).mono ?_); clear K; rintro e w1 ⟨rfl, X4, hX4, K⟩) | (go_at_call 37; (with_reducible refine (inum_ok (L := T1 ++ (row gx (ifC x) 53 :: (XO ++ (T2 ++ L)))) (K.cov Cov.auto) Has.auto hr hX1 lm _ (by omega) (by omega) H2.out).mono ?_); clear K; rintro e w1 ⟨rfl, X2, hX2, K⟩) | (go_at_call 59; (with_reducible refine (isym_ok (Xt := T2) (L := T1 ++ (row gx (ifC x) 53 :: (XO ++ L))) (K.cov Cov.auto) Has.auto hr hT2 hX2 hl2 H3.out).mono ?_); clear K; rintro e w1 ⟨rfl, X3, hX3, K⟩) | (go_at_call 59; (with_reducible refine (isym_ok (L := row gx (ifC x) 53 :: (XO ++ (T2 ++ L))) K Has.auto hr hT1 hR hl1 H1.out).mono ?_); clear K; rintro e w1 ⟨rfl, X1, hX1, K⟩) | (((with_reducible refine at_load rfl ?_); first | (refine wpList_reads (by rfl) (kr_load_cell K _ _ (by rfl) (by rfl) Has.auto (by decide +kernel) (if_most _)) ?_) | (refine wpList_reads (by rfl) (kr_load_cell K _ _ (by rfl) (by rfl) Has.auto (by decide +kernel) (if_out _)) ?_) | (refine wpList_reads (by rfl) (kr_load_cell K _ _ (by rfl) (by rfl) Has.auto (by decide +kernel) (if_rest _)) ?_) | (refine wpList_reads (by rfl) (kr_load_cell K _ _ (by rfl) (by rfl) Has.auto (by decide +kernel) (if_from _)) ?_) | (refine wpList_reads (by rfl) (kr_load_cell K _ _ (by rfl) (by rfl) Has.auto (by decide +kernel) (if_r _)) ?_) | (refine wpList_reads (by rfl) (kr_load_cell K _ _ (by rfl) (by rfl) Has.auto (by decide +kernel) (if_next _)) ?_) | (refine wpList_reads (by rfl) (kr_load_cell K _ _ (by rfl) (by rfl) Has.auto (by decide +kernel) (if_last _)) ?_) | (refine wpList_reads (by rfl) (kr_load_cell K _ _ (by rfl) (by rfl) Has.auto (by decide +kernel) (if_left _)) ?_) | (refine wpList_reads (by rfl) (kr_load_cell K _ _ (by rfl) (by rfl) Has.auto (by decide +kernel) (if_lit _)) ?_) | (refine wpList_reads (by rfl) (kr_load_cell K _ _ (by rfl) (by rfl) Has.auto (by decide +kernel) (if_dist _)) ?_) | (refine wpList_reads (by rfl) (kr_load_cell K _ _ (by rfl) (by rfl) Has.auto (by decide +kernel) (if_e _)) ?_)); (try dsimp only)) | (go_at_call 60; (with_reducible refine (ilength_any K s HS1.out HS2.out _ rfl).mono ?_); clear K; rintro e w1 ⟨rfl, K⟩; rw [HLN.out]) | (go_at_call 61; (with_reducible refine (idist_any K d HD2.out _ rfl).mono ?_); clear K; rintro e w1 ⟨rfl, K⟩; rw [HDN.out]) | (go_at_call 38; (with_reducible refine (ibad_no K _).mono ?_); clear K; rintro e w1 ⟨rfl, K⟩) | (go_at_call 40; (with_reducible refine (iroom_th K Has.auto _ HM0.out HON.out HRM.out).mono ?_); clear K; rintro e w1 ⟨rfl, K⟩))
    rw [HF.out]; exact ⟨rfl, rfl, _, X4, hX4, by simp only [List.append_assoc]; exact K.cov Cov.auto⟩
  obtain ⟨fin, hfin⟩ : ∃ fin, copyM far cn m.out = fin := ⟨_, rfl⟩
  have HFI := Lib.hid hfin
  have HF := Lib.hid (show R0 = .ok { m with out := fin, next := 3 } q4 by rw [HB5.out, if_neg hf, if_neg hm, hfin])
  have HRM := Lib.hid (show (cn : Int) ≤ x.most - x.on by rw [hC.most, hC.on]; omega)
  have HR5 := Lib.hid (show (m.out.length : Int) + cn ≤ m.most by omega)
  have HR6 := Lib.hid (show (x.on : Int) + cn ≤ 5000 by rw [hC.on]; have := hC.h5; omega)
  have HFO := Lib.hid (show far ≤ x.on by rw [hC.on]; omega)
  clear HB5 hf hm hfin
  go_enter Try.func44, Try.ntmps44
  go_upto_region 18 with ((first | (go_at_call 37; (with_reducible refine (inum_ok (L := T2 ++ (T1 ++ (row gx (ifC x) 53 :: (XO ++ L)))) (K.cov Cov.auto) Has.auto hr hX3 dm _ (by omega) (by omega) H4.out).mono ?_); clear K; rintro e w1 ⟨rfl, X4, hX4, K⟩) | (go_at_call 37; (with_reducible refine (inum_ok (L := T1 ++ (row gx (ifC x) 53 :: (XO ++ (T2 ++ L)))) (K.cov Cov.auto) Has.auto hr hX1 lm _ (by omega) (by omega) H2.out).mono ?_); clear K; rintro e w1 ⟨rfl, X2, hX2, K⟩) | (go_at_call 59; (with_reducible refine (isym_ok (Xt := T2) (L := T1 ++ (row gx (ifC x) 53 :: (XO ++ L))) (K.cov Cov.auto) Has.auto hr hT2 hX2 hl2 H3.out).mono ?_); clear K; rintro e w1 ⟨rfl, X3, hX3, K⟩) | (go_at_call 59; (with_reducible refine (isym_ok (L := row gx (ifC x) 53 :: (XO ++ (T2 ++ L))) K Has.auto hr hT1 hR hl1 H1.out).mono ?_); clear K; rintro e w1 ⟨rfl, X1, hX1, K⟩) | (((with_reducible refine at_load rfl ?_); first | (refine wpList_reads (by rfl) (kr_load_cell K _ _ (by rfl) (by rfl) Has.auto (by decide +kernel) (if_most _)) ?_) | (refine wpList_reads (by rfl) (kr_load_cell K _ _ (by rfl) (by rfl) Has.auto (by decide +kernel) (if_out _)) ?_) | (refine wpList_reads (by rfl) (kr_load_cell K _ _ (by rfl) (by rfl) Has.auto (by decide +kernel) (if_rest _)) ?_) | (refine wpList_reads (by rfl) (kr_load_cell K _ _ (by rfl) (by rfl) Has.auto (by decide +kernel) (if_from _)) ?_) | (refine wpList_reads (by rfl) (kr_load_cell K _ _ (by rfl) (by rfl) Has.auto (by decide +kernel) (if_r _)) ?_) | (refine wpList_reads (by rfl) (kr_load_cell K _ _ (by rfl) (by rfl) Has.auto (by decide +kernel) (if_next _)) ?_) | (refine wpList_reads (by rfl) (kr_load_cell K _ _ (by rfl) (by rfl) Has.auto (by decide +kernel) (if_last _)) ?_) | (refine wpList_reads (by rfl) (kr_load_cell K _ _ (by rfl) (by rfl) Has.auto (by decide +kernel) (if_left _)) ?_) | (refine wpList_reads (by rfl) (kr_load_cell K _ _ (by rfl) (by rfl) Has.auto (by decide +kernel) (if_lit _)) ?_) | (refine wpList_reads (by rfl) (kr_load_cell K _ _ (by rfl) (by rfl) Has.auto (by decide +kernel) (if_dist _)) ?_) | (refine wpList_reads (by rfl) (kr_load_cell K _ _ (by rfl) (by rfl) Has.auto (by decide +kernel) (if_e _)) ?_)); (try dsimp only)) | (go_at_call 60; (with_reducible refine (ilength_any K s HS1.out HS2.out _ rfl).mono ?_); clear K; rintro e w1 ⟨rfl, K⟩; rw [HLN.out]) | (go_at_call 61; (with_reducible refine (idist_any K d HD2.out _ rfl).mono ?_); clear K; rintro e w1 ⟨rfl, K⟩; rw [HDN.out]) | (go_at_call 38; (with_reducible refine (ibad_no K _).mono ?_); clear K; rintro e w1 ⟨rfl, K⟩) | (go_at_call 40; (with_reducible refine (iroom_yes K Has.auto _ HM0.out HON.out HRM.out).mono ?_); clear K; rintro e w1 ⟨rfl, K⟩)))
  have hr6 := HR6.out
  go_loopg [79] cn (fun d v wr => ∃ (i : Nat) (out : List Int) (A : Option Addr) (nn c : Nat) (XQ : List Ent), (v = .int .i64 i ∧ i + d = cn ∧ x.on + i = nn ∧ Hid (∀ v ∈ out, 0 ≤ v ∧ v ≤ 255) ∧ Hid (copyM far d out = fin) ∧ OwnL 5 1 A nn c (out.map (Value.int .u8)) XQ) ∧ Known w0 wr (X4 ++ (T2 ++ (T1 ++ (row gx (ifC { x with O := A, on := nn, oc := c }) 53 :: (XQ ++ L))))))
  case atStart => exact ⟨0, m.out, x.O, x.on, x.oc, XO, ⟨by go_num, by omega, rfl, Lib.hid hC.byte, HFI, hO⟩, K⟩
  case round =>
  clear K
  obtain ⟨i, out, A, nn, c, XQ, ⟨rfl, hi, hnn, HBY, HCO, O⟩, K⟩ := hrel
  have hol : out.length = nn := by have := O.len; simpa using this
  by_cases hin : i < cn
  · have h2 : (i : Int) < (cn : Int) := by omega
    obtain ⟨dd, rfl⟩ : ∃ dd, gk = dd + 1 := ⟨gk - 1, by omega⟩
    have RO : RdS w0 XQ .u8 A nn out := RdS.own O (Seg.all XQ)
    have hfo := HFO.out
    obtain ⟨b9, f9, rfl, _⟩ := (RO.at_ wr (K.cov Cov.auto)).form (by omega)
    obtain ⟨mm, hmm⟩ : ∃ mm, nn - far = mm := ⟨_, rfl⟩
    obtain ⟨ag, hag⟩ : ∃ ag, out.getD mm 0 = ag := ⟨_, rfl⟩
    have HAG := Lib.hid hag
    have hagb := byte_getD HBY.out mm
    rw [hag] at hagb
    have e9 : (nn : Int) - (far : Int) = (mm : Int) := by omega
    have k9 : (mm : Int) < (nn : Int) := by omega
    have i9 := IntWalk.i64_in ((mm : Int)) (by omega)
    have i8 := IntWalk.i64_in ((i : Int) + 1) (by omega)
    have HCO2 := Lib.hid (show copyM far dd (out ++ [ag]) = fin by rw [← HCO.out, copyM, hol, hmm, hag])
    have HBY2 := Lib.hid (byte_rep (n := 1) (a := ag) HBY.out hagb)
    clear hag hmm
    go_upto_region 19 with (fail)
    refine wp_region_GK (X := [row gx (ifC { x with O := some ⟨b9, f9, none⟩, on := nn, oc := c }) 53]) K Cov.auto (by kernel_rfl) (by kernel_rfl) (by kernel_rfl) (fun K hHeld => ?_)
    refine wpG_takeA 0 (v := ?_) ?_ hHeld ?_
    rotate_left
    · (intro w hS; (clear hS; go_simp); try with_reducible rfl)
    try simp only [Act.put, List.setIfInBounds_toArray, List.set_cons_zero, List.set_cons_succ]
    refine wpG_takeA 1 (v := ?_) ?_ hHeld ?_
    rotate_left
    · (intro w hS; (clear hS; go_simp); try with_reducible rfl)
    try simp only [Act.put, List.setIfInBounds_toArray, List.set_cons_zero, List.set_cons_succ]
    refine wpG_takeA 2 (v := ?_) ?_ hHeld ?_
    rotate_left
    · (intro w hS; (clear hS; go_simp); try with_reducible rfl)
    try simp only [Act.put, List.setIfInBounds_toArray, List.set_cons_zero, List.set_cons_succ]
    refine wpG_takeA 3 (v := ?_) ?_ hHeld ?_
    rotate_left
    · (intro w hS; (clear hS; go_simp); try with_reducible rfl)
    try simp only [Act.put, List.setIfInBounds_toArray, List.set_cons_zero, List.set_cons_succ]
    refine wpG_takeA 4 (v := .slice (some ⟨b9, f9, none⟩) nn c) ?_ hHeld ?_
    · (intro w hS; first | exact kr_load_cell hS _ _ (by rfl) (by rfl) Has.auto (by kernel_rfl) (if_out _))
    try simp only [Act.put, List.setIfInBounds_toArray, List.set_cons_zero, List.set_cons_succ]
    refine wpG_takeA 5 (v := ?_) ?_ hHeld ?_
    rotate_left
    · (intro w hS; (clear hS; go_simp); try with_reducible rfl)
    try simp only [Act.put, List.setIfInBounds_toArray, List.set_cons_zero, List.set_cons_succ]
    refine wpG_takeA 6 (v := ?_) ?_ hHeld ?_
    rotate_left
    · (intro w hS; (clear hS; go_simp); try with_reducible rfl)
    try simp only [Act.put, List.setIfInBounds_toArray, List.set_cons_zero, List.set_cons_succ]
    refine wpG_takeA 7 (v := ?_) ?_ hHeld ?_
    rotate_left
    · (intro w hS; (clear hS; go_simp); try with_reducible rfl)
    try simp only [Act.put, List.setIfInBounds_toArray, List.set_cons_zero, List.set_cons_succ]
    refine wpG_takeA 8 (v := .slice (some ⟨b9, f9, none⟩) nn c) ?_ hHeld ?_
    · (intro w hS; first | exact kr_load_cell hS _ _ (by rfl) (by rfl) Has.auto (by kernel_rfl) (if_out _))
    try simp only [Act.put, List.setIfInBounds_toArray, List.set_cons_zero, List.set_cons_succ]
    refine wpG_takeA 9 (v := ?_) ?_ hHeld ?_
    rotate_left
    · (intro w hS; (clear hS; go_simp); try with_reducible rfl)
    try simp only [Act.put, List.setIfInBounds_toArray, List.set_cons_zero, List.set_cons_succ]
    refine wpG_takeA 10 (v := ?_) ?_ hHeld ?_
    rotate_left
    · (intro w hS; (clear hS; go_simp); try with_reducible rfl)
    try simp only [Act.put, List.setIfInBounds_toArray, List.set_cons_zero, List.set_cons_succ]
    refine wpG_takeA 11 (v := ?_) ?_ hHeld ?_
    rotate_left
    · (intro w hS; (clear hS; go_simp); try with_reducible rfl)
    try simp only [Act.put, List.setIfInBounds_toArray, List.set_cons_zero, List.set_cons_succ]
    refine wpG_takeA 12 (v := .slice (some ⟨b9, f9, none⟩) nn c) ?_ hHeld ?_
    · (intro w hS; first | exact kr_load_cell hS _ _ (by rfl) (by rfl) Has.auto (by kernel_rfl) (if_out _))
    try simp only [Act.put, List.setIfInBounds_toArray, List.set_cons_zero, List.set_cons_succ]
    refine wpG_takeA 13 (v := ?_) ?_ hHeld ?_
    rotate_left
    · (intro w hS; (clear hS; go_simp); try with_reducible rfl)
    try simp only [Act.put, List.setIfInBounds_toArray, List.set_cons_zero, List.set_cons_succ]
    refine wpG_takeA 14 (v := ?_) ?_ hHeld ?_
    rotate_left
    · (intro w hS; (clear hS; go_simp); try with_reducible rfl)
    try simp only [Act.put, List.setIfInBounds_toArray, List.set_cons_zero, List.set_cons_succ]
    refine wpG_takeA 15 (v := ?_) ?_ hHeld ?_
    rotate_left
    · (intro w hS; (clear hS; go_simp); try with_reducible rfl)
    try simp only [Act.put, List.setIfInBounds_toArray, List.set_cons_zero, List.set_cons_succ]
    refine wpG_takeA 16 (v := ?_) ?_ hHeld ?_
    rotate_left
    · (intro w hS; (clear hS; go_simp); try with_reducible rfl)
    try simp only [Act.put, List.setIfInBounds_toArray, List.set_cons_zero, List.set_cons_succ]
    refine wpG_oneA 17 (fun K9 hK => ?_)
    refine st_reads (v := .int .u8 ag) (by rfl) (kr_load_fact _ _ (by rfl) (by rfl) (RO.cell (K.cov Cov.auto) (j := mm) (by omega) HAG.out (by omega)) (by kernel_rfl)) ?_
    refine hK.out _ _ (K.cov Cov.auto) (fun hHeld => ?_)
    clear hK K9
    try simp only [Act.put, List.setIfInBounds_toArray, List.set_cons_zero, List.set_cons_succ]
    refine wpG_oneA 18 (fun K9 hK => ?_)
    refine st_does (by rfl) (kd_lits K _ _ _ (by rfl) (by first | rfl | (go_simp; done) | (go_simp; rfl)) (by first | rfl | (go_simp; done) | (go_simp; rfl))) ?_
    clear K; rintro _ w1 ⟨g, rfl, K⟩
    refine hK.out _ _ (K.cov Cov.auto) (fun hHeld => ?_)
    clear hK K9
    try simp only [Act.put, List.setIfInBounds_toArray, List.set_cons_zero, List.set_cons_succ]
    refine wpG_oneA 19 (fun K9 hK => ?_)
    refine st_does (by rfl) (kd_appendN K _ _ (by rfl) (by rfl) (by rfl) (by with_reducible assumption) Seg.auto (Rd.ofBlk (n := 1) (xs := [_]) (K.blk Has.auto) rfl rfl) (by kernel_rfl) (by kernel_rfl) (by omega)) ?_
    clear K; rintro _ w1 ⟨A1, c1, X1, rfl, O, K⟩; (try simp only [Nat.zero_add, List.nil_append] at O)
    refine hK.out _ _ (K.cov Cov.auto) (fun hHeld => ?_)
    clear hK K9
    try simp only [Act.put, List.setIfInBounds_toArray, List.set_cons_zero, List.set_cons_succ]
    refine wpG_takeA 20 (v := ?_) ?_ hHeld ?_
    rotate_left
    · (intro w hS; (clear hS; go_simp); try with_reducible rfl)
    try simp only [Act.put, List.setIfInBounds_toArray, List.set_cons_zero, List.set_cons_succ]
    refine wpG_takeA 21 (v := ?_) ?_ hHeld ?_
    rotate_left
    · (intro w hS; (clear hS; go_simp); try with_reducible rfl)
    try simp only [Act.put, List.setIfInBounds_toArray, List.set_cons_zero, List.set_cons_succ]
    refine wpG_lastA 22 (fun K9 hK => ?_)
    refine st_does (by rfl) (kd_store_cell K _ _ _ (by rfl) (by rfl) (by conv => lhs; whnf) Repl.auto (by rfl) (by rfl) (by kernel_rfl) (by rfl) (if_s_out _ _ _ _)) ?_
    clear K; intro _ w1 K; (try dsimp only at K)
    refine hK.out _ _ ?_
    clear hK K9
    try simp only [Act.put, List.setIfInBounds_toArray, List.set_cons_zero, List.set_cons_succ]
    skip
    go_wp2
    go_roundg dd
    case measure => omega
    case rel => exact ⟨i + 1, out ++ [ag], A1, nn + 1, c1, X1, ⟨by go_num, by omega, by omega, HBY2, HCO2, O⟩, K.cov Cov.auto⟩
  · have h2 : ¬ (i : Int) < (cn : Int) := by omega
    obtain rfl : i = cn := by omega
    obtain rfl : gk = 0 := by omega
    have HF2 := Lib.hid (show R0 = .ok { m with out := out, next := 3 } q4 by rw [HF.out, ← HCO.out]; rfl)
    have HR7 := Lib.hid (show (out.length : Int) ≤ m.most by have := HR5.out; have := hC.on; omega)
    go_wp2
    go_ret
    rw [HF2.out]
    exact ⟨rfl, { x with O := A, on := nn, oc := c }, X4, XQ ++ (T1 ++ T2), hX4, ⟨⟨hC.most, hC.h0, hC.h5, hol.symm, HR7.out, HBY.out, hC.last, hC.left, (fun h => by cases h), hC.e⟩, XQ, T1 ++ T2, O, .inr ⟨rfl, g1, g2, T1, T2, hlit, hdist, hT1, hT2, hl1, hl2, rfl⟩, rfl⟩, ⟨rfl, rfl, rfl, rfl, rfl⟩, by simp only [List.append_assoc]; exact K.cov Cov.auto⟩
end
end Go.Proofs.Ytemnahimheffgaa
