/-
  drogherref24: Last (contract).
-/
import Derived.Test.YtfdddipmeadecaaJouO
set_option linter.unusedVariables false
set_option linter.unusedSimpArgs false
namespace Go.Proofs.Ytfdddipmeadecaa
open Go.RowKit

section
variable {w0 w : World} {L : List Ent} {D : Dev} {A B : Option Addr} {n c m d : Nat}
set_option maxHeartbeats 1600000 in
set_option maxRecDepth 100000 in
theorem rlast_raw (K : Known w0 w L) (R : RefIs w0 L D A n c B m d) : Calls Try.prog 18 #[.agg #[.int .i64 ((D).size : Nat), .int .i64 ((D).count : Nat), .slice A n c, .slice B m d, .bool (D).off, .int .i64 (D).offs, .int .i64 (D).fuse, .int .u64 (D).writes]] w fun e w' => e = .returned (.agg (recC (stJ D 2).1)) ∧ Known w0 w' L := by
  have hok := R.ok
  have hsz := hok.size
  have HROK := Lib.hid (show (lastJ D).man.length = 32 from (stJ_ok hok 2).man)
  go_enter Try.func18, Try.ntmps18
  go_upto_region 4 with ((first | ((with_reducible refine at_slot (N := 1) rfl ?_); (with_reducible refine at_box rfl ?_); refine wpList_does rfl (kd_box K _ _ rfl (by conv => lhs; whnf)) ?_; clear K; rintro _ w1 ⟨gd, rfl, K⟩; (try dsimp only [Value.cells] at K)) | ((with_reducible refine at_slot (N := 2) rfl ?_); (with_reducible refine at_alloc rfl ?_); refine wpList_does rfl (kd_alloc (z := (.agg (recC rec0))) K _ rfl (by kernel_rfl)) ?_; clear K; rintro _ w1 ⟨g2, rfl, K⟩; (try dsimp only [Value.cells] at K)) | ((with_reducible refine at_build (t := 41) rfl ?_); refine ev_build0 rfl 41 rfl (rec0_build _) ?_) | ((with_reducible refine at_slot (N := 3) rfl ?_); (with_reducible refine at_alloc rfl ?_); refine wpList_does rfl (kd_alloc (z := (.agg (recC rec0))) K _ rfl (by kernel_rfl)) ?_; clear K; rintro _ w1 ⟨g3, rfl, K⟩; (try dsimp only [Value.cells] at K)) | ((with_reducible refine at_store rfl ?_); refine wpList_does (by rfl) (kd_store_row K _ _ _ (by rfl) (by rfl) (by rfl) Repl.auto (by rw [recC_size _ (man0_len)]; kernel_rfl) (by first | (rw [recC_size _ man0_len, recC_size _ (man0_len)]; rfl) | (rw [recC_size _ HML.out, recC_size _ (man0_len)]; rfl) | (rw [recC_size _ man0_len]; rfl)) (recC_one _)) ?_; clear K; intro _ w1 K; (try simp only [Act.put]))))
  go_loopg [4, 5] 2 (fun q v4 v wr => ∃ i : Nat, v4 = .bool (stJ D i).2 ∧ v = .int .i64 i ∧ i + q = 2 ∧ Known w0 wr (row g3 (recC (stJ D i).1) 41 :: row g2 (recC rec0) 41 :: row gd #[.int .i64 ((D).size : Nat), .int .i64 ((D).count : Nat), .slice A n c, .slice B m d, .bool (D).off, .int .i64 (D).offs, .int .i64 (D).fuse, .int .u64 (D).writes] 49 :: L))
  case atStart => exact ⟨0, rfl, by go_num, by omega, K⟩
  case round =>
    clear K
    obtain ⟨i, rfl, rfl, hdi, K⟩ := hrel
    obtain rfl | rfl | rfl : i = 0 ∨ i = 1 ∨ i = 2 := by omega
    · skip
      have HDS := Lib.hid (stJ_ok hok 0)
      obtain ⟨⟨l, f⟩, hlf⟩ : ∃ s, stJ D 0 = s := ⟨_, rfl⟩
      rw [hlf] at HDS K
      obtain ⟨⟨bs, er⟩, hdr⟩ : ∃ s, dread D 0 = s := ⟨_, rfl⟩
      have HDR := Lib.hid hdr
      have HBB := Lib.hid (show ∀ v ∈ bs, 0 ≤ v ∧ v ≤ 255 by have := dread_byte hok 0; rw [hdr] at this; exact this)
      have hbl : bs.length ≤ 4096 := by have := dread_len hok 0; rw [hdr] at this; simp only at this; omega
      have HBL := Lib.hid (show bs.length ≤ maxLen by simp only [maxLen]; omega)
      have HBL2 := Lib.hid hbl
      have HML := Lib.hid (show l.man.length = 32 from HDS.out.man)
      obtain ⟨⟨rr, ge⟩, hrg⟩ : ∃ s, resG bs = s := ⟨_, rfl⟩
      have hro := resG_ok HBB.out
      rw [hrg] at hro
      have hrq : 0 ≤ rr.seq ∧ rr.seq ≤ 18446744073709551615 := hro.u64.1
      have HMG := Lib.hid (show rr.man.length = 32 from hro.man)
      have HRG := Lib.hid hrg
      have hcd : cand D 0 = if er = 0 ∧ ge = 0 ∧ rr.seq % 2 = 0 then some rr else none := by
        unfold cand
        rw [show ((0 : Nat) : Int) = 0 from rfl, hdr]
        simp only
        rw [hrg]
      have hst1 : stJ D 1 = pickJ (l, f) (cand D 0) := by show pickJ (stJ D 0) (cand D 0) = _; rw [hlf]
      rw [hcd] at hst1
      rw [hlf]
      clear hlf hdr hro hrg hcd HDS hbl
      by_cases he : er = 0
      rotate_left
      · have e1 : (er == 0) = false := by simpa using he
        have HST := Lib.hid (show stJ D 1 = (l, f) by rw [hst1, if_neg (by omega)]; rfl)
        clear hst1
        go_wp2_with (first | ((with_reducible refine at_load (t := 49) rfl ?_); refine wpList_reads (by rfl) (kr_load_row K _ _ (by rfl) (by rfl) Has.auto (by kernel_rfl) (by kernel_rfl)) ?_) | (go_at_call 37; (with_reducible refine (rread_any K (R.cov Cov.auto) 0).mono ?_); clear K; rintro e w1 ⟨rfl, K⟩; rw [HDR.out]) | ((with_reducible refine at_convert (t := 9) (u := 46) rfl ?_); refine wpList_does rfl (kd_ofString K rfl rfl HBB.out Try.underlying9 Try.underlying46 Try.underlying5 HBL.out) ?_; clear K; rintro _ w1 ⟨gs, c1, cs1, rfl, hc1, hc2, RB, K⟩; have hc3 : c1 ≤ 9223372036854775807 := hc2) | (go_at_call 38; (with_reducible refine (rjget_any K (RB.cov Cov.auto) hc1 hc3 HBB.out (by have := HBL2.out; omega)).mono ?_); clear K; rintro e w1 ⟨rfl, K⟩; rw [HRG.out]) | ((with_reducible refine at_slot (N := 8) rfl ?_); (with_reducible refine at_alloc rfl ?_); refine wpList_does rfl (kd_alloc (z := (.agg (recC rec0))) K _ rfl (by kernel_rfl)) ?_; clear K; rintro _ w1 ⟨g8, rfl, K⟩; (try dsimp only [Value.cells] at K)) | ((with_reducible refine at_slot (N := 50) rfl ?_); refine wpList_reads (by rfl) (kr_load_row K _ _ (by rfl) (by rfl) Has.auto (by kernel_rfl) (by rw [recC_size _ (by first | exact HML.out | exact HMG.out | exact man0_len)]; kernel_rfl)) ?_) | ((with_reducible refine at_store rfl ?_); refine wpList_does (by rfl) (kd_store_row K _ _ _ (by rfl) (by rfl) (by rfl) Repl.auto (by rw [recC_size _ (HMG.out)]; kernel_rfl) (by first | (rw [recC_size _ man0_len, recC_size _ (HMG.out)]; rfl) | (rw [recC_size _ HML.out, recC_size _ (HMG.out)]; rfl) | (rw [recC_size _ man0_len]; rfl)) (recC_one _)) ?_; clear K; intro _ w1 K; (try simp only [Act.put])) | ((with_reducible refine at_slot (N := 33) rfl ?_); refine wpList_reads (by rfl) (kr_load_cell K _ _ (by rfl) (by rfl) Has.auto (by kernel_rfl) (recC_0 _)) ?_) | ((with_reducible refine at_slot (N := 44) rfl ?_); refine wpList_reads (by rfl) (kr_load_cell K _ _ (by rfl) (by rfl) Has.auto (by kernel_rfl) (recC_0 _)) ?_) | ((with_reducible refine at_slot (N := 46) rfl ?_); refine wpList_reads (by rfl) (kr_load_cell K _ _ (by rfl) (by rfl) Has.auto (by kernel_rfl) (recC_0 _)) ?_) | ((with_reducible refine at_slot (N := 34) rfl ?_); refine wpList_reads (by rfl) (kr_rem2 (by rfl) (by rfl) (by rfl) HPAR.out) ?_))
        go_roundg 1
        case measure => omega
        case rel => exact ⟨1, by rw [HST.out], by go_num, by omega, by rw [HST.out]; exact K.cov Cov.auto⟩
      subst he
      by_cases hg : ge = 0
      rotate_left
      · have e1 : (ge == 0) = false := by simpa using hg
        have HST := Lib.hid (show stJ D 1 = (l, f) by rw [hst1, if_neg (by omega)]; rfl)
        clear hst1
        go_wp2_with (first | ((with_reducible refine at_load (t := 49) rfl ?_); refine wpList_reads (by rfl) (kr_load_row K _ _ (by rfl) (by rfl) Has.auto (by kernel_rfl) (by kernel_rfl)) ?_) | (go_at_call 37; (with_reducible refine (rread_any K (R.cov Cov.auto) 0).mono ?_); clear K; rintro e w1 ⟨rfl, K⟩; rw [HDR.out]) | ((with_reducible refine at_convert (t := 9) (u := 46) rfl ?_); refine wpList_does rfl (kd_ofString K rfl rfl HBB.out Try.underlying9 Try.underlying46 Try.underlying5 HBL.out) ?_; clear K; rintro _ w1 ⟨gs, c1, cs1, rfl, hc1, hc2, RB, K⟩; have hc3 : c1 ≤ 9223372036854775807 := hc2) | (go_at_call 38; (with_reducible refine (rjget_any K (RB.cov Cov.auto) hc1 hc3 HBB.out (by have := HBL2.out; omega)).mono ?_); clear K; rintro e w1 ⟨rfl, K⟩; rw [HRG.out]) | ((with_reducible refine at_slot (N := 8) rfl ?_); (with_reducible refine at_alloc rfl ?_); refine wpList_does rfl (kd_alloc (z := (.agg (recC rec0))) K _ rfl (by kernel_rfl)) ?_; clear K; rintro _ w1 ⟨g8, rfl, K⟩; (try dsimp only [Value.cells] at K)) | ((with_reducible refine at_slot (N := 50) rfl ?_); refine wpList_reads (by rfl) (kr_load_row K _ _ (by rfl) (by rfl) Has.auto (by kernel_rfl) (by rw [recC_size _ (by first | exact HML.out | exact HMG.out | exact man0_len)]; kernel_rfl)) ?_) | ((with_reducible refine at_store rfl ?_); refine wpList_does (by rfl) (kd_store_row K _ _ _ (by rfl) (by rfl) (by rfl) Repl.auto (by rw [recC_size _ (HMG.out)]; kernel_rfl) (by first | (rw [recC_size _ man0_len, recC_size _ (HMG.out)]; rfl) | (rw [recC_size _ HML.out, recC_size _ (HMG.out)]; rfl) | (rw [recC_size _ man0_len]; rfl)) (recC_one _)) ?_; clear K; intro _ w1 K; (try simp only [Act.put])) | ((with_reducible refine at_slot (N := 33) rfl ?_); refine wpList_reads (by rfl) (kr_load_cell K _ _ (by rfl) (by rfl) Has.auto (by kernel_rfl) (recC_0 _)) ?_) | ((with_reducible refine at_slot (N := 44) rfl ?_); refine wpList_reads (by rfl) (kr_load_cell K _ _ (by rfl) (by rfl) Has.auto (by kernel_rfl) (recC_0 _)) ?_) | ((with_reducible refine at_slot (N := 46) rfl ?_); refine wpList_reads (by rfl) (kr_load_cell K _ _ (by rfl) (by rfl) Has.auto (by kernel_rfl) (recC_0 _)) ?_) | ((with_reducible refine at_slot (N := 34) rfl ?_); refine wpList_reads (by rfl) (kr_rem2 (by rfl) (by rfl) (by rfl) HPAR.out) ?_))
        go_roundg 1
        case measure => omega
        case rel => exact ⟨1, by rw [HST.out], by go_num, by omega, by rw [HST.out]; exact K.cov Cov.auto⟩
      subst hg
      by_cases hp : rr.seq % 2 = 1
      · have HPAR := Lib.hid (show (0 ≤ rr.seq ∧ rr.seq ≤ 18446744073709551615) ∧ rr.seq % 2 = 1 from ⟨hrq, hp⟩)
        have HST := Lib.hid (show stJ D 1 = (l, f) by rw [hst1, if_neg (by omega)]; rfl)
        clear hst1 hp
        go_wp2_with (first | ((with_reducible refine at_load (t := 49) rfl ?_); refine wpList_reads (by rfl) (kr_load_row K _ _ (by rfl) (by rfl) Has.auto (by kernel_rfl) (by kernel_rfl)) ?_) | (go_at_call 37; (with_reducible refine (rread_any K (R.cov Cov.auto) 0).mono ?_); clear K; rintro e w1 ⟨rfl, K⟩; rw [HDR.out]) | ((with_reducible refine at_convert (t := 9) (u := 46) rfl ?_); refine wpList_does rfl (kd_ofString K rfl rfl HBB.out Try.underlying9 Try.underlying46 Try.underlying5 HBL.out) ?_; clear K; rintro _ w1 ⟨gs, c1, cs1, rfl, hc1, hc2, RB, K⟩; have hc3 : c1 ≤ 9223372036854775807 := hc2) | (go_at_call 38; (with_reducible refine (rjget_any K (RB.cov Cov.auto) hc1 hc3 HBB.out (by have := HBL2.out; omega)).mono ?_); clear K; rintro e w1 ⟨rfl, K⟩; rw [HRG.out]) | ((with_reducible refine at_slot (N := 8) rfl ?_); (with_reducible refine at_alloc rfl ?_); refine wpList_does rfl (kd_alloc (z := (.agg (recC rec0))) K _ rfl (by kernel_rfl)) ?_; clear K; rintro _ w1 ⟨g8, rfl, K⟩; (try dsimp only [Value.cells] at K)) | ((with_reducible refine at_slot (N := 50) rfl ?_); refine wpList_reads (by rfl) (kr_load_row K _ _ (by rfl) (by rfl) Has.auto (by kernel_rfl) (by rw [recC_size _ (by first | exact HML.out | exact HMG.out | exact man0_len)]; kernel_rfl)) ?_) | ((with_reducible refine at_store rfl ?_); refine wpList_does (by rfl) (kd_store_row K _ _ _ (by rfl) (by rfl) (by rfl) Repl.auto (by rw [recC_size _ (HMG.out)]; kernel_rfl) (by first | (rw [recC_size _ man0_len, recC_size _ (HMG.out)]; rfl) | (rw [recC_size _ HML.out, recC_size _ (HMG.out)]; rfl) | (rw [recC_size _ man0_len]; rfl)) (recC_one _)) ?_; clear K; intro _ w1 K; (try simp only [Act.put])) | ((with_reducible refine at_slot (N := 33) rfl ?_); refine wpList_reads (by rfl) (kr_load_cell K _ _ (by rfl) (by rfl) Has.auto (by kernel_rfl) (recC_0 _)) ?_) | ((with_reducible refine at_slot (N := 44) rfl ?_); refine wpList_reads (by rfl) (kr_load_cell K _ _ (by rfl) (by rfl) Has.auto (by kernel_rfl) (recC_0 _)) ?_) | ((with_reducible refine at_slot (N := 46) rfl ?_); refine wpList_reads (by rfl) (kr_load_cell K _ _ (by rfl) (by rfl) Has.auto (by kernel_rfl) (recC_0 _)) ?_) | ((with_reducible refine at_slot (N := 34) rfl ?_); refine wpList_reads (by rfl) (kr_rem2 (by rfl) (by rfl) (by rfl) HPAR.out) ?_))
        go_roundg 1
        case measure => omega
        case rel => exact ⟨1, by rw [HST.out], by go_num, by omega, by rw [HST.out]; exact K.cov Cov.auto⟩
      have hp2 : rr.seq % 2 = 0 := by omega
      have HPAR := Lib.hid (show (0 ≤ rr.seq ∧ rr.seq ≤ 18446744073709551615) ∧ rr.seq % 2 = 0 from ⟨hrq, hp2⟩)
      rw [if_pos ⟨rfl, rfl, hp2⟩] at hst1
      clear hp hp2
      cases f
      · have HST := Lib.hid (show stJ D 1 = (rr, true) by rw [hst1, pickJ, if_neg (by simp)])
        clear hst1
        go_wp2_with (first | ((with_reducible refine at_load (t := 49) rfl ?_); refine wpList_reads (by rfl) (kr_load_row K _ _ (by rfl) (by rfl) Has.auto (by kernel_rfl) (by kernel_rfl)) ?_) | (go_at_call 37; (with_reducible refine (rread_any K (R.cov Cov.auto) 0).mono ?_); clear K; rintro e w1 ⟨rfl, K⟩; rw [HDR.out]) | ((with_reducible refine at_convert (t := 9) (u := 46) rfl ?_); refine wpList_does rfl (kd_ofString K rfl rfl HBB.out Try.underlying9 Try.underlying46 Try.underlying5 HBL.out) ?_; clear K; rintro _ w1 ⟨gs, c1, cs1, rfl, hc1, hc2, RB, K⟩; have hc3 : c1 ≤ 9223372036854775807 := hc2) | (go_at_call 38; (with_reducible refine (rjget_any K (RB.cov Cov.auto) hc1 hc3 HBB.out (by have := HBL2.out; omega)).mono ?_); clear K; rintro e w1 ⟨rfl, K⟩; rw [HRG.out]) | ((with_reducible refine at_slot (N := 8) rfl ?_); (with_reducible refine at_alloc rfl ?_); refine wpList_does rfl (kd_alloc (z := (.agg (recC rec0))) K _ rfl (by kernel_rfl)) ?_; clear K; rintro _ w1 ⟨g8, rfl, K⟩; (try dsimp only [Value.cells] at K)) | ((with_reducible refine at_slot (N := 50) rfl ?_); refine wpList_reads (by rfl) (kr_load_row K _ _ (by rfl) (by rfl) Has.auto (by kernel_rfl) (by rw [recC_size _ (by first | exact HML.out | exact HMG.out | exact man0_len)]; kernel_rfl)) ?_) | ((with_reducible refine at_store rfl ?_); refine wpList_does (by rfl) (kd_store_row K _ _ _ (by rfl) (by rfl) (by rfl) Repl.auto (by rw [recC_size _ (HMG.out)]; kernel_rfl) (by first | (rw [recC_size _ man0_len, recC_size _ (HMG.out)]; rfl) | (rw [recC_size _ HML.out, recC_size _ (HMG.out)]; rfl) | (rw [recC_size _ man0_len]; rfl)) (recC_one _)) ?_; clear K; intro _ w1 K; (try simp only [Act.put])) | ((with_reducible refine at_slot (N := 33) rfl ?_); refine wpList_reads (by rfl) (kr_load_cell K _ _ (by rfl) (by rfl) Has.auto (by kernel_rfl) (recC_0 _)) ?_) | ((with_reducible refine at_slot (N := 44) rfl ?_); refine wpList_reads (by rfl) (kr_load_cell K _ _ (by rfl) (by rfl) Has.auto (by kernel_rfl) (recC_0 _)) ?_) | ((with_reducible refine at_slot (N := 46) rfl ?_); refine wpList_reads (by rfl) (kr_load_cell K _ _ (by rfl) (by rfl) Has.auto (by kernel_rfl) (recC_0 _)) ?_) | ((with_reducible refine at_slot (N := 34) rfl ?_); refine wpList_reads (by rfl) (kr_rem2 (by rfl) (by rfl) (by rfl) HPAR.out) ?_))
        go_roundg 1
        case measure => omega
        case rel => exact ⟨1, by rw [HST.out], by go_num, by omega, by rw [HST.out]; exact K.cov Cov.auto⟩
      by_cases hlt : rr.seq < l.seq
      · have d1 : decide (l.seq ≤ rr.seq) = false := decide_eq_false (by omega)
        have d2 : ¬ l.seq ≤ rr.seq := by omega
        have HST := Lib.hid (show stJ D 1 = (l, true) by rw [hst1, pickJ, if_pos ⟨rfl, hlt⟩])
        clear hst1
        go_wp2_with (first | ((with_reducible refine at_load (t := 49) rfl ?_); refine wpList_reads (by rfl) (kr_load_row K _ _ (by rfl) (by rfl) Has.auto (by kernel_rfl) (by kernel_rfl)) ?_) | (go_at_call 37; (with_reducible refine (rread_any K (R.cov Cov.auto) 0).mono ?_); clear K; rintro e w1 ⟨rfl, K⟩; rw [HDR.out]) | ((with_reducible refine at_convert (t := 9) (u := 46) rfl ?_); refine wpList_does rfl (kd_ofString K rfl rfl HBB.out Try.underlying9 Try.underlying46 Try.underlying5 HBL.out) ?_; clear K; rintro _ w1 ⟨gs, c1, cs1, rfl, hc1, hc2, RB, K⟩; have hc3 : c1 ≤ 9223372036854775807 := hc2) | (go_at_call 38; (with_reducible refine (rjget_any K (RB.cov Cov.auto) hc1 hc3 HBB.out (by have := HBL2.out; omega)).mono ?_); clear K; rintro e w1 ⟨rfl, K⟩; rw [HRG.out]) | ((with_reducible refine at_slot (N := 8) rfl ?_); (with_reducible refine at_alloc rfl ?_); refine wpList_does rfl (kd_alloc (z := (.agg (recC rec0))) K _ rfl (by kernel_rfl)) ?_; clear K; rintro _ w1 ⟨g8, rfl, K⟩; (try dsimp only [Value.cells] at K)) | ((with_reducible refine at_slot (N := 50) rfl ?_); refine wpList_reads (by rfl) (kr_load_row K _ _ (by rfl) (by rfl) Has.auto (by kernel_rfl) (by rw [recC_size _ (by first | exact HML.out | exact HMG.out | exact man0_len)]; kernel_rfl)) ?_) | ((with_reducible refine at_store rfl ?_); refine wpList_does (by rfl) (kd_store_row K _ _ _ (by rfl) (by rfl) (by rfl) Repl.auto (by rw [recC_size _ (HMG.out)]; kernel_rfl) (by first | (rw [recC_size _ man0_len, recC_size _ (HMG.out)]; rfl) | (rw [recC_size _ HML.out, recC_size _ (HMG.out)]; rfl) | (rw [recC_size _ man0_len]; rfl)) (recC_one _)) ?_; clear K; intro _ w1 K; (try simp only [Act.put])) | ((with_reducible refine at_slot (N := 33) rfl ?_); refine wpList_reads (by rfl) (kr_load_cell K _ _ (by rfl) (by rfl) Has.auto (by kernel_rfl) (recC_0 _)) ?_) | ((with_reducible refine at_slot (N := 44) rfl ?_); refine wpList_reads (by rfl) (kr_load_cell K _ _ (by rfl) (by rfl) Has.auto (by kernel_rfl) (recC_0 _)) ?_) | ((with_reducible refine at_slot (N := 46) rfl ?_); refine wpList_reads (by rfl) (kr_load_cell K _ _ (by rfl) (by rfl) Has.auto (by kernel_rfl) (recC_0 _)) ?_) | ((with_reducible refine at_slot (N := 34) rfl ?_); refine wpList_reads (by rfl) (kr_rem2 (by rfl) (by rfl) (by rfl) HPAR.out) ?_))
        go_roundg 1
        case measure => omega
        case rel => exact ⟨1, by rw [HST.out], by go_num, by omega, by rw [HST.out]; exact K.cov Cov.auto⟩
      · have d2 : l.seq ≤ rr.seq := by omega
        have d1 : decide (l.seq ≤ rr.seq) = true := decide_eq_true d2
        have HST := Lib.hid (show stJ D 1 = (rr, true) by rw [hst1, pickJ, if_neg (by exact fun h => hlt h.2)])
        clear hst1 hlt
        go_wp2_with (first | ((with_reducible refine at_load (t := 49) rfl ?_); refine wpList_reads (by rfl) (kr_load_row K _ _ (by rfl) (by rfl) Has.auto (by kernel_rfl) (by kernel_rfl)) ?_) | (go_at_call 37; (with_reducible refine (rread_any K (R.cov Cov.auto) 0).mono ?_); clear K; rintro e w1 ⟨rfl, K⟩; rw [HDR.out]) | ((with_reducible refine at_convert (t := 9) (u := 46) rfl ?_); refine wpList_does rfl (kd_ofString K rfl rfl HBB.out Try.underlying9 Try.underlying46 Try.underlying5 HBL.out) ?_; clear K; rintro _ w1 ⟨gs, c1, cs1, rfl, hc1, hc2, RB, K⟩; have hc3 : c1 ≤ 9223372036854775807 := hc2) | (go_at_call 38; (with_reducible refine (rjget_any K (RB.cov Cov.auto) hc1 hc3 HBB.out (by have := HBL2.out; omega)).mono ?_); clear K; rintro e w1 ⟨rfl, K⟩; rw [HRG.out]) | ((with_reducible refine at_slot (N := 8) rfl ?_); (with_reducible refine at_alloc rfl ?_); refine wpList_does rfl (kd_alloc (z := (.agg (recC rec0))) K _ rfl (by kernel_rfl)) ?_; clear K; rintro _ w1 ⟨g8, rfl, K⟩; (try dsimp only [Value.cells] at K)) | ((with_reducible refine at_slot (N := 50) rfl ?_); refine wpList_reads (by rfl) (kr_load_row K _ _ (by rfl) (by rfl) Has.auto (by kernel_rfl) (by rw [recC_size _ (by first | exact HML.out | exact HMG.out | exact man0_len)]; kernel_rfl)) ?_) | ((with_reducible refine at_store rfl ?_); refine wpList_does (by rfl) (kd_store_row K _ _ _ (by rfl) (by rfl) (by rfl) Repl.auto (by rw [recC_size _ (HMG.out)]; kernel_rfl) (by first | (rw [recC_size _ man0_len, recC_size _ (HMG.out)]; rfl) | (rw [recC_size _ HML.out, recC_size _ (HMG.out)]; rfl) | (rw [recC_size _ man0_len]; rfl)) (recC_one _)) ?_; clear K; intro _ w1 K; (try simp only [Act.put])) | ((with_reducible refine at_slot (N := 33) rfl ?_); refine wpList_reads (by rfl) (kr_load_cell K _ _ (by rfl) (by rfl) Has.auto (by kernel_rfl) (recC_0 _)) ?_) | ((with_reducible refine at_slot (N := 44) rfl ?_); refine wpList_reads (by rfl) (kr_load_cell K _ _ (by rfl) (by rfl) Has.auto (by kernel_rfl) (recC_0 _)) ?_) | ((with_reducible refine at_slot (N := 46) rfl ?_); refine wpList_reads (by rfl) (kr_load_cell K _ _ (by rfl) (by rfl) Has.auto (by kernel_rfl) (recC_0 _)) ?_) | ((with_reducible refine at_slot (N := 34) rfl ?_); refine wpList_reads (by rfl) (kr_rem2 (by rfl) (by rfl) (by rfl) HPAR.out) ?_))
        go_roundg 1
        case measure => omega
        case rel => exact ⟨1, by rw [HST.out], by go_num, by omega, by rw [HST.out]; exact K.cov Cov.auto⟩
    · skip
      have HDS := Lib.hid (stJ_ok hok 1)
      obtain ⟨⟨l, f⟩, hlf⟩ : ∃ s, stJ D 1 = s := ⟨_, rfl⟩
      rw [hlf] at HDS K
      obtain ⟨⟨bs, er⟩, hdr⟩ : ∃ s, dread D 1 = s := ⟨_, rfl⟩
      have HDR := Lib.hid hdr
      have HBB := Lib.hid (show ∀ v ∈ bs, 0 ≤ v ∧ v ≤ 255 by have := dread_byte hok 1; rw [hdr] at this; exact this)
      have hbl : bs.length ≤ 4096 := by have := dread_len hok 1; rw [hdr] at this; simp only at this; omega
      have HBL := Lib.hid (show bs.length ≤ maxLen by simp only [maxLen]; omega)
      have HBL2 := Lib.hid hbl
      have HML := Lib.hid (show l.man.length = 32 from HDS.out.man)
      obtain ⟨⟨rr, ge⟩, hrg⟩ : ∃ s, resG bs = s := ⟨_, rfl⟩
      have hro := resG_ok HBB.out
      rw [hrg] at hro
      have hrq : 0 ≤ rr.seq ∧ rr.seq ≤ 18446744073709551615 := hro.u64.1
      have HMG := Lib.hid (show rr.man.length = 32 from hro.man)
      have HRG := Lib.hid hrg
      have hcd : cand D 1 = if er = 0 ∧ ge = 0 ∧ rr.seq % 2 = 1 then some rr else none := by
        unfold cand
        rw [show ((1 : Nat) : Int) = 1 from rfl, hdr]
        simp only
        rw [hrg]
      have hst1 : stJ D 2 = pickJ (l, f) (cand D 1) := by show pickJ (stJ D 1) (cand D 1) = _; rw [hlf]
      rw [hcd] at hst1
      rw [hlf]
      clear hlf hdr hro hrg hcd HDS hbl
      by_cases he : er = 0
      rotate_left
      · have e1 : (er == 0) = false := by simpa using he
        have HST := Lib.hid (show stJ D 2 = (l, f) by rw [hst1, if_neg (by omega)]; rfl)
        clear hst1
        go_wp2_with (first | ((with_reducible refine at_load (t := 49) rfl ?_); refine wpList_reads (by rfl) (kr_load_row K _ _ (by rfl) (by rfl) Has.auto (by kernel_rfl) (by kernel_rfl)) ?_) | (go_at_call 37; (with_reducible refine (rread_any K (R.cov Cov.auto) 1).mono ?_); clear K; rintro e w1 ⟨rfl, K⟩; rw [HDR.out]) | ((with_reducible refine at_convert (t := 9) (u := 46) rfl ?_); refine wpList_does rfl (kd_ofString K rfl rfl HBB.out Try.underlying9 Try.underlying46 Try.underlying5 HBL.out) ?_; clear K; rintro _ w1 ⟨gs, c1, cs1, rfl, hc1, hc2, RB, K⟩; have hc3 : c1 ≤ 9223372036854775807 := hc2) | (go_at_call 38; (with_reducible refine (rjget_any K (RB.cov Cov.auto) hc1 hc3 HBB.out (by have := HBL2.out; omega)).mono ?_); clear K; rintro e w1 ⟨rfl, K⟩; rw [HRG.out]) | ((with_reducible refine at_slot (N := 8) rfl ?_); (with_reducible refine at_alloc rfl ?_); refine wpList_does rfl (kd_alloc (z := (.agg (recC rec0))) K _ rfl (by kernel_rfl)) ?_; clear K; rintro _ w1 ⟨g8, rfl, K⟩; (try dsimp only [Value.cells] at K)) | ((with_reducible refine at_slot (N := 50) rfl ?_); refine wpList_reads (by rfl) (kr_load_row K _ _ (by rfl) (by rfl) Has.auto (by kernel_rfl) (by rw [recC_size _ (by first | exact HML.out | exact HMG.out | exact man0_len)]; kernel_rfl)) ?_) | ((with_reducible refine at_store rfl ?_); refine wpList_does (by rfl) (kd_store_row K _ _ _ (by rfl) (by rfl) (by rfl) Repl.auto (by rw [recC_size _ (HMG.out)]; kernel_rfl) (by first | (rw [recC_size _ man0_len, recC_size _ (HMG.out)]; rfl) | (rw [recC_size _ HML.out, recC_size _ (HMG.out)]; rfl) | (rw [recC_size _ man0_len]; rfl)) (recC_one _)) ?_; clear K; intro _ w1 K; (try simp only [Act.put])) | ((with_reducible refine at_slot (N := 33) rfl ?_); refine wpList_reads (by rfl) (kr_load_cell K _ _ (by rfl) (by rfl) Has.auto (by kernel_rfl) (recC_0 _)) ?_) | ((with_reducible refine at_slot (N := 44) rfl ?_); refine wpList_reads (by rfl) (kr_load_cell K _ _ (by rfl) (by rfl) Has.auto (by kernel_rfl) (recC_0 _)) ?_) | ((with_reducible refine at_slot (N := 46) rfl ?_); refine wpList_reads (by rfl) (kr_load_cell K _ _ (by rfl) (by rfl) Has.auto (by kernel_rfl) (recC_0 _)) ?_) | ((with_reducible refine at_slot (N := 34) rfl ?_); refine wpList_reads (by rfl) (kr_rem2 (by rfl) (by rfl) (by rfl) HPAR.out) ?_))
        go_roundg 0
        case measure => omega
        case rel => exact ⟨2, by rw [HST.out], by go_num, by omega, by rw [HST.out]; exact K.cov Cov.auto⟩
      subst he
      by_cases hg : ge = 0
      rotate_left
      · have e1 : (ge == 0) = false := by simpa using hg
        have HST := Lib.hid (show stJ D 2 = (l, f) by rw [hst1, if_neg (by omega)]; rfl)
        clear hst1
        go_wp2_with (first | ((with_reducible refine at_load (t := 49) rfl ?_); refine wpList_reads (by rfl) (kr_load_row K _ _ (by rfl) (by rfl) Has.auto (by kernel_rfl) (by kernel_rfl)) ?_) | (go_at_call 37; (with_reducible refine (rread_any K (R.cov Cov.auto) 1).mono ?_); clear K; rintro e w1 ⟨rfl, K⟩; rw [HDR.out]) | ((with_reducible refine at_convert (t := 9) (u := 46) rfl ?_); refine wpList_does rfl (kd_ofString K rfl rfl HBB.out Try.underlying9 Try.underlying46 Try.underlying5 HBL.out) ?_; clear K; rintro _ w1 ⟨gs, c1, cs1, rfl, hc1, hc2, RB, K⟩; have hc3 : c1 ≤ 9223372036854775807 := hc2) | (go_at_call 38; (with_reducible refine (rjget_any K (RB.cov Cov.auto) hc1 hc3 HBB.out (by have := HBL2.out; omega)).mono ?_); clear K; rintro e w1 ⟨rfl, K⟩; rw [HRG.out]) | ((with_reducible refine at_slot (N := 8) rfl ?_); (with_reducible refine at_alloc rfl ?_); refine wpList_does rfl (kd_alloc (z := (.agg (recC rec0))) K _ rfl (by kernel_rfl)) ?_; clear K; rintro _ w1 ⟨g8, rfl, K⟩; (try dsimp only [Value.cells] at K)) | ((with_reducible refine at_slot (N := 50) rfl ?_); refine wpList_reads (by rfl) (kr_load_row K _ _ (by rfl) (by rfl) Has.auto (by kernel_rfl) (by rw [recC_size _ (by first | exact HML.out | exact HMG.out | exact man0_len)]; kernel_rfl)) ?_) | ((with_reducible refine at_store rfl ?_); refine wpList_does (by rfl) (kd_store_row K _ _ _ (by rfl) (by rfl) (by rfl) Repl.auto (by rw [recC_size _ (HMG.out)]; kernel_rfl) (by first | (rw [recC_size _ man0_len, recC_size _ (HMG.out)]; rfl) | (rw [recC_size _ HML.out, recC_size _ (HMG.out)]; rfl) | (rw [recC_size _ man0_len]; rfl)) (recC_one _)) ?_; clear K; intro _ w1 K; (try simp only [Act.put])) | ((with_reducible refine at_slot (N := 33) rfl ?_); refine wpList_reads (by rfl) (kr_load_cell K _ _ (by rfl) (by rfl) Has.auto (by kernel_rfl) (recC_0 _)) ?_) | ((with_reducible refine at_slot (N := 44) rfl ?_); refine wpList_reads (by rfl) (kr_load_cell K _ _ (by rfl) (by rfl) Has.auto (by kernel_rfl) (recC_0 _)) ?_) | ((with_reducible refine at_slot (N := 46) rfl ?_); refine wpList_reads (by rfl) (kr_load_cell K _ _ (by rfl) (by rfl) Has.auto (by kernel_rfl) (recC_0 _)) ?_) | ((with_reducible refine at_slot (N := 34) rfl ?_); refine wpList_reads (by rfl) (kr_rem2 (by rfl) (by rfl) (by rfl) HPAR.out) ?_))
        go_roundg 0
        case measure => omega
        case rel => exact ⟨2, by rw [HST.out], by go_num, by omega, by rw [HST.out]; exact K.cov Cov.auto⟩
      subst hg
      by_cases hp : rr.seq % 2 = 0
      · have HPAR := Lib.hid (show (0 ≤ rr.seq ∧ rr.seq ≤ 18446744073709551615) ∧ rr.seq % 2 = 0 from ⟨hrq, hp⟩)
        have HST := Lib.hid (show stJ D 2 = (l, f) by rw [hst1, if_neg (by omega)]; rfl)
        clear hst1 hp
        go_wp2_with (first | ((with_reducible refine at_load (t := 49) rfl ?_); refine wpList_reads (by rfl) (kr_load_row K _ _ (by rfl) (by rfl) Has.auto (by kernel_rfl) (by kernel_rfl)) ?_) | (go_at_call 37; (with_reducible refine (rread_any K (R.cov Cov.auto) 1).mono ?_); clear K; rintro e w1 ⟨rfl, K⟩; rw [HDR.out]) | ((with_reducible refine at_convert (t := 9) (u := 46) rfl ?_); refine wpList_does rfl (kd_ofString K rfl rfl HBB.out Try.underlying9 Try.underlying46 Try.underlying5 HBL.out) ?_; clear K; rintro _ w1 ⟨gs, c1, cs1, rfl, hc1, hc2, RB, K⟩; have hc3 : c1 ≤ 9223372036854775807 := hc2) | (go_at_call 38; (with_reducible refine (rjget_any K (RB.cov Cov.auto) hc1 hc3 HBB.out (by have := HBL2.out; omega)).mono ?_); clear K; rintro e w1 ⟨rfl, K⟩; rw [HRG.out]) | ((with_reducible refine at_slot (N := 8) rfl ?_); (with_reducible refine at_alloc rfl ?_); refine wpList_does rfl (kd_alloc (z := (.agg (recC rec0))) K _ rfl (by kernel_rfl)) ?_; clear K; rintro _ w1 ⟨g8, rfl, K⟩; (try dsimp only [Value.cells] at K)) | ((with_reducible refine at_slot (N := 50) rfl ?_); refine wpList_reads (by rfl) (kr_load_row K _ _ (by rfl) (by rfl) Has.auto (by kernel_rfl) (by rw [recC_size _ (by first | exact HML.out | exact HMG.out | exact man0_len)]; kernel_rfl)) ?_) | ((with_reducible refine at_store rfl ?_); refine wpList_does (by rfl) (kd_store_row K _ _ _ (by rfl) (by rfl) (by rfl) Repl.auto (by rw [recC_size _ (HMG.out)]; kernel_rfl) (by first | (rw [recC_size _ man0_len, recC_size _ (HMG.out)]; rfl) | (rw [recC_size _ HML.out, recC_size _ (HMG.out)]; rfl) | (rw [recC_size _ man0_len]; rfl)) (recC_one _)) ?_; clear K; intro _ w1 K; (try simp only [Act.put])) | ((with_reducible refine at_slot (N := 33) rfl ?_); refine wpList_reads (by rfl) (kr_load_cell K _ _ (by rfl) (by rfl) Has.auto (by kernel_rfl) (recC_0 _)) ?_) | ((with_reducible refine at_slot (N := 44) rfl ?_); refine wpList_reads (by rfl) (kr_load_cell K _ _ (by rfl) (by rfl) Has.auto (by kernel_rfl) (recC_0 _)) ?_) | ((with_reducible refine at_slot (N := 46) rfl ?_); refine wpList_reads (by rfl) (kr_load_cell K _ _ (by rfl) (by rfl) Has.auto (by kernel_rfl) (recC_0 _)) ?_) | ((with_reducible refine at_slot (N := 34) rfl ?_); refine wpList_reads (by rfl) (kr_rem2 (by rfl) (by rfl) (by rfl) HPAR.out) ?_))
        go_roundg 0
        case measure => omega
        case rel => exact ⟨2, by rw [HST.out], by go_num, by omega, by rw [HST.out]; exact K.cov Cov.auto⟩
      have hp2 : rr.seq % 2 = 1 := by omega
      have HPAR := Lib.hid (show (0 ≤ rr.seq ∧ rr.seq ≤ 18446744073709551615) ∧ rr.seq % 2 = 1 from ⟨hrq, hp2⟩)
      rw [if_pos ⟨rfl, rfl, hp2⟩] at hst1
      clear hp hp2
      cases f
      · have HST := Lib.hid (show stJ D 2 = (rr, true) by rw [hst1, pickJ, if_neg (by simp)])
        clear hst1
        go_wp2_with (first | ((with_reducible refine at_load (t := 49) rfl ?_); refine wpList_reads (by rfl) (kr_load_row K _ _ (by rfl) (by rfl) Has.auto (by kernel_rfl) (by kernel_rfl)) ?_) | (go_at_call 37; (with_reducible refine (rread_any K (R.cov Cov.auto) 1).mono ?_); clear K; rintro e w1 ⟨rfl, K⟩; rw [HDR.out]) | ((with_reducible refine at_convert (t := 9) (u := 46) rfl ?_); refine wpList_does rfl (kd_ofString K rfl rfl HBB.out Try.underlying9 Try.underlying46 Try.underlying5 HBL.out) ?_; clear K; rintro _ w1 ⟨gs, c1, cs1, rfl, hc1, hc2, RB, K⟩; have hc3 : c1 ≤ 9223372036854775807 := hc2) | (go_at_call 38; (with_reducible refine (rjget_any K (RB.cov Cov.auto) hc1 hc3 HBB.out (by have := HBL2.out; omega)).mono ?_); clear K; rintro e w1 ⟨rfl, K⟩; rw [HRG.out]) | ((with_reducible refine at_slot (N := 8) rfl ?_); (with_reducible refine at_alloc rfl ?_); refine wpList_does rfl (kd_alloc (z := (.agg (recC rec0))) K _ rfl (by kernel_rfl)) ?_; clear K; rintro _ w1 ⟨g8, rfl, K⟩; (try dsimp only [Value.cells] at K)) | ((with_reducible refine at_slot (N := 50) rfl ?_); refine wpList_reads (by rfl) (kr_load_row K _ _ (by rfl) (by rfl) Has.auto (by kernel_rfl) (by rw [recC_size _ (by first | exact HML.out | exact HMG.out | exact man0_len)]; kernel_rfl)) ?_) | ((with_reducible refine at_store rfl ?_); refine wpList_does (by rfl) (kd_store_row K _ _ _ (by rfl) (by rfl) (by rfl) Repl.auto (by rw [recC_size _ (HMG.out)]; kernel_rfl) (by first | (rw [recC_size _ man0_len, recC_size _ (HMG.out)]; rfl) | (rw [recC_size _ HML.out, recC_size _ (HMG.out)]; rfl) | (rw [recC_size _ man0_len]; rfl)) (recC_one _)) ?_; clear K; intro _ w1 K; (try simp only [Act.put])) | ((with_reducible refine at_slot (N := 33) rfl ?_); refine wpList_reads (by rfl) (kr_load_cell K _ _ (by rfl) (by rfl) Has.auto (by kernel_rfl) (recC_0 _)) ?_) | ((with_reducible refine at_slot (N := 44) rfl ?_); refine wpList_reads (by rfl) (kr_load_cell K _ _ (by rfl) (by rfl) Has.auto (by kernel_rfl) (recC_0 _)) ?_) | ((with_reducible refine at_slot (N := 46) rfl ?_); refine wpList_reads (by rfl) (kr_load_cell K _ _ (by rfl) (by rfl) Has.auto (by kernel_rfl) (recC_0 _)) ?_) | ((with_reducible refine at_slot (N := 34) rfl ?_); refine wpList_reads (by rfl) (kr_rem2 (by rfl) (by rfl) (by rfl) HPAR.out) ?_))
        go_roundg 0
        case measure => omega
        case rel => exact ⟨2, by rw [HST.out], by go_num, by omega, by rw [HST.out]; exact K.cov Cov.auto⟩
      by_cases hlt : rr.seq < l.seq
      · have d1 : decide (l.seq ≤ rr.seq) = false := decide_eq_false (by omega)
        have d2 : ¬ l.seq ≤ rr.seq := by omega
        have HST := Lib.hid (show stJ D 2 = (l, true) by rw [hst1, pickJ, if_pos ⟨rfl, hlt⟩])
        clear hst1
        go_wp2_with (first | ((with_reducible refine at_load (t := 49) rfl ?_); refine wpList_reads (by rfl) (kr_load_row K _ _ (by rfl) (by rfl) Has.auto (by kernel_rfl) (by kernel_rfl)) ?_) | (go_at_call 37; (with_reducible refine (rread_any K (R.cov Cov.auto) 1).mono ?_); clear K; rintro e w1 ⟨rfl, K⟩; rw [HDR.out]) | ((with_reducible refine at_convert (t := 9) (u := 46) rfl ?_); refine wpList_does rfl (kd_ofString K rfl rfl HBB.out Try.underlying9 Try.underlying46 Try.underlying5 HBL.out) ?_; clear K; rintro _ w1 ⟨gs, c1, cs1, rfl, hc1, hc2, RB, K⟩; have hc3 : c1 ≤ 9223372036854775807 := hc2) | (go_at_call 38; (with_reducible refine (rjget_any K (RB.cov Cov.auto) hc1 hc3 HBB.out (by have := HBL2.out; omega)).mono ?_); clear K; rintro e w1 ⟨rfl, K⟩; rw [HRG.out]) | ((with_reducible refine at_slot (N := 8) rfl ?_); (with_reducible refine at_alloc rfl ?_); refine wpList_does rfl (kd_alloc (z := (.agg (recC rec0))) K _ rfl (by kernel_rfl)) ?_; clear K; rintro _ w1 ⟨g8, rfl, K⟩; (try dsimp only [Value.cells] at K)) | ((with_reducible refine at_slot (N := 50) rfl ?_); refine wpList_reads (by rfl) (kr_load_row K _ _ (by rfl) (by rfl) Has.auto (by kernel_rfl) (by rw [recC_size _ (by first | exact HML.out | exact HMG.out | exact man0_len)]; kernel_rfl)) ?_) | ((with_reducible refine at_store rfl ?_); refine wpList_does (by rfl) (kd_store_row K _ _ _ (by rfl) (by rfl) (by rfl) Repl.auto (by rw [recC_size _ (HMG.out)]; kernel_rfl) (by first | (rw [recC_size _ man0_len, recC_size _ (HMG.out)]; rfl) | (rw [recC_size _ HML.out, recC_size _ (HMG.out)]; rfl) | (rw [recC_size _ man0_len]; rfl)) (recC_one _)) ?_; clear K; intro _ w1 K; (try simp only [Act.put])) | ((with_reducible refine at_slot (N := 33) rfl ?_); refine wpList_reads (by rfl) (kr_load_cell K _ _ (by rfl) (by rfl) Has.auto (by kernel_rfl) (recC_0 _)) ?_) | ((with_reducible refine at_slot (N := 44) rfl ?_); refine wpList_reads (by rfl) (kr_load_cell K _ _ (by rfl) (by rfl) Has.auto (by kernel_rfl) (recC_0 _)) ?_) | ((with_reducible refine at_slot (N := 46) rfl ?_); refine wpList_reads (by rfl) (kr_load_cell K _ _ (by rfl) (by rfl) Has.auto (by kernel_rfl) (recC_0 _)) ?_) | ((with_reducible refine at_slot (N := 34) rfl ?_); refine wpList_reads (by rfl) (kr_rem2 (by rfl) (by rfl) (by rfl) HPAR.out) ?_))
        go_roundg 0
        case measure => omega
        case rel => exact ⟨2, by rw [HST.out], by go_num, by omega, by rw [HST.out]; exact K.cov Cov.auto⟩
      · have d2 : l.seq ≤ rr.seq := by omega
        have d1 : decide (l.seq ≤ rr.seq) = true := decide_eq_true d2
        have HST := Lib.hid (show stJ D 2 = (rr, true) by rw [hst1, pickJ, if_neg (by exact fun h => hlt h.2)])
        clear hst1 hlt
        go_wp2_with (first | ((with_reducible refine at_load (t := 49) rfl ?_); refine wpList_reads (by rfl) (kr_load_row K _ _ (by rfl) (by rfl) Has.auto (by kernel_rfl) (by kernel_rfl)) ?_) | (go_at_call 37; (with_reducible refine (rread_any K (R.cov Cov.auto) 1).mono ?_); clear K; rintro e w1 ⟨rfl, K⟩; rw [HDR.out]) | ((with_reducible refine at_convert (t := 9) (u := 46) rfl ?_); refine wpList_does rfl (kd_ofString K rfl rfl HBB.out Try.underlying9 Try.underlying46 Try.underlying5 HBL.out) ?_; clear K; rintro _ w1 ⟨gs, c1, cs1, rfl, hc1, hc2, RB, K⟩; have hc3 : c1 ≤ 9223372036854775807 := hc2) | (go_at_call 38; (with_reducible refine (rjget_any K (RB.cov Cov.auto) hc1 hc3 HBB.out (by have := HBL2.out; omega)).mono ?_); clear K; rintro e w1 ⟨rfl, K⟩; rw [HRG.out]) | ((with_reducible refine at_slot (N := 8) rfl ?_); (with_reducible refine at_alloc rfl ?_); refine wpList_does rfl (kd_alloc (z := (.agg (recC rec0))) K _ rfl (by kernel_rfl)) ?_; clear K; rintro _ w1 ⟨g8, rfl, K⟩; (try dsimp only [Value.cells] at K)) | ((with_reducible refine at_slot (N := 50) rfl ?_); refine wpList_reads (by rfl) (kr_load_row K _ _ (by rfl) (by rfl) Has.auto (by kernel_rfl) (by rw [recC_size _ (by first | exact HML.out | exact HMG.out | exact man0_len)]; kernel_rfl)) ?_) | ((with_reducible refine at_store rfl ?_); refine wpList_does (by rfl) (kd_store_row K _ _ _ (by rfl) (by rfl) (by rfl) Repl.auto (by rw [recC_size _ (HMG.out)]; kernel_rfl) (by first | (rw [recC_size _ man0_len, recC_size _ (HMG.out)]; rfl) | (rw [recC_size _ HML.out, recC_size _ (HMG.out)]; rfl) | (rw [recC_size _ man0_len]; rfl)) (recC_one _)) ?_; clear K; intro _ w1 K; (try simp only [Act.put])) | ((with_reducible refine at_slot (N := 33) rfl ?_); refine wpList_reads (by rfl) (kr_load_cell K _ _ (by rfl) (by rfl) Has.auto (by kernel_rfl) (recC_0 _)) ?_) | ((with_reducible refine at_slot (N := 44) rfl ?_); refine wpList_reads (by rfl) (kr_load_cell K _ _ (by rfl) (by rfl) Has.auto (by kernel_rfl) (recC_0 _)) ?_) | ((with_reducible refine at_slot (N := 46) rfl ?_); refine wpList_reads (by rfl) (kr_load_cell K _ _ (by rfl) (by rfl) Has.auto (by kernel_rfl) (recC_0 _)) ?_) | ((with_reducible refine at_slot (N := 34) rfl ?_); refine wpList_reads (by rfl) (kr_rem2 (by rfl) (by rfl) (by rfl) HPAR.out) ?_))
        go_roundg 0
        case measure => omega
        case rel => exact ⟨2, by rw [HST.out], by go_num, by omega, by rw [HST.out]; exact K.cov Cov.auto⟩
    · have HML := Lib.hid (show (stJ D 2).1.man.length = 32 from HROK.out)
      have HMG := HML
      go_wp2_with (first | ((with_reducible refine at_load (t := 41) rfl ?_); refine wpList_reads (by rfl) (kr_load_row K _ _ (by rfl) (by rfl) Has.auto (by kernel_rfl) (by rw [recC_size _ (by first | exact HML.out | exact HMG.out | exact man0_len)]; kernel_rfl)) ?_) | ((with_reducible refine at_store rfl ?_); refine wpList_does (by rfl) (kd_store_row K _ _ _ (by rfl) (by rfl) (by rfl) Repl.auto (by rw [recC_size _ (HML.out)]; kernel_rfl) (by first | (rw [recC_size _ man0_len, recC_size _ (HML.out)]; rfl) | (rw [recC_size _ HML.out, recC_size _ (HML.out)]; rfl) | (rw [recC_size _ man0_len]; rfl)) (recC_one _)) ?_; clear K; intro _ w1 K; (try simp only [Act.put])))
      exact bodyPost_cellK K (by rfl) (by rfl) Has.auto (by kernel_rfl) (by rw [recC_size _ HML.out]; kernel_rfl) rfl ⟨rfl, K.cov Cov.auto⟩
theorem rlast_any (K : Known w0 w L) (R : RefIs w0 L D A n c B m d) : Calls Try.prog 18 #[.agg #[.int .i64 ((D).size : Nat), .int .i64 ((D).count : Nat), .slice A n c, .slice B m d, .bool (D).off, .int .i64 (D).offs, .int .i64 (D).fuse, .int .u64 (D).writes]] w fun e w' => e = .returned (.agg (recC (lastJ D))) ∧ Known w0 w' L := rlast_raw K R
end
end Go.Proofs.Ytfdddipmeadecaa
