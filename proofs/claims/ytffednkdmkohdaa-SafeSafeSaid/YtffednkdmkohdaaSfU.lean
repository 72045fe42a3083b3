/-
  The document's Block (contract); drogherlaw20.SafeSafe (walk).
-/
import Derived.Test.YtffednkdmkohdaaSfJ
import Derived.Test.YtffednkdmkohdaaSfO
import Derived.Test.YtffednkdmkohdaaSfP
import Derived.Test.YtffednkdmkohdaaSfT
set_option linter.unusedVariables false
set_option linter.unusedSimpArgs false
namespace Go.Proofs.Ytffednkdmkohdaa
open Go.RowKit

section
variable {w0 w : World} {L : List Ent} {bA A B : Option Addr} {bn bc n c m d : Nat} {bs : List Int} {rows : List (Arow Ast)} {os : List Int} {block new : Int}
set_option maxHeartbeats 800000 in
set_option maxRecDepth 100000 in
theorem rblock_any (A : Option Addr) (hc : n ≤ c) (hn : n ≤ 100000) (hb : 128 ≤ block ∧ block ≤ 4096) (i ib sz : Nat) (hi : (i : Int) < blocksN n block) (hib : (i : Int) * block = (ib : Int)) (hsz : sizeS i block n = (sz : Int)) (w : World) :
    Calls Try.prog 32 #[.slice A n c, .int .i64 block, .int .i64 i] w fun e w' => e = .returned (.slice (cutA A c ib) sz (c - ib)) ∧ w = w' := by
  obtain ⟨kb, hkb⟩ : ∃ kb, blocksN n block = kb := ⟨_, rfl⟩
  have hib0 := blocksN_below (n := (n : Int)) (block := block) (i := (i : Int)) (by omega) (by omega) hi
  rw [hib] at hib0
  have hib1 : ((i : Int) + 1) * block = (ib : Int) + block := by rw [Int.add_mul, Int.one_mul, hib]
  rw [hkb] at hi
  have HKB := Lib.hid hkb
  rw [sizeS, hib] at hsz
  have hin : i ≤ 100000 := by
    have h1 := Int.mul_le_mul_of_nonneg_left (show (1 : Int) ≤ block by omega) (show (0 : Int) ≤ (i : Int) by omega)
    rw [hib] at h1
    omega
  have d0 : decide ((i : Int) < 0) = false := decide_eq_false (by omega)
  have d1 : decide (kb ≤ (i : Int)) = false := decide_eq_false (by omega)
  have i1 := IntWalk.i64_in (ib : Int) (by omega)
  have i2 := IntWalk.i64_in ((n : Int) - (ib : Int)) (by omega)
  have i3 := IntWalk.i64_in ((i : Int) + 1) (by omega)
  have i4 := IntWalk.i64_in ((ib : Int) + block) (by omega)
  clear hkb
  by_cases h1 : block < (n : Int) - (ib : Int)
  · have d2 : decide (block < (n : Int) - (ib : Int)) = true := decide_eq_true h1
    rw [if_neg (by omega)] at hsz
    have hsn : ib + sz ≤ n := by omega
    have hsz2 : block ≤ (sz : Int) ∧ (sz : Int) ≤ block := by omega
    clear hsz
    go_enter Try.func32, Try.ntmps32
    go_wp2_with (first | (go_at_call 63; (with_reducible refine (rblocks_any (m := (n : Int)) (block := block) (by omega) (by omega) _).mono ?_); rintro e w' ⟨rfl, rfl⟩; rw [HKB.out]) | ((with_reducible refine at_slice (l := some _) (h := some _) rfl ?_); refine wpList_reads rfl (kr_cut rfl rfl (ib) (sz) (.inr ⟨_, _, by rfl, by rfl, by omega⟩) (.inr ⟨_, _, by rfl, by rfl, by omega⟩) (by omega) (by omega) Try.underlying48 (by kernel_rfl)) ?_))
    go_ret
    exact ⟨rfl, rfl⟩
  · have d2 : decide (block < (n : Int) - (ib : Int)) = false := decide_eq_false h1
    have hsn : ib + sz = n := by split at hsz <;> omega
    have HSN := Lib.hid hsn
    clear hsz hsn
    go_enter Try.func32, Try.ntmps32
    go_wp2_with (first | ((with_reducible refine at_slice (l := some _) (h := some _) rfl ?_); refine wpList_reads rfl (kr_cut rfl rfl (ib) (sz) (.inr ⟨_, _, by rfl, by rfl, by have := HSN.out; omega⟩) (.inr ⟨_, _, by rfl, by rfl, by have := HSN.out; omega⟩) (by have := HSN.out; omega) (by have := HSN.out; omega) Try.underlying48 (by kernel_rfl)) ?_) | (go_at_call 63; (with_reducible refine (rblocks_any (m := (n : Int)) (block := block) (by omega) (by omega) _).mono ?_); rintro e w' ⟨rfl, rfl⟩; rw [HKB.out]))
    go_ret
    exact ⟨rfl, rfl⟩

set_option maxHeartbeats 1600000 in
set_option maxRecDepth 100000 in
theorem safeSafe_any (K : Known w0 w L) (Rb : RdS w0 [] .u8 bA bn bs) (hbc : bn ≤ bc) (G : Plans w0 [] A n rows) (hc : n ≤ c) (R : RdS w0 [] .i64 B m os) (hd : m ≤ d) : Calls Try.prog 8 #[.slice bA bn bc, .slice A n c, .slice B m d, .int .i64 block, .int .i64 new] w fun e w' => e = .returned (.bool true) ∧ Known w0 w' L := by
  cases hg : greatP rows
  · have HG := Lib.hid hg
    obtain ⟨hgn, hg6⟩ := greatP_no hg
    have hl := G.R.len
    have HL := Lib.hid hl
    have hn4 : n ≤ 40 := by omega
    have h6 : ∀ r ∈ rows, r.n ≤ 60 := fun r hr => by
      have h1 := greatA_no (hg6 r hr)
      have h2 := (G.row r hr).1.len
      omega
    clear hg hgn hg6 hl
    by_cases hm6 : 60 < m
    · have d1 : decide (60 < (m : Int)) = true := decide_eq_true (by omega)
      go_enter Try.func8, Try.ntmps8
      go_wp2_with (first | (go_at_call 24; (with_reducible refine (pgreat_any K G hc).mono ?_); rintro e w' ⟨rfl, rfl⟩; rw [HG.out]) | (go_at_call 27; (with_reducible refine (awake20K K).mono ?_); clear K; rintro e w1 ⟨rfl, K⟩))
      go_ret
      exact ⟨rfl, K⟩
    have d1 : decide (60 < (m : Int)) = false := decide_eq_false (by omega)
    by_cases hb5 : 5000 < bn
    · have d2 : decide (5000 < (bn : Int)) = true := decide_eq_true (by omega)
      go_enter Try.func8, Try.ntmps8
      go_wp2_with (first | (go_at_call 24; (with_reducible refine (pgreat_any K G hc).mono ?_); rintro e w' ⟨rfl, rfl⟩; rw [HG.out]) | (go_at_call 27; (with_reducible refine (awake20K K).mono ?_); clear K; rintro e w1 ⟨rfl, K⟩))
      go_ret
      exact ⟨rfl, K⟩
    have d2 : decide (5000 < (bn : Int)) = false := decide_eq_false (by omega)
    by_cases hn5 : 5000 < new
    · have d3 : decide (5000 < new) = true := decide_eq_true (by omega)
      go_enter Try.func8, Try.ntmps8
      go_wp2_with (first | (go_at_call 24; (with_reducible refine (pgreat_any K G hc).mono ?_); rintro e w' ⟨rfl, rfl⟩; rw [HG.out]) | (go_at_call 27; (with_reducible refine (awake20K K).mono ?_); clear K; rintro e w1 ⟨rfl, K⟩))
      go_ret
      exact ⟨rfl, K⟩
    have d3 : decide (5000 < new) = false := decide_eq_false (by omega)
    obtain ⟨x, hx⟩ : ∃ x, checkE (rows.map (·.l)) os block bn new = x := ⟨_, rfl⟩
    have HX := Lib.hid hx
    by_cases h0 : x = 0
    rotate_left
    · have e1 : (x == 0) = false := by simpa using h0
      clear hx
      go_enter Try.func8, Try.ntmps8
      go_wp2_with (first | (go_at_call 24; (with_reducible refine (pgreat_any K G hc).mono ?_); rintro e w' ⟨rfl, rfl⟩; rw [HG.out]) | (go_at_call 28; (with_reducible refine (scheck_any K G hc R hd (by omega) (by omega) h6).mono ?_); clear K; rintro e w1 ⟨rfl, K⟩; rw [HX.out]) | (go_at_call 27; (with_reducible refine (awake20K K).mono ?_); clear K; rintro e w1 ⟨rfl, K⟩))
      go_ret
      exact ⟨rfl, K⟩
    subst h0
    rw [← Rb.len] at hx
    obtain ⟨⟨xl, hfo, hxl, hall⟩, hnb, hb1, hb2, hnw⟩ := safe_law (w := w0) (fun l hl s hs => by
      obtain ⟨r, hr, rfl⟩ := List.mem_map.1 hl
      exact (G.row r hr).2.2 s hs) hx
    obtain ⟨nw, rfl⟩ : ∃ nw : Nat, new = (nw : Int) := ⟨new.toNat, by omega⟩
    have HFO := Lib.hid hfo
    have HXL := Lib.hid (show xl.length = nw by omega)
    have HALL := Lib.hid hall
    rw [List.length_map, HL.out] at hnb
    have HNB := Lib.hid hnb
    have hb : 128 ≤ block ∧ block ≤ 4096 := ⟨hb1, hb2⟩
    clear hx hfo hxl hall hnb
    go_enter Try.func8, Try.ntmps8
    go_upto_region 7 with ((first | (go_at_call 24; (with_reducible refine (pgreat_any K G hc).mono ?_); rintro e w' ⟨rfl, rfl⟩; rw [HG.out]) | (go_at_call 28; (with_reducible refine (scheck_any K G hc R hd (by omega) (by omega) h6).mono ?_); clear K; rintro e w1 ⟨rfl, K⟩; rw [HX.out]) | (go_at_call 30; (with_reducible refine (sfold_any K (Rb.cov (Cov.nil _)) hbc (by omega) G hc R hd (by omega) (by omega) h6 (by omega)).mono ?_); clear K; rintro e w1 ⟨A1, k1, c1, rfl, hc1, hk1, X1, R1, K⟩; rw [HFO.out]; rw [HFO.out] at R1 hk1; obtain rfl : nw = k1 := HXL.out.symm.trans hk1.out.symm)))
    go_loopg [13] n (fun q v wr => ∃ (i : Nat), v = .int .i64 i ∧ i + q = n ∧ Known w0 wr (X1 ++ L))
    case atStart => exact ⟨0, by go_num, by omega, K⟩
    case round =>
      clear K
      obtain ⟨i, rfl, hdi, K⟩ := hrel
      by_cases hi : i < n
      · have hi2 : decide ((i : Int) < (n : Int)) = true := decide_eq_true (by omega)
        have hii : (0 : Int) ≤ (i : Int) ∧ (i : Int) < (n : Int) := by omega
        have i1 := IntWalk.i64_in ((i : Int) + 1) (by omega)
        have hil : i < rows.length := by have := HL.out; omega
        obtain ⟨⟨rA, rn, rc, rl⟩, hp⟩ : ∃ r, r = rows[i]'hil := ⟨_, rfl⟩
        have hpm : (⟨rA, rn, rc, rl⟩ : Arow Ast) ∈ rows := by rw [hp]; exact List.getElem_mem _
        have HP := Lib.hid (show encAt arC rows i = [.slice rA rn rc] by rw [encAt_get hil, ← hp]; rfl)
        have hrl : (rows.map (·.l)).getD i [] = rl := by simp [List.getD, hil, ← hp]
        obtain ⟨RR, hrc, hrs⟩ := G.row _ hpm
        have hrn := h6 _ hpm
        simp only at RR hrc hrs hrn
        have hib9 : (i : Int) < blocksN nw block := by have := HNB.out; omega
        have hib0 := blocksN_below (n := (nw : Int)) (block := block) (i := (i : Int)) (by omega) (by omega) hib9
        have hib1 : 0 ≤ (i : Int) * block := Int.mul_nonneg (by omega) (by omega)
        obtain ⟨ib, hib⟩ : ∃ ib : Nat, (i : Int) * block = (ib : Int) := ⟨((i : Int) * block).toNat, by omega⟩
        have hs0 : 0 ≤ sizeS i block nw ∧ sizeS i block nw ≤ nw - (i : Int) * block := by unfold sizeS; split <;> omega
        obtain ⟨sz, hsz⟩ : ∃ sz : Nat, sizeS i block nw = (sz : Int) := ⟨(sizeS i block nw).toNat, by omega⟩
        have HSZ := Lib.hid hsz
        have hev := HALL.out i (by rw [List.length_map]; exact hil)
        rw [hrl, hsz, Int.toNat_natCast, hib, Int.toNat_natCast] at hev
        have HEV := Lib.hid hev
        have hsn : ib + sz ≤ nw := by omega
        have HRC := Lib.hid (R1.cut ib sz hsn hc1)
        obtain ⟨b2, off2, rfl⟩ := G.R.form (K.cov (Cov.nil _)) (by omega)
        clear hp hpm hrl hev hsz hs0 hib0 hib1
        go_wp2_with (first | (go_at_call 32; (with_reducible refine (rblock_any A1 hc1 (by omega) hb i ib sz hib9 hib HSZ.out _).mono ?_); rintro e w' ⟨rfl, rfl⟩) | ((with_reducible refine at_load rfl ?_); refine wpList_reads (by rfl) (kr_load_rcell K _ _ (by rfl) (i) 0 (by rfl) (G.R.cov (Cov.nil _)) (by omega) HP.out (by rfl) (by omega) (by kernel_rfl)) ?_) | (go_at_call 33; (with_reducible refine (reval_any K RR hrc (by omega) hrs (Rb.cov (Cov.nil _)) hbc (by omega)).mono ?_); clear K; rintro e w1 ⟨A2, k2, c2, rfl, hk2, X2, O2, K⟩; rw [HEV.out]; rw [HEV.out] at O2 hk2) | ((with_reducible refine at_slot (N := 86) rfl ?_); (with_reducible refine at_convert (t := 48) (u := 9) rfl ?_); refine wpList_reads rfl (kr_string rfl rfl ((HRC.out.cov Cov.auto).at_ _ K) Try.underlying48 Try.underlying5 Try.underlying9) ?_) | ((with_reducible refine at_slot (N := 88) rfl ?_); (with_reducible refine at_convert (t := 48) (u := 9) rfl ?_); refine wpList_reads rfl (kr_string rfl rfl ((RdS.own (L := _) O2 Seg.auto).at_ _ K) Try.underlying48 Try.underlying5 Try.underlying9) ?_))
        go_roundg (gk - 1)
        case measure => omega
        case rel => exact ⟨i + 1, by go_num, by omega, K.cov Cov.auto⟩
      · have hi2 : decide ((i : Int) < (n : Int)) = false := decide_eq_false (by omega)
        go_wp2_with (first | (go_at_call 27; (with_reducible refine (awake20K K).mono ?_); clear K; rintro e w1 ⟨rfl, K⟩))
        go_ret
        exact ⟨rfl, K.cov Cov.auto⟩
  · have HG := Lib.hid hg
    clear hg
    go_enter Try.func8, Try.ntmps8
    go_wp2_with (first | (go_at_call 24; (with_reducible refine (pgreat_any K G hc).mono ?_); rintro e w' ⟨rfl, rfl⟩; rw [HG.out]) | (go_at_call 27; (with_reducible refine (awake20K K).mono ?_); clear K; rintro e w1 ⟨rfl, K⟩))
    go_ret
    exact ⟨rfl, K⟩
end
end Go.Proofs.Ytffednkdmkohdaa
