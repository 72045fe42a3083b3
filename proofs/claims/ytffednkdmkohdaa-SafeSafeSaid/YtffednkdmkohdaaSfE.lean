/-
  safe: ahead; the document's Ahead (contracts).
-/
import Derived.Test.YtffednkdmkohdaaSfD
set_option linter.unusedVariables false
set_option linter.unusedSimpArgs false
namespace Go.Proofs.Ytffednkdmkohdaa
open Go.RowKit

section
variable {w0 w : World} {L : List Ent} {A B : Option Addr} {n c m d : Nat} {os : List Int} {block old new : Int}
set_option maxHeartbeats 800000 in
set_option maxRecDepth 100000 in
theorem sahead_any (K : Known w0 w L) (R : RdS w0 L .i64 B m os) (hd : m ≤ d) (hm : m ≤ 1000000) (A : Option Addr) (hc : n ≤ c) : Calls Try.prog 55 #[.slice A n c, .slice B m d, .int .i64 block, .int .i64 old, .int .i64 new] w fun e w' => e = .returned (.int .i64 (aheadE n os block old new)) ∧ Known w0 w' L := by
  cases hmy : mayS block [old, new]
  · have HM := Lib.hid hmy
    have HR := Lib.hid (show aheadE n os block old new = 1 by rw [aheadE, hmy]; rfl)
    clear hmy
    go_enter Try.func55, Try.ntmps55
    go_wp2_with (first | ((with_reducible refine at_buildSlice (n := 2) rfl ?_); refine wpList_does rfl (kd_litsN K _ _ _ rfl (by first | rfl | (go_simp; done) | (go_simp; rfl)) (by first | rfl | (go_simp; done) | (go_simp; rfl)) (xs := [_, _]) (by rfl) (by rfl) (by kernel_rfl)) ?_; clear K; rintro _ w1 ⟨gl, rfl, K, OL⟩) | (go_at_call 79; (with_reducible refine (smay_any K (RdS.own (w0 := w0) OL Seg.auto) (Nat.le_refl _) (by omega) _).mono ?_); rintro e w' ⟨rfl, rfl⟩; rw [HM.out]))
    go_ret
    exact ⟨by rw [HR.out]; rfl, K.cov Cov.auto⟩
  have HM := Lib.hid hmy
  have hb := mayS_yes hmy
  obtain ⟨kb, hkb⟩ : ∃ kb, blocksN new block = kb := ⟨_, rfl⟩
  have HKB := Lib.hid hkb
  by_cases h1 : (n : Int) = kb
  · subst h1
    have e1 : ((n : Int) == (n : Int)) = true := by simp
    cases hon : onceB os n
    · have HON := Lib.hid hon
      have HR := Lib.hid (show aheadE n os block old new = 23 by rw [aheadE, hmy, if_pos rfl, if_neg (by rw [hon]; simp)])
      clear hmy hkb hon
      go_enter Try.func55, Try.ntmps55
      go_wp2_with (first | ((with_reducible refine at_buildSlice (n := 2) rfl ?_); refine wpList_does rfl (kd_litsN K _ _ _ rfl (by first | rfl | (go_simp; done) | (go_simp; rfl)) (by first | rfl | (go_simp; done) | (go_simp; rfl)) (xs := [_, _]) (by rfl) (by rfl) (by kernel_rfl)) ?_; clear K; rintro _ w1 ⟨gl, rfl, K, OL⟩) | (go_at_call 79; (with_reducible refine (smay_any K (RdS.own (w0 := w0) OL Seg.auto) (Nat.le_refl _) (by omega) _).mono ?_); rintro e w' ⟨rfl, rfl⟩; rw [HM.out]) | (go_at_call 80; (with_reducible refine (sblocks_any (m := new) (block := block) (by omega) (by omega) _).mono ?_); rintro e w' ⟨rfl, rfl⟩; rw [HKB.out]) | (go_at_call 81; (with_reducible refine (sonce_any K (R.cov Cov.auto) hd (by omega) n).mono ?_); clear K; rintro e w1 ⟨rfl, K⟩; rw [HON.out]))
      go_ret
      exact ⟨by rw [HR.out]; rfl, K.cov Cov.auto⟩
    · have HON := Lib.hid hon
      have HR := Lib.hid (show aheadE n os block old new = 0 by rw [aheadE, hmy, if_pos rfl, if_pos ⟨hkb.symm, hon⟩])
      clear hmy hkb hon
      go_enter Try.func55, Try.ntmps55
      go_wp2_with (first | ((with_reducible refine at_buildSlice (n := 2) rfl ?_); refine wpList_does rfl (kd_litsN K _ _ _ rfl (by first | rfl | (go_simp; done) | (go_simp; rfl)) (by first | rfl | (go_simp; done) | (go_simp; rfl)) (xs := [_, _]) (by rfl) (by rfl) (by kernel_rfl)) ?_; clear K; rintro _ w1 ⟨gl, rfl, K, OL⟩) | (go_at_call 79; (with_reducible refine (smay_any K (RdS.own (w0 := w0) OL Seg.auto) (Nat.le_refl _) (by omega) _).mono ?_); rintro e w' ⟨rfl, rfl⟩; rw [HM.out]) | (go_at_call 80; (with_reducible refine (sblocks_any (m := new) (block := block) (by omega) (by omega) _).mono ?_); rintro e w' ⟨rfl, rfl⟩; rw [HKB.out]) | (go_at_call 81; (with_reducible refine (sonce_any K (R.cov Cov.auto) hd (by omega) n).mono ?_); clear K; rintro e w1 ⟨rfl, K⟩; rw [HON.out]))
      go_ret
      exact ⟨by rw [HR.out]; rfl, K.cov Cov.auto⟩
  · have e1 : ((n : Int) == kb) = false := by simpa using h1
    have HR := Lib.hid (show aheadE n os block old new = 23 by rw [aheadE, hmy, if_pos rfl, if_neg (by rw [hkb]; exact fun h => h1 h.1)])
    clear hmy hkb
    go_enter Try.func55, Try.ntmps55
    go_wp2_with (first | ((with_reducible refine at_buildSlice (n := 2) rfl ?_); refine wpList_does rfl (kd_litsN K _ _ _ rfl (by first | rfl | (go_simp; done) | (go_simp; rfl)) (by first | rfl | (go_simp; done) | (go_simp; rfl)) (xs := [_, _]) (by rfl) (by rfl) (by kernel_rfl)) ?_; clear K; rintro _ w1 ⟨gl, rfl, K, OL⟩) | (go_at_call 79; (with_reducible refine (smay_any K (RdS.own (w0 := w0) OL Seg.auto) (Nat.le_refl _) (by omega) _).mono ?_); rintro e w' ⟨rfl, rfl⟩; rw [HM.out]) | (go_at_call 80; (with_reducible refine (sblocks_any (m := new) (block := block) (by omega) (by omega) _).mono ?_); rintro e w' ⟨rfl, rfl⟩; rw [HKB.out]))
    go_ret
    exact ⟨by rw [HR.out]; rfl, K.cov Cov.auto⟩

set_option maxHeartbeats 1600000 in
set_option maxRecDepth 100000 in
theorem rahead_any (K : Known w0 w L) (R : RdS w0 L .i64 B m os) (hd : m ≤ d) (hm : m ≤ 1000000) (A : Option Addr) (hc : n ≤ c) : Calls Try.prog 58 #[.slice A n c, .slice B m d, .int .i64 block, .int .i64 old, .int .i64 new] w fun e w' => e = .returned (.int .i64 (aheadE n os block old new)) ∧ Known w0 w' L := by
  by_cases q0 : block < 128
  · have d0 : decide (block < 128) = true := decide_eq_true q0
    have HR := Lib.hid (show aheadE n os block old new = 1 by
      rw [aheadE, if_neg]
      intro h
      have := mayS_yes h
      omega)
    go_enter Try.func58, Try.ntmps58
    go_wp2
    go_ret
    exact ⟨by rw [HR.out]; rfl, K⟩
  have d0 : decide (block < 128) = false := decide_eq_false q0
  by_cases q1 : 4096 < block
  · have d1 : decide (4096 < block) = true := decide_eq_true q1
    have HR := Lib.hid (show aheadE n os block old new = 1 by
      rw [aheadE, if_neg]
      intro h
      have := mayS_yes h
      omega)
    go_enter Try.func58, Try.ntmps58
    go_wp2
    go_ret
    exact ⟨by rw [HR.out]; rfl, K⟩
  have d1 : decide (4096 < block) = false := decide_eq_false q1
  by_cases q2 : old < 0
  · have d2 : decide (old < 0) = true := decide_eq_true q2
    have HR := Lib.hid (show aheadE n os block old new = 1 by
      rw [aheadE, if_neg]
      intro h
      have := mayS_yes h
      omega)
    go_enter Try.func58, Try.ntmps58
    go_wp2
    go_ret
    exact ⟨by rw [HR.out]; rfl, K⟩
  have d2 : decide (old < 0) = false := decide_eq_false q2
  by_cases q3 : 2147483647 < old
  · have d3 : decide (2147483647 < old) = true := decide_eq_true q3
    have HR := Lib.hid (show aheadE n os block old new = 1 by
      rw [aheadE, if_neg]
      intro h
      have := mayS_yes h
      omega)
    go_enter Try.func58, Try.ntmps58
    go_wp2
    go_ret
    exact ⟨by rw [HR.out]; rfl, K⟩
  have d3 : decide (2147483647 < old) = false := decide_eq_false q3
  by_cases q4 : new < 0
  · have d4 : decide (new < 0) = true := decide_eq_true q4
    have HR := Lib.hid (show aheadE n os block old new = 1 by
      rw [aheadE, if_neg]
      intro h
      have := mayS_yes h
      omega)
    go_enter Try.func58, Try.ntmps58
    go_wp2
    go_ret
    exact ⟨by rw [HR.out]; rfl, K⟩
  have d4 : decide (new < 0) = false := decide_eq_false q4
  by_cases q5 : 2147483647 < new
  · have d5 : decide (2147483647 < new) = true := decide_eq_true q5
    have HR := Lib.hid (show aheadE n os block old new = 1 by
      rw [aheadE, if_neg]
      intro h
      have := mayS_yes h
      omega)
    go_enter Try.func58, Try.ntmps58
    go_wp2
    go_ret
    exact ⟨by rw [HR.out]; rfl, K⟩
  have d5 : decide (2147483647 < new) = false := decide_eq_false q5
  have hmy : mayS block [old, new] = true := by simp [mayS, badN]; omega
  obtain ⟨kb, hkb⟩ : ∃ kb, blocksN new block = kb := ⟨_, rfl⟩
  have HKB := Lib.hid hkb
  by_cases h1 : (n : Int) = kb
  · subst h1
    have e1 : ((n : Int) == (n : Int)) = true := by simp
    cases hon : onceB os n
    · have HON := Lib.hid hon
      have HR := Lib.hid (show aheadE n os block old new = 23 by rw [aheadE, hmy, if_pos rfl, if_neg (by rw [hon]; simp)])
      clear hmy hkb hon
      go_enter Try.func58, Try.ntmps58
      go_wp2_with (first | (go_at_call 63; (with_reducible refine (rblocks_any (m := new) (block := block) (by omega) (by omega) _).mono ?_); rintro e w' ⟨rfl, rfl⟩; rw [HKB.out]) | (go_at_call 85; (with_reducible refine (ronce_any K R hd (by omega) n).mono ?_); clear K; rintro e w1 ⟨rfl, K⟩; rw [HON.out]))
      go_ret
      exact ⟨by rw [HR.out]; rfl, K⟩
    · have HON := Lib.hid hon
      have HR := Lib.hid (show aheadE n os block old new = 0 by rw [aheadE, hmy, if_pos rfl, if_pos ⟨hkb.symm, hon⟩])
      clear hmy hkb hon
      go_enter Try.func58, Try.ntmps58
      go_wp2_with (first | (go_at_call 63; (with_reducible refine (rblocks_any (m := new) (block := block) (by omega) (by omega) _).mono ?_); rintro e w' ⟨rfl, rfl⟩; rw [HKB.out]) | (go_at_call 85; (with_reducible refine (ronce_any K R hd (by omega) n).mono ?_); clear K; rintro e w1 ⟨rfl, K⟩; rw [HON.out]))
      go_ret
      exact ⟨by rw [HR.out]; rfl, K⟩
  · have e1 : ((n : Int) == kb) = false := by simpa using h1
    have HR := Lib.hid (show aheadE n os block old new = 23 by rw [aheadE, hmy, if_pos rfl, if_neg (by rw [hkb]; exact fun h => h1 h.1)])
    clear hmy hkb
    go_enter Try.func58, Try.ntmps58
    go_wp2_with (first | (go_at_call 63; (with_reducible refine (rblocks_any (m := new) (block := block) (by omega) (by omega) _).mono ?_); rintro e w' ⟨rfl, rfl⟩; rw [HKB.out]))
    go_ret
    exact ⟨by rw [HR.out]; rfl, K⟩
end
end Go.Proofs.Ytffednkdmkohdaa
