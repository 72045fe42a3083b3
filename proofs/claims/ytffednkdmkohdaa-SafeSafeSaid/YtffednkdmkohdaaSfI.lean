/-
  The document's one, Check (contracts).
-/
import Derived.Test.YtffednkdmkohdaaSfH
set_option linter.unusedVariables false
set_option linter.unusedSimpArgs false
namespace Go.Proofs.Ytffednkdmkohdaa
open Go.RowKit

section
variable {w0 w : World} {L : List Ent} {ws : List Int} {block old : Int}
set_option maxHeartbeats 3200000 in
set_option maxRecDepth 100000 in
theorem rone_any {A B : Option Addr} {m c q d : Nat} {l : List Ast} (K : Known w0 w L) (R : RdM w0 [] asC 4 A m l) (hc : m ≤ c) (hm : m ≤ 100000) (RW : RdS w0 [] .i64 B q ws) (hd : q ≤ d) (hq : q ≤ 100000) (hb : 128 ≤ block ∧ block ≤ 4096) (hws : ∀ x ∈ ws, 0 ≤ x ∧ x ≤ 4096) (want : Int) :
    Calls Try.prog 59 #[.slice A m c, .slice B q d, .int .i64 block, .int .i64 old, .int .i64 want] w fun e w' => e = .returned (.int .i64 (oneE l ws block old want)) ∧ Known w0 w' L := by
  have HL := Lib.hid R.len
  have HWL := Lib.hid RW.len
  go_enter Try.func59, Try.ntmps59
  go_upto_region 3 with (fail)
  go_loopg [11, 18] m (fun q v7 v wr => ∃ (j : Nat) (sm : Int), v7 = .int .i64 sm ∧ v = .int .i64 j ∧ j + q = m ∧ (0 ≤ sm ∧ sm ≤ 4096 * j) ∧ Hid ((l.take j).all rightB = true) ∧ Hid (lenSum (l.take j) = sm) ∧ Known w0 wr L)
  case atStart => exact ⟨0, 0, by go_num, by go_num, by omega, by omega, Lib.hid rfl, Lib.hid rfl, K⟩
  case round =>
    clear K
    obtain ⟨j, sm, rfl, rfl, hdj, hsm, HA, HS, K⟩ := hrel
    by_cases hj : j < m
    · have hj2 : decide ((j : Int) < (m : Int)) = true := decide_eq_true (by omega)
      have hjj : (0 : Int) ≤ (j : Int) ∧ (j : Int) < (m : Int) := by omega
      have i1 := IntWalk.i64_in ((j : Int) + 1) (by omega)
      obtain ⟨b, off, rfl⟩ := R.form (K.cov (Cov.nil _)) (by omega)
      have hjl : j < l.length := by have := HL.out; omega
      obtain ⟨p, hp⟩ : ∃ p, p = l[j]'hjl := ⟨_, rfl⟩
      have hpm : p ∈ l := by rw [hp]; exact List.getElem_mem _
      have HP := Lib.hid (show encAt asC l j = [.int .u8 p.kind, .int .i64 p.from_, .int .i64 p.len, .slice p.A p.n p.c] by rw [encAt_get hjl, ← hp]; rfl)
      have HTA := Lib.hid (show (l.take (j + 1)).all rightB = ((l.take j).all rightB && rightB p) by rw [all_take' hjl, hp])
      have HTS := Lib.hid (show lenSum (l.take (j + 1)) = lenSum (l.take j) + p.len by rw [lenSum_take hjl, hp])
      cases hrb : rightB p
      · have HRB := Lib.hid hrb
        have HR := Lib.hid (show oneE l ws block old want = 3 by
          rw [oneE, if_neg]
          rw [List.all_eq_true]
          intro h
          have := h p hpm
          rw [hrb] at this
          cases this)
        clear hrb hpm hp
        go_wp2_with (first | ((with_reducible refine at_load rfl ?_); refine wpList_reads (by rfl) (kr_load_rec K _ _ (by rfl) (j) [.int .u8 p.kind, .int .i64 p.from_, .int .i64 p.len, .slice p.A p.n p.c] (by rfl) (R.cov (Cov.nil _)) (by omega) HP.out (by omega) (by kernel_rfl) (by kernel_rfl) (by rfl)) ?_) | (go_at_call 49; (with_reducible refine (rright_any (s := p) K).mono ?_); clear K; rintro e w1 ⟨rfl, K⟩; rw [HRB.out]))
        go_ret
        exact ⟨by rw [HR.out]; rfl, K.cov Cov.auto⟩
      · have HRB := Lib.hid hrb
        have hry := rightB_yes hrb
        have i2 := IntWalk.i64_in (sm + p.len) (by omega)
        clear hrb hpm hp
        go_wp2_with (first | (first | ((with_reducible refine at_load rfl ?_); refine wpList_reads (by rfl) (kr_load_rec K _ _ (by rfl) (j) [.int .u8 p.kind, .int .i64 p.from_, .int .i64 p.len, .slice p.A p.n p.c] (by rfl) (R.cov (Cov.nil _)) (by omega) HP.out (by omega) (by kernel_rfl) (by kernel_rfl) (by rfl)) ?_) | ((with_reducible refine at_load rfl ?_); refine wpList_reads (by rfl) (kr_load_rcell K _ _ (by rfl) (j) 2 (by rfl) (R.cov (Cov.nil _)) (by omega) HP.out (by rfl) (by omega) (by kernel_rfl)) ?_)) | (go_at_call 49; (with_reducible refine (rright_any (s := p) K).mono ?_); clear K; rintro e w1 ⟨rfl, K⟩; rw [HRB.out]))
        go_roundg (gk - 1)
        case measure => omega
        case rel => exact ⟨j + 1, sm + p.len, by go_num, by go_num, by omega, by omega, Lib.hid (by rw [HTA.out, HA.out, HRB.out]; rfl), Lib.hid (by rw [HTS.out, HS.out]), K.cov Cov.auto⟩
    · have hj2 : decide ((j : Int) < (m : Int)) = false := decide_eq_false (by omega)
      have htl : l.take j = l := List.take_of_length_le (by have := HL.out; omega)
      rw [htl] at HA HS
      have HRA := HA
      by_cases hwn : sm = want
      · subst hwn
        have e1 : (sm == sm) = true := by simp
        have HON := Lib.hid (show oneE l ws block old sm = if l.any (overB old) then 5 else if l.any (lateB block ws) then 23 else 0 by rw [oneE, if_pos HA.out, if_pos HS.out])
        clear htl
        go_upto_region 12 with (fail)
        go_loopg [40] m (fun q v wr => ∃ (j : Nat), v = .int .i64 j ∧ j + q = m ∧ Hid ((l.take j).any (overB old) = false) ∧ Known w0 wr L)
        case atStart => exact ⟨0, by go_num, by omega, Lib.hid rfl, K⟩
        case round =>
          clear K
          obtain ⟨j, rfl, hdj, HE, K⟩ := hrel
          by_cases hj : j < m
          · have hj2 : decide ((j : Int) < (m : Int)) = true := decide_eq_true (by omega)
            have hjj : (0 : Int) ≤ (j : Int) ∧ (j : Int) < (m : Int) := by omega
            have i1 := IntWalk.i64_in ((j : Int) + 1) (by omega)
            obtain ⟨b, off, rfl⟩ := R.form (K.cov (Cov.nil _)) (by omega)
            have hjl : j < l.length := by have := HL.out; omega
            obtain ⟨p, hp⟩ : ∃ p, p = l[j]'hjl := ⟨_, rfl⟩
            have hpm : p ∈ l := by rw [hp]; exact List.getElem_mem _
            have HP := Lib.hid (show encAt asC l j = [.int .u8 p.kind, .int .i64 p.from_, .int .i64 p.len, .slice p.A p.n p.c] by rw [encAt_get hjl, ← hp]; rfl)
            have hry := rightB_yes (List.all_eq_true.1 HRA.out p hpm)
            have HT := Lib.hid (show (l.take (j + 1)).any (overB old) = ((l.take j).any (overB old) || overB old p) by rw [any_take' hjl, hp])
            have is1 := IntWalk.i64_in (p.from_ + p.len) (by omega)
            by_cases k1 : 1 < p.kind
            · have b1 : decide (1 < p.kind) = true := decide_eq_true k1
              by_cases k2 : old < p.from_ + p.len
              · have b2 : decide (old < p.from_ + p.len) = true := decide_eq_true k2
                have HR := Lib.hid (show oneE l ws block old sm = 5 by rw [HON.out, if_pos (List.any_eq_true.2 ⟨p, hpm, by rw [overB, b2, decide_eq_true (by omega)]; rfl⟩)])
                clear hpm hp
                go_upto_region 14 with (fail)
                refine wp_region_GK K (Cov.all _) (by kernel_rfl) (by kernel_rfl) (by kernel_rfl) (fun K hHeld => ?_)
                refine wpG_takeA 0 (v := ?_) ?_ hHeld ?_
                rotate_left
                · (intro w hS; (clear hS; go_simp); try with_reducible rfl)
                try simp only [Act.put, List.setIfInBounds_toArray, List.set_cons_zero, List.set_cons_succ]
                refine wpG_takeA 1 (v := ?_) ?_ hHeld ?_
                rotate_left
                · (intro w hS; (clear hS; go_simp); try with_reducible rfl)
                try simp only [Act.put, List.setIfInBounds_toArray, List.set_cons_zero, List.set_cons_succ]
                refine wpG_takeA 2 (v := ?_) ?_ hHeld ?_
                rotate_left
                · (intro w hS; (clear hS; go_simp); try with_reducible rfl)
                try simp only [Act.put, List.setIfInBounds_toArray, List.set_cons_zero, List.set_cons_succ]
                refine wpG_takeA 3 (v := ?_) ?_ hHeld ?_
                rotate_left
                · (intro w hS; (clear hS; go_simp); try with_reducible rfl)
                try simp only [Act.put, List.setIfInBounds_toArray, List.set_cons_zero, List.set_cons_succ]
                refine wpG_takeA 4 (v := .int .u8 p.kind) ?_ hHeld ?_
                · (intro w hS; first | exact kr_load_rcell hS _ _ (by rfl) (j) 0 (by rfl) (R.cov (Cov.nil _)) (by omega) HP.out (by rfl) (by omega) (by kernel_rfl))
                try simp only [Act.put, List.setIfInBounds_toArray, List.set_cons_zero, List.set_cons_succ]
                refine wpG_takeA 5 (v := ?_) ?_ hHeld ?_
                rotate_left
                · (intro w hS; (clear hS; go_simp); try with_reducible rfl)
                try simp only [Act.put, List.setIfInBounds_toArray, List.set_cons_zero, List.set_cons_succ]
                refine wpG_takeA 6 (v := ?_) ?_ hHeld ?_
                rotate_left
                · (intro w hS; (clear hS; go_simp); try with_reducible rfl)
                try simp only [Act.put, List.setIfInBounds_toArray, List.set_cons_zero, List.set_cons_succ]
                refine wpG_takeA 7 (v := ?_) ?_ hHeld ?_
                rotate_left
                · (intro w hS; (clear hS; go_simp); try with_reducible rfl)
                try simp only [Act.put, List.setIfInBounds_toArray, List.set_cons_zero, List.set_cons_succ]
                refine wpG_takeA 8 (v := ?_) ?_ hHeld ?_
                rotate_left
                · (intro w hS; (clear hS; go_simp); try with_reducible rfl)
                try simp only [Act.put, List.setIfInBounds_toArray, List.set_cons_zero, List.set_cons_succ]
                refine wpG_takeA 9 (v := ?_) ?_ hHeld ?_
                rotate_left
                · (intro w hS; (clear hS; go_simp); try with_reducible rfl)
                try simp only [Act.put, List.setIfInBounds_toArray, List.set_cons_zero, List.set_cons_succ]
                refine wpG_takeA 10 (v := ?_) ?_ hHeld ?_
                rotate_left
                · (intro w hS; (clear hS; go_simp); try with_reducible rfl)
                try simp only [Act.put, List.setIfInBounds_toArray, List.set_cons_zero, List.set_cons_succ]
                refine wpG_takeA 11 (v := .int .i64 p.from_) ?_ hHeld ?_
                · (intro w hS; first | exact kr_load_rcell hS _ _ (by rfl) (j) 1 (by rfl) (R.cov (Cov.nil _)) (by omega) HP.out (by rfl) (by omega) (by kernel_rfl))
                try simp only [Act.put, List.setIfInBounds_toArray, List.set_cons_zero, List.set_cons_succ]
                refine wpG_takeA 12 (v := ?_) ?_ hHeld ?_
                rotate_left
                · (intro w hS; (clear hS; go_simp); try with_reducible rfl)
                try simp only [Act.put, List.setIfInBounds_toArray, List.set_cons_zero, List.set_cons_succ]
                refine wpG_takeA 13 (v := ?_) ?_ hHeld ?_
                rotate_left
                · (intro w hS; (clear hS; go_simp); try with_reducible rfl)
                try simp only [Act.put, List.setIfInBounds_toArray, List.set_cons_zero, List.set_cons_succ]
                refine wpG_takeA 14 (v := ?_) ?_ hHeld ?_
                rotate_left
                · (intro w hS; (clear hS; go_simp); try with_reducible rfl)
                try simp only [Act.put, List.setIfInBounds_toArray, List.set_cons_zero, List.set_cons_succ]
                refine wpG_takeA 15 (v := ?_) ?_ hHeld ?_
                rotate_left
                · (intro w hS; (clear hS; go_simp); try with_reducible rfl)
                try simp only [Act.put, List.setIfInBounds_toArray, List.set_cons_zero, List.set_cons_succ]
                refine wpG_takeA 16 (v := .int .i64 p.len) ?_ hHeld ?_
                · (intro w hS; first | exact kr_load_rcell hS _ _ (by rfl) (j) 2 (by rfl) (R.cov (Cov.nil _)) (by omega) HP.out (by rfl) (by omega) (by kernel_rfl))
                try simp only [Act.put, List.setIfInBounds_toArray, List.set_cons_zero, List.set_cons_succ]
                refine wpG_takeA 17 (v := ?_) ?_ hHeld ?_
                rotate_left
                · (intro w hS; (clear hS; go_simp); try with_reducible rfl)
                try simp only [Act.put, List.setIfInBounds_toArray, List.set_cons_zero, List.set_cons_succ]
                refine wpG_takeA 18 (v := ?_) ?_ hHeld ?_
                rotate_left
                · (intro w hS; (clear hS; go_simp); try with_reducible rfl)
                try simp only [Act.put, List.setIfInBounds_toArray, List.set_cons_zero, List.set_cons_succ]
                refine wpG_takeA 19 (v := ?_) ?_ hHeld ?_
                rotate_left
                · (intro w hS; (clear hS; go_simp); try with_reducible rfl)
                try simp only [Act.put, List.setIfInBounds_toArray, List.set_cons_zero, List.set_cons_succ]
                refine wpG_takeA 20 (v := ?_) ?_ hHeld ?_
                rotate_left
                · (intro w hS; (clear hS; go_simp); try with_reducible rfl)
                try simp only [Act.put, List.setIfInBounds_toArray, List.set_cons_zero, List.set_cons_succ]
                refine wpG_done (by kernel_rfl) ?_
                skip
                go_wp2
                go_ret
                exact ⟨by rw [HR.out]; rfl, K.cov Cov.auto⟩
              · have b2 : decide (old < p.from_ + p.len) = false := decide_eq_false k2
                have HOV := Lib.hid (show overB old p = false by rw [overB, b2]; simp)
                clear hpm hp
                go_upto_region 14 with (fail)
                refine wp_region_GK K (Cov.all _) (by kernel_rfl) (by kernel_rfl) (by kernel_rfl) (fun K hHeld => ?_)
                refine wpG_takeA 0 (v := ?_) ?_ hHeld ?_
                rotate_left
                · (intro w hS; (clear hS; go_simp); try with_reducible rfl)
                try simp only [Act.put, List.setIfInBounds_toArray, List.set_cons_zero, List.set_cons_succ]
                refine wpG_takeA 1 (v := ?_) ?_ hHeld ?_
                rotate_left
                · (intro w hS; (clear hS; go_simp); try with_reducible rfl)
                try simp only [Act.put, List.setIfInBounds_toArray, List.set_cons_zero, List.set_cons_succ]
                refine wpG_takeA 2 (v := ?_) ?_ hHeld ?_
                rotate_left
                · (intro w hS; (clear hS; go_simp); try with_reducible rfl)
                try simp only [Act.put, List.setIfInBounds_toArray, List.set_cons_zero, List.set_cons_succ]
                refine wpG_takeA 3 (v := ?_) ?_ hHeld ?_
                rotate_left
                · (intro w hS; (clear hS; go_simp); try with_reducible rfl)
                try simp only [Act.put, List.setIfInBounds_toArray, List.set_cons_zero, List.set_cons_succ]
                refine wpG_takeA 4 (v := .int .u8 p.kind) ?_ hHeld ?_
                · (intro w hS; first | exact kr_load_rcell hS _ _ (by rfl) (j) 0 (by rfl) (R.cov (Cov.nil _)) (by omega) HP.out (by rfl) (by omega) (by kernel_rfl))
                try simp only [Act.put, List.setIfInBounds_toArray, List.set_cons_zero, List.set_cons_succ]
                refine wpG_takeA 5 (v := ?_) ?_ hHeld ?_
                rotate_left
                · (intro w hS; (clear hS; go_simp); try with_reducible rfl)
                try simp only [Act.put, List.setIfInBounds_toArray, List.set_cons_zero, List.set_cons_succ]
                refine wpG_takeA 6 (v := ?_) ?_ hHeld ?_
                rotate_left
                · (intro w hS; (clear hS; go_simp); try with_reducible rfl)
                try simp only [Act.put, List.setIfInBounds_toArray, List.set_cons_zero, List.set_cons_succ]
                refine wpG_takeA 7 (v := ?_) ?_ hHeld ?_
                rotate_left
                · (intro w hS; (clear hS; go_simp); try with_reducible rfl)
                try simp only [Act.put, List.setIfInBounds_toArray, List.set_cons_zero, List.set_cons_succ]
                refine wpG_takeA 8 (v := ?_) ?_ hHeld ?_
                rotate_left
                · (intro w hS; (clear hS; go_simp); try with_reducible rfl)
                try simp only [Act.put, List.setIfInBounds_toArray, List.set_cons_zero, List.set_cons_succ]
                refine wpG_takeA 9 (v := ?_) ?_ hHeld ?_
                rotate_left
                · (intro w hS; (clear hS; go_simp); try with_reducible rfl)
                try simp only [Act.put, List.setIfInBounds_toArray, List.set_cons_zero, List.set_cons_succ]
                refine wpG_takeA 10 (v := ?_) ?_ hHeld ?_
                rotate_left
                · (intro w hS; (clear hS; go_simp); try with_reducible rfl)
                try simp only [Act.put, List.setIfInBounds_toArray, List.set_cons_zero, List.set_cons_succ]
                refine wpG_takeA 11 (v := .int .i64 p.from_) ?_ hHeld ?_
                · (intro w hS; first | exact kr_load_rcell hS _ _ (by rfl) (j) 1 (by rfl) (R.cov (Cov.nil _)) (by omega) HP.out (by rfl) (by omega) (by kernel_rfl))
                try simp only [Act.put, List.setIfInBounds_toArray, List.set_cons_zero, List.set_cons_succ]
                refine wpG_takeA 12 (v := ?_) ?_ hHeld ?_
                rotate_left
                · (intro w hS; (clear hS; go_simp); try with_reducible rfl)
                try simp only [Act.put, List.setIfInBounds_toArray, List.set_cons_zero, List.set_cons_succ]
                refine wpG_takeA 13 (v := ?_) ?_ hHeld ?_
                rotate_left
                · (intro w hS; (clear hS; go_simp); try with_reducible rfl)
                try simp only [Act.put, List.setIfInBounds_toArray, List.set_cons_zero, List.set_cons_succ]
                refine wpG_takeA 14 (v := ?_) ?_ hHeld ?_
                rotate_left
                · (intro w hS; (clear hS; go_simp); try with_reducible rfl)
                try simp only [Act.put, List.setIfInBounds_toArray, List.set_cons_zero, List.set_cons_succ]
                refine wpG_takeA 15 (v := ?_) ?_ hHeld ?_
                rotate_left
                · (intro w hS; (clear hS; go_simp); try with_reducible rfl)
                try simp only [Act.put, List.setIfInBounds_toArray, List.set_cons_zero, List.set_cons_succ]
                refine wpG_takeA 16 (v := .int .i64 p.len) ?_ hHeld ?_
                · (intro w hS; first | exact kr_load_rcell hS _ _ (by rfl) (j) 2 (by rfl) (R.cov (Cov.nil _)) (by omega) HP.out (by rfl) (by omega) (by kernel_rfl))
                try simp only [Act.put, List.setIfInBounds_toArray, List.set_cons_zero, List.set_cons_succ]
                refine wpG_takeA 17 (v := ?_) ?_ hHeld ?_
                rotate_left
                · (intro w hS; (clear hS; go_simp); try with_reducible rfl)
                try simp only [Act.put, List.setIfInBounds_toArray, List.set_cons_zero, List.set_cons_succ]
                refine wpG_takeA 18 (v := ?_) ?_ hHeld ?_
                rotate_left
                · (intro w hS; (clear hS; go_simp); try with_reducible rfl)
                try simp only [Act.put, List.setIfInBounds_toArray, List.set_cons_zero, List.set_cons_succ]
                refine wpG_takeA 19 (v := ?_) ?_ hHeld ?_
                rotate_left
                · (intro w hS; (clear hS; go_simp); try with_reducible rfl)
                try simp only [Act.put, List.setIfInBounds_toArray, List.set_cons_zero, List.set_cons_succ]
                refine wpG_takeA 20 (v := ?_) ?_ hHeld ?_
                rotate_left
                · (intro w hS; (clear hS; go_simp); try with_reducible rfl)
                try simp only [Act.put, List.setIfInBounds_toArray, List.set_cons_zero, List.set_cons_succ]
                refine wpG_done (by kernel_rfl) ?_
                skip
                go_wp2
                go_roundg (gk - 1)
                case measure => omega
                case rel => exact ⟨j + 1, by go_num, by omega, Lib.hid (by rw [HT.out, HE.out, HOV.out]; rfl), K.cov Cov.auto⟩
            · have b1 : decide (1 < p.kind) = false := decide_eq_false k1
              have HOV := Lib.hid (show overB old p = false by rw [overB, decide_eq_false (by omega)]; rfl)
              clear hpm hp
              go_upto_region 14 with (fail)
              refine wp_region_GK K (Cov.all _) (by kernel_rfl) (by kernel_rfl) (by kernel_rfl) (fun K hHeld => ?_)
              refine wpG_takeA 0 (v := ?_) ?_ hHeld ?_
              rotate_left
              · (intro w hS; (clear hS; go_simp); try with_reducible rfl)
              try simp only [Act.put, List.setIfInBounds_toArray, List.set_cons_zero, List.set_cons_succ]
              refine wpG_takeA 1 (v := ?_) ?_ hHeld ?_
              rotate_left
              · (intro w hS; (clear hS; go_simp); try with_reducible rfl)
              try simp only [Act.put, List.setIfInBounds_toArray, List.set_cons_zero, List.set_cons_succ]
              refine wpG_takeA 2 (v := ?_) ?_ hHeld ?_
              rotate_left
              · (intro w hS; (clear hS; go_simp); try with_reducible rfl)
              try simp only [Act.put, List.setIfInBounds_toArray, List.set_cons_zero, List.set_cons_succ]
              refine wpG_takeA 3 (v := ?_) ?_ hHeld ?_
              rotate_left
              · (intro w hS; (clear hS; go_simp); try with_reducible rfl)
              try simp only [Act.put, List.setIfInBounds_toArray, List.set_cons_zero, List.set_cons_succ]
              refine wpG_takeA 4 (v := .int .u8 p.kind) ?_ hHeld ?_
              · (intro w hS; first | exact kr_load_rcell hS _ _ (by rfl) (j) 0 (by rfl) (R.cov (Cov.nil _)) (by omega) HP.out (by rfl) (by omega) (by kernel_rfl))
              try simp only [Act.put, List.setIfInBounds_toArray, List.set_cons_zero, List.set_cons_succ]
              refine wpG_takeA 5 (v := ?_) ?_ hHeld ?_
              rotate_left
              · (intro w hS; (clear hS; go_simp); try with_reducible rfl)
              try simp only [Act.put, List.setIfInBounds_toArray, List.set_cons_zero, List.set_cons_succ]
              refine wpG_takeA 6 (v := ?_) ?_ hHeld ?_
              rotate_left
              · (intro w hS; (clear hS; go_simp); try with_reducible rfl)
              try simp only [Act.put, List.setIfInBounds_toArray, List.set_cons_zero, List.set_cons_succ]
              refine wpG_offA 7 hHeld ?_
              try simp only [Act.put, List.setIfInBounds_toArray, List.set_cons_zero, List.set_cons_succ]
              refine wpG_offA 8 hHeld ?_
              try simp only [Act.put, List.setIfInBounds_toArray, List.set_cons_zero, List.set_cons_succ]
              refine wpG_offA 9 hHeld ?_
              try simp only [Act.put, List.setIfInBounds_toArray, List.set_cons_zero, List.set_cons_succ]
              refine wpG_offA 10 hHeld ?_
              try simp only [Act.put, List.setIfInBounds_toArray, List.set_cons_zero, List.set_cons_succ]
              refine wpG_offA 11 hHeld ?_
              try simp only [Act.put, List.setIfInBounds_toArray, List.set_cons_zero, List.set_cons_succ]
              refine wpG_offA 12 hHeld ?_
              try simp only [Act.put, List.setIfInBounds_toArray, List.set_cons_zero, List.set_cons_succ]
              refine wpG_offA 13 hHeld ?_
              try simp only [Act.put, List.setIfInBounds_toArray, List.set_cons_zero, List.set_cons_succ]
              refine wpG_offA 14 hHeld ?_
              try simp only [Act.put, List.setIfInBounds_toArray, List.set_cons_zero, List.set_cons_succ]
              refine wpG_offA 15 hHeld ?_
              try simp only [Act.put, List.setIfInBounds_toArray, List.set_cons_zero, List.set_cons_succ]
              refine wpG_offA 16 hHeld ?_
              try simp only [Act.put, List.setIfInBounds_toArray, List.set_cons_zero, List.set_cons_succ]
              refine wpG_offA 17 hHeld ?_
              try simp only [Act.put, List.setIfInBounds_toArray, List.set_cons_zero, List.set_cons_succ]
              refine wpG_offA 18 hHeld ?_
              try simp only [Act.put, List.setIfInBounds_toArray, List.set_cons_zero, List.set_cons_succ]
              refine wpG_offA 19 hHeld ?_
              try simp only [Act.put, List.setIfInBounds_toArray, List.set_cons_zero, List.set_cons_succ]
              refine wpG_takeA 20 (v := ?_) ?_ hHeld ?_
              rotate_left
              · (intro w hS; (clear hS; go_simp); try with_reducible rfl)
              try simp only [Act.put, List.setIfInBounds_toArray, List.set_cons_zero, List.set_cons_succ]
              refine wpG_done (by kernel_rfl) ?_
              skip
              go_wp2
              go_roundg (gk - 1)
              case measure => omega
              case rel => exact ⟨j + 1, by go_num, by omega, Lib.hid (by rw [HT.out, HE.out, HOV.out]; rfl), K.cov Cov.auto⟩
          · have hj2 : decide ((j : Int) < (m : Int)) = false := decide_eq_false (by omega)
            have hno : l.any (overB old) = false := by have := HE.out; rw [List.take_of_length_le (by have := HL.out; omega)] at this; exact this
            have HON2 := Lib.hid (show oneE l ws block old sm = if l.any (lateB block ws) then 23 else 0 by rw [HON.out, hno]; rfl)
            clear hno
            go_upto_region 18 with (fail)
            go_loopg [67] m (fun q v wr => ∃ (j : Nat), v = .int .i64 j ∧ j + q = m ∧ Hid ((l.take j).any (lateB block ws) = false) ∧ Known w0 wr L)
            case atStart => exact ⟨0, by go_num, by omega, Lib.hid rfl, K⟩
            case round =>
              clear K
              obtain ⟨j, rfl, hdj, HE, K⟩ := hrel
              by_cases hj : j < m
              · have hj2 : decide ((j : Int) < (m : Int)) = true := decide_eq_true (by omega)
                have hjj : (0 : Int) ≤ (j : Int) ∧ (j : Int) < (m : Int) := by omega
                have i1 := IntWalk.i64_in ((j : Int) + 1) (by omega)
                obtain ⟨b, off, rfl⟩ := R.form (K.cov (Cov.nil _)) (by omega)
                have hjl : j < l.length := by have := HL.out; omega
                obtain ⟨p, hp⟩ : ∃ p, p = l[j]'hjl := ⟨_, rfl⟩
                have hpm : p ∈ l := by rw [hp]; exact List.getElem_mem _
                have HPM := Lib.hid hpm
                have HP := Lib.hid (show encAt asC l j = [.int .u8 p.kind, .int .i64 p.from_, .int .i64 p.len, .slice p.A p.n p.c] by rw [encAt_get hjl, ← hp]; rfl)
                have HPR := Lib.hid (List.all_eq_true.1 HRA.out p hpm)
                have HT := Lib.hid (show (l.take (j + 1)).any (lateB block ws) = ((l.take j).any (lateB block ws) || lateB block ws p) by rw [any_take' hjl, hp])
                clear hpm hp
                go_upto_region 21 with (fail)
                obtain ⟨og, hog⟩ : ∃ og, og = gk := ⟨_, rfl⟩
                go_loopg [72] q (fun r v wr => ∃ (t : Nat), v = .int .i64 t ∧ t + r = q ∧ Hid ((ws.take t).any (fun i => touch block i p) = false) ∧ Known w0 wr L)
                case atStart => exact ⟨0, by go_num, by omega, Lib.hid rfl, K⟩
                case round =>
                  clear K
                  obtain ⟨t, rfl, hdt, HI, K⟩ := hrel
                  by_cases ht : t < q
                  · have ht2 : decide ((t : Int) < (q : Int)) = true := decide_eq_true (by omega)
                    have htt : (0 : Int) ≤ (t : Int) ∧ (t : Int) < (q : Int) := by omega
                    have i2 := IntWalk.i64_in ((t : Int) + 1) (by omega)
                    have htl2 : t < ws.length := by have := HWL.out; omega
                    have hxb := hws _ (getD_mem htl2)
                    have hxm := getD_mem htl2
                    obtain ⟨i, hx⟩ : ∃ i : Nat, ws.getD t 0 = (i : Int) := ⟨(ws.getD t 0).toNat, by omega⟩
                    rw [hx] at hxb hxm
                    have HX := Lib.hid hx
                    have HXM := Lib.hid hxm
                    have HTW := Lib.hid (show ws.take (t + 1) = ws.take t ++ [(i : Int)] by rw [take_getD htl2, hx])
                    obtain ⟨b3, off3, rfl⟩ := RW.form (K.cov (Cov.nil _)) (by omega)
                    clear hx hxm
                    cases htc : touch block (i : Int) p
                    · have HTC := Lib.hid htc
                      clear htc
                      go_upto_region 23 with (fail)
                      refine wp_region_GK K (Cov.all _) (by kernel_rfl) (by kernel_rfl) (by kernel_rfl) (fun K hHeld => ?_)
                      refine wpG_takeA 0 (v := ?_) ?_ hHeld ?_
                      rotate_left
                      · (intro w hS; (clear hS; go_simp); try with_reducible rfl)
                      try simp only [Act.put, List.setIfInBounds_toArray, List.set_cons_zero, List.set_cons_succ]
                      refine wpG_takeA 1 (v := ?_) ?_ hHeld ?_
                      rotate_left
                      · (intro w hS; (clear hS; go_simp); try with_reducible rfl)
                      try simp only [Act.put, List.setIfInBounds_toArray, List.set_cons_zero, List.set_cons_succ]
                      refine wpG_takeA 2 (v := ?_) ?_ hHeld ?_
                      rotate_left
                      · (intro w hS; (clear hS; go_simp); try with_reducible rfl)
                      try simp only [Act.put, List.setIfInBounds_toArray, List.set_cons_zero, List.set_cons_succ]
                      refine wpG_takeA 3 (v := .agg #[.int .u8 p.kind, .int .i64 p.from_, .int .i64 p.len, .slice p.A p.n p.c]) ?_ hHeld ?_
                      · (intro w hS; first | exact kr_load_rec hS _ _ (by rfl) (j) [.int .u8 p.kind, .int .i64 p.from_, .int .i64 p.len, .slice p.A p.n p.c] (by rfl) (R.cov (Cov.nil _)) (by omega) HP.out (by omega) (by kernel_rfl) (by kernel_rfl) (by rfl))
                      try simp only [Act.put, List.setIfInBounds_toArray, List.set_cons_zero, List.set_cons_succ]
                      refine wpG_takeA 4 (v := ?_) ?_ hHeld ?_
                      rotate_left
                      · (intro w hS; (clear hS; go_simp); try with_reducible rfl)
                      try simp only [Act.put, List.setIfInBounds_toArray, List.set_cons_zero, List.set_cons_succ]
                      refine wpG_takeA 5 (v := ?_) ?_ hHeld ?_
                      rotate_left
                      · (intro w hS; (clear hS; go_simp); try with_reducible rfl)
                      try simp only [Act.put, List.setIfInBounds_toArray, List.set_cons_zero, List.set_cons_succ]
                      refine wpG_takeA 6 (v := ?_) ?_ hHeld ?_
                      rotate_left
                      · (intro w hS; (clear hS; go_simp); try with_reducible rfl)
                      try simp only [Act.put, List.setIfInBounds_toArray, List.set_cons_zero, List.set_cons_succ]
                      refine wpG_takeA 7 (v := ?_) ?_ hHeld ?_
                      rotate_left
                      · (intro w hS; (clear hS; go_simp); try with_reducible rfl)
                      try simp only [Act.put, List.setIfInBounds_toArray, List.set_cons_zero, List.set_cons_succ]
                      refine wpG_takeA 8 (v := .int .i64 (i : Int)) ?_ hHeld ?_
                      · (intro w hS; first | exact kr_load_fact _ _ (by rfl) (by rfl) (RW.cell (hS.cov (Cov.nil _)) (by omega) HX.out rfl) (by decide +kernel))
                      try simp only [Act.put, List.setIfInBounds_toArray, List.set_cons_zero, List.set_cons_succ]
                      refine wpG_lastA 9 (fun K9 hK => ?_)
                      go_simp
                      (go_at_call 86; (with_reducible refine (rmeets_any (s := p) (i := i) K HPR.out hb (by omega)).mono ?_); clear K; rintro e w1 ⟨rfl, K⟩; rw [HTC.out])
                      refine hK.out _ _ ?_
                      clear hK K9
                      try simp only [Act.put, List.setIfInBounds_toArray, List.set_cons_zero, List.set_cons_succ]
                      skip
                      go_wp2
                      go_roundg (gk - 1)
                      case measure => omega
                      case rel => exact ⟨t + 1, by go_num, by omega, Lib.hid (by rw [HTW.out, List.any_append, HI.out]; simp [HTC.out]), K.cov Cov.auto⟩
                    · have HTC := Lib.hid htc
                      have HR := Lib.hid (show oneE l ws block old sm = 23 by rw [HON2.out, if_pos (List.any_eq_true.2 ⟨p, HPM.out, List.any_eq_true.2 ⟨_, HXM.out, htc⟩⟩)])
                      clear htc
                      go_upto_region 23 with (fail)
                      refine wp_region_GK K (Cov.all _) (by kernel_rfl) (by kernel_rfl) (by kernel_rfl) (fun K hHeld => ?_)
                      refine wpG_takeA 0 (v := ?_) ?_ hHeld ?_
                      rotate_left
                      · (intro w hS; (clear hS; go_simp); try with_reducible rfl)
                      try simp only [Act.put, List.setIfInBounds_toArray, List.set_cons_zero, List.set_cons_succ]
                      refine wpG_takeA 1 (v := ?_) ?_ hHeld ?_
                      rotate_left
                      · (intro w hS; (clear hS; go_simp); try with_reducible rfl)
                      try simp only [Act.put, List.setIfInBounds_toArray, List.set_cons_zero, List.set_cons_succ]
                      refine wpG_takeA 2 (v := ?_) ?_ hHeld ?_
                      rotate_left
                      · (intro w hS; (clear hS; go_simp); try with_reducible rfl)
                      try simp only [Act.put, List.setIfInBounds_toArray, List.set_cons_zero, List.set_cons_succ]
                      refine wpG_takeA 3 (v := .agg #[.int .u8 p.kind, .int .i64 p.from_, .int .i64 p.len, .slice p.A p.n p.c]) ?_ hHeld ?_
                      · (intro w hS; first | exact kr_load_rec hS _ _ (by rfl) (j) [.int .u8 p.kind, .int .i64 p.from_, .int .i64 p.len, .slice p.A p.n p.c] (by rfl) (R.cov (Cov.nil _)) (by omega) HP.out (by omega) (by kernel_rfl) (by kernel_rfl) (by rfl))
                      try simp only [Act.put, List.setIfInBounds_toArray, List.set_cons_zero, List.set_cons_succ]
                      refine wpG_takeA 4 (v := ?_) ?_ hHeld ?_
                      rotate_left
                      · (intro w hS; (clear hS; go_simp); try with_reducible rfl)
                      try simp only [Act.put, List.setIfInBounds_toArray, List.set_cons_zero, List.set_cons_succ]
                      refine wpG_takeA 5 (v := ?_) ?_ hHeld ?_
                      rotate_left
                      · (intro w hS; (clear hS; go_simp); try with_reducible rfl)
                      try simp only [Act.put, List.setIfInBounds_toArray, List.set_cons_zero, List.set_cons_succ]
                      refine wpG_takeA 6 (v := ?_) ?_ hHeld ?_
                      rotate_left
                      · (intro w hS; (clear hS; go_simp); try with_reducible rfl)
                      try simp only [Act.put, List.setIfInBounds_toArray, List.set_cons_zero, List.set_cons_succ]
                      refine wpG_takeA 7 (v := ?_) ?_ hHeld ?_
                      rotate_left
                      · (intro w hS; (clear hS; go_simp); try with_reducible rfl)
                      try simp only [Act.put, List.setIfInBounds_toArray, List.set_cons_zero, List.set_cons_succ]
                      refine wpG_takeA 8 (v := .int .i64 (i : Int)) ?_ hHeld ?_
                      · (intro w hS; first | exact kr_load_fact _ _ (by rfl) (by rfl) (RW.cell (hS.cov (Cov.nil _)) (by omega) HX.out rfl) (by decide +kernel))
                      try simp only [Act.put, List.setIfInBounds_toArray, List.set_cons_zero, List.set_cons_succ]
                      refine wpG_lastA 9 (fun K9 hK => ?_)
                      go_simp
                      (go_at_call 86; (with_reducible refine (rmeets_any (s := p) (i := i) K HPR.out hb (by omega)).mono ?_); clear K; rintro e w1 ⟨rfl, K⟩; rw [HTC.out])
                      refine hK.out _ _ ?_
                      clear hK K9
                      try simp only [Act.put, List.setIfInBounds_toArray, List.set_cons_zero, List.set_cons_succ]
                      skip
                      go_wp2
                      go_ret
                      exact ⟨by rw [HR.out]; rfl, K.cov Cov.auto⟩
                  · have ht2 : decide ((t : Int) < (q : Int)) = false := decide_eq_false (by omega)
                    have HLP := Lib.hid (show lateB block ws p = false by have := HI.out; rw [List.take_of_length_le (by have := HWL.out; omega)] at this; exact this)
                    go_wp2
                    go_roundg (og - 1)
                    case measure => omega
                    case rel => exact ⟨j + 1, by go_num, by omega, Lib.hid (by rw [HT.out, HE.out, HLP.out]; rfl), K⟩
              · have hj2 : decide ((j : Int) < (m : Int)) = false := decide_eq_false (by omega)
                have HR := Lib.hid (show oneE l ws block old sm = 0 by have := HE.out; rw [List.take_of_length_le (by have := HL.out; omega)] at this; rw [HON2.out, this]; rfl)
                go_wp2
                go_ret
                exact ⟨by rw [HR.out]; rfl, K⟩
      · have e1 : (sm == want) = false := by simpa using hwn
        have HR := Lib.hid (show oneE l ws block old want = 13 by rw [oneE, if_pos HA.out, if_neg (by rw [HS.out]; exact hwn)])
        go_wp2
        go_ret
        exact ⟨by rw [HR.out]; rfl, K⟩
end
end Go.Proofs.Ytffednkdmkohdaa
