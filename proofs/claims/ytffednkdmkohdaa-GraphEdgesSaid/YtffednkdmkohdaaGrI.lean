/-
  graph: the document's SameAll (contract).
-/
import Derived.Test.YtffednkdmkohdaaGrH
set_option linter.unusedVariables false
set_option linter.unusedSimpArgs false
namespace Go.Proofs.Ytffednkdmkohdaa
open Go.RowKit

section
variable {w0 w : World} {L : List Ent} {A B : Option Addr} {n c d : Nat} {r1 r2 : List (Arow Int)}
set_option maxHeartbeats 800000 in
set_option maxRecDepth 100000 in
theorem rsameall_any (K : Known w0 w L) (G1 : Grid w0 L A n r1) (G2 : Grid w0 L B n r2) (hc : n ≤ c) (hd : n ≤ d) (hn : n ≤ 1000000) (h9 : ∀ r ∈ r1, r.n ≤ 1000000) (he : r1.map (·.l) = r2.map (·.l)) : Calls Try.prog 22 #[.slice A n c, .slice B n d] w fun e w' => e = .returned (.bool true) ∧ Known w0 w' L := by
  have hl1 := G1.R.len
  have hl2 := G2.R.len
  have HE := Lib.hid he
  clear he
  go_enter Try.func22, Try.ntmps22
  go_upto_region 4 with (fail)
  go_loopg [13] n (fun q v wr => ∃ (j : Nat), v = .int .i64 j ∧ j + q = n ∧ Known w0 wr L)
  case atStart => exact ⟨0, by go_num, by omega, K⟩
  case round =>
    clear K
    obtain ⟨j, rfl, hdj, K⟩ := hrel
    by_cases hj : j < n
    · have hj2 : decide ((j : Int) < (n : Int)) = true := decide_eq_true (by omega)
      have hjj : (0 : Int) ≤ (j : Int) ∧ (j : Int) < (n : Int) := by omega
      have i1 := IntWalk.i64_in ((j : Int) + 1) (by omega)
      obtain ⟨b, off, rfl⟩ := G1.R.form K (by omega)
      obtain ⟨b2, off2, rfl⟩ := G2.R.form K (by omega)
      obtain ⟨⟨a1, n1, c1, l1⟩, hp1⟩ : ∃ r, r = r1[j]'(by omega) := ⟨_, rfl⟩
      obtain ⟨⟨a2, n2, c2, l2⟩, hp2⟩ : ∃ r, r = r2[j]'(by omega) := ⟨_, rfl⟩
      have hm1 : (⟨a1, n1, c1, l1⟩ : Arow Int) ∈ r1 := by rw [hp1]; exact List.getElem_mem _
      have hm2 : (⟨a2, n2, c2, l2⟩ : Arow Int) ∈ r2 := by rw [hp2]; exact List.getElem_mem _
      have HP1 := Lib.hid (show encAt arC r1 j = [.slice a1 n1 c1] by rw [encAt_get (by omega), ← hp1]; rfl)
      have HP2 := Lib.hid (show encAt arC r2 j = [.slice a2 n2 c2] by rw [encAt_get (by omega), ← hp2]; rfl)
      have hll : l1 = l2 := by
        have h1 : (r1.map (·.l))[j]? = some l1 := by simp [show j < r1.length by omega, ← hp1]
        have h2 : (r2.map (·.l))[j]? = some l2 := by simp [show j < r2.length by omega, ← hp2]
        rw [HE.out, h2] at h1
        injection h1 with h1
        exact h1.symm
      subst hll
      have RR1 := (G1.row _ hm1).1
      have RR2 := (G2.row _ hm2).1
      have hc1 := (G1.row _ hm1).2
      have hc2 := (G2.row _ hm2).2
      have hn1 := h9 _ hm1
      simp only at RR1 RR2 hc1 hc2 hn1
      have hn12 : n1 = n2 := by rw [← RR1.len, RR2.len]
      subst hn12
      have hn9 : n1 ≤ 1000000000 := by omega
      clear hp1 hp2 hm1 hm2 hl1 hl2
      go_upto_region 6 with (fail)
      refine wp_region_QLK K (by kernel_rfl) (by kernel_rfl) ?_
      clear K
      refine wpQL_A (k := 0) (v := ?_) ?_ ?_
      rotate_left
      · (intro w hS; (clear hS; go_simp); try with_reducible rfl)
      try simp only [Act.put, List.setIfInBounds_toArray, List.set_cons_zero, List.set_cons_succ]
      refine wpQL_A (k := 1) (v := ?_) ?_ ?_
      rotate_left
      · (intro w hS; (clear hS; go_simp); try with_reducible rfl)
      try simp only [Act.put, List.setIfInBounds_toArray, List.set_cons_zero, List.set_cons_succ]
      refine wpQL_A (k := 2) (v := ?_) ?_ ?_
      rotate_left
      · (intro w hS; (clear hS; go_simp); try with_reducible rfl)
      try simp only [Act.put, List.setIfInBounds_toArray, List.set_cons_zero, List.set_cons_succ]
      refine wpQL_A (k := 3) (v := .slice a1 n1 c1) ?_ ?_
      · (intro w hS; exact kr_load_rcell hS _ _ (by rfl) (j) 0 (by rfl) G1.R (by omega) HP1.out (by rfl) (by omega) (by kernel_rfl))
      try simp only [Act.put, List.setIfInBounds_toArray, List.set_cons_zero, List.set_cons_succ]
      refine wpQL_A (k := 4) (v := ?_) ?_ ?_
      rotate_left
      · (intro w hS; (clear hS; go_simp); try with_reducible rfl)
      try simp only [Act.put, List.setIfInBounds_toArray, List.set_cons_zero, List.set_cons_succ]
      refine wpQL_A (k := 5) (v := ?_) ?_ ?_
      rotate_left
      · (intro w hS; (clear hS; go_simp); try with_reducible rfl)
      try simp only [Act.put, List.setIfInBounds_toArray, List.set_cons_zero, List.set_cons_succ]
      refine wpQL_A (k := 6) (v := ?_) ?_ ?_
      rotate_left
      · (intro w hS; (clear hS; go_simp); try with_reducible rfl)
      try simp only [Act.put, List.setIfInBounds_toArray, List.set_cons_zero, List.set_cons_succ]
      refine wpQL_A (k := 7) (v := .slice a2 n1 c2) ?_ ?_
      · (intro w hS; exact kr_load_rcell hS _ _ (by rfl) (j) 0 (by rfl) G2.R (by omega) HP2.out (by rfl) (by omega) (by kernel_rfl))
      try simp only [Act.put, List.setIfInBounds_toArray, List.set_cons_zero, List.set_cons_succ]
      refine wpQL_step (k := 8) (x := { dst := some 24, op := Op.call { callee := Callee.value (Operand.func 18), args := #[Operand.tmp 19, Operand.tmp 23], argTypes := #[25, 25] }, type := 4, pos := "ref.go:122", after := #[{ on := 3, ground := Ground.data }, { on := 7, ground := Ground.data }], guard := none }) (v := .bool true) rfl (by kernel_rfl) (by rfl) ?_ ?_
      · intro w hS
        refine quiet_call (f := 18) (args := ?_) ?_ ?_
        rotate_left
        · (go_simp; try with_reducible rfl)
        · exact (rsame_any hS RR1 RR2 hc1 hc2 hn9)
      try simp only [Act.put, List.setIfInBounds_toArray, List.set_cons_zero, List.set_cons_succ]
      refine wpQL_endA (k := 9) (fun w1 K K9 hK => ?_)
      refine st_reads (v := ?_) (by rfl) ?_ ?_
      rotate_left
      · (go_simp; try with_reducible rfl)
      refine hK.out _ _ ?_
      clear hK K9
      try simp only [Act.put, List.setIfInBounds_toArray, List.set_cons_zero, List.set_cons_succ]
      skip
      go_wp2
      go_roundg (gk - 1)
      case measure => omega
      case rel => exact ⟨j + 1, by go_num, by omega, K⟩
    · have hj2 : decide ((j : Int) < (n : Int)) = false := decide_eq_false (by omega)
      go_wp2
      go_ret
      exact ⟨rfl, K⟩
end
end Go.Proofs.Ytffednkdmkohdaa
