/-
  graph: Edges' closure; slices.IndexFunc (contracts).
-/
import Derived.Test.YtffednkdmkohdaaGrN
set_option linter.unusedVariables false
set_option linter.unusedSimpArgs false
namespace Go.Proofs.Ytffednkdmkohdaa
open Go.RowKit

/-- the closure that tells number k -/
def isK (gp : Nat) : Value := .func (.func 54) #[] #[.pointer (some ⟨gp, 0, none⟩)]
section
variable {w0 w : World} {L : List Ent} {A : Option Addr} {n c gp : Nat} {xs : List Int} {k : Int}
set_option maxRecDepth 100000 in
theorem edges1_any (K : Known w0 w L) (hp : Has (row gp #[.int .i64 k] 3) L) (x : Int) : Calls Try.prog 54 #[.int .i64 x, .pointer (some ⟨gp, 0, none⟩)] w fun e w' => e = .returned (.bool (x == k)) ∧ w = w' := by
  go_enter Try.func54, Try.ntmps54
  go_wp2_with (first | ((with_reducible refine at_load rfl ?_); refine wpList_reads (by rfl) (kr_load_cell K _ _ (by rfl) (by rfl) hp (by decide +kernel) rfl) ?_))
  go_ret
  exact ⟨rfl, rfl⟩
set_option maxRecDepth 100000 in
theorem index_any (K : Known w0 w L) (hp : Has (row gp #[.int .i64 k] 3) L) (R : RdS w0 L .i64 A n xs) (hc : n ≤ c) (hn : n ≤ 1000000000) : Calls Try.prog 78 #[.slice A n c, .func (.func 54) #[] #[.pointer (some ⟨gp, 0, none⟩)]] w fun e w' => ∃ r : Int, e = .returned (.int .i64 r) ∧ ((r = -1 ∧ k ∉ xs) ∨ ∃ j : Nat, j < n ∧ r = j ∧ k ∉ xs.take j ∧ xs.getD j 0 = k) ∧ w = w' := by
  have hl := R.len
  go_enter Try.func78, Try.ntmps78
  go_upto_region 2 with (fail)
  go_loopg [8] n (fun q v wr => ∃ (j : Nat), v = .int .i64 j ∧ j + q = n ∧ wr = w ∧ Hid (k ∉ xs.take j))
  case atStart => exact ⟨0, by go_num, by omega, rfl, Lib.hid (by simp)⟩
  case round =>
    obtain ⟨j, rfl, hdj, rfl, HE⟩ := hrel
    by_cases hj : j < n
    · have hj2 : decide ((j : Int) < (n : Int)) = true := decide_eq_true (by omega)
      have hjj : (0 : Int) ≤ (j : Int) ∧ (j : Int) < (n : Int) := by omega
      have i1 := IntWalk.i64_in ((j : Int) + 1) (by omega)
      obtain ⟨b, off, rfl⟩ := R.form K (by omega)
      obtain ⟨u, hu⟩ : ∃ u, xs.getD j 0 = u := ⟨_, rfl⟩
      have HU := Lib.hid hu
      have HT := Lib.hid (show xs.take (j + 1) = xs.take j ++ [u] by rw [List.take_succ_eq_append_getElem (by omega), ← hu]; simp [List.getD, show j < xs.length by omega])
      clear hu hl
      by_cases hux : u = k
      · have e1 : (u == k) = true := by simpa using hux
        have HX := Lib.hid hux
        clear hux
        go_wp2_with (first | ((with_reducible refine at_load rfl ?_); first | (refine wpList_reads (by rfl) (kr_load_cell K _ _ (by rfl) (by rfl) Has.auto (by decide +kernel) (by (try simp only [List.getElem?_toArray, List.getElem?_cons_succ, List.getElem?_cons_zero]); exact rfl)) ?_) | (refine wpList_reads (by rfl) (kr_load_row K _ _ (by rfl) (by rfl) Has.auto (by decide +kernel) (by kernel_rfl)) ?_) | (refine wpList_reads (by rfl) (kr_load_fact _ _ (by rfl) (by rfl) (R.cell K (by omega) HU.out rfl) (by decide +kernel)) ?_)) | (go_at_call 54; (with_reducible refine (edges1_any K hp _).mono ?_); rintro e w' ⟨rfl, rfl⟩))
        go_ret
        exact ⟨j, rfl, .inr ⟨j, hj, rfl, HE.out, by rw [HU.out, HX.out]⟩, rfl⟩
      · have e1 : (u == k) = false := by simpa using hux
        go_wp2_with (first | ((with_reducible refine at_load rfl ?_); first | (refine wpList_reads (by rfl) (kr_load_cell K _ _ (by rfl) (by rfl) Has.auto (by decide +kernel) (by (try simp only [List.getElem?_toArray, List.getElem?_cons_succ, List.getElem?_cons_zero]); exact rfl)) ?_) | (refine wpList_reads (by rfl) (kr_load_row K _ _ (by rfl) (by rfl) Has.auto (by decide +kernel) (by kernel_rfl)) ?_) | (refine wpList_reads (by rfl) (kr_load_fact _ _ (by rfl) (by rfl) (R.cell K (by omega) HU.out rfl) (by decide +kernel)) ?_)) | (go_at_call 54; (with_reducible refine (edges1_any K hp _).mono ?_); rintro e w' ⟨rfl, rfl⟩))
        go_roundg (gk - 1)
        case measure => omega
        case rel => exact ⟨j + 1, by go_num, by omega, rfl, Lib.hid (by rw [HT.out]; simp only [List.mem_append, List.mem_singleton]; rintro (h | h); exact HE.out h; exact hux h.symm)⟩
    · have hj2 : decide ((j : Int) < (n : Int)) = false := decide_eq_false (by omega)
      have hx : k ∉ xs := by have := HE.out; rw [List.take_of_length_le (by omega)] at this; exact this
      go_wp2
      go_ret
      exact ⟨-1, rfl, .inl ⟨rfl, hx⟩, rfl⟩
end
end Go.Proofs.Ytffednkdmkohdaa
