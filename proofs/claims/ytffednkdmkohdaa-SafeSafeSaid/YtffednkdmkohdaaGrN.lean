/-
  graph: plans: GreatPlans (contract).
-/
import Derived.Test.YtffednkdmkohdaaGrA
import Derived.Test.YtffednkdmkohdaaGrO
set_option linter.unusedVariables false
set_option linter.unusedSimpArgs false
namespace Go.Proofs.Ytffednkdmkohdaa
open Go.RowKit
/-- plans: rows of steps -/
structure Plans (w0 : World) (L : List Ent) (A : Option Addr) (n : Nat) (rows : List (Arow Ast)) : Prop where mk :: (R : RdM w0 L arC 1 A n rows) (row : ∀ r ∈ rows, RdM w0 L asC 4 r.A r.n r.l ∧ r.n ≤ r.c ∧ ∀ s ∈ r.l, AsOk w0 s)
def greatP (rows : List (Arow Ast)) : Bool := decide (40 < rows.length) || rows.any fun r => greatA r.l
theorem greatP_no {l : List (Arow Ast)} (h : greatP l = false) : l.length ≤ 40 ∧ ∀ s ∈ l, greatA s.l = false := by
  simp only [greatP, Bool.or_eq_false_iff, decide_eq_false_iff_not, List.any_eq_false] at h
  exact ⟨by omega, fun s hs => by have := h.2 s hs; simpa using this⟩

section
variable {w0 w : World} {L : List Ent} {A : Option Addr} {n c : Nat} {rows : List (Arow Ast)}
set_option maxRecDepth 100000 in
theorem pgreat_any (K : Known w0 w L) (G : Plans w0 [] A n rows) (hc : n ≤ c) : Calls Try.prog 24 #[.slice A n c] w fun e w' => e = .returned (.bool (greatP rows)) ∧ w = w' := by
  have hl := G.R.len
  by_cases h0 : 40 < n
  · have hb : decide (40 < (n : Int)) = true := decide_eq_true (by omega)
    have HG := Lib.hid (show greatP rows = true by rw [greatP, decide_eq_true (by omega)]; rfl)
    clear hl
    go_enter Try.func24, Try.ntmps24
    go_wp2
    go_ret
    exact ⟨by rw [HG.out]; rfl, rfl⟩
  · have hb : decide (40 < (n : Int)) = false := decide_eq_false (by omega)
    have HG := Lib.hid (show greatP rows = rows.any (fun s => greatA s.l) by rw [greatP, decide_eq_false (by omega)]; rfl)
    go_enter Try.func24, Try.ntmps24
    go_upto_region 4 with (fail)
    go_loopg [9] n (fun d v wr => ∃ (j : Nat), v = .int .i64 j ∧ j + d = n ∧ wr = w ∧ Hid (rows.any (fun s => greatA s.l) = (rows.drop j).any fun s => greatA s.l))
    case atStart => exact ⟨0, by go_num, by omega, rfl, Lib.hid rfl⟩
    case round =>
      obtain ⟨j, rfl, hd, rfl, HE⟩ := hrel
      by_cases hj : j < n
      · have hj2 : decide ((j : Int) < (n : Int)) = true := decide_eq_true (by omega)
        have hjj : (0 : Int) ≤ (j : Int) ∧ (j : Int) < (n : Int) := by omega
        have i1 := IntWalk.i64_in ((j : Int) + 1) (by omega)
        obtain ⟨b, off, rfl⟩ := (G.R.cov (Cov.nil _)).form K (by omega)
        obtain ⟨r, hp⟩ : ∃ r, r = rows[j]'(by omega) := ⟨_, rfl⟩
        have HP := Lib.hid (show encAt arC rows j = [.slice r.A r.n r.c] by rw [encAt_get (by omega), ← hp]; rfl)
        have HD := Lib.hid (show (rows.drop j).any (fun s => greatA s.l) = (greatA r.l || (rows.drop (j + 1)).any fun s => greatA s.l) by rw [List.drop_eq_getElem_cons (by omega), hp]; rfl)
        have RR := (G.row r (by rw [hp]; exact List.getElem_mem _)).1
        clear hp hl
        cases hg : greatA r.l
        · have HGR := Lib.hid hg
          clear hg
          go_wp2_with (first | ((with_reducible refine at_load rfl ?_); refine wpList_reads (by rfl) (kr_load_rcell K _ _ (by rfl) (j) 0 (by rfl) (G.R.cov (Cov.nil _)) (by omega) HP.out (by rfl) (by omega) (by kernel_rfl)) ?_) | (go_at_call 14; (with_reducible refine (agreat_any K (RR.cov (Cov.nil _))).mono ?_); rintro e w' ⟨rfl, rfl⟩; rw [HGR.out]))
          go_roundg (gk - 1)
          case measure => omega
          case rel => exact ⟨j + 1, by go_num, by omega, rfl, Lib.hid (by rw [HE.out, HD.out, HGR.out]; rfl)⟩
        · have HGR := Lib.hid hg
          clear hg
          go_wp2_with (first | ((with_reducible refine at_load rfl ?_); refine wpList_reads (by rfl) (kr_load_rcell K _ _ (by rfl) (j) 0 (by rfl) (G.R.cov (Cov.nil _)) (by omega) HP.out (by rfl) (by omega) (by kernel_rfl)) ?_) | (go_at_call 14; (with_reducible refine (agreat_any K (RR.cov (Cov.nil _))).mono ?_); rintro e w' ⟨rfl, rfl⟩; rw [HGR.out]))
          go_ret
          exact ⟨by rw [HG.out, HE.out, HD.out, HGR.out]; rfl, rfl⟩
      · have hj2 : decide ((j : Int) < (n : Int)) = false := decide_eq_false (by omega)
        go_wp2
        go_ret
        exact ⟨by rw [HG.out, HE.out, List.drop_eq_nil_of_le (by omega)]; rfl, rfl⟩
end
end Go.Proofs.Ytffednkdmkohdaa
