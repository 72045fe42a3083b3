/-
  Package inflate: an inflater as an object: New, Write, Out, Done (contracts).
-/
import Derived.Test.YtemnahimheffgaaInfT
set_option linter.unusedVariables false
set_option linter.unusedSimpArgs false
namespace Go.Proofs.Ytemnahimheffgaa
open Go.RowKit

def Ob (gx : Nat) (m : Mo) (rs : List Int) (fr : Nat) (X : List Ent) : Prop := ∃ x Z XR, X = row gx (ifC x) 53 :: (Z ++ XR) ∧ Is m x Z ∧ x.next = nxtV m.next ∧ m.next ≤ 3 ∧ OwnL 5 1 x.R x.rn x.rc (rs.map (Value.int .u8)) XR ∧ x.from_ = (fr : Int) ∧ fr ≤ 8 * rs.length ∧ (∀ v ∈ rs, 0 ≤ v ∧ v ≤ 255)
section
variable {w0 w : World} {L M X : List Ent} {gx : Nat} {x : Ifl} {m : Mo} {rs ys : List Int} {fr : Nat}
set_option maxRecDepth 100000 in
theorem iwrite_err (K : Known w0 w M) (hx : Has (row gx (ifC x) 53) M) (ev : Int) (he : x.e = ev) (hev : ev ≠ 0) (v : Value) : Calls Try.prog 15 #[ptr' gx, v] w fun e w' => e = .returned (.int .i64 ev) ∧ w = w' := by
  have d1 : (ev == 0) = false := beq_eq_false_iff_ne.2 hev
  go_enter Try.func15, Try.ntmps15
  go_wp2_with (first | (((with_reducible refine at_load rfl ?_); first | (refine wpList_reads (by rfl) (kr_load_cell K _ _ (by rfl) (by rfl) hx (by decide +kernel) (if_most _)) ?_) | (refine wpList_reads (by rfl) (kr_load_cell K _ _ (by rfl) (by rfl) hx (by decide +kernel) (if_out _)) ?_) | (refine wpList_reads (by rfl) (kr_load_cell K _ _ (by rfl) (by rfl) hx (by decide +kernel) (if_rest _)) ?_) | (refine wpList_reads (by rfl) (kr_load_cell K _ _ (by rfl) (by rfl) hx (by decide +kernel) (if_from _)) ?_) | (refine wpList_reads (by rfl) (kr_load_cell K _ _ (by rfl) (by rfl) hx (by decide +kernel) (if_r _)) ?_) | (refine wpList_reads (by rfl) (kr_load_cell K _ _ (by rfl) (by rfl) hx (by decide +kernel) (if_next _)) ?_) | (refine wpList_reads (by rfl) (kr_load_cell K _ _ (by rfl) (by rfl) hx (by decide +kernel) (if_last _)) ?_) | (refine wpList_reads (by rfl) (kr_load_cell K _ _ (by rfl) (by rfl) hx (by decide +kernel) (if_left _)) ?_) | (refine wpList_reads (by rfl) (kr_load_cell K _ _ (by rfl) (by rfl) hx (by decide +kernel) (if_lit _)) ?_) | (refine wpList_reads (by rfl) (kr_load_cell K _ _ (by rfl) (by rfl) hx (by decide +kernel) (if_dist _)) ?_) | (refine wpList_reads (by rfl) (kr_load_cell K _ _ (by rfl) (by rfl) hx (by decide +kernel) (if_e _)) ?_)); (try dsimp only)))
  go_ret
  exact ⟨rfl, rfl⟩
set_option maxRecDepth 100000 in
theorem idone_fn (K : Known w0 w M) (hx : Has (row gx (ifC x) 53) M) {f2 : FuncId} (hnx : x.next = fnI f2) : Calls Try.prog 17 #[ptr' gx] w fun e w' => e = .returned (.bool false) ∧ w = w' := by
  go_enter Try.func17, Try.ntmps17
  go_wp2_with (first | (((with_reducible refine at_load rfl ?_); first | (refine wpList_reads (by rfl) (kr_load_cell K _ _ (by rfl) (by rfl) hx (by decide +kernel) (if_most _)) ?_) | (refine wpList_reads (by rfl) (kr_load_cell K _ _ (by rfl) (by rfl) hx (by decide +kernel) (if_out _)) ?_) | (refine wpList_reads (by rfl) (kr_load_cell K _ _ (by rfl) (by rfl) hx (by decide +kernel) (if_rest _)) ?_) | (refine wpList_reads (by rfl) (kr_load_cell K _ _ (by rfl) (by rfl) hx (by decide +kernel) (if_from _)) ?_) | (refine wpList_reads (by rfl) (kr_load_cell K _ _ (by rfl) (by rfl) hx (by decide +kernel) (if_r _)) ?_) | (refine wpList_reads (by rfl) (kr_load_cell K _ _ (by rfl) (by rfl) hx (by decide +kernel) (if_next _)) ?_) | (refine wpList_reads (by rfl) (kr_load_cell K _ _ (by rfl) (by rfl) hx (by decide +kernel) (if_last _)) ?_) | (refine wpList_reads (by rfl) (kr_load_cell K _ _ (by rfl) (by rfl) hx (by decide +kernel) (if_left _)) ?_) | (refine wpList_reads (by rfl) (kr_load_cell K _ _ (by rfl) (by rfl) hx (by decide +kernel) (if_lit _)) ?_) | (refine wpList_reads (by rfl) (kr_load_cell K _ _ (by rfl) (by rfl) hx (by decide +kernel) (if_dist _)) ?_) | (refine wpList_reads (by rfl) (kr_load_cell K _ _ (by rfl) (by rfl) hx (by decide +kernel) (if_e _)) ?_)); (try dsimp only)) | ((with_reducible refine at_bin (b := .eql) (t := 50) rfl ?_); refine wpList_reads (by rfl) (kr_fn (by rfl) (hnx) st_eql_fn (.inl rfl)) ?_))
  go_ret
  exact ⟨rfl, rfl⟩
set_option maxRecDepth 100000 in
theorem idone_nil (K : Known w0 w M) (hx : Has (row gx (ifC x) 53) M) (hnx : x.next = .nilFunc) (ev : Int) (he : x.e = ev) (b : Bool) (hb : (ev == 0) = b) : Calls Try.prog 17 #[ptr' gx] w fun e w' => e = .returned (.bool b) ∧ w = w' := by
  go_enter Try.func17, Try.ntmps17
  go_wp2_with (first | (((with_reducible refine at_load rfl ?_); first | (refine wpList_reads (by rfl) (kr_load_cell K _ _ (by rfl) (by rfl) hx (by decide +kernel) (if_most _)) ?_) | (refine wpList_reads (by rfl) (kr_load_cell K _ _ (by rfl) (by rfl) hx (by decide +kernel) (if_out _)) ?_) | (refine wpList_reads (by rfl) (kr_load_cell K _ _ (by rfl) (by rfl) hx (by decide +kernel) (if_rest _)) ?_) | (refine wpList_reads (by rfl) (kr_load_cell K _ _ (by rfl) (by rfl) hx (by decide +kernel) (if_from _)) ?_) | (refine wpList_reads (by rfl) (kr_load_cell K _ _ (by rfl) (by rfl) hx (by decide +kernel) (if_r _)) ?_) | (refine wpList_reads (by rfl) (kr_load_cell K _ _ (by rfl) (by rfl) hx (by decide +kernel) (if_next _)) ?_) | (refine wpList_reads (by rfl) (kr_load_cell K _ _ (by rfl) (by rfl) hx (by decide +kernel) (if_last _)) ?_) | (refine wpList_reads (by rfl) (kr_load_cell K _ _ (by rfl) (by rfl) hx (by decide +kernel) (if_left _)) ?_) | (refine wpList_reads (by rfl) (kr_load_cell K _ _ (by rfl) (by rfl) hx (by decide +kernel) (if_lit _)) ?_) | (refine wpList_reads (by rfl) (kr_load_cell K _ _ (by rfl) (by rfl) hx (by decide +kernel) (if_dist _)) ?_) | (refine wpList_reads (by rfl) (kr_load_cell K _ _ (by rfl) (by rfl) hx (by decide +kernel) (if_e _)) ?_)); (try dsimp only)) | ((with_reducible refine at_bin (b := .eql) (t := 50) rfl ?_); refine wpList_reads (by rfl) (kr_fn (by rfl) (hnx) st_eql_nil (.inl rfl)) ?_))
  go_ret
  exact ⟨rfl, rfl⟩
def doneM (m : Mo) : Bool := decide (m.next = 0) && decide (m.e = 0)
theorem idone_any (K : Known w0 w M) (hx : Has (row gx (ifC x) 53) M) (hnx : x.next = nxtV m.next) (he : x.e = m.e) (b : Bool) (hb : doneM m = b) : Calls Try.prog 17 #[ptr' gx] w fun e w' => e = .returned (.bool b) ∧ w = w' := by
  by_cases hz : m.next = 0
  · refine idone_nil K hx (by rw [hnx, hz]; rfl) m.e he b ?_
    rw [← hb, doneM, decide_eq_true hz, Bool.true_and]
    by_cases h : m.e = 0 <;> simp [h]
  · obtain ⟨f2, hf2⟩ := nxtV_fn hz
    have : b = false := by rw [← hb, doneM, decide_eq_false hz, Bool.false_and]
    subst this
    exact idone_fn K hx (hnx.trans hf2)
theorem ob_new (K : Known w0 w L) (most : Int) (h : -9223372036854775808 ≤ most) (h5 : most ≤ 5000) : Calls Try.prog 14 #[.int .i64 most] w fun e w' => ∃ gx, e = .returned (ptr' gx) ∧ ∃ X, Ob gx (mo0 most) [] 0 X ∧ Known w0 w' (X ++ L) := by
  refine (inew_any K most ⟨h, by omega⟩ _ rfl).mono ?_
  rintro e w1 ⟨gx, rfl, K⟩
  refine ⟨gx, rfl, _, ⟨inf0 (max most 0), [], [], rfl, ⟨⟨rfl, ?_, ?_, rfl, ?_, (fun v hv => by cases hv), rfl, rfl, (fun h => by cases h), rfl⟩, [], [], OwnL.nil _ _, .inl ⟨(show (1 : Nat) ≠ 3 by decide), rfl⟩, rfl⟩, rfl, (show (1 : Nat) ≤ 3 by decide), OwnL.nil _ _, rfl, Nat.le_refl _, (fun v hv => by cases hv)⟩, K⟩
  · show (0 : Int) ≤ max most 0
    omega
  · show max most 0 ≤ 5000
    omega
  · show (([] : List Int).length : Int) ≤ max most 0
    simp only [List.length_nil]
    omega
theorem ob_write {A : Option Addr} {n c : Nat} (K : Known w0 w (X ++ L)) (hO : Ob gx m rs fr X) (R : RdS w0 L .u8 A n ys) (hb : ∀ v ∈ ys, 0 ≤ v ∧ v ≤ 255) (hn : n ≤ 100000) (hr : rs.length ≤ 100000) :
    Calls Try.prog 15 #[ptr' gx, .slice A n c] w fun e w' => e = .returned (.int .i64 (wrM m rs fr ys).1.e) ∧ ∃ X', Ob gx (wrM m rs fr ys).1 (wrM m rs fr ys).2.1 (wrM m rs fr ys).2.2 X' ∧ Known w0 w' (X' ++ L) := by
  have hO2 := hO
  obtain ⟨x, Z, XR, rfl, hI, hnx, hn3, O, hfr, hfl, hbr⟩ := hO
  have hrn : rs.length = x.rn := by have := O.len; simpa using this
  by_cases he : m.e = 0
  · obtain ⟨RF, hRF⟩ : ∃ RF, goM (rs ++ ys) m fr = RF := ⟨_, rfl⟩
    rw [wrM, if_neg (by rw [he]; decide), hRF]
    have hball : ∀ v ∈ rs ++ ys, 0 ≤ v ∧ v ≤ 255 := fun v hv => (List.mem_append.1 hv).elim (hbr v) (hb v)
    refine (iwrite_go (L := L) (by rw [List.cons_append, List.append_assoc] at K; exact K) hI hnx hn3 O R hball (by omega) (by omega) fr hfr hfl he RF hRF).mono ?_
    rintro e w1 ⟨rfl, x', Z', XR', hI', hnx', hn3', hle, O', hfr', K⟩
    refine ⟨rfl, row gx (ifC x') 53 :: (Z' ++ XR'), ⟨x', Z', XR', rfl, hI', hnx', hn3', O', hfr', ?_, fun v hv => hball v (List.mem_of_mem_drop hv)⟩, by rw [List.cons_append, List.append_assoc]; exact K⟩
    show RF.2 % 8 ≤ 8 * ((rs ++ ys).drop (RF.2 / 8)).length
    rw [List.length_drop]
    omega
  · rw [wrM, if_pos he]
    refine (iwrite_err (M := (row gx (ifC x) 53 :: (Z ++ XR)) ++ L) K (Has.hd _ _) m.e hI.1.e he _).mono ?_
    rintro e w1 ⟨rfl, rfl⟩
    exact ⟨rfl, _, hO2, K⟩
theorem ob_out (K : Known w0 w (X ++ L)) (hO : Ob gx m rs fr X) : Calls Try.prog 16 #[ptr' gx] w fun e w' => ∃ A c X2, e = .returned (.slice A m.out.length c) ∧ OwnL 5 1 A m.out.length c (m.out.map (Value.int .u8)) X2 ∧ Known w0 w' (X2 ++ (X ++ L)) := by
  obtain ⟨x, Z, XR, rfl, hI, hnx, hn3, O, hfr, hfl, hbr⟩ := hO
  obtain ⟨hC, XO, T, hOO, hT, rfl⟩ := hI
  have hon := hC.on
  refine (iout_any (XO := XO) (L := T ++ (XR ++ L)) (by simp only [List.cons_append, List.append_assoc] at K; exact K) hOO (by have := hC.room; have := hC.h5; omega)).mono ?_
  rintro e w1 ⟨A, c, X2, rfl, O2, K⟩
  rw [hon] at O2
  refine ⟨A, c, X2, by rw [hon], O2, ?_⟩
  simp only [List.cons_append, List.append_assoc]
  exact K
end
end Go.Proofs.Ytemnahimheffgaa
