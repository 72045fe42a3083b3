/-
  Package manifest: At; the example; the statement ManifestBlocks (walk).
-/
import Derived.Test.YtgloienpmikcfaaPutC
set_option linter.unusedVariables false
set_option linter.unusedSimpArgs false
namespace Go.Proofs.Ytgloienpmikcfaa
open Go.RowKit

section
variable {P : Program} {ops : Array Oper} {rest : List Oper} {o : Oper} {a : Act} {Q : Exit → Act → World → Prop} {W : World}
/-- A cell that is known is read. -/
theorem ev_load_known (hgd : Region.wanted o (yielded ops a.tmps) = true) (ty : TypeId) (x : Operand) (ho : o.op = .load ty x) {p : Addr} {v : Value} (hc : W.cell? p = some v) (hx : a.eval x = .pointer (some p))
    (hu : (P.underlying ty).all (fun d => match d with | .struct _ | .array _ _ => false | _ => true) = true) (hs : (P.underlying ty).isSome = true)
    (h : wpList P ops Q rest (a.put o.dst v) W) : wpList P ops Q (o :: rest) a W :=
  ev_wanted hgd fun K hK => by
    unfold Oper.wp
    rw [run_op_load_known ty x ho hc hx hu hs]
    exact hK _ _ h
end

/-- which block comes -/
def atM (mode blk ol nl : Int) (D xs : List Int) (k : Int) : Int := if 0 ≤ k ∧ k < blocksM mode blk ol nl D xs then (if mode = 2 then xs.getD k.toNat 0 else k) else -1

section
variable (mode ver blk ol nl : Int) (D : List Int) (A : Option Addr) (n c : Nat) (xs : List Int) (w : World)
theorem order_len {mode blk ol nl : Int} {D xs : List Int} (hm : mode = 2) (h : mayM mode blk ol nl D xs = true) : (xs.length : Int) = blocksN nl blk := by
  simp only [mayM, Bool.and_eq_true, decide_eq_true_eq] at h
  obtain ⟨h1, h2, h3, h4⟩ := h
  rw [if_pos hm, onceB, decide_eq_true_eq] at h4
  exact h4.1

set_option maxHeartbeats 400000 in
set_option maxRecDepth 100000 in
theorem mat_any (k v : Int) (hv : atM mode blk ol nl D xs k = v) (R : Rd w .i64 A n xs) (hD : D.length = 96) (hn : n ≤ 1152921504606846976) (hc : n ≤ c) (hnl : nl ≤ 9223372036854775807) :
    Calls Try.prog 34 #[.agg (mfc mode ver blk ol nl D (.slice A n c)), .int .i64 k] w fun e w' => e = .returned (.int .i64 v) ∧ Below w.heap.size w w' := by
  have F : Fr w w := Fr.refl w
  by_cases h0 : 0 ≤ k
  · by_cases h1 : k < blocksM mode blk ol nl D xs
    · have hm : mayM mode blk ol nl D xs = true := by
        cases hm : mayM mode blk ol nl D xs
        · simp [blocksM, hm] at h1; omega
        · rfl
      have eb : blocksM mode blk ol nl D xs = blocksN nl blk := by simp [blocksM, hm]
      have d0 : decide (k < 0) = false := by simpa using h0
      have d1 : decide (blocksM mode blk ol nl D xs ≤ k) = false := by simpa using h1
      rw [atM, if_pos ⟨h0, h1⟩] at hv
      by_cases m2 : mode = 2
      · rw [if_pos m2] at hv
        subst hv
        have hl := order_len m2 hm
        have hkn : k < (n : Int) := by have := R.len; omega
        obtain ⟨b, off, rfl, hb, hcell⟩ := R.form (by omega)
        have hc' := hcell k.toNat (by omega)
        have HC := Lib.hid (fun (w' : World) (F' : Fr w w') => (F'.out.cell (p := ⟨b, off + k.toNat, none⟩) hb).trans hc')
        clear hcell hb hc' hm eb hl h1
        have mm : (mode == 2) = true := by simpa using m2
        clear m2
        go_enter Try.func34, Try.ntmps34
        go_wp2_with (first | ((with_reducible refine at_slot (N := 2) rfl ?_); refine ev_new rfl (cs := mfc mode ver blk ol nl D (.slice (some ⟨b, off, none⟩) n c)) (t := 41) (by first | (go_simp; done) | (go_simp; rfl)) ?_; intro gC hgC wC C nbC; have GEC : w.heap.size ≤ gC := (by rw [hgC]; exact F.size); clear hgC; replace F := F.step nbC; clear nbC) | ((with_reducible refine at_load (t := 41) rfl ?_); refine ev_load_row rfl 41 _ rfl C rfl Try.underlying41 rfl (by rw [mfc_size _ _ _ _ _ _ _ hD]; kernel_rfl) ?_) | ((with_reducible refine at_load (t := 5) rfl ?_); refine ev_load_cell rfl 5 _ rfl (i := 0) C rfl (by kernel_rfl) (by kernel_rfl) (mfc_0 _ _ _ _ _ _ _) ?_) | ((with_reducible refine at_load (t := 39) rfl ?_); refine ev_load_cell rfl 39 _ rfl (i := 101) C rfl (by kernel_rfl) (by kernel_rfl) (mfc_o _ _ _ _ _ _ _ hD) ?_) | ((with_reducible refine at_load (t := 3) rfl ?_); refine ev_load_known rfl 3 _ rfl (HC.out _ F) rfl (by kernel_rfl) (by kernel_rfl) ?_) | (go_at_call 33; (with_reducible refine (mblocks_any _ _ _ _ _ _ _ _ _ _ _ (R.below F.out) hD hn hc hnl).mono ?_); rintro e w1 ⟨rfl, nb⟩; replace F := F.step nb; replace C := C.below nb; clear nb))
        go_ret
        exact ⟨rfl, F.out⟩
      · rw [if_neg m2] at hv
        subst hv
        clear hm eb h1
        have mm : (mode == 2) = false := by simpa using m2
        clear m2
        go_enter Try.func34, Try.ntmps34
        go_wp2_with (first | ((with_reducible refine at_slot (N := 2) rfl ?_); refine ev_new rfl (cs := mfc mode ver blk ol nl D (.slice A n c)) (t := 41) (by first | (go_simp; done) | (go_simp; rfl)) ?_; intro gC hgC wC C nbC; have GEC : w.heap.size ≤ gC := (by rw [hgC]; exact F.size); clear hgC; replace F := F.step nbC; clear nbC) | ((with_reducible refine at_load (t := 41) rfl ?_); refine ev_load_row rfl 41 _ rfl C rfl Try.underlying41 rfl (by rw [mfc_size _ _ _ _ _ _ _ hD]; kernel_rfl) ?_) | ((with_reducible refine at_load (t := 5) rfl ?_); refine ev_load_cell rfl 5 _ rfl (i := 0) C rfl (by kernel_rfl) (by kernel_rfl) (mfc_0 _ _ _ _ _ _ _) ?_) | ((with_reducible refine at_load (t := 39) rfl ?_); refine ev_load_cell rfl 39 _ rfl (i := 101) C rfl (by kernel_rfl) (by kernel_rfl) (mfc_o _ _ _ _ _ _ _ hD) ?_) | (go_at_call 33; (with_reducible refine (mblocks_any _ _ _ _ _ _ _ _ _ _ _ (R.below F.out) hD hn hc hnl).mono ?_); rintro e w1 ⟨rfl, nb⟩; replace F := F.step nb; replace C := C.below nb; clear nb))
        go_ret
        exact ⟨rfl, F.out⟩
    · rw [atM, if_neg (fun h => h1 h.2)] at hv
      subst hv
      have d0 : decide (k < 0) = false := by simpa using h0
      have d1 : decide (blocksM mode blk ol nl D xs ≤ k) = true := by simpa using h1
      clear h1
      go_enter Try.func34, Try.ntmps34
      go_wp2_with (first | ((with_reducible refine at_slot (N := 2) rfl ?_); refine ev_new rfl (cs := mfc mode ver blk ol nl D (.slice A n c)) (t := 41) (by first | (go_simp; done) | (go_simp; rfl)) ?_; intro gC hgC wC C nbC; have GEC : w.heap.size ≤ gC := (by rw [hgC]; exact F.size); clear hgC; replace F := F.step nbC; clear nbC) | ((with_reducible refine at_load (t := 41) rfl ?_); refine ev_load_row rfl 41 _ rfl C rfl Try.underlying41 rfl (by rw [mfc_size _ _ _ _ _ _ _ hD]; kernel_rfl) ?_) | (go_at_call 33; (with_reducible refine (mblocks_any _ _ _ _ _ _ _ _ _ _ _ (R.below F.out) hD hn hc hnl).mono ?_); rintro e w1 ⟨rfl, nb⟩; replace F := F.step nb; replace C := C.below nb; clear nb))
      go_ret
      exact ⟨rfl, F.out⟩
  · rw [atM, if_neg (fun h => h0 h.1)] at hv
    subst hv
    have d0 : decide (k < 0) = true := by simpa using h0
    go_enter Try.func34, Try.ntmps34
    go_wp2_with (first | ((with_reducible refine at_slot (N := 2) rfl ?_); refine ev_new rfl (cs := mfc mode ver blk ol nl D (.slice A n c)) (t := 41) (by first | (go_simp; done) | (go_simp; rfl)) ?_; intro gC hgC wC C nbC; have GEC : w.heap.size ≤ gC := (by rw [hgC]; exact F.size); clear hgC; replace F := F.step nbC; clear nbC))
    go_ret
    exact ⟨rfl, F.out⟩
end

theorem build_ex22 (w : World) : (Instr.build 41 #[(0, .int .u8 1), (2, .int .i64 128)]).run Try.prog w = .ok (.agg (mfc 1 0 128 0 0 (List.replicate 96 0) (.slice none 0 0))) w := by kernel_rfl
set_option maxHeartbeats 400000 in
set_option maxRecDepth 100000 in
theorem awake22_any (w : World) : Calls Try.prog 28 #[] w fun e w' => e = .returned (.bool true) ∧ Below w.heap.size w w' := by
  have F : Fr w w := Fr.refl w
  have hs : mayM 1 128 0 0 (List.replicate 96 0) [] = true := by kernel_rfl
  have HS := Lib.hid hs
  clear hs
  go_enter Try.func28, Try.ntmps28
  go_wp2_with (first | ((with_reducible refine at_build (t := 41) rfl ?_); refine ev_build rfl 41 rfl (vals := #[(0, .int .u8 1), (2, .int .i64 128)]) (by first | rfl | (go_simp; done) | (go_simp; rfl)) (build_ex22 _) ?_) | (go_at_call 35; (refine (mput_yes 1 0 128 0 0 (List.replicate 96 0) none 0 0 [] _ HS.out (Rd.nil _ _ _) (by simp) (by omega) (by omega)).mono ?_); rintro e w1 ⟨A1, c1, rfl, ON, nb⟩; replace ON := ON.mono F.size; replace F := F.step nb; (try clear O); have O := ON; clear ON nb))
  go_ret
  exact ⟨rfl, F.out⟩
end Go.Proofs.Ytgloienpmikcfaa
