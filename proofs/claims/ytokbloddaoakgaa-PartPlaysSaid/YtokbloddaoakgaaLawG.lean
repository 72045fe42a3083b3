/-
  drogherlaw06: bytes, great, awake (contracts).
-/
import Derived.Test.YtokbloddaoakgaaLawF
import Derived.Test.YtokbloddaoakgaaRefD
set_option linter.unusedVariables false
set_option linter.unusedSimpArgs false
namespace Go.Proofs.Ytokbloddaoakgaa
open Go.RowKit
/-- the bytes of a step's write -/
def sbs (s : Nat) (b : Int) (long : Bool) : List Int := List.replicate (if long then s + 1 else s) b
theorem sbs_byte {s : Nat} {b : Int} {long : Bool} (h : 0 ≤ b ∧ b ≤ 255) : ∀ v ∈ sbs s b long, 0 ≤ v ∧ v ≤ 255 := fun v hv => by
  rw [sbs, List.mem_replicate] at hv
  omega
theorem sbs_len (s : Nat) (b : Int) (long : Bool) : (sbs s b long).length ≤ s + 1 := by
  rw [sbs, List.length_replicate]
  split <;> omega
/-- more than is gone through? -/
def greatB (l : List Stp) : Bool := decide (60 < l.length) || l.any fun s => decide (60 < s.n)
section
variable {w0 w : World} {L : List Ent} {A : Option Addr} {n c : Nat}
set_option maxHeartbeats 800000 in
set_option maxRecDepth 100000 in
theorem sbytes_any (K : Known w0 w L) (s : Nat) (k i b : Int) (long : Bool) (hs : s ≤ 4096) : Calls Try.prog 45 #[.int .i64 s, .agg #[.int .i64 k, .int .i64 i, .int .u8 b, .bool long, .slice A n c]] w fun e w' => ∃ A' n' c', e = .returned (.slice A' n' c') ∧ Hid (n' = (sbs s b long).length) ∧ ∃ X, OwnL 5 1 A' n' c' ((sbs s b long).map (Value.int .u8)) X ∧ Known w0 w' (X ++ L) := by
  go_enter Try.func45, Try.ntmps45
  go_upto_region 3 with ((first | ((with_reducible refine at_box rfl ?_); refine wpList_does rfl (kd_box K _ _ rfl (by conv => lhs; whnf)) ?_; clear K; rintro _ w1 ⟨gs, rfl, K⟩; (try dsimp only [Value.cells] at K)) | ((with_reducible refine at_buildSlice (n := 0) rfl ?_); refine wpList_does rfl (kd_lit0 K _ 5 1 rfl Try.underlying24 (by kernel_rfl)) ?_; clear K; rintro _ w1 ⟨gz, rfl, K⟩; have O : OwnL 5 1 (some ⟨gz, 0, none⟩) 0 0 (([] : List Int).map (Value.int .u8)) [row gz #[] 5] := OwnL.lit0 _ _)))
  go_loopg [5, 6] s (fun d v5 v6 wr => ∃ (j : Nat) (Ao : Option Addr) (co : Nat) (X : List Ent), v5 = .slice Ao j co ∧ v6 = .int .i64 j ∧ j + d = s ∧ OwnL 5 1 Ao j co ((List.replicate j b).map (Value.int .u8)) X ∧ Known w0 wr (X ++ (row gs #[.int .i64 k, .int .i64 i, .int .u8 b, .bool long, .slice A n c] 67 :: L)))
  case atStart => exact ⟨0, _, _, _, rfl, by go_num, by omega, O, K⟩
  case round =>
    clear K O
    obtain ⟨j, Ao, co, X, rfl, rfl, hd, O, K⟩ := hrel
    by_cases hj : j < s
    · have hj2 : decide ((j : Int) < (s : Int)) = true := decide_eq_true (by omega)
      have i1 := IntWalk.i64_in ((j : Int) + 1) (by omega)
      go_wp2_with (first | (at_builtin; refine wpList_does rfl (kd_appendN K _ _ rfl rfl rfl (by with_reducible assumption) (by repeat (first | with_reducible exact Seg.nil _ | with_reducible exact Seg.all _ | with_reducible exact Seg.ap _ _ | with_reducible exact Seg.hd _ _ | with_reducible apply Seg.tl | with_reducible apply Seg.sk)) (Rd.ofBlk (n := 1) (xs := [_]) (K.blk (by repeat (first | with_reducible exact Has.hd _ _ | with_reducible refine Has.tl _ ?_ | with_reducible refine Has.ap _ ?_))) rfl rfl) (by kernel_rfl) (by kernel_rfl) (by omega)) ?_; clear K; rintro _ w1 ⟨A1, c1, X1, rfl, O, K⟩; (try simp only [Nat.zero_add, List.nil_append] at O)) | ((with_reducible refine at_eqnil rfl ?_); refine wpList_reads rfl (kr_eqnil rfl rfl (by kernel_rfl)) ?_) | ((with_reducible refine at_box rfl ?_); refine wpList_does rfl (kd_box K _ _ rfl (by conv => lhs; whnf)) ?_; clear K; rintro _ w1 ⟨g, rfl, K⟩; (try dsimp only [Value.cells] at K)) | ((with_reducible refine at_alloc rfl ?_); refine wpList_does rfl (kd_alloc K _ rfl rfl) ?_; clear K; rintro _ w1 ⟨g, rfl, K⟩; (try dsimp only [Value.cells] at K)) | ((with_reducible refine at_buildSlice rfl ?_); refine wpList_does rfl (kd_lits (cs := _) K _ _ _ rfl (by first | rfl | (go_simp; done) | (go_simp; rfl)) (by first | rfl | (go_simp; done) | (go_simp; rfl))) ?_; clear K; rintro _ w1 ⟨g, rfl, K⟩) | ((with_reducible refine at_load rfl ?_); first | (refine wpList_reads (by rfl) (kr_load_cell K _ _ (by rfl) (by rfl) (by repeat (first | with_reducible exact Has.hd _ _ | with_reducible refine Has.tl _ ?_ | with_reducible refine Has.ap _ ?_)) (by decide +kernel) (by (try simp only [List.getElem?_toArray, List.getElem?_cons_succ, List.getElem?_cons_zero]); exact rfl)) ?_) | (refine wpList_reads (by rfl) (kr_load_row K _ _ (by rfl) (by rfl) (by repeat (first | with_reducible exact Has.hd _ _ | with_reducible refine Has.tl _ ?_ | with_reducible refine Has.ap _ ?_)) (by decide +kernel) (by kernel_rfl)) ?_)) | ((with_reducible refine at_store rfl ?_); (first | (refine wpList_does rfl (kd_store_cell K _ _ _ rfl rfl (by conv => lhs; whnf) (by repeat (first | with_reducible exact Repl.hd _ _ _ | with_reducible apply Repl.tl | with_reducible apply Repl.ap)) rfl rfl (by kernel_rfl) (by kernel_rfl) (by first | (simp only [List.setIfInBounds_toArray, List.set_cons_succ, List.set_cons_zero]; rfl) | rfl)) ?_) | (refine wpList_does rfl (kd_store_row K _ _ _ rfl rfl rfl (by repeat (first | with_reducible exact Repl.hd _ _ _ | with_reducible apply Repl.tl | with_reducible apply Repl.ap)) (by kernel_rfl) (by kernel_rfl) (by kernel_rfl)) ?_)); clear K; intro _ w1 K; (try simp only [Act.put])))
      go_roundg (gk - 1)
      case measure => omega
      case rel => exact ⟨j + 1, _, _, _, rfl, by go_num, by omega, by rw [List.replicate_succ']; exact O, K.cov (by repeat (first | with_reducible exact Cov.all _ | with_reducible exact Cov.left _ _ | with_reducible exact Cov.nil _ | (with_reducible apply Cov.app; (· repeat (first | with_reducible exact Sel.nil _ | with_reducible exact Sel.ap _ _ | with_reducible exact Sel.hd _ _ | with_reducible exact Sel.all _ | with_reducible apply Sel.tl | with_reducible apply Sel.sk))) | (with_reducible apply Cov.cons; (· repeat (first | with_reducible exact Sel.nil _ | with_reducible exact Sel.ap _ _ | with_reducible exact Sel.hd _ _ | with_reducible exact Sel.all _ | with_reducible apply Sel.tl | with_reducible apply Sel.sk))) | with_reducible refine Cov.drop _ ?_ | with_reducible refine Cov.skip _ ?_))⟩
    · have hj2 : decide ((j : Int) < (s : Int)) = false := decide_eq_false (by omega)
      have hjs : j = s := by omega
      subst hjs
      cases long
      · go_wp2_with (first | ((with_reducible refine at_eqnil rfl ?_); refine wpList_reads rfl (kr_eqnil rfl rfl (by kernel_rfl)) ?_) | ((with_reducible refine at_box rfl ?_); refine wpList_does rfl (kd_box K _ _ rfl (by conv => lhs; whnf)) ?_; clear K; rintro _ w1 ⟨g, rfl, K⟩; (try dsimp only [Value.cells] at K)) | ((with_reducible refine at_alloc rfl ?_); refine wpList_does rfl (kd_alloc K _ rfl rfl) ?_; clear K; rintro _ w1 ⟨g, rfl, K⟩; (try dsimp only [Value.cells] at K)) | ((with_reducible refine at_buildSlice rfl ?_); refine wpList_does rfl (kd_lits (cs := _) K _ _ _ rfl (by first | rfl | (go_simp; done) | (go_simp; rfl)) (by first | rfl | (go_simp; done) | (go_simp; rfl))) ?_; clear K; rintro _ w1 ⟨g, rfl, K⟩) | ((with_reducible refine at_load rfl ?_); first | (refine wpList_reads (by rfl) (kr_load_cell K _ _ (by rfl) (by rfl) (by repeat (first | with_reducible exact Has.hd _ _ | with_reducible refine Has.tl _ ?_ | with_reducible refine Has.ap _ ?_)) (by decide +kernel) (by (try simp only [List.getElem?_toArray, List.getElem?_cons_succ, List.getElem?_cons_zero]); exact rfl)) ?_) | (refine wpList_reads (by rfl) (kr_load_row K _ _ (by rfl) (by rfl) (by repeat (first | with_reducible exact Has.hd _ _ | with_reducible refine Has.tl _ ?_ | with_reducible refine Has.ap _ ?_)) (by decide +kernel) (by kernel_rfl)) ?_)) | ((with_reducible refine at_store rfl ?_); (first | (refine wpList_does rfl (kd_store_cell K _ _ _ rfl rfl (by conv => lhs; whnf) (by repeat (first | with_reducible exact Repl.hd _ _ _ | with_reducible apply Repl.tl | with_reducible apply Repl.ap)) rfl rfl (by kernel_rfl) (by kernel_rfl) (by first | (simp only [List.setIfInBounds_toArray, List.set_cons_succ, List.set_cons_zero]; rfl) | rfl)) ?_) | (refine wpList_does rfl (kd_store_row K _ _ _ rfl rfl rfl (by repeat (first | with_reducible exact Repl.hd _ _ _ | with_reducible apply Repl.tl | with_reducible apply Repl.ap)) (by kernel_rfl) (by kernel_rfl) (by kernel_rfl)) ?_)); clear K; intro _ w1 K; (try simp only [Act.put])))
        go_ret
        exact ⟨_, _, _, rfl, Lib.hid (by simp [sbs]), X, by simpa [sbs] using O, K.cov (by repeat (first | with_reducible exact Cov.all _ | with_reducible exact Cov.left _ _ | with_reducible exact Cov.nil _ | (with_reducible apply Cov.app; (· repeat (first | with_reducible exact Sel.nil _ | with_reducible exact Sel.ap _ _ | with_reducible exact Sel.hd _ _ | with_reducible exact Sel.all _ | with_reducible apply Sel.tl | with_reducible apply Sel.sk))) | (with_reducible apply Cov.cons; (· repeat (first | with_reducible exact Sel.nil _ | with_reducible exact Sel.ap _ _ | with_reducible exact Sel.hd _ _ | with_reducible exact Sel.all _ | with_reducible apply Sel.tl | with_reducible apply Sel.sk))) | with_reducible refine Cov.drop _ ?_ | with_reducible refine Cov.skip _ ?_))⟩
      · go_wp2_with (first | (at_builtin; refine wpList_does rfl (kd_appendN K _ _ rfl rfl rfl (by with_reducible assumption) (by repeat (first | with_reducible exact Seg.nil _ | with_reducible exact Seg.all _ | with_reducible exact Seg.ap _ _ | with_reducible exact Seg.hd _ _ | with_reducible apply Seg.tl | with_reducible apply Seg.sk)) (Rd.ofBlk (n := 1) (xs := [_]) (K.blk (by repeat (first | with_reducible exact Has.hd _ _ | with_reducible refine Has.tl _ ?_ | with_reducible refine Has.ap _ ?_))) rfl rfl) (by kernel_rfl) (by kernel_rfl) (by omega)) ?_; clear K; rintro _ w1 ⟨A1, c1, X1, rfl, O, K⟩; (try simp only [Nat.zero_add, List.nil_append] at O)) | ((with_reducible refine at_eqnil rfl ?_); refine wpList_reads rfl (kr_eqnil rfl rfl (by kernel_rfl)) ?_) | ((with_reducible refine at_box rfl ?_); refine wpList_does rfl (kd_box K _ _ rfl (by conv => lhs; whnf)) ?_; clear K; rintro _ w1 ⟨g, rfl, K⟩; (try dsimp only [Value.cells] at K)) | ((with_reducible refine at_alloc rfl ?_); refine wpList_does rfl (kd_alloc K _ rfl rfl) ?_; clear K; rintro _ w1 ⟨g, rfl, K⟩; (try dsimp only [Value.cells] at K)) | ((with_reducible refine at_buildSlice rfl ?_); refine wpList_does rfl (kd_lits (cs := _) K _ _ _ rfl (by first | rfl | (go_simp; done) | (go_simp; rfl)) (by first | rfl | (go_simp; done) | (go_simp; rfl))) ?_; clear K; rintro _ w1 ⟨g, rfl, K⟩) | ((with_reducible refine at_load rfl ?_); first | (refine wpList_reads (by rfl) (kr_load_cell K _ _ (by rfl) (by rfl) (by repeat (first | with_reducible exact Has.hd _ _ | with_reducible refine Has.tl _ ?_ | with_reducible refine Has.ap _ ?_)) (by decide +kernel) (by (try simp only [List.getElem?_toArray, List.getElem?_cons_succ, List.getElem?_cons_zero]); exact rfl)) ?_) | (refine wpList_reads (by rfl) (kr_load_row K _ _ (by rfl) (by rfl) (by repeat (first | with_reducible exact Has.hd _ _ | with_reducible refine Has.tl _ ?_ | with_reducible refine Has.ap _ ?_)) (by decide +kernel) (by kernel_rfl)) ?_)) | ((with_reducible refine at_store rfl ?_); (first | (refine wpList_does rfl (kd_store_cell K _ _ _ rfl rfl (by conv => lhs; whnf) (by repeat (first | with_reducible exact Repl.hd _ _ _ | with_reducible apply Repl.tl | with_reducible apply Repl.ap)) rfl rfl (by kernel_rfl) (by kernel_rfl) (by first | (simp only [List.setIfInBounds_toArray, List.set_cons_succ, List.set_cons_zero]; rfl) | rfl)) ?_) | (refine wpList_does rfl (kd_store_row K _ _ _ rfl rfl rfl (by repeat (first | with_reducible exact Repl.hd _ _ _ | with_reducible apply Repl.tl | with_reducible apply Repl.ap)) (by kernel_rfl) (by kernel_rfl) (by kernel_rfl)) ?_)); clear K; intro _ w1 K; (try simp only [Act.put])))
        go_ret
        exact ⟨_, _, _, rfl, Lib.hid (by simp [sbs]), X1, by rw [sbs, if_pos rfl, List.replicate_succ']; exact O, K.cov (by repeat (first | with_reducible exact Cov.all _ | with_reducible exact Cov.left _ _ | with_reducible exact Cov.nil _ | (with_reducible apply Cov.app; (· repeat (first | with_reducible exact Sel.nil _ | with_reducible exact Sel.ap _ _ | with_reducible exact Sel.hd _ _ | with_reducible exact Sel.all _ | with_reducible apply Sel.tl | with_reducible apply Sel.sk))) | (with_reducible apply Cov.cons; (· repeat (first | with_reducible exact Sel.nil _ | with_reducible exact Sel.ap _ _ | with_reducible exact Sel.hd _ _ | with_reducible exact Sel.all _ | with_reducible apply Sel.tl | with_reducible apply Sel.sk))) | with_reducible refine Cov.drop _ ?_ | with_reducible refine Cov.skip _ ?_))⟩
set_option maxRecDepth 100000 in
theorem sgreat_any {l : List Stp} (K : Known w0 w L) (R : RdM w0 L stC 5 A n l) (hc : n ≤ c) : Calls Try.prog 44 #[.slice A n c] w fun e w' => e = .returned (.bool (greatB l)) ∧ w = w' := by
  have hl := R.len
  by_cases h0 : 60 < n
  · have hb : decide (60 < (n : Int)) = true := decide_eq_true (by omega)
    have HG := Lib.hid (show greatB l = true by rw [greatB, decide_eq_true (by omega)]; rfl)
    clear hl
    go_enter Try.func44, Try.ntmps44
    go_wp2
    go_ret
    exact ⟨by rw [HG.out]; rfl, rfl⟩
  · have hb : decide (60 < (n : Int)) = false := decide_eq_false (by omega)
    have HG := Lib.hid (show greatB l = l.any (fun s => decide (60 < s.n)) by rw [greatB, decide_eq_false (by omega)]; rfl)
    go_enter Try.func44, Try.ntmps44
    go_upto_region 4 with (fail)
    go_loopg [3] n (fun d v wr => ∃ (j : Nat), v = .int .i64 j ∧ j + d = n ∧ wr = w ∧ Hid (l.any (fun s => decide (60 < s.n)) = (l.drop j).any fun s => decide (60 < s.n)))
    case atStart => exact ⟨0, by go_num, by omega, rfl, Lib.hid rfl⟩
    case round =>
      obtain ⟨j, rfl, hd, rfl, HE⟩ := hrel
      by_cases hj : j < n
      · have hj2 : decide ((j : Int) < (n : Int)) = true := decide_eq_true (by omega)
        have hjj : (0 : Int) ≤ (j : Int) ∧ (j : Int) < (n : Int) := by omega
        have i1 := IntWalk.i64_in ((j : Int) + 1) (by omega)
        obtain ⟨b, off, rfl⟩ := R.form K (by omega)
        obtain ⟨p, hp⟩ : ∃ p, p = l[j]'(by omega) := ⟨_, rfl⟩
        have HP := Lib.hid (show encAt stC l j = [.int .i64 p.kind, .int .i64 p.i, .int .u8 p.b, .bool p.long, .slice p.A p.n p.c] by rw [encAt_get (by omega), ← hp]; rfl)
        have HD := Lib.hid (show (l.drop j).any (fun s => decide (60 < s.n)) = (decide (60 < p.n) || (l.drop (j + 1)).any fun s => decide (60 < s.n)) by rw [List.drop_eq_getElem_cons (by omega), hp]; rfl)
        clear hp hl
        by_cases hg : 60 < p.n
        · have hg2 : decide (60 < (p.n : Int)) = true := decide_eq_true (by omega)
          go_wp2_with (first | ((with_reducible refine at_load rfl ?_); refine wpList_reads (by rfl) (kr_load_rcell K _ _ (by rfl) (j) 4 (by rfl) R (by omega) HP.out (by rfl) (by omega) (by kernel_rfl)) ?_))
          go_ret
          exact ⟨by rw [HG.out, HE.out, HD.out, decide_eq_true hg]; rfl, rfl⟩
        · have hg2 : decide (60 < (p.n : Int)) = false := decide_eq_false (by omega)
          go_wp2_with (first | ((with_reducible refine at_load rfl ?_); refine wpList_reads (by rfl) (kr_load_rcell K _ _ (by rfl) (j) 4 (by rfl) R (by omega) HP.out (by rfl) (by omega) (by kernel_rfl)) ?_))
          go_roundg (gk - 1)
          case measure => omega
          case rel => exact ⟨j + 1, by go_num, by omega, rfl, Lib.hid (by rw [HE.out, HD.out, decide_eq_false hg]; rfl)⟩
      · have hj2 : decide ((j : Int) < (n : Int)) = false := decide_eq_false (by omega)
        go_wp2
        go_ret
        exact ⟨by rw [HG.out, HE.out, List.drop_eq_nil_of_le (by omega)]; rfl, rfl⟩
end
end Go.Proofs.Ytokbloddaoakgaa
