/-
  Package inflate: the states, where nothing is thrown (contracts): ends, begins, raw, symbols.
-/
import Derived.Test.YtemnahimheffgaaInfB
set_option linter.unusedVariables false
set_option linter.unusedSimpArgs false
namespace Go.Proofs.Ytemnahimheffgaa
open Go.RowKit
theorem if_s_out (x : Ifl) (A : Option Addr) (n c : Nat) : (ifC x).setIfInBounds 1 (.slice A n c) = ifC { x with O := A, on := n, oc := c } := rfl
theorem if_s_rest (x : Ifl) (A : Option Addr) (n c : Nat) : (ifC x).setIfInBounds 2 (.slice A n c) = ifC { x with R := A, rn := n, rc := c } := rfl
theorem if_s_from (x : Ifl) (v : Int) : (ifC x).setIfInBounds 3 (.int .i64 v) = ifC { x with from_ := v } := rfl
theorem if_s_r (x : Ifl) (v : Value) : (ifC x).setIfInBounds 4 v = ifC { x with r := v } := rfl
theorem if_s_next (x : Ifl) (v : Value) : (ifC x).setIfInBounds 5 v = ifC { x with next := v } := rfl
theorem if_s_last (x : Ifl) (v : Bool) : (ifC x).setIfInBounds 6 (.bool v) = ifC { x with last := v } := rfl
theorem if_s_left (x : Ifl) (v : Int) : (ifC x).setIfInBounds 7 (.int .i64 v) = ifC { x with left := v } := rfl
theorem if_s_lit (x : Ifl) (v : Value) : (ifC x).setIfInBounds 8 v = ifC { x with lit := v } := rfl
theorem if_s_dist (x : Ifl) (v : Value) : (ifC x).setIfInBounds 9 v = ifC { x with dist := v } := rfl
theorem if_s_e (x : Ifl) (v : Int) : (ifC x).setIfInBounds 10 (.int .i64 v) = ifC { x with e := v } := rfl


section
variable {w0 w : World} {L Xr : List Ent} {gx gr p : Nat} {x : Ifl} {bs : List Int}
set_option maxRecDepth 100000 in
theorem iends_last (K : Known w0 w (Xr ++ (row gx (ifC x) 53 :: L))) (hR : Rdr gr bs p Xr) (hr : x.r = ptr' gr) (hl : x.last = true) : Calls Try.prog 53 #[ptr' gx] w fun e w' => e = .returned .nilFunc ∧ ∃ X', Rdr gr bs ((p + 7) / 8 * 8) X' ∧ Known w0 w' (X' ++ (row gx (ifC x) 53 :: L)) := by
  go_enter Try.func53, Try.ntmps53
  go_wp2_with (first | (((with_reducible refine at_load rfl ?_); first | (refine wpList_reads (by rfl) (kr_load_cell K _ _ (by rfl) (by rfl) Has.auto (by decide +kernel) (if_most _)) ?_) | (refine wpList_reads (by rfl) (kr_load_cell K _ _ (by rfl) (by rfl) Has.auto (by decide +kernel) (if_out _)) ?_) | (refine wpList_reads (by rfl) (kr_load_cell K _ _ (by rfl) (by rfl) Has.auto (by decide +kernel) (if_rest _)) ?_) | (refine wpList_reads (by rfl) (kr_load_cell K _ _ (by rfl) (by rfl) Has.auto (by decide +kernel) (if_from _)) ?_) | (refine wpList_reads (by rfl) (kr_load_cell K _ _ (by rfl) (by rfl) Has.auto (by decide +kernel) (if_r _)) ?_) | (refine wpList_reads (by rfl) (kr_load_cell K _ _ (by rfl) (by rfl) Has.auto (by decide +kernel) (if_next _)) ?_) | (refine wpList_reads (by rfl) (kr_load_cell K _ _ (by rfl) (by rfl) Has.auto (by decide +kernel) (if_last _)) ?_) | (refine wpList_reads (by rfl) (kr_load_cell K _ _ (by rfl) (by rfl) Has.auto (by decide +kernel) (if_left _)) ?_) | (refine wpList_reads (by rfl) (kr_load_cell K _ _ (by rfl) (by rfl) Has.auto (by decide +kernel) (if_lit _)) ?_) | (refine wpList_reads (by rfl) (kr_load_cell K _ _ (by rfl) (by rfl) Has.auto (by decide +kernel) (if_dist _)) ?_) | (refine wpList_reads (by rfl) (kr_load_cell K _ _ (by rfl) (by rfl) Has.auto (by decide +kernel) (if_e _)) ?_)); (try dsimp only)) | (go_at_call 39; (with_reducible refine (ralign_any (K.pickS (by repeat (first | with_reducible exact Sel.nil _ | with_reducible exact Sel.ap _ _ | with_reducible exact Sel.hd _ _ | with_reducible exact Sel.all _ | with_reducible apply Sel.tl | with_reducible apply Sel.sk))) hR).mono ?_); clear K; rintro e w1 ⟨rfl, X1, hR1, K⟩))
  · go_ret
    exact ⟨rfl, X1, hR1, K⟩
  · exact absurd (‹x.last = false›) (by rw [hl]; simp)
set_option maxHeartbeats 800000 in
set_option maxRecDepth 100000 in
theorem ibegins_fixed (K : Known w0 w (Xr ++ (row gx (ifC x) 53 :: L))) (hR : Rdr gr bs p Xr) (hr : x.r = ptr' gr) (hp : p + 3 ≤ 8 * bs.length) (la : Nat) (h1 : bitsAt (ofBytes bs) p 1 = la) (h2 : bitsAt (ofBytes bs) (p + 1) 2 = 1) (b : Bool) (hb : ((la : Int) == 1) = b) :
    Calls Try.prog 23 #[ptr' gx] w fun e w' => e = .returned (fnI 44) ∧ ∃ g1 g2 T1 T2 X', TbIs g1 fixL T1 ∧ TbIs g2 fixD T2 ∧ Rdr gr bs (p + 3) X' ∧ Known w0 w' (T1 ++ (T2 ++ (X' ++ (row gx (ifC { x with lit := ptr' g1, dist := ptr' g2, last := b }) 53 :: L)))) := by
  have HB := Lib.hid hb
  go_enter Try.func23, Try.ntmps23
  go_wp2_with (first | (go_at_call 37; (with_reducible refine (inum_yes (K.pickS (by repeat (first | with_reducible exact Sel.nil _ | with_reducible exact Sel.ap _ _ | with_reducible exact Sel.hd _ _ | with_reducible exact Sel.all _ | with_reducible apply Sel.tl | with_reducible apply Sel.sk))) Has.auto (by first | rfl | exact hr) hX1 2 _ (by omega) (by omega) (by omega) _ h2).mono ?_); clear K; rintro e w1 ⟨rfl, X2, hX2, K⟩) | (go_at_call 37; (with_reducible refine (inum_yes (K.pickS (by repeat (first | with_reducible exact Sel.nil _ | with_reducible exact Sel.ap _ _ | with_reducible exact Sel.hd _ _ | with_reducible exact Sel.all _ | with_reducible apply Sel.tl | with_reducible apply Sel.sk))) Has.auto (by first | rfl | exact hr) hR 1 _ (by omega) (by omega) (by omega) _ h1).mono ?_); clear K; rintro e w1 ⟨rfl, X1, hX1, K⟩) | (go_at_call 38; (with_reducible refine (ibad_no K _).mono ?_); clear K; rintro e w1 ⟨rfl, K⟩) | (go_at_call 42; (with_reducible refine (fixed_any K).mono ?_); clear K; rintro e w1 ⟨g1, g2, rfl, T1, T2, hT1, hT2, K⟩) | (((with_reducible refine at_store rfl ?_); first | (refine wpList_does (by rfl) (kd_store_cell K _ _ _ (by rfl) (by rfl) (by conv => lhs; whnf) Repl.auto (by rfl) (by rfl) (by decide +kernel) (by rfl) (if_s_out _ _ _ _)) ?_) | (refine wpList_does (by rfl) (kd_store_cell K _ _ _ (by rfl) (by rfl) (by conv => lhs; whnf) Repl.auto (by rfl) (by rfl) (by decide +kernel) (by rfl) (if_s_rest _ _ _ _)) ?_) | (refine wpList_does (by rfl) (kd_store_cell K _ _ _ (by rfl) (by rfl) (by conv => lhs; whnf) Repl.auto (by rfl) (by rfl) (by decide +kernel) (by rfl) (if_s_from _ _)) ?_) | (refine wpList_does (by rfl) (kd_store_cell K _ _ _ (by rfl) (by rfl) (by conv => lhs; whnf) Repl.auto (by rfl) (by rfl) (by decide +kernel) (by rfl) (if_s_r _ _)) ?_) | (refine wpList_does (by rfl) (kd_store_cell K _ _ _ (by rfl) (by rfl) (by conv => lhs; whnf) Repl.auto (by rfl) (by rfl) (by decide +kernel) (by rfl) (if_s_next _ _)) ?_) | (refine wpList_does (by rfl) (kd_store_cell K _ _ _ (by rfl) (by rfl) (by conv => lhs; whnf) Repl.auto (by rfl) (by rfl) (by decide +kernel) (by rfl) (if_s_last _ _)) ?_) | (refine wpList_does (by rfl) (kd_store_cell K _ _ _ (by rfl) (by rfl) (by conv => lhs; whnf) Repl.auto (by rfl) (by rfl) (by decide +kernel) (by rfl) (if_s_left _ _)) ?_) | (refine wpList_does (by rfl) (kd_store_cell K _ _ _ (by rfl) (by rfl) (by conv => lhs; whnf) Repl.auto (by rfl) (by rfl) (by decide +kernel) (by rfl) (if_s_lit _ _)) ?_) | (refine wpList_does (by rfl) (kd_store_cell K _ _ _ (by rfl) (by rfl) (by conv => lhs; whnf) Repl.auto (by rfl) (by rfl) (by decide +kernel) (by rfl) (if_s_dist _ _)) ?_) | (refine wpList_does (by rfl) (kd_store_cell K _ _ _ (by rfl) (by rfl) (by conv => lhs; whnf) Repl.auto (by rfl) (by rfl) (by decide +kernel) (by rfl) (if_s_e _ _)) ?_)); clear K; intro _ w1 K; (try dsimp only at K)) | (((with_reducible refine at_load rfl ?_); first | (refine wpList_reads (by rfl) (kr_load_cell K _ _ (by rfl) (by rfl) Has.auto (by decide +kernel) (if_most _)) ?_) | (refine wpList_reads (by rfl) (kr_load_cell K _ _ (by rfl) (by rfl) Has.auto (by decide +kernel) (if_out _)) ?_) | (refine wpList_reads (by rfl) (kr_load_cell K _ _ (by rfl) (by rfl) Has.auto (by decide +kernel) (if_rest _)) ?_) | (refine wpList_reads (by rfl) (kr_load_cell K _ _ (by rfl) (by rfl) Has.auto (by decide +kernel) (if_from _)) ?_) | (refine wpList_reads (by rfl) (kr_load_cell K _ _ (by rfl) (by rfl) Has.auto (by decide +kernel) (if_r _)) ?_) | (refine wpList_reads (by rfl) (kr_load_cell K _ _ (by rfl) (by rfl) Has.auto (by decide +kernel) (if_next _)) ?_) | (refine wpList_reads (by rfl) (kr_load_cell K _ _ (by rfl) (by rfl) Has.auto (by decide +kernel) (if_last _)) ?_) | (refine wpList_reads (by rfl) (kr_load_cell K _ _ (by rfl) (by rfl) Has.auto (by decide +kernel) (if_left _)) ?_) | (refine wpList_reads (by rfl) (kr_load_cell K _ _ (by rfl) (by rfl) Has.auto (by decide +kernel) (if_lit _)) ?_) | (refine wpList_reads (by rfl) (kr_load_cell K _ _ (by rfl) (by rfl) Has.auto (by decide +kernel) (if_dist _)) ?_) | (refine wpList_reads (by rfl) (kr_load_cell K _ _ (by rfl) (by rfl) Has.auto (by decide +kernel) (if_e _)) ?_)); (try dsimp only)))
  go_ret
  exact ⟨rfl, g1, g2, T1, T2, X2, hT1, hT2, hX2, K⟩


set_option maxHeartbeats 800000 in
set_option maxRecDepth 100000 in
theorem ibegins_stored (K : Known w0 w (Xr ++ (row gx (ifC x) 53 :: L))) (hR : Rdr gr bs p Xr) (hr : x.r = ptr' gr) (P : Nat) (hP : (p + 3 + 7) / 8 * 8 = P) (hp : P + 32 ≤ 8 * bs.length) (la n : Nat) (h1 : bitsAt (ofBytes bs) p 1 = la) (h2 : bitsAt (ofBytes bs) (p + 1) 2 = 0) (h3 : bitsAt (ofBytes bs) P 16 = n) (h4 : bitsAt (ofBytes bs) (P + 16) 16 = 65535 - n) (hn : n ≤ 65535) (hm : 0 ≤ x.most ∧ x.most ≤ 9223372036854775807) (hon : x.on ≤ 1000000000) (hroom : (n : Int) ≤ x.most - x.on) (b : Bool) (hb : ((la : Int) == 1) = b) :
    Calls Try.prog 23 #[ptr' gx] w fun e w' => e = .returned (fnI 41) ∧ ∃ X', Rdr gr bs (P + 32) X' ∧ Known w0 w' (X' ++ (row gx (ifC { x with last := b, left := (n : Int) }) 53 :: L)) := by
  have HB := Lib.hid hb
  have HPP := Lib.hid (show (p + 1 + 2 + 7) / 8 * 8 = P from hP)
  have j1 := IntWalk.i64_in ((n : Int) + ((65535 - n : Nat) : Int)) (by omega)
  have j2 : (n : Int) + ((65535 - n : Nat) : Int) = 65535 := by omega
  have H3 := Lib.hid h3
  have H4 := Lib.hid h4
  obtain ⟨m, hmm⟩ : ∃ m, 65535 - n = m := ⟨_, rfl⟩
  rw [hmm] at j1 j2 h4
  clear h3
  go_enter Try.func23, Try.ntmps23
  go_wp2_with (first | (go_at_call 37; (with_reducible refine (inum_yes (K.pickS (by repeat (first | with_reducible exact Sel.nil _ | with_reducible exact Sel.ap _ _ | with_reducible exact Sel.hd _ _ | with_reducible exact Sel.all _ | with_reducible apply Sel.tl | with_reducible apply Sel.sk))) Has.auto (by first | rfl | exact hr) hX4 16 _ (by omega) (by omega) (by omega) _ h4).mono ?_); clear K; rintro e w1 ⟨rfl, X5, hX5, K⟩) | (go_at_call 37; (with_reducible refine (inum_yes (K.pickS (by repeat (first | with_reducible exact Sel.nil _ | with_reducible exact Sel.ap _ _ | with_reducible exact Sel.hd _ _ | with_reducible exact Sel.all _ | with_reducible apply Sel.tl | with_reducible apply Sel.sk))) Has.auto (by first | rfl | exact hr) hX3 16 _ (by omega) (by omega) (by omega) _ H3.out).mono ?_); clear K; rintro e w1 ⟨rfl, X4, hX4, K⟩) | (go_at_call 37; (with_reducible refine (inum_yes (K.pickS (by repeat (first | with_reducible exact Sel.nil _ | with_reducible exact Sel.ap _ _ | with_reducible exact Sel.hd _ _ | with_reducible exact Sel.all _ | with_reducible apply Sel.tl | with_reducible apply Sel.sk))) Has.auto (by first | rfl | exact hr) hX1 2 _ (by omega) (by omega) (by omega) _ h2).mono ?_); clear K; rintro e w1 ⟨rfl, X2, hX2, K⟩) | (go_at_call 37; (with_reducible refine (inum_yes (K.pickS (by repeat (first | with_reducible exact Sel.nil _ | with_reducible exact Sel.ap _ _ | with_reducible exact Sel.hd _ _ | with_reducible exact Sel.all _ | with_reducible apply Sel.tl | with_reducible apply Sel.sk))) Has.auto (by first | rfl | exact hr) hR 1 _ (by omega) (by omega) (by omega) _ h1).mono ?_); clear K; rintro e w1 ⟨rfl, X1, hX1, K⟩) | (go_at_call 39; (with_reducible refine (ralign_any (K.pickS (by repeat (first | with_reducible exact Sel.nil _ | with_reducible exact Sel.ap _ _ | with_reducible exact Sel.hd _ _ | with_reducible exact Sel.all _ | with_reducible apply Sel.tl | with_reducible apply Sel.sk))) hX2).mono ?_); clear K; rintro e w1 ⟨rfl, X3, hX3, K⟩; rw [HPP.out] at hX3) | (go_at_call 38; (with_reducible refine (ibad_no K _).mono ?_); clear K; rintro e w1 ⟨rfl, K⟩) | (go_at_call 40; (with_reducible refine (iroom_yes K Has.auto _ hm (by omega) (by omega)).mono ?_); clear K; rintro e w1 ⟨rfl, K⟩) | (((with_reducible refine at_store rfl ?_); first | (refine wpList_does (by rfl) (kd_store_cell K _ _ _ (by rfl) (by rfl) (by conv => lhs; whnf) Repl.auto (by rfl) (by rfl) (by decide +kernel) (by rfl) (if_s_out _ _ _ _)) ?_) | (refine wpList_does (by rfl) (kd_store_cell K _ _ _ (by rfl) (by rfl) (by conv => lhs; whnf) Repl.auto (by rfl) (by rfl) (by decide +kernel) (by rfl) (if_s_rest _ _ _ _)) ?_) | (refine wpList_does (by rfl) (kd_store_cell K _ _ _ (by rfl) (by rfl) (by conv => lhs; whnf) Repl.auto (by rfl) (by rfl) (by decide +kernel) (by rfl) (if_s_from _ _)) ?_) | (refine wpList_does (by rfl) (kd_store_cell K _ _ _ (by rfl) (by rfl) (by conv => lhs; whnf) Repl.auto (by rfl) (by rfl) (by decide +kernel) (by rfl) (if_s_r _ _)) ?_) | (refine wpList_does (by rfl) (kd_store_cell K _ _ _ (by rfl) (by rfl) (by conv => lhs; whnf) Repl.auto (by rfl) (by rfl) (by decide +kernel) (by rfl) (if_s_next _ _)) ?_) | (refine wpList_does (by rfl) (kd_store_cell K _ _ _ (by rfl) (by rfl) (by conv => lhs; whnf) Repl.auto (by rfl) (by rfl) (by decide +kernel) (by rfl) (if_s_last _ _)) ?_) | (refine wpList_does (by rfl) (kd_store_cell K _ _ _ (by rfl) (by rfl) (by conv => lhs; whnf) Repl.auto (by rfl) (by rfl) (by decide +kernel) (by rfl) (if_s_left _ _)) ?_) | (refine wpList_does (by rfl) (kd_store_cell K _ _ _ (by rfl) (by rfl) (by conv => lhs; whnf) Repl.auto (by rfl) (by rfl) (by decide +kernel) (by rfl) (if_s_lit _ _)) ?_) | (refine wpList_does (by rfl) (kd_store_cell K _ _ _ (by rfl) (by rfl) (by conv => lhs; whnf) Repl.auto (by rfl) (by rfl) (by decide +kernel) (by rfl) (if_s_dist _ _)) ?_) | (refine wpList_does (by rfl) (kd_store_cell K _ _ _ (by rfl) (by rfl) (by conv => lhs; whnf) Repl.auto (by rfl) (by rfl) (by decide +kernel) (by rfl) (if_s_e _ _)) ?_)); clear K; intro _ w1 K; (try dsimp only at K)) | (((with_reducible refine at_load rfl ?_); first | (refine wpList_reads (by rfl) (kr_load_cell K _ _ (by rfl) (by rfl) Has.auto (by decide +kernel) (if_most _)) ?_) | (refine wpList_reads (by rfl) (kr_load_cell K _ _ (by rfl) (by rfl) Has.auto (by decide +kernel) (if_out _)) ?_) | (refine wpList_reads (by rfl) (kr_load_cell K _ _ (by rfl) (by rfl) Has.auto (by decide +kernel) (if_rest _)) ?_) | (refine wpList_reads (by rfl) (kr_load_cell K _ _ (by rfl) (by rfl) Has.auto (by decide +kernel) (if_from _)) ?_) | (refine wpList_reads (by rfl) (kr_load_cell K _ _ (by rfl) (by rfl) Has.auto (by decide +kernel) (if_r _)) ?_) | (refine wpList_reads (by rfl) (kr_load_cell K _ _ (by rfl) (by rfl) Has.auto (by decide +kernel) (if_next _)) ?_) | (refine wpList_reads (by rfl) (kr_load_cell K _ _ (by rfl) (by rfl) Has.auto (by decide +kernel) (if_last _)) ?_) | (refine wpList_reads (by rfl) (kr_load_cell K _ _ (by rfl) (by rfl) Has.auto (by decide +kernel) (if_left _)) ?_) | (refine wpList_reads (by rfl) (kr_load_cell K _ _ (by rfl) (by rfl) Has.auto (by decide +kernel) (if_lit _)) ?_) | (refine wpList_reads (by rfl) (kr_load_cell K _ _ (by rfl) (by rfl) Has.auto (by decide +kernel) (if_dist _)) ?_) | (refine wpList_reads (by rfl) (kr_load_cell K _ _ (by rfl) (by rfl) Has.auto (by decide +kernel) (if_e _)) ?_)); (try dsimp only)))
  go_ret
  exact ⟨rfl, X5, hX5, K⟩


set_option maxRecDepth 100000 in
theorem iraw_end (K : Known w0 w (Xr ++ (row gx (ifC x) 53 :: L))) (hR : Rdr gr bs p Xr) (hr : x.r = ptr' gr) (hla : x.last = true) (hl : x.left = 0) : Calls Try.prog 41 #[ptr' gx] w fun e w' => e = .returned .nilFunc ∧ ∃ X', Rdr gr bs ((p + 7) / 8 * 8) X' ∧ Known w0 w' (X' ++ (row gx (ifC x) 53 :: L)) := by
  go_enter Try.func41, Try.ntmps41
  go_wp2_with (first | (((with_reducible refine at_load rfl ?_); first | (refine wpList_reads (by rfl) (kr_load_cell K _ _ (by rfl) (by rfl) Has.auto (by decide +kernel) (if_most _)) ?_) | (refine wpList_reads (by rfl) (kr_load_cell K _ _ (by rfl) (by rfl) Has.auto (by decide +kernel) (if_out _)) ?_) | (refine wpList_reads (by rfl) (kr_load_cell K _ _ (by rfl) (by rfl) Has.auto (by decide +kernel) (if_rest _)) ?_) | (refine wpList_reads (by rfl) (kr_load_cell K _ _ (by rfl) (by rfl) Has.auto (by decide +kernel) (if_from _)) ?_) | (refine wpList_reads (by rfl) (kr_load_cell K _ _ (by rfl) (by rfl) Has.auto (by decide +kernel) (if_r _)) ?_) | (refine wpList_reads (by rfl) (kr_load_cell K _ _ (by rfl) (by rfl) Has.auto (by decide +kernel) (if_next _)) ?_) | (refine wpList_reads (by rfl) (kr_load_cell K _ _ (by rfl) (by rfl) Has.auto (by decide +kernel) (if_last _)) ?_) | (refine wpList_reads (by rfl) (kr_load_cell K _ _ (by rfl) (by rfl) Has.auto (by decide +kernel) (if_left _)) ?_) | (refine wpList_reads (by rfl) (kr_load_cell K _ _ (by rfl) (by rfl) Has.auto (by decide +kernel) (if_lit _)) ?_) | (refine wpList_reads (by rfl) (kr_load_cell K _ _ (by rfl) (by rfl) Has.auto (by decide +kernel) (if_dist _)) ?_) | (refine wpList_reads (by rfl) (kr_load_cell K _ _ (by rfl) (by rfl) Has.auto (by decide +kernel) (if_e _)) ?_)); (try dsimp only)) | (go_at_call 53; (with_reducible refine (iends_last (K.pickS (by repeat (first | with_reducible exact Sel.nil _ | with_reducible exact Sel.ap _ _ | with_reducible exact Sel.hd _ _ | with_reducible exact Sel.all _ | with_reducible apply Sel.tl | with_reducible apply Sel.sk))) hR hr hla).mono ?_); clear K; rintro e w1 ⟨rfl, X4, hX4, K⟩))
  all_goals first | (go_ret; exact ⟨rfl, X4, hX4, K⟩) | (exfalso; omega) | (exfalso; simp_all)
set_option maxHeartbeats 800000 in
set_option maxRecDepth 100000 in
theorem iraw_some {XO : List Ent} {os : List Int} (K : Known w0 w (Xr ++ (row gx (ifC x) 53 :: (XO ++ L)))) (hR : Rdr gr bs p Xr) (hr : x.r = ptr' gr) (O : OwnL 5 1 x.O x.on x.oc (os.map (Value.int .u8)) XO) (n : Nat) (hl : x.left = (n : Int)) (h0 : 0 < n) (hn : (p + 7) / 8 + n ≤ bs.length) (ho : x.on ≤ 1000000000) :
    Calls Try.prog 41 #[ptr' gx] w fun e w' => e = .returned (fnI 41) ∧ ∃ A c XO' X', OwnL 5 1 A (x.on + n) c ((os ++ (bs.drop ((p + 7) / 8)).take n).map (Value.int .u8)) XO' ∧ Rdr gr bs (((p + 7) / 8 + n) * 8) X' ∧ Known w0 w' (X' ++ (row gx (ifC { x with O := A, on := x.on + n, oc := c, left := 0 }) 53 :: (XO' ++ L))) := by
  have hlen := hR.len
  have hle := hR.le
  obtain ⟨lq, hlq⟩ : ∃ lq, (8 * bs.length - p) / 8 = lq := ⟨_, rfl⟩
  have HLV := Lib.hid (show 8 * (bs.length : Int) - p = ((8 * bs.length - p : Nat) : Int) by omega)
  have HLQ := Lib.hid hlq
  have HRN := Lib.hid hn
  have j1 : min (n : Int) (lq : Int) = n := by omega
  have j2 : ((n : Int) == 0) = false := by
    have : ¬ (n : Int) = 0 := by omega
    simpa using this
  have j3 := IntWalk.i64_in ((n : Int) - (n : Int)) (by omega)
  have j4 : (n : Int) - (n : Int) = 0 := by omega
  have hn9 : n ≤ 1000000000 := by omega
  clear hlq hn
  go_enter Try.func41, Try.ntmps41
  go_upto_region 3 with ((first | (((with_reducible refine at_load rfl ?_); first | (refine wpList_reads (by rfl) (kr_load_cell K _ _ (by rfl) (by rfl) Has.auto (by decide +kernel) (if_most _)) ?_) | (refine wpList_reads (by rfl) (kr_load_cell K _ _ (by rfl) (by rfl) Has.auto (by decide +kernel) (if_out _)) ?_) | (refine wpList_reads (by rfl) (kr_load_cell K _ _ (by rfl) (by rfl) Has.auto (by decide +kernel) (if_rest _)) ?_) | (refine wpList_reads (by rfl) (kr_load_cell K _ _ (by rfl) (by rfl) Has.auto (by decide +kernel) (if_from _)) ?_) | (refine wpList_reads (by rfl) (kr_load_cell K _ _ (by rfl) (by rfl) Has.auto (by decide +kernel) (if_r _)) ?_) | (refine wpList_reads (by rfl) (kr_load_cell K _ _ (by rfl) (by rfl) Has.auto (by decide +kernel) (if_next _)) ?_) | (refine wpList_reads (by rfl) (kr_load_cell K _ _ (by rfl) (by rfl) Has.auto (by decide +kernel) (if_last _)) ?_) | (refine wpList_reads (by rfl) (kr_load_cell K _ _ (by rfl) (by rfl) Has.auto (by decide +kernel) (if_left _)) ?_) | (refine wpList_reads (by rfl) (kr_load_cell K _ _ (by rfl) (by rfl) Has.auto (by decide +kernel) (if_lit _)) ?_) | (refine wpList_reads (by rfl) (kr_load_cell K _ _ (by rfl) (by rfl) Has.auto (by decide +kernel) (if_dist _)) ?_) | (refine wpList_reads (by rfl) (kr_load_cell K _ _ (by rfl) (by rfl) Has.auto (by decide +kernel) (if_e _)) ?_)); (try dsimp only))))
  refine wp_region_GK (X := [row gx (ifC x) 53]) K Cov.auto (by kernel_rfl) (by kernel_rfl) (by kernel_rfl) (fun K hHeld => ?_)
  refine wpG_takeA 0 (v := ?_) ?_ hHeld ?_
  rotate_left
  · (intro w hS; (clear hS; go_simp); try with_reducible rfl)
  try simp only [Act.put, List.setIfInBounds_toArray, List.set_cons_zero, List.set_cons_succ]
  refine wpG_takeA 1 (v := ?_) ?_ hHeld ?_
  rotate_left
  · (intro w hS; (clear hS; go_simp); try with_reducible rfl)
  try simp only [Act.put, List.setIfInBounds_toArray, List.set_cons_zero, List.set_cons_succ]
  refine wpG_takeA 2 (v := ?_) ?_ hHeld ?_
  rotate_left
  · (intro w hS; (clear hS; go_simp); try with_reducible rfl)
  try simp only [Act.put, List.setIfInBounds_toArray, List.set_cons_zero, List.set_cons_succ]
  refine wpG_takeA 3 (v := .int .i64 x.left) ?_ hHeld ?_
  · (intro w hS; first | exact kr_load_cell hS _ _ (by rfl) (by rfl) Has.auto (by kernel_rfl) (if_left _))
  try simp only [Act.put, List.setIfInBounds_toArray, List.set_cons_zero, List.set_cons_succ]
  refine wpG_takeA 4 (v := ?_) ?_ hHeld ?_
  rotate_left
  · (intro w hS; (clear hS; go_simp); try with_reducible rfl)
  try simp only [Act.put, List.setIfInBounds_toArray, List.set_cons_zero, List.set_cons_succ]
  refine wpG_takeA 5 (v := ?_) ?_ hHeld ?_
  rotate_left
  · (intro w hS; (clear hS; go_simp); try with_reducible rfl)
  try simp only [Act.put, List.setIfInBounds_toArray, List.set_cons_zero, List.set_cons_succ]
  refine wpG_takeA 6 (v := ?_) ?_ hHeld ?_
  rotate_left
  · (intro w hS; (clear hS; go_simp); try with_reducible rfl)
  try simp only [Act.put, List.setIfInBounds_toArray, List.set_cons_zero, List.set_cons_succ]
  refine wpG_takeA 7 (v := x.r) ?_ hHeld ?_
  · (intro w hS; first | exact kr_load_cell hS _ _ (by rfl) (by rfl) Has.auto (by kernel_rfl) (if_r _))
  try simp only [Act.put, List.setIfInBounds_toArray, List.set_cons_zero, List.set_cons_succ]
  refine wpG_oneA 8 (fun K9 hK => ?_)
  go_simp
  (go_at_call 27; (with_reducible refine (rleft_any (K.pickS (by repeat (first | with_reducible exact Sel.nil _ | with_reducible exact Sel.ap _ _ | with_reducible exact Sel.hd _ _ | with_reducible exact Sel.all _ | with_reducible apply Sel.tl | with_reducible apply Sel.sk))) hR _ HLV.out).mono ?_); clear K; rintro e w1 ⟨rfl, K⟩)
  refine hK.out _ _ (K.cov Cov.auto) (fun hHeld => ?_)
  clear hK K9
  try simp only [Act.put, List.setIfInBounds_toArray, List.set_cons_zero, List.set_cons_succ]
  refine wpG_takeA 9 (v := .int .i64 (lq : Nat)) ?_ hHeld ?_
  · (intro w hS; first | exact kr_quo8 (u := 8 * bs.length - p) (v := lq) (by rfl) (by rfl) (by rfl) (by omega) HLQ.out)
  try simp only [Act.put, List.setIfInBounds_toArray, List.set_cons_zero, List.set_cons_succ]
  refine wpG_takeA 10 (v := ?_) ?_ hHeld ?_
  rotate_left
  · (intro w hS; (clear hS; go_simp); try with_reducible rfl)
  try simp only [Act.put, List.setIfInBounds_toArray, List.set_cons_zero, List.set_cons_succ]
  refine wpG_takeA 11 (v := ?_) ?_ hHeld ?_
  rotate_left
  · (intro w hS; (clear hS; go_simp); try with_reducible rfl)
  try simp only [Act.put, List.setIfInBounds_toArray, List.set_cons_zero, List.set_cons_succ]
  refine wpG_done (by kernel_rfl) ?_
  skip
  go_wp2_with (first | (((with_reducible refine at_load rfl ?_); first | (refine wpList_reads (by rfl) (kr_load_cell K _ _ (by rfl) (by rfl) Has.auto (by decide +kernel) (if_most _)) ?_) | (refine wpList_reads (by rfl) (kr_load_cell K _ _ (by rfl) (by rfl) Has.auto (by decide +kernel) (if_out _)) ?_) | (refine wpList_reads (by rfl) (kr_load_cell K _ _ (by rfl) (by rfl) Has.auto (by decide +kernel) (if_rest _)) ?_) | (refine wpList_reads (by rfl) (kr_load_cell K _ _ (by rfl) (by rfl) Has.auto (by decide +kernel) (if_from _)) ?_) | (refine wpList_reads (by rfl) (kr_load_cell K _ _ (by rfl) (by rfl) Has.auto (by decide +kernel) (if_r _)) ?_) | (refine wpList_reads (by rfl) (kr_load_cell K _ _ (by rfl) (by rfl) Has.auto (by decide +kernel) (if_next _)) ?_) | (refine wpList_reads (by rfl) (kr_load_cell K _ _ (by rfl) (by rfl) Has.auto (by decide +kernel) (if_last _)) ?_) | (refine wpList_reads (by rfl) (kr_load_cell K _ _ (by rfl) (by rfl) Has.auto (by decide +kernel) (if_left _)) ?_) | (refine wpList_reads (by rfl) (kr_load_cell K _ _ (by rfl) (by rfl) Has.auto (by decide +kernel) (if_lit _)) ?_) | (refine wpList_reads (by rfl) (kr_load_cell K _ _ (by rfl) (by rfl) Has.auto (by decide +kernel) (if_dist _)) ?_) | (refine wpList_reads (by rfl) (kr_load_cell K _ _ (by rfl) (by rfl) Has.auto (by decide +kernel) (if_e _)) ?_)); (try dsimp only)) | (go_at_call 38; (with_reducible refine (ibad_no K _).mono ?_); clear K; rintro e w1 ⟨rfl, K⟩) | (go_at_call 54; (with_reducible refine (rraw_any (K.pickS (by repeat (first | with_reducible exact Sel.nil _ | with_reducible exact Sel.ap _ _ | with_reducible exact Sel.hd _ _ | with_reducible exact Sel.all _ | with_reducible apply Sel.tl | with_reducible apply Sel.sk))) hR n HRN.out).mono ?_); clear K; rintro e w1 ⟨A3, c3, rfl, Z3, X3, O3, hR3, K⟩) | (at_builtin; refine wpList_does rfl (kd_appendN K _ _ rfl rfl rfl O Seg.auto ((RdS.own (w0 := w0) (L := Z3) (xs := (bs.drop ((p + 7) / 8)).take n) O3 (Seg.all Z3)).at_ _ (K.cov Cov.auto)) (by kernel_rfl) (by kernel_rfl) (by omega)) ?_; clear K; rintro _ w1 ⟨A4, c4, X4, rfl, O4, K⟩; (try simp only [Nat.zero_add, List.nil_append] at O4)) | (((with_reducible refine at_store rfl ?_); first | (refine wpList_does (by rfl) (kd_store_cell K _ _ _ (by rfl) (by rfl) (by conv => lhs; whnf) Repl.auto (by rfl) (by rfl) (by decide +kernel) (by rfl) (if_s_out _ _ _ _)) ?_) | (refine wpList_does (by rfl) (kd_store_cell K _ _ _ (by rfl) (by rfl) (by conv => lhs; whnf) Repl.auto (by rfl) (by rfl) (by decide +kernel) (by rfl) (if_s_rest _ _ _ _)) ?_) | (refine wpList_does (by rfl) (kd_store_cell K _ _ _ (by rfl) (by rfl) (by conv => lhs; whnf) Repl.auto (by rfl) (by rfl) (by decide +kernel) (by rfl) (if_s_from _ _)) ?_) | (refine wpList_does (by rfl) (kd_store_cell K _ _ _ (by rfl) (by rfl) (by conv => lhs; whnf) Repl.auto (by rfl) (by rfl) (by decide +kernel) (by rfl) (if_s_r _ _)) ?_) | (refine wpList_does (by rfl) (kd_store_cell K _ _ _ (by rfl) (by rfl) (by conv => lhs; whnf) Repl.auto (by rfl) (by rfl) (by decide +kernel) (by rfl) (if_s_next _ _)) ?_) | (refine wpList_does (by rfl) (kd_store_cell K _ _ _ (by rfl) (by rfl) (by conv => lhs; whnf) Repl.auto (by rfl) (by rfl) (by decide +kernel) (by rfl) (if_s_last _ _)) ?_) | (refine wpList_does (by rfl) (kd_store_cell K _ _ _ (by rfl) (by rfl) (by conv => lhs; whnf) Repl.auto (by rfl) (by rfl) (by decide +kernel) (by rfl) (if_s_left _ _)) ?_) | (refine wpList_does (by rfl) (kd_store_cell K _ _ _ (by rfl) (by rfl) (by conv => lhs; whnf) Repl.auto (by rfl) (by rfl) (by decide +kernel) (by rfl) (if_s_lit _ _)) ?_) | (refine wpList_does (by rfl) (kd_store_cell K _ _ _ (by rfl) (by rfl) (by conv => lhs; whnf) Repl.auto (by rfl) (by rfl) (by decide +kernel) (by rfl) (if_s_dist _ _)) ?_) | (refine wpList_does (by rfl) (kd_store_cell K _ _ _ (by rfl) (by rfl) (by conv => lhs; whnf) Repl.auto (by rfl) (by rfl) (by decide +kernel) (by rfl) (if_s_e _ _)) ?_)); clear K; intro _ w1 K; (try dsimp only at K)))
  go_ret
  exact ⟨rfl, A4, c4, X4, X3, O4, hR3, K.cov Cov.auto⟩


set_option maxHeartbeats 800000 in
set_option maxRecDepth 100000 in
theorem isymbols_end {Xt : List Ent} {gt : Nat} {l : List Int} (K : Known w0 w (Xt ++ (Xr ++ (row gx (ifC x) 53 :: L)))) (hT : TbIs gt l Xt) (hl256 : l.length ≤ 300) (hR : Rdr gr bs p Xr) (hr : x.r = ptr' gr) (hlit : x.lit = ptr' gt) (hla : x.last = true) (q : Nat) (hs : nextT l (ofBytes bs) p = (256, q, 0)) : Calls Try.prog 44 #[ptr' gx] w fun e w' => e = .returned .nilFunc ∧ ∃ X', Rdr gr bs ((q + 7) / 8 * 8) X' ∧ Known w0 w' (X' ++ (row gx (ifC x) 53 :: L)) := by
  have HSY := Lib.hid (show ∀ w1, Known w0 w1 (Xt ++ (Xr ++ (row gx (ifC x) 53 :: L))) → _ from fun w1 K => isym_yes K Has.auto hr hT hR hl256 256 q hs)
  go_enter Try.func44, Try.ntmps44
  go_wp2_with (first | (((with_reducible refine at_load rfl ?_); first | (refine wpList_reads (by rfl) (kr_load_cell K _ _ (by rfl) (by rfl) Has.auto (by decide +kernel) (if_most _)) ?_) | (refine wpList_reads (by rfl) (kr_load_cell K _ _ (by rfl) (by rfl) Has.auto (by decide +kernel) (if_out _)) ?_) | (refine wpList_reads (by rfl) (kr_load_cell K _ _ (by rfl) (by rfl) Has.auto (by decide +kernel) (if_rest _)) ?_) | (refine wpList_reads (by rfl) (kr_load_cell K _ _ (by rfl) (by rfl) Has.auto (by decide +kernel) (if_from _)) ?_) | (refine wpList_reads (by rfl) (kr_load_cell K _ _ (by rfl) (by rfl) Has.auto (by decide +kernel) (if_r _)) ?_) | (refine wpList_reads (by rfl) (kr_load_cell K _ _ (by rfl) (by rfl) Has.auto (by decide +kernel) (if_next _)) ?_) | (refine wpList_reads (by rfl) (kr_load_cell K _ _ (by rfl) (by rfl) Has.auto (by decide +kernel) (if_last _)) ?_) | (refine wpList_reads (by rfl) (kr_load_cell K _ _ (by rfl) (by rfl) Has.auto (by decide +kernel) (if_left _)) ?_) | (refine wpList_reads (by rfl) (kr_load_cell K _ _ (by rfl) (by rfl) Has.auto (by decide +kernel) (if_lit _)) ?_) | (refine wpList_reads (by rfl) (kr_load_cell K _ _ (by rfl) (by rfl) Has.auto (by decide +kernel) (if_dist _)) ?_) | (refine wpList_reads (by rfl) (kr_load_cell K _ _ (by rfl) (by rfl) Has.auto (by decide +kernel) (if_e _)) ?_)); (try dsimp only)) | (go_at_call 59; (with_reducible refine (HSY.out _ K).mono ?_); clear K; rintro e w1 ⟨rfl, X3, hR3, K⟩) | (go_at_call 53; (with_reducible refine (iends_last (L := Xt ++ L) (K.cov Cov.auto) hR3 hr hla).mono ?_); clear K; rintro e w1 ⟨rfl, X4, hX4, K⟩))
  go_ret
  exact ⟨rfl, X4, hX4, K.cov Cov.auto⟩
end
end Go.Proofs.Ytemnahimheffgaa
