/-
  sha: the reference's padding and sum (contracts).
-/
import Derived.Test.YtokbloddaoakgaaShaF
import Derived.Test.YtokbloddaoakgaaR
set_option linter.unusedVariables false
set_option linter.unusedSimpArgs false
namespace Go.Proofs.Ytokbloddaoakgaa
open Go.RowKit
theorem padA_succ (z : Nat) : padA (z + 1) = padA z ++ [0] := by
  unfold padA
  rw [show 1 + (z + 1) = (1 + z) + 1 by omega, List.range_succ, List.map_append]
  simp
theorem padA_zero : padA 0 = [128] := rfl
def padP (n j : Nat) : List Int := (List.range j).map fun j => ((8 * n / 2 ^ (56 - 8 * j) % 256 : Nat) : Int)
theorem padP_succ (n j : Nat) : padP n (j + 1) = padP n j ++ [8 * (n : Int) / 2 ^ (56 - 8 * j) % 256] := by
  have e0 : 8 * (n : Int) / 2 ^ (56 - 8 * j) % 256 = ((8 * n / 2 ^ (56 - 8 * j) % 256 : Nat) : Int) := by rw [Int.natCast_emod, Int.natCast_ediv, Int.natCast_mul, Int.natCast_pow]; rfl
  rw [e0]
  unfold padP
  rw [List.range_succ, List.map_append]
  rfl
theorem zerosN_lt (n z : Nat) (h : z ≤ zerosN n) : (n + (1 + z)) % 64 = 56 ↔ z = zerosN n := by
  unfold zerosN at *
  omega
section
variable {w0 w : World} {L : List Ent} {A : Option Addr} {n c : Nat} {xs : List Int}
set_option maxHeartbeats 800000 in
set_option maxRecDepth 100000 in
theorem rpadded_any (K : Known w0 w L) (R : RdS w0 L .u8 A n xs) (hc : n ≤ c) (hm : c ≤ 9223372036854775807) (hn : n ≤ 1000000000) :
    Calls Try.prog 86 #[.slice A n c] w fun e w' => ∃ A' c' X, e = .returned (.slice A' (64 * padN n) c') ∧ OwnL 5 1 A' (64 * padN n) c' ((xs ++ padA (zerosN n) ++ padL n).map (Value.int .u8)) X ∧ Known w0 w' (X ++ L) := by
  have i1 := IntWalk.u64_in (n : Int) (by omega)
  have i2 := IntWalk.u64_in (8 * (n : Int)) (by omega)
  have i3 := IntWalk.u64_in ((n : Int) * 8) (by omega)
  have e3 : (n : Int) * 8 = 8 * (n : Int) := by omega
  go_enter Try.func86, Try.ntmps86
  go_wp2_with (first | ((with_reducible refine at_buildSlice (n := 0) rfl ?_); refine wpList_does rfl (kd_lit0 K _ 5 1 rfl Try.underlying24 (by kernel_rfl)) ?_; clear K; rintro _ w1 ⟨g, rfl, K⟩; have O : OwnL 5 1 (some ⟨g, 0, none⟩) 0 0 (([] : List Int).map (Value.int .u8)) [row g #[] 5] := OwnL.lit0 _ _) | (at_builtin; refine wpList_does rfl (kd_appendN K _ _ rfl rfl rfl (by with_reducible assumption) (by repeat (first | with_reducible exact Seg.nil _ | with_reducible exact Seg.all _ | with_reducible exact Seg.ap _ _ | with_reducible exact Seg.hd _ _ | with_reducible apply Seg.tl | with_reducible apply Seg.sk)) (R.get K (by repeat (first | with_reducible exact Cov.all _ | with_reducible exact Cov.left _ _ | with_reducible exact Cov.nil _ | (with_reducible apply Cov.app; (· repeat (first | with_reducible exact Sel.nil _ | with_reducible exact Sel.ap _ _ | with_reducible exact Sel.hd _ _ | with_reducible exact Sel.all _ | with_reducible apply Sel.tl | with_reducible apply Sel.sk))) | (with_reducible apply Cov.cons; (· repeat (first | with_reducible exact Sel.nil _ | with_reducible exact Sel.ap _ _ | with_reducible exact Sel.hd _ _ | with_reducible exact Sel.all _ | with_reducible apply Sel.tl | with_reducible apply Sel.sk))) | with_reducible refine Cov.drop _ ?_ | with_reducible refine Cov.skip _ ?_))) (by kernel_rfl) (by kernel_rfl) (by omega)) ?_; clear K; rintro _ w1 ⟨A1, c1, X1, rfl, O, K⟩; (try simp only [Nat.zero_add, List.nil_append] at O)) | (at_builtin; refine wpList_does rfl (kd_appendN K _ _ rfl rfl rfl (by with_reducible assumption) (by repeat (first | with_reducible exact Seg.nil _ | with_reducible exact Seg.all _ | with_reducible exact Seg.ap _ _ | with_reducible exact Seg.hd _ _ | with_reducible apply Seg.tl | with_reducible apply Seg.sk)) (Rd.ofBlk (n := 1) (xs := [_]) (K.blk (by repeat (first | with_reducible exact Has.hd _ _ | with_reducible refine Has.tl _ ?_ | with_reducible refine Has.ap _ ?_))) rfl rfl) (by kernel_rfl) (by kernel_rfl) (by omega)) ?_; clear K; rintro _ w1 ⟨A2, c2, X2, rfl, O, K⟩; (try simp only [Nat.zero_add, List.nil_append] at O)) | ((with_reducible refine at_eqnil rfl ?_); refine wpList_reads rfl (kr_eqnil rfl rfl (by kernel_rfl)) ?_) | ((with_reducible refine at_box rfl ?_); refine wpList_does rfl (kd_box K _ _ rfl (by conv => lhs; whnf)) ?_; clear K; rintro _ w1 ⟨g, rfl, K⟩; (try dsimp only [Value.cells] at K)) | ((with_reducible refine at_alloc rfl ?_); refine wpList_does rfl (kd_alloc K _ rfl rfl) ?_; clear K; rintro _ w1 ⟨g, rfl, K⟩; (try dsimp only [Value.cells] at K)) | ((with_reducible refine at_buildSlice rfl ?_); refine wpList_does rfl (kd_lits (cs := _) K _ _ _ rfl (by first | rfl | (go_simp; done) | (go_simp; rfl)) (by first | rfl | (go_simp; done) | (go_simp; rfl))) ?_; clear K; rintro _ w1 ⟨g, rfl, K⟩) | ((with_reducible refine at_load rfl ?_); first | (refine wpList_reads (by rfl) (kr_load_cell K _ _ (by rfl) (by rfl) (by repeat (first | with_reducible exact Has.hd _ _ | with_reducible refine Has.tl _ ?_ | with_reducible refine Has.ap _ ?_)) (by decide +kernel) (by (try simp only [List.getElem?_toArray, List.getElem?_cons_succ, List.getElem?_cons_zero]); exact rfl)) ?_) | (refine wpList_reads (by rfl) (kr_load_row K _ _ (by rfl) (by rfl) (by repeat (first | with_reducible exact Has.hd _ _ | with_reducible refine Has.tl _ ?_ | with_reducible refine Has.ap _ ?_)) (by decide +kernel) (by kernel_rfl)) ?_)) | ((with_reducible refine at_store rfl ?_); (first | (refine wpList_does rfl (kd_store_cell K _ _ _ rfl rfl (by conv => lhs; whnf) (by repeat (first | with_reducible exact Repl.hd _ _ _ | with_reducible apply Repl.tl | with_reducible apply Repl.ap)) rfl rfl (by kernel_rfl) (by kernel_rfl) (by first | (simp only [List.setIfInBounds_toArray, List.set_cons_succ, List.set_cons_zero]; rfl) | rfl)) ?_) | (refine wpList_does rfl (kd_store_row K _ _ _ rfl rfl rfl (by repeat (first | with_reducible exact Repl.hd _ _ _ | with_reducible apply Repl.tl | with_reducible apply Repl.ap)) (by kernel_rfl) (by kernel_rfl) (by kernel_rfl)) ?_)); clear K; intro _ w1 K; (try simp only [Act.put])))
  rw [show xs ++ [128] = xs ++ padA 0 from rfl] at O
  go_loopg [3] (zerosN n) (fun d v wr => ∃ (z q : Nat) (A' : Option Addr) (c' : Nat) (X : List Ent), v = .slice A' q c' ∧ z + d = zerosN n ∧ Hid (q = n + (1 + z)) ∧ q ≤ 2000000000 ∧ OwnL 5 1 A' q c' ((xs ++ padA z).map (Value.int .u8)) X ∧ Known w0 wr (X ++ L))
  case atStart => exact ⟨0, n + 1, _, _, _, rfl, by omega, Lib.hid (by omega), by omega, O, K.cov (by repeat (first | with_reducible exact Cov.all _ | with_reducible exact Cov.left _ _ | with_reducible exact Cov.nil _ | (with_reducible apply Cov.app; (· repeat (first | with_reducible exact Sel.nil _ | with_reducible exact Sel.ap _ _ | with_reducible exact Sel.hd _ _ | with_reducible exact Sel.all _ | with_reducible apply Sel.tl | with_reducible apply Sel.sk))) | (with_reducible apply Cov.cons; (· repeat (first | with_reducible exact Sel.nil _ | with_reducible exact Sel.ap _ _ | with_reducible exact Sel.hd _ _ | with_reducible exact Sel.all _ | with_reducible apply Sel.tl | with_reducible apply Sel.sk))) | with_reducible refine Cov.drop _ ?_ | with_reducible refine Cov.skip _ ?_))⟩
  case round =>
    clear K O
    obtain ⟨z, q, A', c', X, rfl, hd, HQ, hq9, O, K⟩ := hrel
    have hq := HQ.out
    have hz64 : zerosN n < 64 := by unfold zerosN; omega
    have hzl := zerosN_lt n z (by omega)
    rw [← hq] at hzl
    by_cases hz : z = zerosN n
    · have h56 : (q : Int) % 64 = 56 := by have := hzl.2 hz; omega
      have hq2 : q + 8 = 64 * padN n := by have := pad_total n; omega
      subst hz
      have HQ2 := Lib.hid hq2
      clear hq hzl hq2
      go_upto_region 8 with (fail)
      clear h56
      go_loopg [3, 5] 8 (fun d v i wr => ∃ (j q' : Nat) (A' : Option Addr) (c' : Nat) (X : List Ent), i = .int .i64 j ∧ v = .slice A' q' c' ∧ j + d = 8 ∧ Hid (q' = q + j) ∧ q' ≤ 3000000000 ∧ OwnL 5 1 A' q' c' ((xs ++ padA (zerosN n) ++ padP n j).map (Value.int .u8)) X ∧ Known w0 wr (X ++ L))
      case atStart => exact ⟨0, q, _, _, _, by go_num, rfl, by omega, Lib.hid rfl, by omega, by simpa [padP] using O, K⟩
      case round =>
        clear K O
        obtain ⟨j, q', A', c', X, rfl, rfl, hd, HQ', hq9', O, K⟩ := hrel
        by_cases hj : j < 8
        · have hj8 : (j : Int) < 8 := by omega
          have j1 := IntWalk.i64_in (8 * (j : Int)) (by omega)
          have j2 := IntWalk.i64_in (56 - 8 * (j : Int)) (by omega)
          go_wp2_with (first | ((with_reducible refine at_bin (b := .shr) rfl ?_); refine wpList_reads rfl (kr_shrU (56 - 8 * j) rfl rfl (by first | rfl | omega | (simp; omega)) (by omega) (by show _ ≤ _; simp [IntKind.bits]; omega)) ?_) | (at_builtin; refine wpList_does rfl (kd_appendN K _ _ rfl rfl rfl (by with_reducible assumption) (by repeat (first | with_reducible exact Seg.nil _ | with_reducible exact Seg.all _ | with_reducible exact Seg.ap _ _ | with_reducible exact Seg.hd _ _ | with_reducible apply Seg.tl | with_reducible apply Seg.sk)) (Rd.ofBlk (n := 1) (xs := [_]) (K.blk (by repeat (first | with_reducible exact Has.hd _ _ | with_reducible refine Has.tl _ ?_ | with_reducible refine Has.ap _ ?_))) rfl rfl) (by kernel_rfl) (by kernel_rfl) (by omega)) ?_; clear K; rintro _ w1 ⟨A1, c1, X1, rfl, O, K⟩; (try simp only [Nat.zero_add, List.nil_append] at O)) | ((with_reducible refine at_eqnil rfl ?_); refine wpList_reads rfl (kr_eqnil rfl rfl (by kernel_rfl)) ?_) | ((with_reducible refine at_box rfl ?_); refine wpList_does rfl (kd_box K _ _ rfl (by conv => lhs; whnf)) ?_; clear K; rintro _ w1 ⟨g, rfl, K⟩; (try dsimp only [Value.cells] at K)) | ((with_reducible refine at_alloc rfl ?_); refine wpList_does rfl (kd_alloc K _ rfl rfl) ?_; clear K; rintro _ w1 ⟨g, rfl, K⟩; (try dsimp only [Value.cells] at K)) | ((with_reducible refine at_buildSlice rfl ?_); refine wpList_does rfl (kd_lits (cs := _) K _ _ _ rfl (by first | rfl | (go_simp; done) | (go_simp; rfl)) (by first | rfl | (go_simp; done) | (go_simp; rfl))) ?_; clear K; rintro _ w1 ⟨g, rfl, K⟩) | ((with_reducible refine at_load rfl ?_); first | (refine wpList_reads (by rfl) (kr_load_cell K _ _ (by rfl) (by rfl) (by repeat (first | with_reducible exact Has.hd _ _ | with_reducible refine Has.tl _ ?_ | with_reducible refine Has.ap _ ?_)) (by decide +kernel) (by (try simp only [List.getElem?_toArray, List.getElem?_cons_succ, List.getElem?_cons_zero]); exact rfl)) ?_) | (refine wpList_reads (by rfl) (kr_load_row K _ _ (by rfl) (by rfl) (by repeat (first | with_reducible exact Has.hd _ _ | with_reducible refine Has.tl _ ?_ | with_reducible refine Has.ap _ ?_)) (by decide +kernel) (by kernel_rfl)) ?_)) | ((with_reducible refine at_store rfl ?_); (first | (refine wpList_does rfl (kd_store_cell K _ _ _ rfl rfl (by conv => lhs; whnf) (by repeat (first | with_reducible exact Repl.hd _ _ _ | with_reducible apply Repl.tl | with_reducible apply Repl.ap)) rfl rfl (by kernel_rfl) (by kernel_rfl) (by first | (simp only [List.setIfInBounds_toArray, List.set_cons_succ, List.set_cons_zero]; rfl) | rfl)) ?_) | (refine wpList_does rfl (kd_store_row K _ _ _ rfl rfl rfl (by repeat (first | with_reducible exact Repl.hd _ _ _ | with_reducible apply Repl.tl | with_reducible apply Repl.ap)) (by kernel_rfl) (by kernel_rfl) (by kernel_rfl)) ?_)); clear K; intro _ w1 K; (try simp only [Act.put])))
          go_roundg (gk - 1)
          case measure => omega
          case rel => exact ⟨j + 1, _, _, _, _, by go_num, rfl, by omega, Lib.hid (by have := HQ'.out; omega), by have := HQ'.out; omega, by rw [padP_succ, ← List.append_assoc]; exact O, K.cov (by repeat (first | with_reducible exact Cov.all _ | with_reducible exact Cov.left _ _ | with_reducible exact Cov.nil _ | (with_reducible apply Cov.app; (· repeat (first | with_reducible exact Sel.nil _ | with_reducible exact Sel.ap _ _ | with_reducible exact Sel.hd _ _ | with_reducible exact Sel.all _ | with_reducible apply Sel.tl | with_reducible apply Sel.sk))) | (with_reducible apply Cov.cons; (· repeat (first | with_reducible exact Sel.nil _ | with_reducible exact Sel.ap _ _ | with_reducible exact Sel.hd _ _ | with_reducible exact Sel.all _ | with_reducible apply Sel.tl | with_reducible apply Sel.sk))) | with_reducible refine Cov.drop _ ?_ | with_reducible refine Cov.skip _ ?_))⟩
        · obtain rfl : j = 8 := by omega
          go_wp2
          go_ret
          have e9 : q' = 64 * padN n := by have := HQ'.out; have := HQ2.out; omega
          subst e9
          exact ⟨A', c', X, rfl, O, K⟩
    · have h56 : ¬ ((q : Int) % 64 = 56) := fun h => hz (hzl.1 (by omega))
      clear hq hzl
      go_wp2_with (first | (at_builtin; refine wpList_does rfl (kd_appendN K _ _ rfl rfl rfl (by with_reducible assumption) (by repeat (first | with_reducible exact Seg.nil _ | with_reducible exact Seg.all _ | with_reducible exact Seg.ap _ _ | with_reducible exact Seg.hd _ _ | with_reducible apply Seg.tl | with_reducible apply Seg.sk)) (Rd.ofBlk (n := 1) (xs := [_]) (K.blk (by repeat (first | with_reducible exact Has.hd _ _ | with_reducible refine Has.tl _ ?_ | with_reducible refine Has.ap _ ?_))) rfl rfl) (by kernel_rfl) (by kernel_rfl) (by omega)) ?_; clear K; rintro _ w1 ⟨A1, c1, X1, rfl, O, K⟩; (try simp only [Nat.zero_add, List.nil_append] at O)) | ((with_reducible refine at_eqnil rfl ?_); refine wpList_reads rfl (kr_eqnil rfl rfl (by kernel_rfl)) ?_) | ((with_reducible refine at_box rfl ?_); refine wpList_does rfl (kd_box K _ _ rfl (by conv => lhs; whnf)) ?_; clear K; rintro _ w1 ⟨g, rfl, K⟩; (try dsimp only [Value.cells] at K)) | ((with_reducible refine at_alloc rfl ?_); refine wpList_does rfl (kd_alloc K _ rfl rfl) ?_; clear K; rintro _ w1 ⟨g, rfl, K⟩; (try dsimp only [Value.cells] at K)) | ((with_reducible refine at_buildSlice rfl ?_); refine wpList_does rfl (kd_lits (cs := _) K _ _ _ rfl (by first | rfl | (go_simp; done) | (go_simp; rfl)) (by first | rfl | (go_simp; done) | (go_simp; rfl))) ?_; clear K; rintro _ w1 ⟨g, rfl, K⟩) | ((with_reducible refine at_load rfl ?_); first | (refine wpList_reads (by rfl) (kr_load_cell K _ _ (by rfl) (by rfl) (by repeat (first | with_reducible exact Has.hd _ _ | with_reducible refine Has.tl _ ?_ | with_reducible refine Has.ap _ ?_)) (by decide +kernel) (by (try simp only [List.getElem?_toArray, List.getElem?_cons_succ, List.getElem?_cons_zero]); exact rfl)) ?_) | (refine wpList_reads (by rfl) (kr_load_row K _ _ (by rfl) (by rfl) (by repeat (first | with_reducible exact Has.hd _ _ | with_reducible refine Has.tl _ ?_ | with_reducible refine Has.ap _ ?_)) (by decide +kernel) (by kernel_rfl)) ?_)) | ((with_reducible refine at_store rfl ?_); (first | (refine wpList_does rfl (kd_store_cell K _ _ _ rfl rfl (by conv => lhs; whnf) (by repeat (first | with_reducible exact Repl.hd _ _ _ | with_reducible apply Repl.tl | with_reducible apply Repl.ap)) rfl rfl (by kernel_rfl) (by kernel_rfl) (by first | (simp only [List.setIfInBounds_toArray, List.set_cons_succ, List.set_cons_zero]; rfl) | rfl)) ?_) | (refine wpList_does rfl (kd_store_row K _ _ _ rfl rfl rfl (by repeat (first | with_reducible exact Repl.hd _ _ _ | with_reducible apply Repl.tl | with_reducible apply Repl.ap)) (by kernel_rfl) (by kernel_rfl) (by kernel_rfl)) ?_)); clear K; intro _ w1 K; (try simp only [Act.put])))
      go_roundg (gk - 1)
      case measure => omega
      case rel => exact ⟨z + 1, _, _, _, _, rfl, by omega, Lib.hid (by have := HQ.out; omega), by have := HQ.out; omega, by rw [padA_succ, ← List.append_assoc]; exact O, K.cov (by repeat (first | with_reducible exact Cov.all _ | with_reducible exact Cov.left _ _ | with_reducible exact Cov.nil _ | (with_reducible apply Cov.app; (· repeat (first | with_reducible exact Sel.nil _ | with_reducible exact Sel.ap _ _ | with_reducible exact Sel.hd _ _ | with_reducible exact Sel.all _ | with_reducible apply Sel.tl | with_reducible apply Sel.sk))) | (with_reducible apply Cov.cons; (· repeat (first | with_reducible exact Sel.nil _ | with_reducible exact Sel.ap _ _ | with_reducible exact Sel.hd _ _ | with_reducible exact Sel.all _ | with_reducible apply Sel.tl | with_reducible apply Sel.sk))) | with_reducible refine Cov.drop _ ?_ | with_reducible refine Cov.skip _ ?_))⟩

set_option maxRecDepth 100000 in
theorem rroots_any (K : Known w0 w L) : Calls Try.prog 85 #[] w fun e w' => e = .returned (.agg (wcells rootK 64)) ∧ Known w0 w' L := by
  go_enter Try.func85, Try.ntmps85
  go_wp2_with (first | ((with_reducible refine at_build (t := 149) rfl ?_); refine ev_build rfl 149 rfl (vals := #[(0, Value.int .u32 1116352408), (1, Value.int .u32 1899447441), (2, Value.int .u32 3049323471), (3, Value.int .u32 3921009573), (4, Value.int .u32 961987163), (5, Value.int .u32 1508970993), (6, Value.int .u32 2453635748), (7, Value.int .u32 2870763221), (8, Value.int .u32 3624381080), (9, Value.int .u32 310598401), (10, Value.int .u32 607225278), (11, Value.int .u32 1426881987), (12, Value.int .u32 1925078388), (13, Value.int .u32 2162078206), (14, Value.int .u32 2614888103), (15, Value.int .u32 3248222580), (16, Value.int .u32 3835390401), (17, Value.int .u32 4022224774), (18, Value.int .u32 264347078), (19, Value.int .u32 604807628), (20, Value.int .u32 770255983), (21, Value.int .u32 1249150122), (22, Value.int .u32 1555081692), (23, Value.int .u32 1996064986), (24, Value.int .u32 2554220882), (25, Value.int .u32 2821834349), (26, Value.int .u32 2952996808), (27, Value.int .u32 3210313671), (28, Value.int .u32 3336571891), (29, Value.int .u32 3584528711), (30, Value.int .u32 113926993), (31, Value.int .u32 338241895), (32, Value.int .u32 666307205), (33, Value.int .u32 773529912), (34, Value.int .u32 1294757372), (35, Value.int .u32 1396182291), (36, Value.int .u32 1695183700), (37, Value.int .u32 1986661051), (38, Value.int .u32 2177026350), (39, Value.int .u32 2456956037), (40, Value.int .u32 2730485921), (41, Value.int .u32 2820302411), (42, Value.int .u32 3259730800), (43, Value.int .u32 3345764771), (44, Value.int .u32 3516065817), (45, Value.int .u32 3600352804), (46, Value.int .u32 4094571909), (47, Value.int .u32 275423344), (48, Value.int .u32 430227734), (49, Value.int .u32 506948616), (50, Value.int .u32 659060556), (51, Value.int .u32 883997877), (52, Value.int .u32 958139571), (53, Value.int .u32 1322822218), (54, Value.int .u32 1537002063), (55, Value.int .u32 1747873779), (56, Value.int .u32 1955562222), (57, Value.int .u32 2024104815), (58, Value.int .u32 2227730452), (59, Value.int .u32 2361852424), (60, Value.int .u32 2428436474), (61, Value.int .u32 2756734187), (62, Value.int .u32 3204031479), (63, Value.int .u32 3329325298)]) (by kernel_rfl) (rootK_build _) ?_) | ((with_reducible refine at_alloc rfl ?_); refine wpList_does rfl (kd_alloc (z := (.agg (wcells (fun _ => 0#32) 64))) K _ rfl (by kernel_rfl)) ?_; clear K; rintro _ w1 ⟨gr, rfl, K⟩; (try dsimp only [Value.cells] at K)) | ((with_reducible refine at_store rfl ?_); refine wpList_does (by rfl) (kd_store_row K _ _ _ (by rfl) (by rfl) (by rfl) (by repeat (first | with_reducible exact Repl.hd _ _ _ | with_reducible apply Repl.tl | with_reducible apply Repl.ap)) (by rw [fcells_size]; kernel_rfl) (by first | (rw [fcells_size, fcells_size]; rfl) | (rw [fcells_size]; rfl) | (simp only [fcells_size, u8s_size]; done) | (simp only [fcells_size, u8s_size]; rfl)) (wcells_one _ _)) ?_; clear K; intro _ w1 K; (try simp only [Act.put])))
  exact bodyPost_cellK K (by rfl) (by rfl) (by repeat (first | with_reducible exact Has.hd _ _ | with_reducible refine Has.tl _ ?_ | with_reducible refine Has.ap _ ?_)) (by kernel_rfl) (by rw [fcells_size]; kernel_rfl) rfl ⟨rfl, K.cov (by repeat (first | with_reducible exact Cov.all _ | with_reducible exact Cov.left _ _ | with_reducible exact Cov.nil _ | (with_reducible apply Cov.app; (· repeat (first | with_reducible exact Sel.nil _ | with_reducible exact Sel.ap _ _ | with_reducible exact Sel.hd _ _ | with_reducible exact Sel.all _ | with_reducible apply Sel.tl | with_reducible apply Sel.sk))) | (with_reducible apply Cov.cons; (· repeat (first | with_reducible exact Sel.nil _ | with_reducible exact Sel.ap _ _ | with_reducible exact Sel.hd _ _ | with_reducible exact Sel.all _ | with_reducible apply Sel.tl | with_reducible apply Sel.sk))) | with_reducible refine Cov.drop _ ?_ | with_reducible refine Cov.skip _ ?_))⟩
theorem start_build (w : World) : (Instr.build 148 #[(0, Value.int .u32 1779033703), (1, Value.int .u32 3144134277), (2, Value.int .u32 1013904242), (3, Value.int .u32 2773480762), (4, Value.int .u32 1359893119), (5, Value.int .u32 2600822924), (6, Value.int .u32 528734635), (7, Value.int .u32 1541459225)]).run Try.prog w = .ok (.agg (wcells S8.start.get 8)) w := by kernel_rfl
theorem dig_build (w : World) : (Instr.build 41 #[]).run Try.prog w = .ok (.agg (fcells 32 (fun _ => .int .u8 0))) w := by kernel_rfl
theorem block_at (ys : List Int) (j : Nat) : (S8.start.blocks (atL ys) j).block (fun i => ((ys.drop (64 * j)).take 64).getD i 0) = S8.start.blocks (atL ys) (j + 1) := by
  simp only [S8.blocks]
  apply S8.block_congr
  intro i hi
  unfold atL
  simp [List.getD, List.getElem?_take_of_lt hi]
theorem outC_one (s : S8) (j : Nat) : ∀ v ∈ (fcells 32 (outC s j)).toList, v.oneCell' = true := by
  intro v hv
  simp only [fcells, List.mem_map] at hv
  obtain ⟨i, _, rfl⟩ := hv
  unfold outC
  split <;> rfl
set_option maxHeartbeats 1600000 in
set_option maxRecDepth 100000 in
theorem rsum_any (K : Known w0 w L) (R : RdS w0 L .u8 A n xs) (hc : n ≤ c) (hm : c ≤ 9223372036854775807) (hb : ∀ b ∈ xs, 0 ≤ b ∧ b ≤ 255) (hn : n ≤ 1000000000) :
    Calls Try.prog 62 #[.slice A n c] w fun e w' => e = .returned (.agg (u8s (shaL xs))) ∧ Known w0 w' L := by
  have hxl := R.len
  obtain ⟨ys, hys⟩ : ∃ ys, ys = xs ++ padA (zerosN n) ++ padL n := ⟨_, rfl⟩
  have HYB := Lib.hid (show ∀ b ∈ ys, 0 ≤ b ∧ b ≤ 255 by
    rw [hys]
    intro b h
    rcases List.mem_append.1 h with h | h
    · rcases List.mem_append.1 h with h | h
      · exact hb b h
      · exact padA_byte _ b h
    · exact padL_byte _ b h)
  have HYS := Lib.hid hys
  have HST := Lib.hid (show S8.start.blocks (atL ys) (padN n) = shaS (atL xs) xs.length by rw [hys, ← hxl, sha_state])
  have HPN := Lib.hid (pad_total n)
  have hpn : padN n ≤ 16000000 := by unfold padN; omega
  obtain ⟨pn, hpne⟩ : ∃ pn, pn = padN n := ⟨_, rfl⟩
  have HPE := Lib.hid hpne
  rw [← hpne] at HST hpn
  have HXL := Lib.hid hxl
  clear hb hys hxl hpne
  go_enter Try.func62, Try.ntmps62
  go_upto_region 5 with ((first | ((with_reducible refine at_slot (N := 2) rfl ?_); (with_reducible refine at_alloc rfl ?_); refine wpList_does rfl (kd_alloc (z := (.agg (u8s (List.replicate 32 0)))) K _ rfl (by kernel_rfl)) ?_; clear K; rintro _ w1 ⟨gd, rfl, K⟩; (try dsimp only [Value.cells] at K)) | ((with_reducible refine at_build (t := 148) rfl ?_); refine ev_build rfl 148 rfl (vals := #[(0, Value.int .u32 1779033703), (1, Value.int .u32 3144134277), (2, Value.int .u32 1013904242), (3, Value.int .u32 2773480762), (4, Value.int .u32 1359893119), (5, Value.int .u32 2600822924), (6, Value.int .u32 528734635), (7, Value.int .u32 1541459225)]) (by kernel_rfl) (start_build _) ?_) | ((with_reducible refine at_slot (N := 3) rfl ?_); (with_reducible refine at_alloc rfl ?_); refine wpList_does rfl (kd_alloc (z := (.agg (wcells (fun _ => 0#32) 8))) K _ rfl (by kernel_rfl)) ?_; clear K; rintro _ w1 ⟨gs, rfl, K⟩; (try dsimp only [Value.cells] at K)) | ((with_reducible refine at_slot (N := 4) rfl ?_); (with_reducible refine at_alloc rfl ?_); refine wpList_does rfl (kd_alloc (z := (.agg (wcells (fun _ => 0#32) 64))) K _ rfl (by kernel_rfl)) ?_; clear K; rintro _ w1 ⟨gq, rfl, K⟩; (try dsimp only [Value.cells] at K)) | ((with_reducible refine at_store rfl ?_); refine wpList_does (by rfl) (kd_store_row K _ _ _ (by rfl) (by rfl) (by rfl) (by repeat (first | with_reducible exact Repl.hd _ _ _ | with_reducible apply Repl.tl | with_reducible apply Repl.ap)) (by rw [fcells_size]; kernel_rfl) (by first | (rw [fcells_size, fcells_size]; rfl) | (rw [fcells_size]; rfl) | (simp only [fcells_size, u8s_size]; done) | (simp only [fcells_size, u8s_size]; rfl)) (wcells_one _ _)) ?_; clear K; intro _ w1 K; (try simp only [Act.put])) | (go_at_call 85; (with_reducible refine (rroots_any K).mono ?_); clear K; rintro e w1 ⟨rfl, K⟩) | (go_at_call 86; (with_reducible refine (rpadded_any K (R.cov (by repeat (first | with_reducible exact Cov.all _ | with_reducible exact Cov.left _ _ | with_reducible exact Cov.nil _ | (with_reducible apply Cov.app; (· repeat (first | with_reducible exact Sel.nil _ | with_reducible exact Sel.ap _ _ | with_reducible exact Sel.hd _ _ | with_reducible exact Sel.all _ | with_reducible apply Sel.tl | with_reducible apply Sel.sk))) | (with_reducible apply Cov.cons; (· repeat (first | with_reducible exact Sel.nil _ | with_reducible exact Sel.ap _ _ | with_reducible exact Sel.hd _ _ | with_reducible exact Sel.all _ | with_reducible apply Sel.tl | with_reducible apply Sel.sk))) | with_reducible refine Cov.drop _ ?_ | with_reducible refine Cov.skip _ ?_))) hc hm hn).mono ?_); clear K; rintro e w1 ⟨A1, c1, X1, rfl, O, K⟩; rw [← HYS.out, ← HPE.out] at O; rw [← HPE.out])))
  have hcc := O.le
  have hc9 := O.cap
  go_loopg [6] pn (fun d i wr => ∃ j : Nat, i = .int .i64 (64 * (j : Int)) ∧ j + d = pn ∧ Known w0 wr (X1 ++ (row gq (wcells rootK 64) 149 :: row gs (wcells (S8.start.blocks (atL ys) j).get 8) 148 :: row gd (u8s (List.replicate 32 0)) 41 :: L)))
  case atStart => exact ⟨0, by go_num, by omega, K⟩
  case round =>
    clear K
    obtain ⟨j, rfl, hd, K⟩ := hrel
    by_cases hj : j < pn
    · have hj1 : 64 * (j : Int) < 64 * (pn : Int) := by omega
      have j1 := IntWalk.i64_in (64 * (j : Int) + 64) (by omega)
      have RC := (RdS.own (w0 := w0) (L := (X1 ++ (row gq (wcells rootK 64) 149 :: row gs (wcells (S8.start.blocks (atL ys) j).get 8) 148 :: row gd (u8s (List.replicate 32 0)) 41 :: L))) O (by repeat (first | with_reducible exact Seg.nil _ | with_reducible exact Seg.all _ | with_reducible exact Seg.ap _ _ | with_reducible exact Seg.hd _ _ | with_reducible apply Seg.tl | with_reducible apply Seg.sk))).cut (64 * j) 64 (by omega) hcc
      have HYB2 := Lib.hid (show ∀ b ∈ (ys.drop (64 * j)).take 64, 0 ≤ b ∧ b ≤ 255 from fun b h => HYB.out b (List.mem_of_mem_drop (List.mem_of_mem_take h)))
      have HBA := Lib.hid (block_at ys j)
      obtain ⟨bf, hbf⟩ : ∃ bf : Nat → Int, bf = fun i => ((ys.drop (64 * j)).take 64).getD i 0 := ⟨_, rfl⟩
      rw [← hbf] at HBA
      obtain ⟨st, hst⟩ : ∃ st, st = S8.start.blocks (atL ys) j := ⟨_, rfl⟩
      rw [← hst] at K HBA RC
      have HBF := Lib.hid hbf
      clear hbf hst
      go_upto_region 7 with (fail)
      refine wp_region_GK K (Cov.all _) (by kernel_rfl) (by kernel_rfl) (by kernel_rfl) (fun K hHeld => ?_)
      refine wpG_take (i := 0) (x := { dst := some 19, op := Op.load 148 (Operand.tmp 3), type := 148, pos := "ref.go:61", after := #[], guard := none }) (v := .agg (wcells st.get 8)) rfl (by kernel_rfl) (fun _ _ _ h => h) (Or.inl ⟨by rfl, ?_⟩) hHeld ?_
      · (intro w hS; first | exact kr_load_row hS _ _ (by rfl) (by rfl) (by repeat (first | with_reducible exact Has.hd _ _ | with_reducible refine Has.tl _ ?_ | with_reducible refine Has.ap _ ?_)) (by kernel_rfl) (by rw [fcells_size]; kernel_rfl))
      try simp only [Act.put, List.setIfInBounds_toArray, List.set_cons_zero, List.set_cons_succ]
      refine wpG_take (i := 1) (x := { dst := some 20, op := Op.move (Operand.tmp 5), type := 24, pos := "ref.go:61", after := #[], guard := none }) (v := ?_) rfl (by kernel_rfl) (fun _ _ _ h => h) (Or.inl ⟨by rfl, ?_⟩) hHeld ?_
      rotate_left
      · (intro w hS; (clear hS; go_simp); try with_reducible rfl)
      try simp only [Act.put, List.setIfInBounds_toArray, List.set_cons_zero, List.set_cons_succ]
      refine wpG_take (i := 2) (x := { dst := some 21, op := Op.move (Operand.tmp 6), type := 3, pos := "ref.go:61", after := #[], guard := none }) (v := ?_) rfl (by kernel_rfl) (fun _ _ _ h => h) (Or.inl ⟨by rfl, ?_⟩) hHeld ?_
      rotate_left
      · (intro w hS; (clear hS; go_simp); try with_reducible rfl)
      try simp only [Act.put, List.setIfInBounds_toArray, List.set_cons_zero, List.set_cons_succ]
      refine wpG_take (i := 3) (x := { dst := some 22, op := Op.move (Operand.tmp 6), type := 3, pos := "ref.go:61", after := #[], guard := none }) (v := ?_) rfl (by kernel_rfl) (fun _ _ _ h => h) (Or.inl ⟨by rfl, ?_⟩) hHeld ?_
      rotate_left
      · (intro w hS; (clear hS; go_simp); try with_reducible rfl)
      try simp only [Act.put, List.setIfInBounds_toArray, List.set_cons_zero, List.set_cons_succ]
      refine wpG_take (i := 4) (x := { dst := some 23, op := Op.binOp BinOp.add 3 (Operand.tmp 22) (Operand.const (Value.int IntKind.i64 64)) 3, type := 3, pos := "ref.go:61", after := #[{ on := 3, ground := Ground.data }], guard := none }) (v := ?_) rfl (by kernel_rfl) (fun _ _ _ h => h) (Or.inl ⟨by rfl, ?_⟩) hHeld ?_
      rotate_left
      · (intro w hS; (clear hS; go_simp); try with_reducible rfl)
      try simp only [Act.put, List.setIfInBounds_toArray, List.set_cons_zero, List.set_cons_succ]
      refine wpG_take (i := 5) (x := { dst := some 24, op := Op.slice 24 (Operand.tmp 20) (some (Operand.tmp 21)) (some (Operand.tmp 23)) none, type := 24, pos := "ref.go:61", after := #[{ on := 1, ground := Ground.data }, { on := 2, ground := Ground.data }, { on := 4, ground := Ground.data }], guard := none }) (v := .slice (cutA (A1) (c1) (64 * j)) (64) (c1 - (64 * j))) rfl (by kernel_rfl) (fun _ _ _ h => h) (Or.inl ⟨by rfl, ?_⟩) hHeld ?_
      · (intro w hS; first | exact kr_cut (by rfl) (by rfl) (64 * j) (64) (.inr ⟨_, _, by rfl, by rfl, by omega⟩) (.inr ⟨_, _, by rfl, by rfl, by omega⟩) (by omega) (by omega) Try.underlying24 (by kernel_rfl))
      try simp only [Act.put, List.setIfInBounds_toArray, List.set_cons_zero, List.set_cons_succ]
      refine wpG_take (i := 6) (x := { dst := some 25, op := Op.load 149 (Operand.tmp 4), type := 149, pos := "ref.go:61", after := #[], guard := none }) (v := .agg (wcells rootK 64)) rfl (by kernel_rfl) (fun _ _ _ h => h) (Or.inl ⟨by rfl, ?_⟩) hHeld ?_
      · (intro w hS; first | exact kr_load_row hS _ _ (by rfl) (by rfl) (by repeat (first | with_reducible exact Has.hd _ _ | with_reducible refine Has.tl _ ?_ | with_reducible refine Has.ap _ ?_)) (by kernel_rfl) (by rw [fcells_size]; kernel_rfl))
      try simp only [Act.put, List.setIfInBounds_toArray, List.set_cons_zero, List.set_cons_succ]
      refine wpG_one (i := 7) (o := { dst := some 26, op := Op.call { callee := Callee.value (Operand.func 87), args := #[Operand.tmp 19, Operand.tmp 24, Operand.tmp 25], argTypes := #[148, 24, 149] }, type := 148, pos := "ref.go:61", after := #[{ on := 0, ground := Ground.data }, { on := 5, ground := Ground.data }, { on := 6, ground := Ground.data }], guard := none }) rfl (by kernel_rfl) (fun K9 hK => ?_)
      go_simp
      (go_at_call 87; (with_reducible refine (rone_any HBF.out K RC (by omega) (by omega) HYB2.out).mono ?_); clear K; rintro e w1 ⟨rfl, K⟩)
      refine hK.out _ _ (K.cov (by repeat (first | with_reducible exact Cov.all _ | with_reducible exact Cov.left _ _ | with_reducible exact Cov.nil _ | (with_reducible apply Cov.app; (· repeat (first | with_reducible exact Sel.nil _ | with_reducible exact Sel.ap _ _ | with_reducible exact Sel.hd _ _ | with_reducible exact Sel.all _ | with_reducible apply Sel.tl | with_reducible apply Sel.sk))) | (with_reducible apply Cov.cons; (· repeat (first | with_reducible exact Sel.nil _ | with_reducible exact Sel.ap _ _ | with_reducible exact Sel.hd _ _ | with_reducible exact Sel.all _ | with_reducible apply Sel.tl | with_reducible apply Sel.sk))) | with_reducible refine Cov.drop _ ?_ | with_reducible refine Cov.skip _ ?_))) (fun hHeld => ?_)
      clear hK K9
      try simp only [Act.put, List.setIfInBounds_toArray, List.set_cons_zero, List.set_cons_succ]
      refine wpG_last (i := 8) (o := { dst := none, op := Op.store 148 (Operand.tmp 3) (Operand.tmp 26), type := 0, pos := "ref.go:61", after := #[{ on := 7, ground := Ground.data }, { on := 7, ground := Ground.chain }, { on := 0, ground := Ground.phase }, { on := 1, ground := Ground.phase }, { on := 2, ground := Ground.phase }, { on := 3, ground := Ground.phase }, { on := 4, ground := Ground.phase }, { on := 5, ground := Ground.phase }, { on := 6, ground := Ground.phase }, { on := 7, ground := Ground.phase }], guard := none }) rfl (by kernel_rfl) (fun K9 hK => ?_)
      refine st_does (by rfl) (kd_store_row K _ _ _ (by rfl) (by rfl) (by rfl) (by repeat (first | with_reducible exact Repl.hd _ _ _ | with_reducible apply Repl.tl | with_reducible apply Repl.ap)) (by rw [fcells_size]; kernel_rfl) (by first | (rw [fcells_size, fcells_size]; rfl) | (rw [fcells_size]; rfl) | (simp only [fcells_size, u8s_size]; done) | (simp only [fcells_size, u8s_size]; rfl)) (wcells_one _ _)) ?_
      clear K; intro _ w1 K
      refine hK.out _ _ ?_
      clear hK K9
      try simp only [Act.put, List.setIfInBounds_toArray, List.set_cons_zero, List.set_cons_succ]
      skip
      rw [HBA.out] at K
      go_wp2
      go_roundg (gk - 1)
      case measure => omega
      case rel => exact ⟨j + 1, by go_num, by omega, K⟩
    · obtain rfl : j = pn := by omega
      obtain ⟨st, hst⟩ : ∃ st, st = S8.start.blocks (atL ys) j := ⟨_, rfl⟩
      rw [← hst] at K HST
      clear hst
      go_upto_region 10 with ((first | ((with_reducible refine at_build (t := 41) rfl ?_); refine ev_build0 rfl 41 rfl (dig_build _) ?_) | ((with_reducible refine at_slot (N := 7) rfl ?_); (with_reducible refine at_alloc rfl ?_); refine wpList_does rfl (kd_alloc (z := (.agg (fcells 32 (fun _ => .int .u8 0)))) K _ rfl (by kernel_rfl)) ?_; clear K; rintro _ w1 ⟨go, rfl, K⟩; (try dsimp only [Value.cells] at K)) | ((with_reducible refine at_store rfl ?_); refine wpList_does (by rfl) (kd_store_row K _ _ _ (by rfl) (by rfl) (by rfl) (by repeat (first | with_reducible exact Repl.hd _ _ _ | with_reducible apply Repl.tl | with_reducible apply Repl.ap)) (by rw [fcells_size]; kernel_rfl) (by first | (rw [fcells_size, fcells_size]; rfl) | (rw [fcells_size]; rfl) | (simp only [fcells_size, u8s_size]; done) | (simp only [fcells_size, u8s_size]; rfl)) (by kernel_rfl)) ?_; clear K; intro _ w1 K; (try simp only [Act.put]))))
      rw [show (fcells 32 fun x => Value.int IntKind.u8 0) = fcells 32 (outC st 0) from fcells_congr (fun i _ => by simp [outC])] at K
      go_loopg [8] 32 (fun d i wr => ∃ (q : Nat), i = .int .i64 q ∧ q + d = 32 ∧ Known w0 wr (row go (fcells 32 (outC st q)) 41 :: (X1 ++ (row gq (wcells rootK 64) 149 :: row gs (wcells st.get 8) 148 :: row gd (u8s (List.replicate 32 0)) 41 :: L))))
      case atStart => exact ⟨0, by go_num, by omega, K⟩
      case round =>
        clear K
        obtain ⟨q, rfl, hd, K⟩ := hrel
        by_cases hq : q < 32
        · have hj8 : (q : Int) < 32 := by omega
          have hj1 : (0 : Int) ≤ (q : Int) ∧ (q : Int) < 32 := by omega
          have hj2 : (0 : Int) ≤ (q : Int) / 4 ∧ (q : Int) / 4 < 8 := by omega
          have j1 := IntWalk.i64_in (8 * ((q : Int) % 4)) (by omega)
          have j2 := IntWalk.i64_in (24 - 8 * ((q : Int) % 4)) (by omega)
          go_wp2_with (first | ((with_reducible refine at_load rfl ?_); refine wpList_reads (by rfl) (kr_load_cell K _ _ (by rfl) (by rfl) (by repeat (first | with_reducible exact Has.hd _ _ | with_reducible refine Has.tl _ ?_ | with_reducible refine Has.ap _ ?_)) (by kernel_rfl) ((wcells_at (q / 4) (by omega) (by omega)))) ?_) | ((with_reducible refine at_bin (b := .shr) rfl ?_); refine wpList_reads rfl (kr_shrU (24 - 8 * (q % 4)) rfl rfl (by first | rfl | omega | (simp; omega)) (by unfold un; omega) (by show _ ≤ _; simp [IntKind.bits]; omega)) ?_) | ((with_reducible refine at_store rfl ?_); refine wpList_does rfl (kd_store_cell K _ _ _ rfl rfl (by conv => lhs; whnf) (by repeat (first | with_reducible exact Repl.hd _ _ _ | with_reducible apply Repl.tl | with_reducible apply Repl.ap)) rfl rfl (by kernel_rfl) (by simp only [fcells_size, decide_eq_true_eq]; omega) (fcells_set _ _ (by omega))) ?_; clear K; intro _ w1 K; (try simp only [Act.put])))
          go_roundg (gk - 1)
          case measure => omega
          case rel => exact ⟨q + 1, by go_num, by omega, by rw [← outC_succ]; exact K⟩
        · obtain rfl : q = 32 := by omega
          rw [HST.out, outC_full] at K
          go_wp2_with (first | ((with_reducible refine at_load rfl ?_); refine wpList_reads (by rfl) (kr_load_row K _ _ (by rfl) (by rfl) (by repeat (first | with_reducible exact Has.hd _ _ | with_reducible refine Has.tl _ ?_ | with_reducible refine Has.ap _ ?_)) (by kernel_rfl) (by rw [u8s_size, shaL_len]; kernel_rfl)) ?_) | ((with_reducible refine at_store rfl ?_); refine wpList_does (by rfl) (kd_store_row K _ _ _ (by rfl) (by rfl) (by rfl) (by repeat (first | with_reducible exact Repl.hd _ _ _ | with_reducible apply Repl.tl | with_reducible apply Repl.ap)) (by rw [u8s_size, shaL_len]; kernel_rfl) (by rw [u8s_size, u8s_size, shaL_len]; rfl) (u8s_one _)) ?_; clear K; intro _ w1 K; (try simp only [Act.put])))
          exact bodyPost_cellK K (by rfl) (by rfl) (by repeat (first | with_reducible exact Has.hd _ _ | with_reducible refine Has.tl _ ?_ | with_reducible refine Has.ap _ ?_)) (by kernel_rfl) (by rw [u8s_size, shaL_len]; kernel_rfl) rfl ⟨rfl, K.cov (by repeat (first | with_reducible exact Cov.all _ | with_reducible exact Cov.left _ _ | with_reducible exact Cov.nil _ | (with_reducible apply Cov.app; (· repeat (first | with_reducible exact Sel.nil _ | with_reducible exact Sel.ap _ _ | with_reducible exact Sel.hd _ _ | with_reducible exact Sel.all _ | with_reducible apply Sel.tl | with_reducible apply Sel.sk))) | (with_reducible apply Cov.cons; (· repeat (first | with_reducible exact Sel.nil _ | with_reducible exact Sel.ap _ _ | with_reducible exact Sel.hd _ _ | with_reducible exact Sel.all _ | with_reducible apply Sel.tl | with_reducible apply Sel.sk))) | with_reducible refine Cov.drop _ ?_ | with_reducible refine Cov.skip _ ?_))⟩
end
end Go.Proofs.Ytokbloddaoakgaa
