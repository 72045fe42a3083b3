/-
  sha: New, Hash.Sum, Sum (contracts).
-/
import Derived.Test.YtokbloddaoakgaaShaD
set_option linter.unusedVariables false
set_option linter.unusedSimpArgs false
namespace Go.Proofs.Ytokbloddaoakgaa
open Go.RowKit

/-- the sum of bytes -/
def shaL (bs : List Int) : List Int := (List.range 32).map (shaB (atL bs) bs.length)
theorem shaL_len (bs : List Int) : (shaL bs).length = 32 := by simp [shaL]
/-- what is put behind the bytes: 128 and zeros; how many bits -/
def padA (z : Nat) : List Int := (List.range (1 + z)).map fun j => if j = 0 then 128 else 0
def padL (n : Nat) : List Int := (List.range 8).map fun j => ((8 * n / 2 ^ (56 - 8 * j) % 256 : Nat) : Int)
def zerosN (n : Nat) : Nat := (119 - n % 64) % 64
theorem padA_len (z : Nat) : (padA z).length = 1 + z := by simp [padA]
theorem padL_len (n : Nat) : (padL n).length = 8 := by simp [padL]
theorem pad_total (n : Nat) : n + (1 + zerosN n) + 8 = 64 * padN n := by
  unfold zerosN padN
  omega
theorem padded_eq (bs : List Int) (i : Nat) (hi : i < 64 * padN bs.length) : atL (bs ++ padA (zerosN bs.length) ++ padL bs.length) i = padded (atL bs) bs.length i := by
  have ht := pad_total bs.length
  unfold padded
  by_cases h1 : i < bs.length
  · rw [if_pos h1, List.append_assoc, atL_app_left h1]
  · rw [if_neg h1]
    by_cases h2 : i < bs.length + (1 + zerosN bs.length)
    · rw [atL_app_left (by rw [List.length_append, padA_len]; exact h2), atL_app_right (by omega)]
      have hr : atL (padA (zerosN bs.length)) (i - bs.length) = if i - bs.length = 0 then 128 else 0 := by
        unfold atL padA
        simp [List.getD, show i - bs.length < 1 + zerosN bs.length by omega]
      rw [hr]
      by_cases h3 : i = bs.length
      · rw [if_pos (by omega), if_pos h3]
      · rw [if_neg (by omega), if_neg h3, if_pos (by omega)]
    · rw [atL_app_right (by rw [List.length_append, padA_len]; omega), List.length_append, padA_len, if_neg (by omega), if_neg (by omega)]
      unfold atL padL
      rw [show 64 * padN bs.length - 8 = bs.length + (1 + zerosN bs.length) by omega]
      have hlt : i - (bs.length + (1 + zerosN bs.length)) < 8 := by omega
      simp [List.getD, List.getElem?_range hlt]
theorem sha_state (bs : List Int) : S8.start.blocks (atL (bs ++ padA (zerosN bs.length) ++ padL bs.length)) (padN bs.length) = shaS (atL bs) bs.length :=
  S8.blocks_congr _ _ (fun i hi => padded_eq bs i hi)
theorem padA_cell (z : Nat) : ∀ j, j < 1 + z → upd (fun _ => Value.int .u8 0) 0 (Value.int .u8 128) (0 + j) = .int .u8 ((padA z).getD j 0) := by
  intro j hj
  unfold upd padA
  by_cases h : j = 0
  · subst h; simp [List.getD, List.getElem?_range hj]
  · simp [h, List.getD, List.getElem?_range hj]
/-- the bits' first j bytes are written -/
def padC (n j : Nat) (i : Nat) : Value := if i < j then .int .u8 ((8 * n / 2 ^ (56 - 8 * i) % 256 : Nat) : Int) else upd (fun _ => Value.int .u8 0) 0 (Value.int .u8 128) i
theorem padC_succ (n j : Nat) : upd (padC n j) j (.int .u8 (8 * (n : Int) / 2 ^ (56 - 8 * j) % 256)) = padC n (j + 1) := by
  have e0 : 8 * (n : Int) / 2 ^ (56 - 8 * j) % 256 = ((8 * n / 2 ^ (56 - 8 * j) % 256 : Nat) : Int) := by rw [Int.natCast_emod, Int.natCast_ediv, Int.natCast_mul, Int.natCast_pow]; rfl
  rw [e0]
  funext i
  unfold padC upd
  by_cases e : i = j
  · subst e; simp
  · by_cases h : i < j
    · simp [e, h, show i < j + 1 by omega]
    · simp [e, h, show ¬ i < j + 1 by omega]
theorem u8s_one (xs : List Int) : (u8s xs).all (·.oneCell') = true := by simp [u8s, Value.oneCell']
theorem padC_rd (n : Nat) : ∀ j, j < 8 → padC n 8 (0 + j) = .int .u8 ((padL n).getD j 0) := by
  intro j hj
  unfold padC padL
  rw [Nat.zero_add, if_pos hj]
  simp [List.getD, List.getElem?_range hj]
theorem padC_zero (n : Nat) : upd (fun _ => Value.int .u8 0) 0 (Value.int .u8 128) = padC n 0 := by
  funext i
  simp [padC]
/-- the sum's first j bytes are written -/
def outC (s : S8) (j : Nat) (i : Nat) : Value := if i < j then .int .u8 (((s.get (i / 4) >>> (24 - 8 * (i % 4))).toNat % 256 : Nat) : Int) else .int .u8 0
theorem outC_succ (s : S8) (j : Nat) : upd (outC s j) j (.int .u8 (un (s.get (j / 4)) / 2 ^ (24 - 8 * (j % 4)) % 256)) = outC s (j + 1) := by
  have e0 : un (s.get (j / 4)) / 2 ^ (24 - 8 * (j % 4)) % 256 = (((s.get (j / 4) >>> (24 - 8 * (j % 4))).toNat % 256 : Nat) : Int) := by
    rw [BitVec.toNat_ushiftRight, Nat.shiftRight_eq_div_pow, Int.natCast_emod, Int.natCast_ediv, Int.natCast_pow]
    rfl
  rw [e0]
  funext i
  unfold outC upd
  by_cases e : i = j
  · subst e; simp
  · by_cases h : i < j
    · simp [e, h, show i < j + 1 by omega]
    · simp [e, h, show ¬ i < j + 1 by omega]
theorem outC_full (bs : List Int) : fcells 32 (outC (shaS (atL bs) bs.length) 32) = u8s (shaL bs) := by
  rw [shaL, ← fcells_u8s]
  apply fcells_congr
  intro i hi
  unfold outC shaB
  rw [if_pos hi]
theorem hcells_state (s : S8) (r : Nat → Int) (m a : Int) {i : Nat} (h : i < 8) : (hcells s r m a)[i]? = some (wv (s.get i)) := by
  rw [fcells_get _ (by omega)]
  simp [hcell, h]
theorem padA_byte (z : Nat) : ∀ b ∈ padA z, 0 ≤ b ∧ b ≤ 255 := by
  intro b hb
  obtain ⟨j, _, rfl⟩ := List.mem_map.1 hb
  split <;> omega
theorem padL_byte (n : Nat) : ∀ b ∈ padL n, 0 ≤ b ∧ b ≤ 255 := by
  intro b hb
  obtain ⟨j, _, rfl⟩ := List.mem_map.1 hb
  omega
theorem hnew_build (w : World) : (Instr.build 164 #[(0, .agg #[.int .u32 1779033703, .int .u32 3144134277, .int .u32 1013904242, .int .u32 2773480762, .int .u32 1359893119, .int .u32 2600822924, .int .u32 528734635, .int .u32 1541459225])]).run Try.prog w = .ok (.agg (hcells S8.start (fun _ => 0) 0 0)) w := by kernel_rfl
theorem hashIs_nil : HashIs [] (hcells S8.start (fun _ => 0) 0 0) := ⟨⟨fun _ => 0, rfl, fun _ => ⟨Int.le_refl 0, by show (0 : Int) ≤ 255; decide⟩, by intro i hi; simp at hi⟩, by simp⟩
section
variable {w0 w : World} {L : List Ent} {g : Nat} {bs : List Int} {cs : Array Value}
set_option maxRecDepth 100000 in
theorem hnew_any (K : Known w0 w L) : Calls Try.prog 82 #[] w fun e w' => ∃ g, e = .returned (.pointer (some ⟨g, 0, none⟩)) ∧ Known w0 w' (row g (hcells S8.start (fun _ => 0) 0 0) 164 :: L) := by
  go_enter Try.func82, Try.ntmps82
  go_wp2_with (first | ((with_reducible refine at_build (t := 164) rfl ?_); refine ev_build rfl 164 rfl (vals := #[(0, .agg #[.int .u32 1779033703, .int .u32 3144134277, .int .u32 1013904242, .int .u32 2773480762, .int .u32 1359893119, .int .u32 2600822924, .int .u32 528734635, .int .u32 1541459225])]) (by first | rfl | (go_simp; done) | (go_simp; rfl)) (hnew_build _) ?_) | ((with_reducible refine at_box rfl ?_); refine wpList_does rfl (kd_box K _ _ rfl (by conv => lhs; whnf)) ?_; clear K; rintro _ w1 ⟨g, rfl, K⟩; (try dsimp only [Value.cells] at K)))
  go_ret
  exact ⟨g, rfl, K⟩

theorem hcells_one (s : S8) (r : Nat → Int) (m a : Int) : (hcells s r m a).all (·.oneCell') = true := by
  simp only [fcells, List.all_toArray, List.all_map, List.all_eq_true]
  intro i hi
  simp only [Function.comp, hcell]
  repeat' split
  all_goals rfl
set_option maxHeartbeats 1600000 in
set_option maxRecDepth 100000 in
theorem hsum_any (K : Known w0 w (row g cs 164 :: L)) (hH : HashIs bs cs) (hb : ∀ b ∈ bs, 0 ≤ b ∧ b ≤ 255) (hl : bs.length ≤ 100000000000) :
    Calls Try.prog 84 #[.pointer (some ⟨g, 0, none⟩)] w fun e w' => e = .returned (.agg (u8s (shaL bs))) ∧ Known w0 w' (row g cs 164 :: L) := by
  have HH := Lib.hid hH
  obtain ⟨r, e0, hr, hrb⟩ := hH.out
  obtain ⟨s0, hs0⟩ : ∃ s0, s0 = S8.start.blocks (atL bs) (bs.length / 64) := ⟨_, rfl⟩
  obtain ⟨m, hmm⟩ : ∃ m, m = bs.length := ⟨_, rfl⟩
  obtain ⟨k, hk⟩ : ∃ k, k = m % 64 := ⟨_, rfl⟩
  rw [← hs0, ← hmm, ← hk] at e0
  subst e0
  have HMM := Lib.hid hmm
  have hk6 : k < 64 := by omega
  have hm9 : m ≤ 100000000000 := by omega
  have HZ := Lib.hid (show (119 - k) % 64 = zerosN bs.length by rw [zerosN, ← hmm, hk])
  have HB := Lib.hid hb
  clear hH hr hrb hs0 hk hmm hb hl
  have i1 := IntWalk.i64_in (119 - (k : Int)) (by omega)
  have i2 := IntWalk.u64_in (8 * (m : Int)) (by omega)
  go_enter Try.func84, Try.ntmps84
  go_upto_region 8 with ((first | ((with_reducible refine at_slot (N := 2) rfl ?_); (with_reducible refine at_alloc rfl ?_); refine wpList_does rfl (kd_alloc (z := (.agg (u8s (List.replicate 32 0)))) K _ rfl (by kernel_rfl)) ?_; clear K; rintro _ w1 ⟨gd, rfl, K⟩; (try dsimp only [Value.cells] at K)) | ((with_reducible refine at_load rfl ?_); refine wpList_reads (by rfl) (kr_load_row K _ _ (by rfl) (by rfl) (by repeat (first | with_reducible exact Has.hd _ _ | with_reducible refine Has.tl _ ?_ | with_reducible refine Has.ap _ ?_)) (by kernel_rfl) (by rw [fcells_size]; kernel_rfl)) ?_) | ((with_reducible refine at_slot (N := 3) rfl ?_); (with_reducible refine at_alloc rfl ?_); refine wpList_does rfl (kd_alloc (z := (.agg (hcells ⟨0,0,0,0,0,0,0,0⟩ (fun _ => 0) 0 0))) K _ rfl (by kernel_rfl)) ?_; clear K; rintro _ w1 ⟨gx, rfl, K⟩; (try dsimp only [Value.cells] at K)) | ((with_reducible refine at_store rfl ?_); refine wpList_does (by rfl) (kd_store_row K _ _ _ (by rfl) (by rfl) (by rfl) (by repeat (first | with_reducible exact Repl.hd _ _ _ | with_reducible apply Repl.tl | with_reducible apply Repl.ap)) (by rw [fcells_size]; kernel_rfl) (by rw [fcells_size, fcells_size]; rfl) (hcells_one _ _ _ _)) ?_; clear K; intro _ w1 K; (try simp only [Act.put])) | ((with_reducible refine at_load rfl ?_); refine wpList_reads (by rfl) (kr_load_cell K _ _ (by rfl) (by rfl) (by repeat (first | with_reducible exact Has.hd _ _ | with_reducible refine Has.tl _ ?_ | with_reducible refine Has.ap _ ?_)) (by kernel_rfl) (hcells_73 _ _ _ _)) ?_) | ((with_reducible refine at_load rfl ?_); refine wpList_reads (by rfl) (kr_load_cell K _ _ (by rfl) (by rfl) (by repeat (first | with_reducible exact Has.hd _ _ | with_reducible refine Has.tl _ ?_ | with_reducible refine Has.ap _ ?_)) (by kernel_rfl) (hcells_72 _ _ _ _)) ?_) | ((with_reducible refine at_slot (N := 5) rfl ?_); (with_reducible refine at_alloc rfl ?_); refine wpList_does rfl (kd_alloc (z := (.agg (fcells 72 (fun _ => .int .u8 0)))) K _ rfl (by kernel_rfl)) ?_; clear K; rintro _ w1 ⟨ge, rfl, K⟩; (try dsimp only [Value.cells] at K)) | ((with_reducible refine at_store rfl ?_); refine wpList_does rfl (kd_store_cell K _ _ _ rfl rfl (by conv => lhs; whnf) (by repeat (first | with_reducible exact Repl.hd _ _ _ | with_reducible apply Repl.tl | with_reducible apply Repl.ap)) rfl rfl (by kernel_rfl) (by simp only [fcells_size, decide_eq_true_eq]; omega) (fcells_set _ _ (by omega))) ?_; clear K; intro _ w1 K; (try simp only [Act.put]))))
  obtain ⟨z, hz⟩ : ∃ z, (119 - k) % 64 = z := ⟨_, rfl⟩
  have hz6 : z < 64 := by omega
  rw [show (119 - (k : Int)) % 64 = (z : Int) by omega]
  have HZ2 := Lib.hid (show z = zerosN bs.length by rw [← hz]; exact HZ.out)
  clear hz i1
  go_upto_region 9 with ((first | ((with_reducible refine at_slice (l := none) (h := some _) rfl ?_); refine wpList_reads rfl (kr_slice_arr rfl rfl (0) (1 + z) (.inl ⟨rfl, rfl⟩) (.inr rfl) (by omega) (by omega) Try.underlying165 (by kernel_rfl)) ?_) | (go_at_call 83; (with_reducible refine (hwrite_any (show Known w0 _ (row gx _ _ :: row ge _ _ :: row gd _ _ :: row g _ _ :: L) from K.cov (by repeat (first | with_reducible exact Cov.all _ | with_reducible exact Cov.left _ _ | with_reducible exact Cov.nil _ | (with_reducible apply Cov.app; (· repeat (first | with_reducible exact Sel.nil _ | with_reducible exact Sel.ap _ _ | with_reducible exact Sel.hd _ _ | with_reducible exact Sel.all _ | with_reducible apply Sel.tl | with_reducible apply Sel.sk))) | (with_reducible apply Cov.cons; (· repeat (first | with_reducible exact Sel.nil _ | with_reducible exact Sel.ap _ _ | with_reducible exact Sel.hd _ _ | with_reducible exact Sel.all _ | with_reducible apply Sel.tl | with_reducible apply Sel.sk))) | with_reducible refine Cov.drop _ ?_ | with_reducible refine Cov.skip _ ?_))) HH.out (xs := padA z) (fcells_rd (Has.hd _ _) (padA_len z) (by omega) (padA_cell z)) (by omega) (by omega) (padA_byte z) (by rw [← HMM.out]; omega)).mono ?_); clear K; rintro e w1 ⟨rfl, cs1, H1, K⟩)))
  go_wp2
  go_loopg [28] 8 (fun d i wr => ∃ (j : Nat), i = .int .i64 j ∧ j + d = 8 ∧ Known w0 wr (row gx cs1 164 :: row ge (fcells 72 (padC m j)) 165 :: row gd (u8s (List.replicate 32 0)) 42 :: row g (hcells s0 r (k : Int) (m : Int)) 164 :: L))
  case atStart => exact ⟨0, by go_num, by omega, by rw [← padC_zero]; exact K⟩
  case round =>
    clear K
    obtain ⟨j, rfl, hd, K⟩ := hrel
    by_cases hj : j < 8
    · have hj1 : (0 : Int) ≤ (j : Int) ∧ (j : Int) < 72 := by omega
      have j1 := IntWalk.i64_in (8 * (j : Int)) (by omega)
      have j2 := IntWalk.i64_in (56 - 8 * (j : Int)) (by omega)
      have hj8 : (j : Int) < 8 := by omega
      go_wp2_with (first | ((with_reducible refine at_bin (b := .shr) rfl ?_); refine wpList_reads rfl (kr_shrU (56 - 8 * j) rfl rfl (by first | rfl | omega | (simp; omega)) (by omega) (by show _ ≤ _; simp [IntKind.bits]; omega)) ?_) | ((with_reducible refine at_store rfl ?_); refine wpList_does rfl (kd_store_cell K _ _ _ rfl rfl (by conv => lhs; whnf) (by repeat (first | with_reducible exact Repl.hd _ _ _ | with_reducible apply Repl.tl | with_reducible apply Repl.ap)) rfl rfl (by kernel_rfl) (by simp only [fcells_size, decide_eq_true_eq]; omega) (fcells_set _ _ (by omega))) ?_; clear K; intro _ w1 K; (try simp only [Act.put])))
      go_roundg (gk - 1)
      case measure => omega
      case rel => exact ⟨j + 1, by go_num, by omega, by rw [← padC_succ]; exact K⟩
    · obtain rfl : j = 8 := by omega
      go_upto_region 15 with ((first | ((with_reducible refine at_slice (l := none) (h := some _) rfl ?_); refine wpList_reads rfl (kr_slice_arr rfl rfl (0) (8) (.inl ⟨rfl, rfl⟩) (.inr rfl) (by omega) (by omega) Try.underlying165 (by kernel_rfl)) ?_) | (go_at_call 83; (with_reducible refine (hwrite_any (show Known w0 _ (row gx _ _ :: row ge _ _ :: row gd _ _ :: row g _ _ :: L) from K.cov (by repeat (first | with_reducible exact Cov.all _ | with_reducible exact Cov.left _ _ | with_reducible exact Cov.nil _ | (with_reducible apply Cov.app; (· repeat (first | with_reducible exact Sel.nil _ | with_reducible exact Sel.ap _ _ | with_reducible exact Sel.hd _ _ | with_reducible exact Sel.all _ | with_reducible apply Sel.tl | with_reducible apply Sel.sk))) | (with_reducible apply Cov.cons; (· repeat (first | with_reducible exact Sel.nil _ | with_reducible exact Sel.ap _ _ | with_reducible exact Sel.hd _ _ | with_reducible exact Sel.all _ | with_reducible apply Sel.tl | with_reducible apply Sel.sk))) | with_reducible refine Cov.drop _ ?_ | with_reducible refine Cov.skip _ ?_))) H1 (xs := padL m) (fcells_rd (Has.hd _ _) (padL_len m) (by omega) (padC_rd m)) (by omega) (by omega) (padL_byte m) (by rw [List.length_append, ← HMM.out, padA_len]; omega)).mono ?_); clear K; rintro e w1 ⟨rfl, cs2, H2, K⟩)))
      have HT := Lib.hid (pad_total bs.length)
      obtain ⟨r2, e2, _, _⟩ := H2.out
      have hlen : (bs ++ padA z ++ padL m).length / 64 = padN bs.length := by
        rw [List.length_append, List.length_append, padA_len, padL_len, HZ2.out, pad_total]
        omega
      rw [hlen] at e2
      obtain ⟨st, hst⟩ : ∃ st, st = shaS (atL bs) bs.length := ⟨_, rfl⟩
      rw [HZ2.out, HMM.out, sha_state, ← hst] at e2
      obtain ⟨q1, hq1⟩ : ∃ q : Int, q = (((bs ++ padA (zerosN bs.length) ++ padL bs.length).length % 64 : Nat) : Int) := ⟨_, rfl⟩
      obtain ⟨q2, hq2⟩ : ∃ q : Int, q = ((bs ++ padA (zerosN bs.length) ++ padL bs.length).length : Int) := ⟨_, rfl⟩
      rw [← hq1, ← hq2] at e2
      subst e2
      have HST := Lib.hid hst
      clear hst hq1 hq2 H1 H2 hlen HT
      go_wp2_with (first | ((with_reducible refine at_slot (N := 8) rfl ?_); (with_reducible refine at_alloc rfl ?_); refine wpList_does rfl (kd_alloc (z := (.agg (fcells 32 (outC st 0)))) K _ rfl (by kernel_rfl)) ?_; clear K; rintro _ w1 ⟨go, rfl, K⟩; (try dsimp only [Value.cells] at K)))
      go_loopg [43] 32 (fun d i wr => ∃ (j : Nat), i = .int .i64 j ∧ j + d = 32 ∧ Known w0 wr (row go (fcells 32 (outC st j)) 42 :: row gx (hcells st r2 q1 q2) 164 :: row gd (u8s (List.replicate 32 0)) 42 :: row g (hcells s0 r (k : Int) (m : Int)) 164 :: L))
      case atStart => exact ⟨0, by go_num, by omega, K.cov (by repeat (first | with_reducible exact Cov.all _ | with_reducible exact Cov.left _ _ | with_reducible exact Cov.nil _ | (with_reducible apply Cov.app; (· repeat (first | with_reducible exact Sel.nil _ | with_reducible exact Sel.ap _ _ | with_reducible exact Sel.hd _ _ | with_reducible exact Sel.all _ | with_reducible apply Sel.tl | with_reducible apply Sel.sk))) | (with_reducible apply Cov.cons; (· repeat (first | with_reducible exact Sel.nil _ | with_reducible exact Sel.ap _ _ | with_reducible exact Sel.hd _ _ | with_reducible exact Sel.all _ | with_reducible apply Sel.tl | with_reducible apply Sel.sk))) | with_reducible refine Cov.drop _ ?_ | with_reducible refine Cov.skip _ ?_))⟩
      case round =>
        clear K
        obtain ⟨j, rfl, hd, K⟩ := hrel
        by_cases hj : j < 32
        · have hj8 : (j : Int) < 32 := by omega
          have hj1 : (0 : Int) ≤ (j : Int) ∧ (j : Int) < 32 := by omega
          have hj2 : (0 : Int) ≤ (j : Int) / 4 ∧ (j : Int) / 4 < 8 := by omega
          have j1 := IntWalk.i64_in (8 * ((j : Int) % 4)) (by omega)
          have j2 := IntWalk.i64_in (24 - 8 * ((j : Int) % 4)) (by omega)
          go_wp2_with (first | ((with_reducible refine at_load rfl ?_); refine wpList_reads (by rfl) (kr_load_cell K _ _ (by rfl) (by rfl) (by repeat (first | with_reducible exact Has.hd _ _ | with_reducible refine Has.tl _ ?_ | with_reducible refine Has.ap _ ?_)) (by kernel_rfl) ((hcells_state _ _ _ _ (i := j / 4) (by omega)))) ?_) | ((with_reducible refine at_bin (b := .shr) rfl ?_); refine wpList_reads rfl (kr_shrU (24 - 8 * (j % 4)) rfl rfl (by first | rfl | omega | (simp; omega)) (by unfold un; omega) (by show _ ≤ _; simp [IntKind.bits]; omega)) ?_) | ((with_reducible refine at_store rfl ?_); refine wpList_does rfl (kd_store_cell K _ _ _ rfl rfl (by conv => lhs; whnf) (by repeat (first | with_reducible exact Repl.hd _ _ _ | with_reducible apply Repl.tl | with_reducible apply Repl.ap)) rfl rfl (by kernel_rfl) (by simp only [fcells_size, decide_eq_true_eq]; omega) (fcells_set _ _ (by omega))) ?_; clear K; intro _ w1 K; (try simp only [Act.put])))
          go_roundg (gk - 1)
          case measure => omega
          case rel => exact ⟨j + 1, by go_num, by omega, by rw [← outC_succ]; exact K⟩
        · obtain rfl : j = 32 := by omega
          rw [HST.out, outC_full] at K
          go_wp2_with (first | ((with_reducible refine at_load rfl ?_); refine wpList_reads (by rfl) (kr_load_row K _ _ (by rfl) (by rfl) (by repeat (first | with_reducible exact Has.hd _ _ | with_reducible refine Has.tl _ ?_ | with_reducible refine Has.ap _ ?_)) (by kernel_rfl) (by rw [u8s_size, shaL_len]; kernel_rfl)) ?_) | ((with_reducible refine at_store rfl ?_); refine wpList_does (by rfl) (kd_store_row K _ _ _ (by rfl) (by rfl) (by rfl) (by repeat (first | with_reducible exact Repl.hd _ _ _ | with_reducible apply Repl.tl | with_reducible apply Repl.ap)) (by rw [u8s_size, shaL_len]; kernel_rfl) (by rw [u8s_size, u8s_size, shaL_len]; rfl) (u8s_one _)) ?_; clear K; intro _ w1 K; (try simp only [Act.put])))
          exact bodyPost_cellK K (by rfl) (by rfl) (by repeat (first | with_reducible exact Has.hd _ _ | with_reducible refine Has.tl _ ?_ | with_reducible refine Has.ap _ ?_)) (by kernel_rfl) (by rw [u8s_size, shaL_len]; kernel_rfl) rfl ⟨rfl, K.cov (by repeat (first | with_reducible exact Cov.all _ | with_reducible exact Cov.left _ _ | with_reducible exact Cov.nil _ | (with_reducible apply Cov.app; (· repeat (first | with_reducible exact Sel.nil _ | with_reducible exact Sel.ap _ _ | with_reducible exact Sel.hd _ _ | with_reducible exact Sel.all _ | with_reducible apply Sel.tl | with_reducible apply Sel.sk))) | (with_reducible apply Cov.cons; (· repeat (first | with_reducible exact Sel.nil _ | with_reducible exact Sel.ap _ _ | with_reducible exact Sel.hd _ _ | with_reducible exact Sel.all _ | with_reducible apply Sel.tl | with_reducible apply Sel.sk))) | with_reducible refine Cov.drop _ ?_ | with_reducible refine Cov.skip _ ?_))⟩
set_option maxRecDepth 100000 in
theorem sum_any {A : Option Addr} {n c : Nat} {xs : List Int} (K : Known w0 w L) (R : RdS w0 L .u8 A n xs) (hc : n ≤ c) (hm : c ≤ 9223372036854775807) (hb : ∀ b ∈ xs, 0 ≤ b ∧ b ≤ 255) (hn : n ≤ 100000000000) :
    Calls Try.prog 60 #[.slice A n c] w fun e w' => e = .returned (.agg (u8s (shaL xs))) ∧ Known w0 w' L := by
  have hl := R.len
  have HB := Lib.hid hb
  clear hb
  go_enter Try.func60, Try.ntmps60
  go_wp2_with (first | ((with_reducible refine at_slot (N := 2) rfl ?_); (with_reducible refine at_alloc rfl ?_); refine wpList_does rfl (kd_alloc (z := (.agg (u8s (List.replicate 32 0)))) K _ rfl (by kernel_rfl)) ?_; clear K; rintro _ w1 ⟨gd, rfl, K⟩; (try dsimp only [Value.cells] at K)) | (go_at_call 82; (with_reducible refine (hnew_any K).mono ?_); clear K; rintro e w1 ⟨gh, rfl, K⟩) | (go_at_call 83; (with_reducible refine (hwrite_any K hashIs_nil (R.cov (by repeat (first | with_reducible exact Cov.all _ | with_reducible exact Cov.left _ _ | with_reducible exact Cov.nil _ | (with_reducible apply Cov.app; (· repeat (first | with_reducible exact Sel.nil _ | with_reducible exact Sel.ap _ _ | with_reducible exact Sel.hd _ _ | with_reducible exact Sel.all _ | with_reducible apply Sel.tl | with_reducible apply Sel.sk))) | (with_reducible apply Cov.cons; (· repeat (first | with_reducible exact Sel.nil _ | with_reducible exact Sel.ap _ _ | with_reducible exact Sel.hd _ _ | with_reducible exact Sel.all _ | with_reducible apply Sel.tl | with_reducible apply Sel.sk))) | with_reducible refine Cov.drop _ ?_ | with_reducible refine Cov.skip _ ?_))) hc hm HB.out (by simp; omega)).mono ?_); clear K; rintro e w1 ⟨rfl, cs, H, K⟩; rw [List.nil_append] at H) | (go_at_call 84; (with_reducible refine (hsum_any K H HB.out (by omega)).mono ?_); clear K; rintro e w1 ⟨rfl, K⟩) | ((with_reducible refine at_store rfl ?_); refine wpList_does (by rfl) (kd_store_row K _ _ _ (by rfl) (by rfl) (by rfl) (by repeat (first | with_reducible exact Repl.hd _ _ _ | with_reducible apply Repl.tl | with_reducible apply Repl.ap)) (by rw [u8s_size, shaL_len]; kernel_rfl) (by rw [u8s_size, u8s_size, shaL_len]; rfl) (u8s_one _)) ?_; clear K; intro _ w1 K; (try simp only [Act.put])))
  exact bodyPost_cellK K (by rfl) (by rfl) (by repeat (first | with_reducible exact Has.hd _ _ | with_reducible refine Has.tl _ ?_ | with_reducible refine Has.ap _ ?_)) (by kernel_rfl) (by rw [u8s_size, shaL_len]; kernel_rfl) rfl ⟨rfl, K.cov (by repeat (first | with_reducible exact Cov.all _ | with_reducible exact Cov.left _ _ | with_reducible exact Cov.nil _ | (with_reducible apply Cov.app; (· repeat (first | with_reducible exact Sel.nil _ | with_reducible exact Sel.ap _ _ | with_reducible exact Sel.hd _ _ | with_reducible exact Sel.all _ | with_reducible apply Sel.tl | with_reducible apply Sel.sk))) | (with_reducible apply Cov.cons; (· repeat (first | with_reducible exact Sel.nil _ | with_reducible exact Sel.ap _ _ | with_reducible exact Sel.hd _ _ | with_reducible exact Sel.all _ | with_reducible apply Sel.tl | with_reducible apply Sel.sk))) | with_reducible refine Cov.drop _ ?_ | with_reducible refine Cov.skip _ ?_))⟩
end
end Go.Proofs.Ytokbloddaoakgaa
