/-
  sha: Write (contract).
-/
import Derived.Test.YtokbloddaoakgaaShaC
set_option linter.unusedVariables false
set_option linter.unusedSimpArgs false
namespace Go.Proofs.Ytokbloddaoakgaa
open Go.RowKit

theorem hcells_many (s : S8) (r : Nat → Int) (m a v : Int) : (hcells s r m a).set! 72 (.int .i64 v) = hcells s r v a := by
  rw [fcells_set _ _ (by omega)]
  apply fcells_congr
  intro i hi
  unfold upd hcell
  by_cases e : i = 72
  · simp [e]
  · simp [e]
theorem hcells_all (s : S8) (r : Nat → Int) (m a v : Int) : (hcells s r m a).set! 73 (.int .u64 v) = hcells s r m v := by
  rw [fcells_set _ _ (by omega)]
  apply fcells_congr
  intro i hi
  unfold upd hcell
  by_cases e : i = 73
  · simp [e]
  · have h1 : ¬ (72 < i) := by omega
    by_cases h2 : i = 72
    · simp [h2]
    · simp [e, h2, show i < 72 by omega]
theorem hcells_rest (s : S8) (r : Nat → Int) (m a : Int) (off : Nat) (ys : List Int) (h : off + ys.length ≤ 64) : splice (hcells s r m a) (8 + off) (ys.map (Value.int .u8)) = hcells s (fun i => if off ≤ i ∧ i < off + ys.length then ys.getD (i - off) 0 else r i) m a := by
  rw [splice_fcells _ _ (by simp; omega)]
  apply fcells_congr
  intro i hi
  simp only [List.length_map]
  by_cases h1 : 8 + off ≤ i ∧ i < 8 + off + ys.length
  · have h3 : off ≤ i - 8 ∧ i - 8 < off + ys.length := by omega
    rw [if_pos h1]
    unfold hcell
    rw [if_neg (by omega), if_pos (by omega)]
    show _ = Value.int .u8 (if off ≤ i - 8 ∧ i - 8 < off + ys.length then ys.getD (i - 8 - off) 0 else r (i - 8))
    rw [if_pos h3, show i - (8 + off) = i - 8 - off by omega]
    simp [List.getD, show i - 8 - off < ys.length by omega]
  · rw [if_neg h1]
    unfold hcell
    by_cases h2 : i < 8
    · simp [h2]
    · rw [if_neg h2, if_neg h2]
      by_cases h4 : i < 72
      · rw [if_pos h4, if_pos h4]
        show _ = Value.int .u8 (if off ≤ i - 8 ∧ i - 8 < off + ys.length then ys.getD (i - 8 - off) 0 else r (i - 8))
        rw [if_neg (by omega)]
      · rw [if_neg h4, if_neg h4]
theorem hcells_rest0 (s : S8) (r : Nat → Int) (m a : Int) (ys : List Int) (h : ys.length ≤ 64) : splice (hcells s r m a) 8 (ys.map (Value.int .u8)) = hcells s (fun i => if 0 ≤ i ∧ i < 0 + ys.length then ys.getD (i - 0) 0 else r i) m a := hcells_rest s r m a 0 ys (by omega)
theorem hcells_72 (s : S8) (r : Nat → Int) (m a : Int) : (hcells s r m a)[72]? = some (.int .i64 m) := by rw [fcells_get _ (by omega)]; rfl
theorem hcells_73 (s : S8) (r : Nat → Int) (m a : Int) : (hcells s r m a)[73]? = some (.int .u64 a) := by rw [fcells_get _ (by omega)]; rfl
theorem hcells_rd {w0 : World} {L : List Ent} (s : S8) (r : Nat → Int) (m a : Int) {g : Nat} {t : TypeId} (h : Has (row g (hcells s r m a) t) L) : RdS w0 L .u8 (some ⟨g, 8, none⟩) 64 ((List.range 64).map r) :=
  RdS.ofRow h (by simp) (by
    apply List.ext_getElem?
    intro i
    by_cases hi : i < 64
    · rw [List.getElem?_take_of_lt hi, List.getElem?_drop, Array.getElem?_toList, fcells_get _ (by omega)]
      simp only [hcell, List.getElem?_map, List.getElem?_range hi]
      simp [show ¬ (8 + i < 8) by omega, show 8 + i < 72 by omega]
    · rw [List.getElem?_eq_none (by simp; omega), List.getElem?_eq_none (by simp; omega)])

def atL (bs : List Int) : Nat → Int := fun i => bs.getD i 0
theorem atL_app_left {bs xs : List Int} {i : Nat} (h : i < bs.length) : atL (bs ++ xs) i = atL bs i := by
  unfold atL
  simp [List.getD, List.getElem?_append_left h]
theorem atL_app_right {bs xs : List Int} {i : Nat} (h : bs.length ≤ i) : atL (bs ++ xs) i = atL xs (i - bs.length) := by
  unfold atL
  simp [List.getD, List.getElem?_append_right h]
/-- a Hash that took bs -/
structure HashIs (bs : List Int) (cs : Array Value) : Prop where mk ::
  (out : ∃ r : Nat → Int, cs = hcells (S8.start.blocks (atL bs) (bs.length / 64)) r ((bs.length % 64 : Nat) : Int) ((bs.length : Nat) : Int) ∧ (∀ i, 0 ≤ r i ∧ r i ≤ 255) ∧ ∀ i, i < bs.length % 64 → r i = atL bs (64 * (bs.length / 64) + i))
  (lt : bs.length ≤ 1000000000000)
theorem blocks_app (bs xs : List Int) {n : Nat} (h : 64 * n ≤ bs.length) : S8.start.blocks (atL (bs ++ xs)) n = S8.start.blocks (atL bs) n :=
  S8.blocks_congr _ n (fun i hi => atL_app_left (by omega))
theorem hash_block (bs xs : List Int) (p : Nat) (h : (bs.length + p) % 64 = 0) (hp : p + 64 ≤ xs.length) : (S8.start.blocks (atL (bs ++ xs)) ((bs.length + p) / 64)).block (fun i => ((xs.drop p).take 64).getD i 0) = S8.start.blocks (atL (bs ++ xs)) ((bs.length + (p + 64)) / 64) := by
  rw [show (bs.length + (p + 64)) / 64 = (bs.length + p) / 64 + 1 by omega]
  simp only [S8.blocks]
  apply S8.block_congr
  intro i hi
  rw [atL_app_right (by omega)]
  unfold atL
  rw [show 64 * ((bs.length + p) / 64) + i - bs.length = p + i by omega]
  simp [List.getD, List.getElem?_take_of_lt hi]
theorem hash_end (bs xs : List Int) (p : Nat) (r : Nat → Int) (hr : ∀ i, 0 ≤ r i ∧ r i ≤ 255) (hb : ∀ b ∈ xs, 0 ≤ b ∧ b ≤ 255) (h : (bs.length + p) % 64 = 0) (hp : p ≤ xs.length) (hq : xs.length - p < 64) (hl : bs.length + xs.length ≤ 1000000000000) :
    HashIs (bs ++ xs) (hcells (S8.start.blocks (atL (bs ++ xs)) ((bs.length + p) / 64)) (fun i => if 0 ≤ i ∧ i < 0 + (xs.drop p).length then (xs.drop p).getD (i - 0) 0 else r i) ((xs.length - p : Nat) : Int) ((bs.length : Int) + (xs.length : Int))) := by
  have e1 : (bs ++ xs).length / 64 = (bs.length + p) / 64 := by rw [List.length_append]; omega
  have e2 : (bs ++ xs).length % 64 = xs.length - p := by rw [List.length_append]; omega
  refine ⟨⟨_, by rw [e1, e2, List.length_append, Int.natCast_add], fun i => ?_, fun i hi => ?_⟩, by rw [List.length_append]; omega⟩
  · split
    · next hc =>
      have hlt : i < (xs.drop p).length := by omega
      rw [Nat.sub_zero, List.getD_eq_getElem?_getD, List.getElem?_eq_getElem hlt]
      exact hb _ (List.mem_of_mem_drop (List.getElem_mem hlt))
    · exact hr i
  · rw [e2] at hi
    rw [if_pos (by simp; omega), e1, atL_app_right (by omega)]
    unfold atL
    rw [show 64 * ((bs.length + p) / 64) + i - bs.length = p + i by omega]
    simp [List.getD]
theorem hash_short (bs xs : List Int) (r : Nat → Int) (hr : ∀ i, 0 ≤ r i ∧ r i ≤ 255) (hrb : ∀ i, i < bs.length % 64 → r i = atL bs (64 * (bs.length / 64) + i)) (hb : ∀ b ∈ xs, 0 ≤ b ∧ b ≤ 255) (hq : bs.length % 64 + xs.length < 64) (hl : bs.length + xs.length ≤ 1000000000000) :
    HashIs (bs ++ xs) (hcells (S8.start.blocks (atL bs) (bs.length / 64)) (fun i => if bs.length % 64 ≤ i ∧ i < bs.length % 64 + xs.length then xs.getD (i - bs.length % 64) 0 else r i) ((bs.length % 64 + xs.length : Nat) : Int) ((bs.length : Int) + (xs.length : Int))) := by
  have e1 : (bs ++ xs).length / 64 = bs.length / 64 := by rw [List.length_append]; omega
  have e2 : (bs ++ xs).length % 64 = bs.length % 64 + xs.length := by rw [List.length_append]; omega
  refine ⟨⟨_, by rw [e1, e2, List.length_append, Int.natCast_add (bs.length) xs.length, blocks_app bs xs (by omega)], fun i => ?_, fun i hi => ?_⟩, by rw [List.length_append]; omega⟩
  · split
    · next hc =>
      rw [List.getD_eq_getElem?_getD, List.getElem?_eq_getElem (by omega)]
      exact hb _ (List.getElem_mem _)
    · exact hr i
  · rw [e2] at hi
    rw [e1]
    by_cases h : i < bs.length % 64
    · rw [if_neg (by omega), atL_app_left (by omega)]
      exact hrb i h
    · rw [if_pos (by omega), atL_app_right (by omega)]
      unfold atL
      rw [show 64 * (bs.length / 64) + i - bs.length = i - bs.length % 64 by omega]
theorem hash_fill (bs xs : List Int) (r : Nat → Int) (hrb : ∀ i, i < bs.length % 64 → r i = atL bs (64 * (bs.length / 64) + i)) (hq : 64 ≤ bs.length % 64 + xs.length) (h0 : 0 < bs.length % 64) :
    (S8.start.blocks (atL bs) (bs.length / 64)).block (fun i => ((List.range 64).map (fun i => if bs.length % 64 ≤ i ∧ i < bs.length % 64 + (64 - bs.length % 64) then (xs.take (64 - bs.length % 64)).getD (i - bs.length % 64) 0 else r i)).getD i 0) = S8.start.blocks (atL (bs ++ xs)) ((bs.length + (64 - bs.length % 64)) / 64) := by
  rw [show (bs.length + (64 - bs.length % 64)) / 64 = bs.length / 64 + 1 by omega, ← blocks_app bs xs (by omega)]
  simp only [S8.blocks]
  apply S8.block_congr
  intro i hi
  have e : ∀ f : Nat → Int, ((List.range 64).map f).getD i 0 = f i := fun f => by simp [List.getD, List.getElem?_range hi]
  rw [e]
  by_cases h : i < bs.length % 64
  · rw [if_neg (by omega), atL_app_left (by omega)]
    exact hrb i h
  · rw [if_pos (by omega), atL_app_right (by omega)]
    unfold atL
    rw [show 64 * (bs.length / 64) + i - bs.length = i - bs.length % 64 by omega]
    simp [List.getD, List.getElem?_take_of_lt (show i - bs.length % 64 < 64 - bs.length % 64 by omega)]

section
variable {w0 w : World} {L : List Ent} {A : Option Addr} {n c g : Nat} {xs bs : List Int} {cs : Array Value}
set_option maxHeartbeats 1600000 in
set_option maxRecDepth 100000 in
theorem hwrite_any (K : Known w0 w (row g cs 164 :: L)) (hH : HashIs bs cs) (R : RdS w0 L .u8 A n xs) (hc : n ≤ c) (hm : c ≤ 9223372036854775807) (hb : ∀ b ∈ xs, 0 ≤ b ∧ b ≤ 255) (hl : bs.length + n ≤ 1000000000000) :
    Calls Try.prog 83 #[.pointer (some ⟨g, 0, none⟩), .slice A n c] w fun e w' => e = .returned (.tuple #[]) ∧ ∃ cs', HashIs (bs ++ xs) cs' ∧ Known w0 w' (row g cs' 164 :: L) := by
  have HH := Lib.hid hH
  obtain ⟨r, e0, hr, hrb⟩ := hH.out
  have hxl := R.len
  obtain ⟨s0, hs0⟩ : ∃ s0, s0 = S8.start.blocks (atL bs) (bs.length / 64) := ⟨_, rfl⟩
  obtain ⟨m, hmm⟩ : ∃ m, m = bs.length := ⟨_, rfl⟩
  obtain ⟨k, hk⟩ : ∃ k, k = m % 64 := ⟨_, rfl⟩
  rw [e0, ← hs0, ← hmm, ← hk] at K
  rw [← hmm] at hl hrb hs0
  rw [← hk] at hrb
  have HMM := Lib.hid hmm
  have HK := Lib.hid hk
  have HS0 := Lib.hid hs0
  have HR := Lib.hid hr
  have HRB := Lib.hid hrb
  have HB := Lib.hid hb
  have HXL := Lib.hid hxl
  have hk6 : k < 64 := by omega
  clear hH e0 hmm hk hs0 hr hrb hb hxl
  have i1 := IntWalk.u64_in (n : Int) (by omega)
  have i2 := IntWalk.u64_in ((m : Int) + (n : Int)) (by omega)
  by_cases hk0 : k = 0
  · subst hk0
    go_enter Try.func83, Try.ntmps83
    go_upto_region 9 with ((first | ((with_reducible refine at_load rfl ?_); refine wpList_reads (by rfl) (kr_load_cell K _ _ (by rfl) (by rfl) (by repeat (first | with_reducible exact Has.hd _ _ | with_reducible refine Has.tl _ ?_ | with_reducible refine Has.ap _ ?_)) (by kernel_rfl) (hcells_73 _ _ _ _)) ?_) | ((with_reducible refine at_load rfl ?_); refine wpList_reads (by rfl) (kr_load_cell K _ _ (by rfl) (by rfl) (by repeat (first | with_reducible exact Has.hd _ _ | with_reducible refine Has.tl _ ?_ | with_reducible refine Has.ap _ ?_)) (by kernel_rfl) (hcells_72 _ _ _ _)) ?_) | ((with_reducible refine at_store rfl ?_); refine wpList_does rfl (kd_store_cell K _ _ _ rfl rfl (by conv => lhs; whnf) (by repeat (first | with_reducible exact Repl.hd _ _ _ | with_reducible apply Repl.tl | with_reducible apply Repl.ap)) rfl rfl (by kernel_rfl) (by simp only [fcells_size, decide_eq_true_eq]; omega) (hcells_all _ _ _ _ _)) ?_; clear K; intro _ w1 K; (try simp only [Act.put])) | ((with_reducible refine at_store rfl ?_); refine wpList_does rfl (kd_store_cell K _ _ _ rfl rfl (by conv => lhs; whnf) (by repeat (first | with_reducible exact Repl.hd _ _ _ | with_reducible apply Repl.tl | with_reducible apply Repl.ap)) rfl rfl (by kernel_rfl) (by simp only [fcells_size, decide_eq_true_eq]; omega) (hcells_many _ _ _ _ _)) ?_; clear K; intro _ w1 K; (try simp only [Act.put]))))
    have HP0 : Hid ((m + 0) % 64 = 0) := Lib.hid (by have := HK.out; omega)
    obtain ⟨r1, hr1⟩ : ∃ r1, r1 = r := ⟨_, rfl⟩
    rw [← hr1] at K HR
    rw [HS0.out, HMM.out, ← blocks_app bs xs (by omega), ← HMM.out] at K
    go_wp2
    go_loopg [1] (n) (fun d v wr => ∃ (p q : Nat) (A' : Option Addr) (c' : Nat), v = .slice A' q c' ∧ q ≤ c' ∧ c' ≤ 9223372036854775807 ∧ Hid ((m + p) % 64 = 0) ∧ p + q = n ∧ q ≤ d ∧ RdS w0 L .u8 A' q (xs.drop p) ∧ Known w0 wr (row g (hcells (S8.start.blocks (atL (bs ++ xs)) ((m + p) / 64)) r1 0 ((m : Int) + (n : Int))) 164 :: L))
    case atStart => exact ⟨0, n, A, c, rfl, by omega, by omega, HP0, by omega, by omega, R, K⟩
    case round =>
      clear K
      obtain ⟨p, q, A', c', rfl, hc', hm', HP, hpq, hd, R', K⟩ := hrel
      by_cases hq : 64 ≤ q
      · have hq' : (64 : Int) ≤ (q : Int) := by omega
        have HT := Lib.hid (hash_block bs xs p (by rw [← HMM.out]; exact HP.out) (by rw [HXL.out]; omega))
        rw [← HMM.out] at HT
        have HB2 := Lib.hid (show ∀ b ∈ (xs.drop p).take 64, 0 ≤ b ∧ b ≤ 255 from fun b h => HB.out b (List.mem_of_mem_drop (List.mem_of_mem_take h)))
        go_wp2_with (first | ((with_reducible refine at_slice (l := none) (h := some _) rfl ?_); refine wpList_does rfl (kd_slice K rfl rfl (0) (64) (.inl ⟨rfl, rfl⟩) (.inr rfl) (R') (by omega) (by omega) (by omega) Try.underlying24 (by kernel_rfl)) ?_; rintro _ w1 ⟨rfl, B1, rfl, R1⟩; (try simp only [Nat.sub_zero, List.drop_zero] at R1)) | ((with_reducible refine at_slice (l := some _) (h := none) rfl ?_); refine wpList_does rfl (kd_slice K rfl rfl (64) (q) (.inr rfl) (.inl ⟨rfl, rfl⟩) (R') (by omega) (by omega) (by omega) Try.underlying24 (by kernel_rfl)) ?_; rintro _ w1 ⟨rfl, B2, rfl, R2⟩; (try simp only [Nat.sub_zero, List.drop_zero] at R2)) | (go_at_call 98; (with_reducible refine (takes_any K (R1.cov (by repeat (first | with_reducible exact Cov.all _ | with_reducible exact Cov.left _ _ | with_reducible exact Cov.nil _ | (with_reducible apply Cov.app; (· repeat (first | with_reducible exact Sel.nil _ | with_reducible exact Sel.ap _ _ | with_reducible exact Sel.hd _ _ | with_reducible exact Sel.all _ | with_reducible apply Sel.tl | with_reducible apply Sel.sk))) | (with_reducible apply Cov.cons; (· repeat (first | with_reducible exact Sel.nil _ | with_reducible exact Sel.ap _ _ | with_reducible exact Sel.hd _ _ | with_reducible exact Sel.all _ | with_reducible apply Sel.tl | with_reducible apply Sel.sk))) | with_reducible refine Cov.drop _ ?_ | with_reducible refine Cov.skip _ ?_))) (by omega) (by omega) (by omega) HB2.out).mono ?_); clear K; rintro e w1 ⟨rfl, K⟩))
        rw [HT.out] at K
        go_roundg (gk - 64)
        case measure => omega
        case rel => exact ⟨p + 64, q - 64, _, _, rfl, by omega, by omega, Lib.hid (by have := HP.out; omega), by omega, by omega, (by rw [List.take_of_length_le (by simp [HXL.out]; omega), List.drop_drop] at R2; exact R2), K⟩
      · have hq' : ¬ ((64 : Int) ≤ (q : Int)) := by omega
        have HE := Lib.hid (hash_end bs xs p r1 HR.out HB.out (by rw [← HMM.out]; exact HP.out) (by rw [HXL.out]; omega) (by rw [HXL.out]; omega) (by rw [HXL.out, ← HMM.out]; omega))
        rw [← HMM.out, HXL.out] at HE
        go_wp2_with (first | ((with_reducible refine at_slice (l := none) (h := none) rfl ?_); refine wpList_reads rfl (kr_slice_arr rfl rfl (0) (64) (.inl ⟨rfl, rfl⟩) (.inl ⟨rfl, rfl⟩) (by omega) (by omega) Try.underlying162 (by kernel_rfl)) ?_) | ((with_reducible refine at_copy rfl ?_); refine wpList_does rfl (kd_copy K rfl rfl rfl (R'.at_ _ (K.cov (by repeat (first | with_reducible exact Cov.all _ | with_reducible exact Cov.left _ _ | with_reducible exact Cov.nil _ | (with_reducible apply Cov.app; (· repeat (first | with_reducible exact Sel.nil _ | with_reducible exact Sel.ap _ _ | with_reducible exact Sel.hd _ _ | with_reducible exact Sel.all _ | with_reducible apply Sel.tl | with_reducible apply Sel.sk))) | (with_reducible apply Cov.cons; (· repeat (first | with_reducible exact Sel.nil _ | with_reducible exact Sel.ap _ _ | with_reducible exact Sel.hd _ _ | with_reducible exact Sel.all _ | with_reducible apply Sel.tl | with_reducible apply Sel.sk))) | with_reducible refine Cov.drop _ ?_ | with_reducible refine Cov.skip _ ?_)))) Try.underlying24 (by kernel_rfl) (by repeat (first | with_reducible exact Repl.hd _ _ _ | with_reducible apply Repl.tl | with_reducible apply Repl.ap)) (by simp only [fcells_size]; omega)) ?_; clear K; rintro _ w1 ⟨rfl, K⟩; rw [List.take_of_length_le (by simp [HXL.out]; omega), hcells_rest0 _ _ _ _ _ (by simp [HXL.out]; omega)] at K) | ((with_reducible refine at_store rfl ?_); refine wpList_does rfl (kd_store_cell K _ _ _ rfl rfl (by conv => lhs; whnf) (by repeat (first | with_reducible exact Repl.hd _ _ _ | with_reducible apply Repl.tl | with_reducible apply Repl.ap)) rfl rfl (by kernel_rfl) (by simp only [fcells_size, decide_eq_true_eq]; omega) (hcells_many _ _ _ _ _)) ?_; clear K; intro _ w1 K; (try simp only [Act.put])))
        go_end0
        exact ⟨rfl, _, HE.out, by rw [show min 64 q = n - p by omega] at K; exact K⟩
  · have hk1 : (0 : Int) < (k : Int) := by omega
    go_enter Try.func83, Try.ntmps83
    go_upto_region 3 with ((first | ((with_reducible refine at_load rfl ?_); refine wpList_reads (by rfl) (kr_load_cell K _ _ (by rfl) (by rfl) (by repeat (first | with_reducible exact Has.hd _ _ | with_reducible refine Has.tl _ ?_ | with_reducible refine Has.ap _ ?_)) (by kernel_rfl) (hcells_73 _ _ _ _)) ?_) | ((with_reducible refine at_load rfl ?_); refine wpList_reads (by rfl) (kr_load_cell K _ _ (by rfl) (by rfl) (by repeat (first | with_reducible exact Has.hd _ _ | with_reducible refine Has.tl _ ?_ | with_reducible refine Has.ap _ ?_)) (by kernel_rfl) (hcells_72 _ _ _ _)) ?_) | ((with_reducible refine at_store rfl ?_); refine wpList_does rfl (kd_store_cell K _ _ _ rfl rfl (by conv => lhs; whnf) (by repeat (first | with_reducible exact Repl.hd _ _ _ | with_reducible apply Repl.tl | with_reducible apply Repl.ap)) rfl rfl (by kernel_rfl) (by simp only [fcells_size, decide_eq_true_eq]; omega) (hcells_all _ _ _ _ _)) ?_; clear K; intro _ w1 K; (try simp only [Act.put]))))
    replace K := K.drew
    refine wp_region_G (S := (fun w' => ∃ r', Known w0 w' (row g (hcells s0 r' (k : Int) ((m : Int) + (n : Int))) 164 :: L))) (by kernel_rfl) (by kernel_rfl) (by kernel_rfl) (⟨_, by first | exact K | (rw [hcells_rest _ _ _ _ k _ (by simp [HXL.out]; omega)] at K; exact K)⟩) (fun hHeld => ?_)
    refine wpG_take (i := 0) (x := { dst := some 22, op := Op.move (Operand.tmp 0), type := 144, pos := "sha.go:74", after := #[], guard := none }) (v := ?_) rfl (by kernel_rfl) (fun _ _ _ h => h) (Or.inl ⟨by rfl, ?_⟩) hHeld ?_
    rotate_left
    · (intro w hS; (clear hS; go_simp); try with_reducible rfl)
    try simp only [Act.put, List.setIfInBounds_toArray, List.set_cons_zero, List.set_cons_succ]
    refine wpG_take (i := 1) (x := { dst := some 23, op := Op.nilCheck (Operand.tmp 22), type := 0, pos := "sha.go:74", after := #[{ on := 0, ground := Ground.data }], guard := none }) (v := ?_) rfl (by kernel_rfl) (fun _ _ _ h => h) (Or.inl ⟨by rfl, ?_⟩) hHeld ?_
    rotate_left
    · (intro w hS; (clear hS; go_simp); try with_reducible rfl)
    try simp only [Act.put, List.setIfInBounds_toArray, List.set_cons_zero, List.set_cons_succ]
    refine wpG_take (i := 2) (x := { dst := some 24, op := Op.fieldAddr 164 (Operand.tmp 23) 1, type := 0, pos := "sha.go:74", after := #[{ on := 1, ground := Ground.data }], guard := none }) (v := ?_) rfl (by kernel_rfl) (fun _ _ _ h => h) (Or.inl ⟨by rfl, ?_⟩) hHeld ?_
    rotate_left
    · (intro w hS; (clear hS; go_simp); try with_reducible rfl)
    try simp only [Act.put, List.setIfInBounds_toArray, List.set_cons_zero, List.set_cons_succ]
    refine wpG_take (i := 3) (x := { dst := some 25, op := Op.move (Operand.tmp 0), type := 144, pos := "sha.go:74", after := #[], guard := none }) (v := ?_) rfl (by kernel_rfl) (fun _ _ _ h => h) (Or.inl ⟨by rfl, ?_⟩) hHeld ?_
    rotate_left
    · (intro w hS; (clear hS; go_simp); try with_reducible rfl)
    try simp only [Act.put, List.setIfInBounds_toArray, List.set_cons_zero, List.set_cons_succ]
    refine wpG_take (i := 4) (x := { dst := some 26, op := Op.nilCheck (Operand.tmp 25), type := 0, pos := "sha.go:74", after := #[{ on := 3, ground := Ground.data }], guard := none }) (v := ?_) rfl (by kernel_rfl) (fun _ _ _ h => h) (Or.inl ⟨by rfl, ?_⟩) hHeld ?_
    rotate_left
    · (intro w hS; (clear hS; go_simp); try with_reducible rfl)
    try simp only [Act.put, List.setIfInBounds_toArray, List.set_cons_zero, List.set_cons_succ]
    refine wpG_take (i := 5) (x := { dst := some 27, op := Op.fieldAddr 164 (Operand.tmp 26) 2, type := 0, pos := "sha.go:74", after := #[{ on := 4, ground := Ground.data }], guard := none }) (v := ?_) rfl (by kernel_rfl) (fun _ _ _ h => h) (Or.inl ⟨by rfl, ?_⟩) hHeld ?_
    rotate_left
    · (intro w hS; (clear hS; go_simp); try with_reducible rfl)
    try simp only [Act.put, List.setIfInBounds_toArray, List.set_cons_zero, List.set_cons_succ]
    refine wpG_take (i := 6) (x := { dst := some 28, op := Op.load 3 (Operand.tmp 27), type := 3, pos := "sha.go:74", after := #[{ on := 5, ground := Ground.data }], guard := none }) (v := .int .i64 (k : Int)) rfl (by kernel_rfl) (fun _ _ _ h => h) (Or.inl ⟨by rfl, ?_⟩) hHeld ?_
    · (intro w hS; obtain ⟨_, hS⟩ := hS; first | exact kr_load_cell hS _ _ (by rfl) (by rfl) (by repeat (first | with_reducible exact Has.hd _ _ | with_reducible refine Has.tl _ ?_ | with_reducible refine Has.ap _ ?_)) (by kernel_rfl) (hcells_72 _ _ _ _))
    try simp only [Act.put, List.setIfInBounds_toArray, List.set_cons_zero, List.set_cons_succ]
    refine wpG_take (i := 7) (x := { dst := some 29, op := Op.slice 162 (Operand.tmp 24) (some (Operand.tmp 28)) none none, type := 24, pos := "sha.go:74", after := #[{ on := 2, ground := Ground.data }, { on := 6, ground := Ground.data }], guard := none }) (v := .slice (some ⟨g, 8 + k, none⟩) (64 - k) (64 - k)) rfl (by kernel_rfl) (fun _ _ _ h => h) (Or.inl ⟨by rfl, ?_⟩) hHeld ?_
    · (intro w hS; obtain ⟨_, hS⟩ := hS; first | exact kr_slice_arr_lt (by rfl) (by rfl) k 64 (.inr rfl) (.inl ⟨rfl, rfl⟩) (by omega) (by omega) (by omega) Try.underlying162 (by kernel_rfl))
    try simp only [Act.put, List.setIfInBounds_toArray, List.set_cons_zero, List.set_cons_succ]
    refine wpG_take (i := 8) (x := { dst := some 30, op := Op.move (Operand.tmp 1), type := 24, pos := "sha.go:74", after := #[], guard := none }) (v := ?_) rfl (by kernel_rfl) (fun _ _ _ h => h) (Or.inl ⟨by rfl, ?_⟩) hHeld ?_
    rotate_left
    · (intro w hS; (clear hS; go_simp); try with_reducible rfl)
    try simp only [Act.put, List.setIfInBounds_toArray, List.set_cons_zero, List.set_cons_succ]
    refine wpG_one (i := 9) (o := { dst := some 31, op := Op.call { callee := Callee.builtin Builtin.copy, args := #[Operand.tmp 29, Operand.tmp 30], argTypes := #[24, 24] }, type := 3, pos := "sha.go:74", after := #[{ on := 7, ground := Ground.data }, { on := 8, ground := Ground.data }], guard := none }) rfl (by kernel_rfl) (fun K9 hK => ?_)
    refine st_does (by rfl) (kd_copy K (by rfl) (by rfl) (by rfl) (R.at_ _ (K.cov (by repeat (first | with_reducible exact Cov.all _ | with_reducible exact Cov.left _ _ | with_reducible exact Cov.nil _ | (with_reducible apply Cov.app; (· repeat (first | with_reducible exact Sel.nil _ | with_reducible exact Sel.ap _ _ | with_reducible exact Sel.hd _ _ | with_reducible exact Sel.all _ | with_reducible apply Sel.tl | with_reducible apply Sel.sk))) | (with_reducible apply Cov.cons; (· repeat (first | with_reducible exact Sel.nil _ | with_reducible exact Sel.ap _ _ | with_reducible exact Sel.hd _ _ | with_reducible exact Sel.all _ | with_reducible apply Sel.tl | with_reducible apply Sel.sk))) | with_reducible refine Cov.drop _ ?_ | with_reducible refine Cov.skip _ ?_)))) Try.underlying24 (by kernel_rfl) (by repeat (first | with_reducible exact Repl.hd _ _ _ | with_reducible apply Repl.tl | with_reducible apply Repl.ap)) (by simp only [fcells_size]; omega)) ?_
    clear K; rintro _ w1 ⟨rfl, K⟩
    refine hK.out _ _ (⟨_, by first | exact K | (rw [hcells_rest _ _ _ _ k _ (by simp [HXL.out]; omega)] at K; exact K)⟩) (fun hHeld => ?_)
    clear hK K9
    try simp only [Act.put, List.setIfInBounds_toArray, List.set_cons_zero, List.set_cons_succ]
    refine wpG_take (i := 10) (x := { dst := some 4, op := Op.assign (Operand.tmp 31), type := 3, pos := "sha.go:74", after := #[{ on := 9, ground := Ground.data }, { on := 9, ground := Ground.chain }, { on := 0, ground := Ground.phase }, { on := 1, ground := Ground.phase }, { on := 2, ground := Ground.phase }, { on := 3, ground := Ground.phase }, { on := 4, ground := Ground.phase }, { on := 5, ground := Ground.phase }, { on := 6, ground := Ground.phase }, { on := 7, ground := Ground.phase }, { on := 8, ground := Ground.phase }, { on := 9, ground := Ground.phase }], guard := none }) (v := ?_) rfl (by kernel_rfl) (fun _ _ _ h => h) (Or.inl ⟨by rfl, ?_⟩) hHeld ?_
    rotate_left
    · (intro w hS; (clear hS; go_simp); try with_reducible rfl)
    try simp only [Act.put, List.setIfInBounds_toArray, List.set_cons_zero, List.set_cons_succ]
    refine wpG_done (by kernel_rfl) ?_
    skip
    rw [hcells_rest _ _ _ _ k _ (by simp [HXL.out]; omega)] at K
    by_cases hs : n < 64 - k
    · have e1 : ((min (64 - k) n : Nat) : Int) = (n : Int) := by omega
      rw [e1]
      have hs' : (k : Int) + (n : Int) < 64 := by omega
      go_wp2_with (first | ((with_reducible refine at_load rfl ?_); refine wpList_reads (by rfl) (kr_load_cell K _ _ (by rfl) (by rfl) (by repeat (first | with_reducible exact Has.hd _ _ | with_reducible refine Has.tl _ ?_ | with_reducible refine Has.ap _ ?_)) (by kernel_rfl) (hcells_72 _ _ _ _)) ?_) | ((with_reducible refine at_store rfl ?_); refine wpList_does rfl (kd_store_cell K _ _ _ rfl rfl (by conv => lhs; whnf) (by repeat (first | with_reducible exact Repl.hd _ _ _ | with_reducible apply Repl.tl | with_reducible apply Repl.ap)) rfl rfl (by kernel_rfl) (by simp only [fcells_size, decide_eq_true_eq]; omega) (hcells_many _ _ _ _ _)) ?_; clear K; intro _ w1 K; (try simp only [Act.put])) | ((with_reducible refine at_slice (l := some _) (h := none) rfl ?_); refine wpList_does rfl (kd_slice K rfl rfl (n) (n) (.inr rfl) (.inl ⟨rfl, rfl⟩) (R) (by omega) (by omega) (by omega) Try.underlying24 (by kernel_rfl)) ?_; rintro _ w1 ⟨rfl, B1, rfl, R1⟩; (try simp only [Nat.sub_zero, List.drop_zero] at R1)))
      have HE := Lib.hid (hash_short bs xs r HR.out (by rw [← HMM.out, ← HK.out]; exact HRB.out) HB.out (by rw [← HMM.out, ← HK.out, HXL.out]; omega) (by rw [← HMM.out, HXL.out]; omega))
      rw [← HMM.out, ← HK.out, HXL.out, ← HS0.out] at HE
      rw [List.take_of_length_le (by rw [HXL.out]; omega), HXL.out] at K
      refine bodyPost_ret (results_none rfl _ _ _) rfl ?_
      exact ⟨rfl, _, HE.out, by rw [Int.natCast_add]; exact K⟩
    · have e1 : ((min (64 - k) n : Nat) : Int) = ((64 - k : Nat) : Int) := by omega
      rw [e1]
      have hs' : ¬ ((k : Int) + ((64 - k : Nat) : Int) < 64) := by omega
      have HF := Lib.hid (hash_fill bs xs r (by rw [← HMM.out, ← HK.out]; exact HRB.out) (by rw [← HMM.out, ← HK.out, HXL.out]; omega) (by rw [← HMM.out, ← HK.out]; omega))
      rw [← HMM.out, ← HK.out, ← HS0.out] at HF
      rw [show (xs.take (64 - k)).length = 64 - k by simp [HXL.out]; omega] at K
      obtain ⟨r1, hr1⟩ : ∃ r1 : Nat → Int, r1 = fun i => if k ≤ i ∧ i < k + (64 - k) then (xs.take (64 - k)).getD (i - k) 0 else r i := ⟨_, rfl⟩
      have HR1 : Hid (∀ i, 0 ≤ r1 i ∧ r1 i ≤ 255) := Lib.hid (fun i => by
        rw [hr1]
        dsimp only
        split
        · rw [List.getD_eq_getElem?_getD, List.getElem?_eq_getElem (by simp [HXL.out]; omega)]
          exact HB.out _ (List.mem_of_mem_take (List.getElem_mem _))
        · exact HR.out i)
      replace HR := HR1
      rw [← hr1] at K HF
      have HB3 := Lib.hid (show ∀ b ∈ (List.range 64).map r1, 0 ≤ b ∧ b ≤ 255 by
        intro b hb
        obtain ⟨i, _, rfl⟩ := List.mem_map.1 hb
        exact HR1.out i)
      clear hr1
      go_upto_region 9 with ((first | ((with_reducible refine at_load rfl ?_); refine wpList_reads (by rfl) (kr_load_cell K _ _ (by rfl) (by rfl) (by repeat (first | with_reducible exact Has.hd _ _ | with_reducible refine Has.tl _ ?_ | with_reducible refine Has.ap _ ?_)) (by kernel_rfl) (hcells_72 _ _ _ _)) ?_) | ((with_reducible refine at_store rfl ?_); refine wpList_does rfl (kd_store_cell K _ _ _ rfl rfl (by conv => lhs; whnf) (by repeat (first | with_reducible exact Repl.hd _ _ _ | with_reducible apply Repl.tl | with_reducible apply Repl.ap)) rfl rfl (by kernel_rfl) (by simp only [fcells_size, decide_eq_true_eq]; omega) (hcells_many _ _ _ _ _)) ?_; clear K; intro _ w1 K; (try simp only [Act.put])) | ((with_reducible refine at_slice (l := some _) (h := none) rfl ?_); refine wpList_does rfl (kd_slice K rfl rfl (64 - k) (n) (.inr rfl) (.inl ⟨rfl, rfl⟩) (R) (by omega) (by omega) (by omega) Try.underlying24 (by kernel_rfl)) ?_; rintro _ w1 ⟨rfl, B1, rfl, R1⟩; (try simp only [Nat.sub_zero, List.drop_zero] at R1)) | ((with_reducible refine at_slice (l := none) (h := none) rfl ?_); refine wpList_reads rfl (kr_slice_arr rfl rfl (0) (64) (.inl ⟨rfl, rfl⟩) (.inl ⟨rfl, rfl⟩) (by omega) (by omega) Try.underlying162 (by kernel_rfl)) ?_) | (go_at_call 98; (with_reducible refine (takes_any K (hcells_rd _ _ _ _ (Has.hd _ _)) (by omega) (by omega) (by omega) HB3.out).mono ?_); clear K; rintro e w1 ⟨rfl, K⟩; rw [HF.out] at K)))
      have HP0 : Hid ((m + (64 - k)) % 64 = 0) := Lib.hid (by have := HK.out; omega)
      have R2 : RdS w0 L .u8 B1 (n - (64 - k)) (xs.drop (64 - k)) := by
        rw [List.take_of_length_le (by simp [HXL.out])] at R1
        exact R1
      go_wp2
      go_loopg [1] (n - (64 - k)) (fun d v wr => ∃ (p q : Nat) (A' : Option Addr) (c' : Nat), v = .slice A' q c' ∧ q ≤ c' ∧ c' ≤ 9223372036854775807 ∧ Hid ((m + p) % 64 = 0) ∧ p + q = n ∧ q ≤ d ∧ RdS w0 L .u8 A' q (xs.drop p) ∧ Known w0 wr (row g (hcells (S8.start.blocks (atL (bs ++ xs)) ((m + p) / 64)) r1 0 ((m : Int) + (n : Int))) 164 :: L))
      case atStart => exact ⟨64 - k, n - (64 - k), B1, c - (64 - k), rfl, by omega, by omega, HP0, by omega, by omega, R2, K⟩
      case round =>
        clear K
        obtain ⟨p, q, A', c', rfl, hc', hm', HP, hpq, hd, R', K⟩ := hrel
        by_cases hq : 64 ≤ q
        · have hq' : (64 : Int) ≤ (q : Int) := by omega
          have HT := Lib.hid (hash_block bs xs p (by rw [← HMM.out]; exact HP.out) (by rw [HXL.out]; omega))
          rw [← HMM.out] at HT
          have HB2 := Lib.hid (show ∀ b ∈ (xs.drop p).take 64, 0 ≤ b ∧ b ≤ 255 from fun b h => HB.out b (List.mem_of_mem_drop (List.mem_of_mem_take h)))
          go_wp2_with (first | ((with_reducible refine at_slice (l := none) (h := some _) rfl ?_); refine wpList_does rfl (kd_slice K rfl rfl (0) (64) (.inl ⟨rfl, rfl⟩) (.inr rfl) (R') (by omega) (by omega) (by omega) Try.underlying24 (by kernel_rfl)) ?_; rintro _ w1 ⟨rfl, B1, rfl, R1⟩; (try simp only [Nat.sub_zero, List.drop_zero] at R1)) | ((with_reducible refine at_slice (l := some _) (h := none) rfl ?_); refine wpList_does rfl (kd_slice K rfl rfl (64) (q) (.inr rfl) (.inl ⟨rfl, rfl⟩) (R') (by omega) (by omega) (by omega) Try.underlying24 (by kernel_rfl)) ?_; rintro _ w1 ⟨rfl, B2, rfl, R2⟩; (try simp only [Nat.sub_zero, List.drop_zero] at R2)) | (go_at_call 98; (with_reducible refine (takes_any K (R1.cov (by repeat (first | with_reducible exact Cov.all _ | with_reducible exact Cov.left _ _ | with_reducible exact Cov.nil _ | (with_reducible apply Cov.app; (· repeat (first | with_reducible exact Sel.nil _ | with_reducible exact Sel.ap _ _ | with_reducible exact Sel.hd _ _ | with_reducible exact Sel.all _ | with_reducible apply Sel.tl | with_reducible apply Sel.sk))) | (with_reducible apply Cov.cons; (· repeat (first | with_reducible exact Sel.nil _ | with_reducible exact Sel.ap _ _ | with_reducible exact Sel.hd _ _ | with_reducible exact Sel.all _ | with_reducible apply Sel.tl | with_reducible apply Sel.sk))) | with_reducible refine Cov.drop _ ?_ | with_reducible refine Cov.skip _ ?_))) (by omega) (by omega) (by omega) HB2.out).mono ?_); clear K; rintro e w1 ⟨rfl, K⟩))
          rw [HT.out] at K
          go_roundg (gk - 64)
          case measure => omega
          case rel => exact ⟨p + 64, q - 64, _, _, rfl, by omega, by omega, Lib.hid (by have := HP.out; omega), by omega, by omega, (by rw [List.take_of_length_le (by simp [HXL.out]; omega), List.drop_drop] at R2; exact R2), K⟩
        · have hq' : ¬ ((64 : Int) ≤ (q : Int)) := by omega
          have HE := Lib.hid (hash_end bs xs p r1 HR.out HB.out (by rw [← HMM.out]; exact HP.out) (by rw [HXL.out]; omega) (by rw [HXL.out]; omega) (by rw [HXL.out, ← HMM.out]; omega))
          rw [← HMM.out, HXL.out] at HE
          go_wp2_with (first | ((with_reducible refine at_slice (l := none) (h := none) rfl ?_); refine wpList_reads rfl (kr_slice_arr rfl rfl (0) (64) (.inl ⟨rfl, rfl⟩) (.inl ⟨rfl, rfl⟩) (by omega) (by omega) Try.underlying162 (by kernel_rfl)) ?_) | ((with_reducible refine at_copy rfl ?_); refine wpList_does rfl (kd_copy K rfl rfl rfl (R'.at_ _ (K.cov (by repeat (first | with_reducible exact Cov.all _ | with_reducible exact Cov.left _ _ | with_reducible exact Cov.nil _ | (with_reducible apply Cov.app; (· repeat (first | with_reducible exact Sel.nil _ | with_reducible exact Sel.ap _ _ | with_reducible exact Sel.hd _ _ | with_reducible exact Sel.all _ | with_reducible apply Sel.tl | with_reducible apply Sel.sk))) | (with_reducible apply Cov.cons; (· repeat (first | with_reducible exact Sel.nil _ | with_reducible exact Sel.ap _ _ | with_reducible exact Sel.hd _ _ | with_reducible exact Sel.all _ | with_reducible apply Sel.tl | with_reducible apply Sel.sk))) | with_reducible refine Cov.drop _ ?_ | with_reducible refine Cov.skip _ ?_)))) Try.underlying24 (by kernel_rfl) (by repeat (first | with_reducible exact Repl.hd _ _ _ | with_reducible apply Repl.tl | with_reducible apply Repl.ap)) (by simp only [fcells_size]; omega)) ?_; clear K; rintro _ w1 ⟨rfl, K⟩; rw [List.take_of_length_le (by simp [HXL.out]; omega), hcells_rest0 _ _ _ _ _ (by simp [HXL.out]; omega)] at K) | ((with_reducible refine at_store rfl ?_); refine wpList_does rfl (kd_store_cell K _ _ _ rfl rfl (by conv => lhs; whnf) (by repeat (first | with_reducible exact Repl.hd _ _ _ | with_reducible apply Repl.tl | with_reducible apply Repl.ap)) rfl rfl (by kernel_rfl) (by simp only [fcells_size, decide_eq_true_eq]; omega) (hcells_many _ _ _ _ _)) ?_; clear K; intro _ w1 K; (try simp only [Act.put])))
          go_end0
          exact ⟨rfl, _, HE.out, by rw [show min 64 q = n - p by omega] at K; exact K⟩
end
end Go.Proofs.Ytokbloddaoakgaa
