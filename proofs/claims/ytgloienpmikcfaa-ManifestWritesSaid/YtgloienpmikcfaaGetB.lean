/-
  manifest.Get's function of a place; the document's Get of a number; a digest out of bytes (contracts).
-/
import Derived.Test.YtgloienpmikcfaaGetA
set_option linter.unusedVariables false
set_option linter.unusedSimpArgs false
namespace Go.Proofs.Ytgloienpmikcfaa
open Go.RowKit

section
variable (A : Option Addr) (n c : Nat) (xs : List Int) (a k : Nat) (x y : Int) (w : World)
set_option maxHeartbeats 800000 in
set_option maxRecDepth 100000 in
theorem get1_any (g : Nat) (B : Blk w g #[.slice A n c] 44) (R : Rd w .u8 A n xs) (hx : x = a) (hy : y = k) (h1 : 1 ≤ k) (h8 : k ≤ 8) (hak : a + k ≤ n) (hc : n ≤ c) (hm : c ≤ 9223372036854775807) (hb : ∀ b ∈ xs, 0 ≤ b ∧ b ≤ 255) :
    Calls Try.prog 61 #[.int .i64 x, .int .i64 y, .pointer (some ⟨g, 0, none⟩)] w fun e w' => e = .returned (.int .u64 (numL ((xs.drop a).take k))) ∧ w = w' := by
  subst hx hy
  go_enter Try.func61, Try.ntmps61
  go_wp2_with (first | ((with_reducible refine at_load (t := 44) rfl ?_); refine ev_load_cell rfl 44 _ rfl B rfl (by kernel_rfl) (by kernel_rfl) rfl ?_) | (go_at_call 62; (with_reducible refine (get_any _ _ _ _ _ _ _ _ _ R rfl rfl h1 h8 hak hc hm hb).mono ?_); rintro e w' ⟨rfl, rfl⟩))
  go_ret
  exact ⟨rfl, rfl⟩

set_option maxHeartbeats 800000 in
set_option maxRecDepth 100000 in
theorem rget_any (R : Rd w .u8 A n xs) (hx : x = a) (hy : y = k) (h1 : 1 ≤ k) (h8 : k ≤ 8) (hak : a + k ≤ n) (hc : n ≤ c) (hm : c ≤ 9223372036854775807) (hb : ∀ b ∈ xs, 0 ≤ b ∧ b ≤ 255) :
    Calls Try.prog 63 #[.slice A n c, .int .i64 x, .int .i64 y] w fun e w' => e = .returned (.tuple #[.int .u64 (numL ((xs.drop a).take k)), .int .i64 0]) ∧ w = w' := by
  subst hx hy
  obtain ⟨b, off, rfl, hlt, hcell⟩ := R.form (by omega)
  have d1 : decide ((k : Int) < 1) = false := decide_eq_false (by omega)
  have d2 : decide (8 < (k : Int)) = false := decide_eq_false (by omega)
  have d3 : decide ((a : Int) < 0) = false := decide_eq_false (by omega)
  have d4 : decide ((n : Int) < (a : Int)) = false := decide_eq_false (by omega)
  have d5 : decide ((n : Int) - (a : Int) < (k : Int)) = false := decide_eq_false (by omega)
  have HC := Lib.hid hcell
  have HB := Lib.hid hb
  clear hcell hb
  go_enter Try.func63, Try.ntmps63
  go_wp2
  go_loop [8, 9] (fun t i => ∃ j : Nat, j ≤ k ∧ i = .int .i64 j ∧ t = .int .u64 (numL ((xs.drop a).take j))) (fun _ i => k - (intOf i).toNat)
  case atStart => exact ⟨0, Nat.zero_le _, rfl, rfl⟩
  case round =>
    obtain ⟨j, hj, rfl, rfl⟩ := hrel
    by_cases hlt : j < k
    · obtain ⟨v, hv⟩ : ∃ v, v = xs.getD (a + j) 0 := ⟨_, rfl⟩
      have hl := R.len
      have hcj := HC.out (a + j) (by omega)
      rw [← hv] at hcj
      have hv2 := HB.out v (by rw [hv, List.getD, List.getElem?_eq_getElem (by omega)]; exact List.getElem_mem _)
      obtain ⟨v0, v1⟩ := hv2
      have HT := Lib.hid (show numL ((xs.drop a).take (j + 1)) = numL ((xs.drop a).take j) * 256 + v by
        rw [take_snoc' (xs.drop a) j (by simp; omega), numL_snoc, hv]; simp [List.getD])
      obtain ⟨u, hu⟩ : ∃ u, numL ((xs.drop a).take j) = u := ⟨_, rfl⟩
      have hub := numL_bound 7 ((xs.drop a).take j) (by simp; omega) (fun c hc => HB.out c (List.mem_of_mem_drop (List.mem_of_mem_take hc)))
      rw [hu] at HT hub ⊢
      obtain ⟨u0, u1⟩ := hub
      have u2 : u ≤ 72057594037927935 := by have e : (256 : Int) ^ 7 = 72057594037927936 := by decide
                                            omega
      clear hv hl hu u1
      go_wp2
      go_round
      case rel => exact ⟨j + 1, by omega, by go_num, by rw [HT.out]⟩
      case measure => simp [intOf]; omega
    · have e : j = k := by omega
      subst e
      go_wp2
      go_ret2
      exact ⟨rfl, rfl⟩

theorem u8s_fill (ys : List Int) (j : Nat) (hj : j < 32) (hy : ys.length = 32) : (u8s (ys.take j ++ List.replicate (32 - j) 0)).setIfInBounds j (.int .u8 (ys.getD j 0)) = u8s (ys.take (j + 1) ++ List.replicate (32 - (j + 1)) 0) := by
  apply Array.ext_getElem?
  intro i
  rw [Array.getElem?_setIfInBounds]
  have e1 : (u8s (ys.take j ++ List.replicate (32 - j) 0)).size = 32 := by simp [u8s_size, hy]; omega
  rw [e1]
  simp only [u8s, List.getElem?_toArray, List.getElem?_map, List.getElem?_append, List.length_take, hy, List.getElem?_take, List.getElem?_replicate]
  rw [show min j 32 = j by omega, show min (j + 1) 32 = j + 1 by omega]
  by_cases h : j = i
  · subst h
    simp [hj, List.getD, hy]
  · simp only [h, if_false]
    by_cases h2 : i < j
    · simp [h2, show i < j + 1 by omega]
    · rw [if_neg h2, if_neg (show ¬ i < j + 1 by omega)]
      congr 1
      by_cases h3 : i < 32
      · rw [if_pos (by omega), if_pos (by omega)]
      · rw [if_neg (by omega), if_neg (by omega)]

set_option maxHeartbeats 800000 in
set_option maxRecDepth 100000 in
theorem digest_any (R : Rd w .u8 A n xs) (hx : x = a) (hak : a + 32 ≤ n) (hc : n ≤ c) (hm : c ≤ 9223372036854775807) :
    Calls Try.prog 64 #[.slice A n c, .int .i64 x] w fun e w' => e = .returned (.agg (u8s ((xs.drop a).take 32))) ∧ Below w.heap.size w w' := by
  have F := Fr.refl w
  subst hx
  obtain ⟨b, off, rfl, hlt, hcell⟩ := R.form (by omega)
  obtain ⟨ys, hys⟩ : ∃ ys, (xs.drop a).take 32 = ys := ⟨_, rfl⟩
  have hyl : ys.length = 32 := by rw [← hys]; have := R.len; simp; omega
  have HC := Lib.hid (fun (w' : World) (F' : Fr w w') (j : Nat) (hj : j < 32) => ((F'.out.cell (p := ⟨b, off + (a + j), none⟩) hlt).trans (hcell (a + j) (by omega)) : w'.cell? _ = _))
  have HY := Lib.hid (fun (j : Nat) (hj : j < 32) => (show xs.getD (a + j) 0 = ys.getD j 0 by rw [← hys]; simp [List.getD, hj]))
  have HL := Lib.hid hyl
  rw [hys]
  clear hcell hys hyl
  go_enter Try.func64, Try.ntmps64
  go_wp2_with (first | ((with_reducible refine at_slot (N := 4) rfl ?_); refine ev_new rfl (cs := u8s zeros32) (t := 38) (by first | (go_simp; done) | (go_simp; rfl)) ?_; intro gE hgE wE E nbE; have GEE : w.heap.size ≤ gE := (by rw [hgE]; exact F.size); clear hgE; replace F := F.step nbE; clear nbE) | ((with_reducible refine at_build (t := 38) rfl ?_); refine ev_build0 rfl 38 rfl (zeros_u8s _) ?_) | ((with_reducible refine at_slot (N := 5) rfl ?_); refine ev_new rfl (cs := u8s zeros32) (t := 38) (by first | (go_simp; done) | (go_simp; rfl)) ?_; intro gG hgG wG G nbG; have GEG : w.heap.size ≤ gG := (by rw [hgG]; exact F.size); have neEG : gE ≠ gG := (by have := E.lt; omega); have neGE : gG ≠ gE := Ne.symm neEG; clear hgG; replace F := F.step nbG; replace E := E.below nbG; clear nbG) | ((with_reducible refine at_store (t := 38) rfl ?_); refine ev_store_row rfl 38 _ _ rfl G rfl rfl (by kernel_rfl) rfl (by kernel_rfl) ?_; intro w1 G np; replace F := F.put np GEG; replace E := E.put np neEG; clear np))
  have hz : zeros32 = ys.take 0 ++ List.replicate (32 - 0) 0 := by simp [zeros32]
  rw [hz] at G
  clear hz
  go_loopw [8] (fun i wr => ∃ j : Nat, j ≤ 32 ∧ i = .int .i64 j ∧ Fr w wr ∧ Blk wr gG (u8s (ys.take j ++ List.replicate (32 - j) 0)) 38 ∧ Blk wr gE (u8s zeros32) 38) (fun i _ => 32 - (intOf i).toNat)
  case atStart => exact ⟨0, by omega, rfl, F, G, E⟩
  case round =>
    clear F G E
    obtain ⟨j, hj, rfl, F, G, E⟩ := hrel
    by_cases hlt : j < 32
    · obtain ⟨v, hv⟩ : ∃ v, v = ys.getD j 0 := ⟨_, rfl⟩
      have hcj := HC.out wr F j hlt
      rw [HY.out j hlt, ← hv] at hcj
      have HT := Lib.hid (u8s_fill ys j hlt HL.out)
      rw [← hv] at HT
      clear hv
      have hl1 : (j : Int) < 32 := by omega
      go_wp2_with (first | ((with_reducible refine at_store (t := 5) rfl ?_); refine ev_store_cell rfl 5 _ _ rfl G rfl ((.int .u8 v)) rfl rfl rfl (by kernel_rfl) (by rw [u8s_size, List.length_append, List.length_take, HL.out, List.length_replicate]; omega) ?_; intro w1 G np; replace F := F.put np GEG; replace E := E.put np neEG; clear np))
      rw [HT.out] at G
      go_roundw
      case rel => exact ⟨j + 1, by omega, by go_num, F, G, E⟩
      case measure => simp [intOf]; omega
    · have e : j = 32 := by omega
      subst e
      have e2 : ys.take 32 ++ List.replicate (32 - 32) 0 = ys := by rw [List.take_of_length_le (by rw [HL.out]; exact Nat.le_refl _)]; simp
      rw [e2] at G
      clear e2
      go_wp2_with (first | ((with_reducible refine at_load (t := 38) rfl ?_); refine ev_load_row rfl 38 _ rfl G rfl Try.underlying38 rfl (by rw [u8s_size, HL.out]; kernel_rfl) ?_) | ((with_reducible refine at_store (t := 38) rfl ?_); refine ev_store_row rfl 38 _ _ rfl E rfl rfl (by simp only [u8s_size]; rw [HL.out]; kernel_rfl) (by simp only [u8s_size]; rw [HL.out]; kernel_rfl) (u8s_one _) ?_; intro w1 E np; replace F := F.put np GEE; replace G := G.put np neGE; clear np))
      exact bodyPost_ret (res_cell rfl _ E rfl Try.underlying38 rfl (by rw [u8s_size, HL.out]; kernel_rfl)) rfl ⟨rfl, F.out⟩
end
end Go.Proofs.Ytgloienpmikcfaa
