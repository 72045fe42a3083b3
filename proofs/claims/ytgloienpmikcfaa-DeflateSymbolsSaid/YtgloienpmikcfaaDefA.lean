/-
  Package deflate: stored blocks; the reference's (contracts).
-/
import Derived.Test.YtgloienpmikcfaaBitsW
import Derived.Test.YtgloienpmikcfaaDefM
set_option linter.unusedVariables false
set_option linter.unusedSimpArgs false
namespace Go.Proofs.Ytgloienpmikcfaa
open Go.RowKit
section
variable {w0 w : World} {L : List Ent}
theorem u32_nat {n : Nat} (h : n < 4294967296) : IntKind.u32.wrap (n : Int) = (n : Int) := by simp [IntKind.wrap, IntKind.bits, IntKind.signed] <;> omega
theorem u32_xor16 (n : Nat) (h : n ≤ 65535) : bits .xor .u32 (n : Int) 65535 = ((65535 - n : Nat) : Int) := by
  rw [show (65535 : Int) = ((65535 : Nat) : Int) by rfl, u32_xor_nat n 65535 (by omega) (by omega), xor_low n h]
theorem wput_v {w0 w : World} {L X : List Ent} {g : Nat} {b : List Bool} {v m : Int} (x k : Nat) (hv : v = x) (hm : m = k) (hk : k ≤ 32) (K : Known w0 w (X ++ L)) (hW : Wr g b X) (hx : x < 4294967296) (hb : b.length ≤ 100000000000) :
    Calls Try.prog 44 #[.pointer (some ⟨g, 0, none⟩), .int .u32 v, .int .i64 m] w fun e w' => e = .returned (.tuple #[]) ∧ ∃ X', Wr g (b ++ bitsN k x) X' ∧ Known w0 w' (X' ++ L) := by
  subst hv; subst hm
  have h := wput_any x (k : Int) K hW hx hb
  rwa [show (min (max (k : Int) 0) 32).toNat = k by omega] at h
theorem pack_ofBytes (l : List Int) (h : ∀ v ∈ l, 0 ≤ v ∧ v ≤ 255) {n : Nat} (hn : n = ((ofBytes l).length + 7) / 8) : pack n (ofBytes l) = l := by
  have h1 := pack_bytes 0 [] rfl l h
  have : n = 0 + l.length := by rw [hn, ofBytes_length]; omega
  rw [this]
  simpa [pack] using h1

set_option maxHeartbeats 1000000 in
set_option maxRecDepth 100000 in
theorem stored_any {A : Option Addr} {n c : Nat} {xs : List Int} (K : Known w0 w L) (R : RdS w0 L .u8 A n xs) (hb : ∀ v ∈ xs, 0 ≤ v ∧ v ≤ 255) (hc : n ≤ c) (hn : n ≤ 5000000000) :
    Calls Try.prog 20 #[.slice A n c] w fun e w' => ∃ A' n' c' X, e = .returned (.slice A' n' c') ∧ OwnL 5 1 A' n' c' ((stL xs).map (Value.int .u8)) X ∧ Known w0 w' (X ++ L) := by
  obtain ⟨tot, htot⟩ : ∃ t, stL xs = t := ⟨_, rfl⟩
  have HT0 := Lib.hid htot
  have HB := Lib.hid hb
  clear htot hb
  go_enter Try.func20, Try.ntmps20
  go_wp2_with (first | (go_at_call 43; go_loud ((with_reducible refine (wnew_any K).mono ?_); clear K; rintro e w1 ⟨g, X, rfl, W, K⟩)))
  go_loopg [0] n (fun d s wr => ∃ A n c xs acc X, s = .slice A n c ∧ RdS w0 L .u8 A n xs ∧ Hid (∀ v ∈ xs, 0 ≤ v ∧ v ≤ 255) ∧ n ≤ c ∧ Wr g (ofBytes acc) X ∧ Known w0 wr (X ++ L) ∧ Hid (acc ++ stL xs = tot) ∧ Hid (∀ v ∈ acc, 0 ≤ v ∧ v ≤ 255) ∧ acc.length + 2 * n ≤ 10000000000 ∧ n ≤ d)
  case atStart => exact ⟨A, n, c, xs, [], X, rfl, R, HB, hc, W, K, Lib.hid (by simpa using HT0.out), Lib.hid (by simp), by simp; omega, by omega⟩
  case round =>
    clear K W R HB hc hn
    obtain ⟨A, n, c, xs, acc, X, rfl, R, HB, hc, W, K, HT, HA, hlen, hd⟩ := hrel
    have hl := R.len
    have e0 : (ofBytes acc).length = 8 * acc.length := ofBytes_length acc
    by_cases h : n ≤ 65535
    · have hm : min (n : Int) 65535 = (n : Int) := by omega
      have HE := Lib.hid (show padB (padB ((ofBytes acc ++ bitsN 1 1) ++ bitsN 2 0) ++ bitsN 16 n ++ bitsN 16 (65535 - n)) ++ ofBytes xs = ofBytes (acc ++ stBlock true xs) by
        have h := stored_bits acc xs true (by omega)
        rw [hl] at h
        exact h)
      have HX := Lib.hid (show xs.take n = xs by simp [← hl])
      have hl2 : xs.length ≤ n := by omega
      clear hl
      go_wp2_with (first | (go_at_call 44; go_loud ((with_reducible refine (wput_v 1 1 (by omega) (by omega) (by omega) K W (by omega) (by simp [padB_length]; omega)).mono ?_); clear K; rintro e w1 ⟨rfl, X, W, K⟩)) | (go_at_call 44; go_loud ((with_reducible refine (wput_v 0 2 (by omega) (by omega) (by omega) K W (by omega) (by simp [padB_length]; omega)).mono ?_); clear K; rintro e w1 ⟨rfl, X, W, K⟩)) | (go_at_call 44; go_loud ((with_reducible refine (wput_v n 16 (by omega) (by omega) (by omega) K W (by omega) (by simp [padB_length]; omega)).mono ?_); clear K; rintro e w1 ⟨rfl, X, W, K⟩)) | (go_at_call 44; go_loud ((with_reducible refine (wput_v (65535 - n) 16 (by exact u32_xor16 n h) (by omega) (by omega) K W (by omega) (by simp [padB_length]; omega)).mono ?_); clear K; rintro e w1 ⟨rfl, X, W, K⟩)) | (go_at_call 45; go_loud ((with_reducible refine (walign_any K W (by simp; omega)).mono ?_); clear K; rintro e w1 ⟨rfl, X, W, K⟩)) | ((with_reducible refine at_slice (l := none) (h := some _) rfl ?_); go_loud (refine wpList_does rfl (kd_slice K rfl rfl (0) (n) (.inl ⟨rfl, rfl⟩) (.inr rfl) (R) (by omega) (by omega) (by omega) Try.underlying44 (by kernel_rfl)) ?_; rintro _ w1 ⟨rfl, B1, rfl, RB⟩; (try simp only [Nat.sub_zero, List.drop_zero] at RB))) | (go_at_call 46; go_loud ((with_reducible refine (wraw_any K W (by rw [HX.out] at RB; exact RB) (HB.out) (by simp [padB_length]; omega)).mono ?_); clear K; rintro e w1 ⟨rfl, X, W, K⟩)) | ((with_reducible refine at_slice (l := some _) (h := none) rfl ?_); go_loud (refine wpList_does rfl (kd_slice K rfl rfl (n) (n) (.inr rfl) (.inl ⟨rfl, rfl⟩) (R) (by omega) (by omega) (by omega) Try.underlying44 (by kernel_rfl)) ?_; rintro _ w1 ⟨rfl, B2, rfl, R2⟩; (try simp only [Nat.sub_zero, List.drop_zero] at R2))) | (go_at_call 47; go_loud ((with_reducible refine (wbytes_any K W (by simp [padB_length]; omega)).mono ?_); clear K; rintro e w1 ⟨A2, n2, c2, Z, rfl, HN, O, K⟩)))
      go_ret
      rw [HE.out] at O
      refine ⟨A2, n2, c2, Z, rfl, ?_, K.cov (by repeat (first | with_reducible exact Cov.all _ | with_reducible exact Cov.left _ _ | with_reducible exact Cov.nil _ | with_reducible refine Cov.app (by repeat (first | with_reducible exact Sel.ap _ _ | with_reducible exact Sel.hd _ _ | with_reducible exact Sel.all _ | with_reducible apply Sel.tl | with_reducible apply Sel.sk)) ?_ | with_reducible refine Cov.cons (by repeat (first | with_reducible exact Sel.ap _ _ | with_reducible exact Sel.hd _ _ | with_reducible exact Sel.all _ | with_reducible apply Sel.tl | with_reducible apply Sel.sk)) ?_ | with_reducible refine Cov.drop _ ?_ | with_reducible refine Cov.skip _ ?_))⟩
      rw [pack_ofBytes _ (fun v hv => by
        rcases List.mem_append.1 hv with h1 | h1
        · exact HA.out v h1
        · exact stBlock_byte true xs HB.out (by rw [R.len]; omega) v h1) (by rw [HN.out, HE.out]), ← stL_small xs (by rw [R.len]; omega), HT.out] at O
      rw [HT0.out]
      exact O
    · have hm : min (n : Int) 65535 = 65535 := by omega
      have hne : ((65535 : Int) == (n : Int)) = false := by simp; omega
      have hlt : (xs.take 65535).length = 65535 := by simp; omega
      have HE := Lib.hid (show padB (padB ((ofBytes acc ++ bitsN 1 0) ++ bitsN 2 0) ++ bitsN 16 65535 ++ bitsN 16 (65535 - 65535)) ++ ofBytes (xs.take 65535) = ofBytes (acc ++ stBlock false (xs.take 65535)) by
        have h := stored_bits acc (xs.take 65535) false (by omega)
        rw [hlt] at h
        exact h)
      have HS := Lib.hid (stL_big xs (by omega))
      have hl2 : xs.length ≤ n := by omega
      have HLT := Lib.hid hlt
      clear hl hlt
      go_wp2_with (first | (go_at_call 44; go_loud ((with_reducible refine (wput_v 0 1 (by omega) (by omega) (by omega) K W (by omega) (by simp [padB_length]; omega)).mono ?_); clear K; rintro e w1 ⟨rfl, X, W, K⟩)) | (go_at_call 44; go_loud ((with_reducible refine (wput_v 0 2 (by omega) (by omega) (by omega) K W (by omega) (by simp [padB_length]; omega)).mono ?_); clear K; rintro e w1 ⟨rfl, X, W, K⟩)) | (go_at_call 44; go_loud ((with_reducible refine (wput_v 65535 16 (by omega) (by omega) (by omega) K W (by omega) (by simp [padB_length]; omega)).mono ?_); clear K; rintro e w1 ⟨rfl, X, W, K⟩)) | (go_at_call 44; go_loud ((with_reducible refine (wput_v (65535 - 65535) 16 (by exact (by decide +kernel)) (by omega) (by omega) K W (by omega) (by simp [padB_length]; omega)).mono ?_); clear K; rintro e w1 ⟨rfl, X, W, K⟩)) | (go_at_call 45; go_loud ((with_reducible refine (walign_any K W (by simp; omega)).mono ?_); clear K; rintro e w1 ⟨rfl, X, W, K⟩)) | ((with_reducible refine at_slice (l := none) (h := some _) rfl ?_); go_loud (refine wpList_does rfl (kd_slice K rfl rfl (0) (65535) (.inl ⟨rfl, rfl⟩) (.inr rfl) (R) (by omega) (by omega) (by omega) Try.underlying44 (by kernel_rfl)) ?_; rintro _ w1 ⟨rfl, B1, rfl, RB⟩; (try simp only [Nat.sub_zero, List.drop_zero] at RB))) | (go_at_call 46; go_loud ((with_reducible refine (wraw_any K W RB (fun v hv => HB.out v (List.mem_of_mem_take hv)) (by simp [padB_length]; omega)).mono ?_); clear K; rintro e w1 ⟨rfl, X, W, K⟩)) | ((with_reducible refine at_slice (l := some _) (h := none) rfl ?_); go_loud (refine wpList_does rfl (kd_slice K rfl rfl (65535) (n) (.inr rfl) (.inl ⟨rfl, rfl⟩) (R) (by omega) (by omega) (by omega) Try.underlying44 (by kernel_rfl)) ?_; rintro _ w1 ⟨rfl, B2, rfl, R2⟩; (try simp only [Nat.sub_zero, List.drop_zero] at R2))))
      go_roundg (gk - 65535)
      case measure => omega
      case rel =>
        rw [HE.out] at W
        rw [List.take_of_length_le (by simp; omega)] at R2
        refine ⟨B2, n - 65535, c - 65535, _, _, X, rfl, R2, Lib.hid (fun v hv => HB.out v (List.mem_of_mem_drop hv)), by omega, W, K, Lib.hid (by rw [List.append_assoc, ← HS.out]; exact HT.out), Lib.hid (fun v hv => ?_), ?_, by omega⟩
        · rcases List.mem_append.1 hv with h1 | h1
          · exact HA.out v h1
          · exact stBlock_byte false _ (fun v hv => HB.out v (List.mem_of_mem_take hv)) (by rw [HLT.out]; omega) v h1
        · rw [List.length_append, stBlock_length, HLT.out]; omega
end
end Go.Proofs.Ytgloienpmikcfaa
