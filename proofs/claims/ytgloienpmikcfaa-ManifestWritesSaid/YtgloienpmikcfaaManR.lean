/-
  The statement ManifestReads (walk).
-/
import Derived.Test.YtgloienpmikcfaaGetF
set_option linter.unusedVariables false
set_option linter.unusedSimpArgs false
namespace Go.Proofs.Ytgloienpmikcfaa
open Go.RowKit
theorem awake22K {w0 w : World} {L : List Ent} (K : Known w0 w L) : Calls Try.prog 28 #[] w fun e w' => e = .returned (.bool true) ∧ Known w0 w' L := (awake22_any w).mono fun e w' ⟨h1, h2⟩ => ⟨h1, K.below h2⟩
theorem sameZ {w0 w : World} {L : List Ent} (K : Known w0 w L) : Calls Try.prog 39 #[.agg mfcZ, .agg mfcZ] w fun e w' => e = .returned (.bool true) ∧ Known w0 w' L :=
  same_any 0 0 0 0 0 (List.replicate 96 0) none none 0 0 0 [] K (RdS.nil _ _ _ _) (RdS.nil _ _ _ _) (by simp) (by omega)
section
variable {w0 w : World} {L : List Ent} {A : Option Addr} {n c : Nat} {xs : List Int}
theorem mgetK_short (K : Known w0 w L) (hn : n < 118) : Calls Try.prog 38 #[.slice A n c] w fun e w' => e = .returned (.tuple #[.agg mfcZ, .int .i64 2]) ∧ Known w0 w' L :=
  (mget_short A n c w hn).mono fun e w' ⟨h1, h2⟩ => ⟨h1, K.below h2⟩
/-- what the bytes tell -/
structure Told (xs : List Int) (mode ver blk ol nl : Int) (D : List Int) : Prop where mk ::
  (mode : xs.getD 1 0 = mode) (ver : numL ((xs.drop 2).take 8) = ver) (blk : numL ((xs.drop 10).take 4) = blk) (ol : numL ((xs.drop 14).take 4) = ol) (nl : numL ((xs.drop 18).take 4) = nl) (D : (xs.drop 22).take 96 = D)
variable {mode ver blk ol nl : Int} {D : List Int}
theorem mgetK_yes (K : Known w0 w L) (R : RdS w0 L .u8 A n xs) (hn : 118 ≤ n) (hc : n ≤ c) (hm : c ≤ 9223372036854775807) (hn2 : n ≤ 1000000) (hb : ∀ b ∈ xs, 0 ≤ b ∧ b ≤ 255) (T : Told xs mode ver blk ol nl D) (hok : getOK xs = true) :
    Calls Try.prog 38 #[.slice A n c] w fun e w' => ∃ QA j qc X, e = .returned (.tuple #[.agg (mfc mode ver blk ol nl D (.slice QA j qc)), .int .i64 0]) ∧ OwnL 3 1 QA j qc ((getO xs).map (Value.int .i64)) X ∧ Known w0 w' (X ++ L) :=
  (mget_any A n c xs w (R.at_ w K) hn hc hm (by omega) hb mode ver blk ol nl T.mode T.ver T.blk T.ol T.nl D T.D).mono fun e w' ⟨h1, h2⟩ => by
    rcases h1 with ⟨_, QA, j, qc, h3, h4⟩ | ⟨h3, _⟩
    · obtain ⟨X, h5, h6⟩ := Own.toL h4 K h2
      exact ⟨QA, j, qc, X, h3, h5, h6⟩
    · rw [hok] at h3; cases h3
theorem mgetK_no (K : Known w0 w L) (R : RdS w0 L .u8 A n xs) (hn : 118 ≤ n) (hc : n ≤ c) (hm : c ≤ 9223372036854775807) (hn2 : n ≤ 1000000) (hb : ∀ b ∈ xs, 0 ≤ b ∧ b ≤ 255) (T : Told xs mode ver blk ol nl D) (hok : getOK xs = false) :
    Calls Try.prog 38 #[.slice A n c] w fun e w' => e = .returned (.tuple #[.agg mfcZ, .int .i64 3]) ∧ Known w0 w' L :=
  (mget_any A n c xs w (R.at_ w K) hn hc hm (by omega) hb mode ver blk ol nl T.mode T.ver T.blk T.ol T.nl D T.D).mono fun e w' ⟨h1, h2⟩ => by
    rcases h1 with ⟨h3, _⟩ | ⟨_, h3⟩
    · rw [hok] at h3; cases h3
    · exact ⟨h3, K.below h2⟩
theorem rgetK_yes (K : Known w0 w L) (R : RdS w0 L .u8 A n xs) (hn : 118 ≤ n) (hc : n ≤ c) (hm : c ≤ 9223372036854775807) (hn2 : n ≤ 1000000) (hb : ∀ b ∈ xs, 0 ≤ b ∧ b ≤ 255) (T : Told xs mode ver blk ol nl D) (hok : getOK xs = true) :
    Calls Try.prog 40 #[.slice A n c] w fun e w' => ∃ QA j qc X, e = .returned (.tuple #[.agg (mfc mode ver blk ol nl D (.slice QA j qc)), .int .i64 0]) ∧ OwnL 3 1 QA j qc ((getO xs).map (Value.int .i64)) X ∧ Known w0 w' (X ++ L) :=
  (rgetm_any K R hn hc hm hn2 hb mode ver blk ol nl T.mode T.ver T.blk T.ol T.nl D T.D).mono fun e w' h1 => by
    rcases h1 with ⟨_, h3⟩ | ⟨h3, _⟩
    · exact h3
    · rw [hok] at h3; cases h3
theorem rgetK_no (K : Known w0 w L) (R : RdS w0 L .u8 A n xs) (hn : 118 ≤ n) (hc : n ≤ c) (hm : c ≤ 9223372036854775807) (hn2 : n ≤ 1000000) (hb : ∀ b ∈ xs, 0 ≤ b ∧ b ≤ 255) (T : Told xs mode ver blk ol nl D) (hok : getOK xs = false) :
    Calls Try.prog 40 #[.slice A n c] w fun e w' => e = .returned (.tuple #[.agg mfcZ, .int .i64 3]) ∧ Known w0 w' L :=
  (rgetm_any K R hn hc hm hn2 hb mode ver blk ol nl T.mode T.ver T.blk T.ol T.nl D T.D).mono fun e w' h1 => by
    rcases h1 with ⟨h3, _⟩ | ⟨_, h3⟩
    · rw [hok] at h3; cases h3
    · exact h3
theorem mputK {QA : Option Addr} {j qc : Nat} {ys : List Int} (bs : List Int) (hbs : mbytes mode ver blk ol nl D ys = bs) (K : Known w0 w L) (R : RdS w0 L .i64 QA j ys) (hv : mayM mode blk ol nl D ys = true) (hD : D.length = 96) (hj : j ≤ 1000000) (hq : j ≤ qc) :
    Calls Try.prog 35 #[.agg (mfc mode ver blk ol nl D (.slice QA j qc))] w fun e w' => ∃ A' c' X, e = .returned (.tuple #[.slice A' (118 + 2 * j) c', .int .i64 0]) ∧ OwnL 5 1 A' (118 + 2 * j) c' (bs.map (Value.int .u8)) X ∧ Known w0 w' (X ++ L) := by
  subst hbs
  exact (mput_yes mode ver blk ol nl D QA j qc ys w hv (R.at_ w K) hD (by omega) hq).mono fun e w' ⟨A', c', h1, h2, h3⟩ => by
    obtain ⟨X, h4, h5⟩ := Own.toL h2 K h3
    exact ⟨A', c', X, h1, h4, h5⟩

set_option maxHeartbeats 1600000 in
set_option maxRecDepth 100000 in
theorem reads_walk (w : World) (R : Rd w .u8 A n xs) (hc : n ≤ c) (hm : c ≤ 9223372036854775807) (hb : ∀ v ∈ xs, 0 ≤ v ∧ v ≤ 255) : Calls Try.prog 10 #[.slice A n c] w fun e w' => e = .returned (.bool true) ∧ Below w.heap.size w w' := by
  have K := Known.start w
  have R := RdS.base R []
  have HB := Lib.hid hb
  have HL := Lib.hid R.len
  clear hb
  by_cases h : n ≤ 400
  · have h1 : ¬ (400 < (n : Int)) := by omega
    by_cases h118 : n < 118
    · go_enter Try.func10, Try.ntmps10
      go_wp2_with (first | (go_at_call 38; (with_reducible refine (mgetK_short K h118).mono ?_); clear K; rintro e w1 ⟨rfl, K⟩) | (go_at_call 40; (with_reducible refine (rgetm_short K h118).mono ?_); clear K; rintro e w1 ⟨rfl, K⟩) | (go_at_call 39; (with_reducible refine (sameZ K).mono ?_); clear K; rintro e w1 ⟨rfl, K⟩) | (go_at_call 28; (with_reducible refine (awake22K K).mono ?_); clear K; rintro e w1 ⟨rfl, K⟩) | ((with_reducible refine at_alloc rfl ?_); refine wpList_does rfl (kd_alloc (z := (.agg mfcZ)) K _ rfl (by kernel_rfl)) ?_; clear K; rintro _ w1 ⟨gz, rfl, K⟩; (try dsimp only [Value.cells] at K)) | ((with_reducible refine at_load (t := 41) rfl ?_); refine wpList_reads (by rfl) (kr_load_row (cs := mfcZ) K _ _ (by rfl) (by rfl) (by repeat (first | with_reducible exact Has.hd _ _ | with_reducible refine Has.tl _ ?_ | with_reducible refine Has.ap _ ?_)) (by decide +kernel) (by kernel_rfl)) ?_) | ((with_reducible refine at_store rfl ?_); refine wpList_does (by rfl) (kd_store_row K _ _ _ (by rfl) (by rfl) (by rfl) (by repeat (first | with_reducible exact Repl.hd _ _ _ | with_reducible apply Repl.tl | with_reducible apply Repl.ap)) (by kernel_rfl) (by kernel_rfl) mfcZ_one) ?_; clear K; intro _ w1 K; (try simp only [Act.put])))
      go_ret
      exact ⟨rfl, K.fr⟩
    · obtain ⟨mode, ver, blk, ol, nl, D, T⟩ : ∃ mode ver blk ol nl D, Told xs mode ver blk ol nl D := ⟨_, _, _, _, _, _, rfl, rfl, rfl, rfl, rfl, rfl⟩
      have hD96 : D.length = 96 := by rw [← T.D]; simp; have := HL.out; omega
      cases hok : getOK xs
      · have HOK := Lib.hid hok
        clear hok
        go_enter Try.func10, Try.ntmps10
        go_wp2_with (first | (go_at_call 38; (with_reducible refine (mgetK_no K (R.cov (by repeat (first | with_reducible exact Cov.all _ | with_reducible exact Cov.left _ _ | with_reducible exact Cov.nil _ | (with_reducible apply Cov.app; (· repeat (first | with_reducible exact Sel.nil _ | with_reducible exact Sel.ap _ _ | with_reducible exact Sel.hd _ _ | with_reducible exact Sel.all _ | with_reducible apply Sel.tl | with_reducible apply Sel.sk))) | (with_reducible apply Cov.cons; (· repeat (first | with_reducible exact Sel.nil _ | with_reducible exact Sel.ap _ _ | with_reducible exact Sel.hd _ _ | with_reducible exact Sel.all _ | with_reducible apply Sel.tl | with_reducible apply Sel.sk))) | with_reducible refine Cov.drop _ ?_ | with_reducible refine Cov.skip _ ?_))) (by omega) hc hm (by omega) HB.out T HOK.out).mono ?_); clear K; rintro e w1 ⟨rfl, K⟩) | (go_at_call 40; (with_reducible refine (rgetK_no K (R.cov (by repeat (first | with_reducible exact Cov.all _ | with_reducible exact Cov.left _ _ | with_reducible exact Cov.nil _ | (with_reducible apply Cov.app; (· repeat (first | with_reducible exact Sel.nil _ | with_reducible exact Sel.ap _ _ | with_reducible exact Sel.hd _ _ | with_reducible exact Sel.all _ | with_reducible apply Sel.tl | with_reducible apply Sel.sk))) | (with_reducible apply Cov.cons; (· repeat (first | with_reducible exact Sel.nil _ | with_reducible exact Sel.ap _ _ | with_reducible exact Sel.hd _ _ | with_reducible exact Sel.all _ | with_reducible apply Sel.tl | with_reducible apply Sel.sk))) | with_reducible refine Cov.drop _ ?_ | with_reducible refine Cov.skip _ ?_))) (by omega) hc hm (by omega) HB.out T HOK.out).mono ?_); clear K; rintro e w1 ⟨rfl, K⟩) | (go_at_call 39; (with_reducible refine (sameZ K).mono ?_); clear K; rintro e w1 ⟨rfl, K⟩) | (go_at_call 28; (with_reducible refine (awake22K K).mono ?_); clear K; rintro e w1 ⟨rfl, K⟩) | ((with_reducible refine at_alloc rfl ?_); refine wpList_does rfl (kd_alloc (z := (.agg mfcZ)) K _ rfl (by kernel_rfl)) ?_; clear K; rintro _ w1 ⟨gz, rfl, K⟩; (try dsimp only [Value.cells] at K)) | ((with_reducible refine at_load (t := 41) rfl ?_); refine wpList_reads (by rfl) (kr_load_row (cs := mfcZ) K _ _ (by rfl) (by rfl) (by repeat (first | with_reducible exact Has.hd _ _ | with_reducible refine Has.tl _ ?_ | with_reducible refine Has.ap _ ?_)) (by decide +kernel) (by kernel_rfl)) ?_) | ((with_reducible refine at_store rfl ?_); refine wpList_does (by rfl) (kd_store_row K _ _ _ (by rfl) (by rfl) (by rfl) (by repeat (first | with_reducible exact Repl.hd _ _ _ | with_reducible apply Repl.tl | with_reducible apply Repl.ap)) (by kernel_rfl) (by kernel_rfl) mfcZ_one) ?_; clear K; intro _ w1 K; (try simp only [Act.put])))
        go_ret
        exact ⟨rfl, K.fr⟩
      · have hi := (getOK_iff xs HB.out (by rw [HL.out]; omega) mode ver blk ol nl D (getO xs) T.mode T.ver T.blk T.ol T.nl T.D rfl).1 hok
        have HV := Lib.hid hi.1
        have HMB := Lib.hid hi.2
        have HOK := Lib.hid hok
        have HJ := Lib.hid (mayM_order hi.1).1
        clear hok hi
        go_enter Try.func10, Try.ntmps10
        go_wp2_with (first | (go_at_call 38; (with_reducible refine (mgetK_yes K (R.cov (by repeat (first | with_reducible exact Cov.all _ | with_reducible exact Cov.left _ _ | with_reducible exact Cov.nil _ | (with_reducible apply Cov.app; (· repeat (first | with_reducible exact Sel.nil _ | with_reducible exact Sel.ap _ _ | with_reducible exact Sel.hd _ _ | with_reducible exact Sel.all _ | with_reducible apply Sel.tl | with_reducible apply Sel.sk))) | (with_reducible apply Cov.cons; (· repeat (first | with_reducible exact Sel.nil _ | with_reducible exact Sel.ap _ _ | with_reducible exact Sel.hd _ _ | with_reducible exact Sel.all _ | with_reducible apply Sel.tl | with_reducible apply Sel.sk))) | with_reducible refine Cov.drop _ ?_ | with_reducible refine Cov.skip _ ?_))) (by omega) hc hm (by omega) HB.out T HOK.out).mono ?_); clear K; rintro e w1 ⟨QA, j, qc, X, rfl, O, K⟩; have hj : j ≤ 4096 := (by have h1 := O.len; have h2 := HJ.out; simp only [List.length_map, Nat.mul_one] at h1; omega); have hjq := O.le) | (go_at_call 40; (with_reducible refine (rgetK_yes K (R.cov (by repeat (first | with_reducible exact Cov.all _ | with_reducible exact Cov.left _ _ | with_reducible exact Cov.nil _ | (with_reducible apply Cov.app; (· repeat (first | with_reducible exact Sel.nil _ | with_reducible exact Sel.ap _ _ | with_reducible exact Sel.hd _ _ | with_reducible exact Sel.all _ | with_reducible apply Sel.tl | with_reducible apply Sel.sk))) | (with_reducible apply Cov.cons; (· repeat (first | with_reducible exact Sel.nil _ | with_reducible exact Sel.ap _ _ | with_reducible exact Sel.hd _ _ | with_reducible exact Sel.all _ | with_reducible apply Sel.tl | with_reducible apply Sel.sk))) | with_reducible refine Cov.drop _ ?_ | with_reducible refine Cov.skip _ ?_))) (by omega) hc hm (by omega) HB.out T HOK.out).mono ?_); clear K; rintro e w1 ⟨QB, j2, qc2, X2, rfl, O2, K⟩; obtain rfl : j2 = j := (by have h1 := O.len; have h2 := O2.len; simp only [List.length_map, Nat.mul_one] at h1 h2; omega)) | (go_at_call 39; (with_reducible refine (same_any _ _ _ _ _ _ _ _ _ _ _ (getO xs) K (RdS.own O (by repeat (first | with_reducible exact Seg.nil _ | with_reducible exact Seg.all _ | with_reducible exact Seg.ap _ _ | with_reducible exact Seg.hd _ _ | with_reducible apply Seg.tl | with_reducible apply Seg.sk))) (RdS.own O2 (by repeat (first | with_reducible exact Seg.nil _ | with_reducible exact Seg.all _ | with_reducible exact Seg.ap _ _ | with_reducible exact Seg.hd _ _ | with_reducible apply Seg.tl | with_reducible apply Seg.sk))) hD96 (by omega)).mono ?_); clear K; rintro e w1 ⟨rfl, K⟩) | (go_at_call 35; (with_reducible refine (mputK xs HMB.out K (RdS.own O (by repeat (first | with_reducible exact Seg.nil _ | with_reducible exact Seg.all _ | with_reducible exact Seg.ap _ _ | with_reducible exact Seg.hd _ _ | with_reducible apply Seg.tl | with_reducible apply Seg.sk))) HV.out hD96 (by omega) hjq).mono ?_); clear K; rintro e w1 ⟨A3, c3, X3, rfl, O3, K⟩) | (go_at_call 28; (with_reducible refine (awake22K K).mono ?_); clear K; rintro e w1 ⟨rfl, K⟩) | ((with_reducible refine at_alloc rfl ?_); refine wpList_does rfl (kd_alloc (z := (.agg mfcZ)) K _ rfl (by kernel_rfl)) ?_; clear K; rintro _ w1 ⟨gz, rfl, K⟩; (try dsimp only [Value.cells] at K)) | ((with_reducible refine at_load (t := 41) rfl ?_); refine wpList_reads (by rfl) (kr_load_row K _ _ (by rfl) (by rfl) (by repeat (first | with_reducible exact Has.hd _ _ | with_reducible refine Has.tl _ ?_ | with_reducible refine Has.ap _ ?_)) (by decide +kernel) (by rw [mfc_size _ _ _ _ _ _ _ hD96] <;> kernel_rfl)) ?_) | ((with_reducible refine at_store rfl ?_); refine wpList_does (by rfl) (kd_store_row K _ _ _ (by rfl) (by rfl) (by rfl) (by repeat (first | with_reducible exact Repl.hd _ _ _ | with_reducible apply Repl.tl | with_reducible apply Repl.ap)) (by rw [mfc_size _ _ _ _ _ _ _ hD96] <;> kernel_rfl) (by rw [mfcZ_size, mfc_size _ _ _ _ _ _ _ hD96] <;> rfl) (mfc_one _ _ _ _ _ _ _ _ _)) ?_; clear K; intro _ w1 K; (try simp only [Act.put])) | ((with_reducible refine at_convert (t := 44) (u := 9) rfl ?_); refine wpList_reads rfl (kr_string rfl rfl ((RdS.own (L := _) O3 (by repeat (first | with_reducible exact Seg.nil _ | with_reducible exact Seg.all _ | with_reducible exact Seg.ap _ _ | with_reducible exact Seg.hd _ _ | with_reducible apply Seg.tl | with_reducible apply Seg.sk))).at_ _ K) Try.underlying44 Try.underlying5 Try.underlying9) ?_) | ((with_reducible refine at_convert (t := 44) (u := 9) rfl ?_); refine wpList_reads rfl (kr_string rfl rfl (R.get K (by repeat (first | with_reducible exact Cov.all _ | with_reducible exact Cov.left _ _ | with_reducible exact Cov.nil _ | (with_reducible apply Cov.app; (· repeat (first | with_reducible exact Sel.nil _ | with_reducible exact Sel.ap _ _ | with_reducible exact Sel.hd _ _ | with_reducible exact Sel.all _ | with_reducible apply Sel.tl | with_reducible apply Sel.sk))) | (with_reducible apply Cov.cons; (· repeat (first | with_reducible exact Sel.nil _ | with_reducible exact Sel.ap _ _ | with_reducible exact Sel.hd _ _ | with_reducible exact Sel.all _ | with_reducible apply Sel.tl | with_reducible apply Sel.sk))) | with_reducible refine Cov.drop _ ?_ | with_reducible refine Cov.skip _ ?_))) Try.underlying44 Try.underlying5 Try.underlying9) ?_))
        go_ret
        exact ⟨rfl, K.fr⟩
  · have h1 : 400 < (n : Int) := by omega
    go_enter Try.func10, Try.ntmps10
    go_wp2_with (first | (go_at_call 28; (with_reducible refine (awake22K K).mono ?_); clear K; rintro e w1 ⟨rfl, K⟩))
    go_ret
    exact ⟨rfl, K.fr⟩
end
end Go.Proofs.Ytgloienpmikcfaa
