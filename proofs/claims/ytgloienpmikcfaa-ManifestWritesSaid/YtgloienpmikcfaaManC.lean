/-
  Package manifest: once (contract).
-/
import Derived.Test.YtgloienpmikcfaaOnce
set_option linter.unusedVariables false
set_option linter.unusedSimpArgs false
namespace Go.Proofs.Ytgloienpmikcfaa
open Go.RowKit

set_option maxHeartbeats 800000 in
set_option maxRecDepth 100000 in
theorem once_any (A : Option Addr) (n c : Nat) (xs : List Int) (m : Int) (w : World) (R : Rd w .i64 A n xs) (hn : n ≤ 1152921504606846976) (hm : m ≤ 1000000) (_hc : n ≤ c) :
    Calls Try.prog 60 #[.slice A n c, .int .i64 m] w fun e w' => e = .returned (.bool (onceB xs m)) ∧ Below w.heap.size w w' := by
  have hl := R.len
  by_cases hlen : (n : Int) = m
  · subst hlen
    have F : Fr w w := Fr.refl w
    have HA : Hid (0 < n → ∀ b off, A = some ⟨b, off, none⟩ → b < w.heap.size) := Lib.hid (fun h0 b off e => by obtain ⟨b', off', e', hb', _⟩ := R.form h0; rw [e] at e'; injection e' with e'; injection e' with e1 e2; omega)
    have HL := Lib.hid hl
    clear hl
    go_enter Try.func60, Try.ntmps60
    go_wp2_with ((with_reducible refine at_slot (N := 13) rfl ?_); refine ev_make rfl 102 4 rfl (z := .bool false) (bytes := 1) (by kernel_rfl) (by kernel_rfl) rfl n rfl rfl (by omega) (by omega) ?_; intro gH hgH wH H nb; have GEH : w.heap.size ≤ gH := (by rw [hgH]; exact Nat.le_refl _); have LTH : ∀ b, b < w.heap.size → b ≠ gH := (by intro b hb; omega); clear hgH; replace F := F.step nb; replace R := R.below nb; clear nb)
    rw [hadA_nil] at H
    have hgH := H.lt
    replace LTH := Lib.hid LTH
    go_loopw [16] (fun i wr => ∃ k : Nat, k ≤ n ∧ i = .int .i64 k ∧ Blk wr gH (hadA n (xs.take k)) 4 ∧ Fr w wr ∧ Rd wr .i64 A n xs ∧ goodK xs n k) (fun i _ => n - (intOf i).toNat)
    case atStart => exact ⟨0, Nat.zero_le _, rfl, H, F, R, by simp [goodK]⟩
    case round =>
      clear H F R hgH
      obtain ⟨k, hk, rfl, H, F, R, G⟩ := hrel
      by_cases hlt : k < n
      · obtain ⟨b, off, rfl, hb, hcell⟩ := R.form (by omega)
        have hc := hcell k hlt
        obtain ⟨y, hy⟩ : ∃ y, y = xs.getD k 0 := ⟨_, rfl⟩
        rw [← hy] at hc
        have HT := Lib.hid ((take_snoc' xs k (by rw [HL.out]; omega)).trans (by rw [← hy]) : xs.take (k + 1) = xs.take k ++ [y])
        clear hy hcell
        by_cases y0 : 0 ≤ y
        · by_cases y1 : y < (n : Int)
          · have cH0 : wr.cell? ⟨gH, y.toNat, none⟩ = some (.bool (decide (y ∈ xs.take k))) := (H.cell _).trans (hadA_at n _ y y0 y1)
            have fH := H.frozen y.toNat
            by_cases hin : y ∈ xs.take k
            · have cH : wr.cell? ⟨gH, y.toNat, none⟩ = some (.bool true) := by rw [cH0, decide_eq_true hin]
              have HX := Lib.hid (bad_mem (m := (n : Int)) (by rw [HL.out]) HT.out (.inr hin))
              clear cH0 hin
              go_wp2
              go_ret
              exact ⟨ret_bool' HX.out.symm, F.out⟩
            · have cH : wr.cell? ⟨gH, y.toNat, none⟩ = some (.bool false) := by rw [cH0, decide_eq_false hin]
              have G' := Lib.hid (goodK_step G HT.out y0 y1 hin)
              have HS := Lib.hid (hadA_set n (xs.take k) y y0)
              clear cH0 hin
              go_wp2_with (first | ((with_reducible refine at_store (t := 4) rfl ?_); refine ev_store_cell rfl 4 _ _ rfl H rfl (.bool true) rfl rfl rfl (by kernel_rfl) (by simp [hadA_size]; omega) ?_; intro w1 H np; replace F := F.put np GEH))
              go_roundw
              case rel => exact ⟨k + 1, by omega, by go_num, by rw [HT.out, ← HS.out]; exact H, F, R.put np (fun b' off' e => LTH.out _ (HA.out (by omega) _ _ e)), G'.out⟩
              case measure => simp [intOf]; omega
          · have HX := Lib.hid (bad_mem (m := (n : Int)) (by rw [HL.out]) HT.out (.inl (by omega)))
            go_wp2
            go_ret
            exact ⟨ret_bool' HX.out.symm, F.out⟩
        · have HX := Lib.hid (bad_mem (m := (n : Int)) (by rw [HL.out]) HT.out (.inl (by omega)))
          go_wp2
          go_ret
          exact ⟨ret_bool' HX.out.symm, F.out⟩
      · go_wp2
        go_ret
        exact ⟨ret_bool' (good_all (by rw [HL.out]) (by rw [HL.out]; omega) G).symm, F.out⟩
  · have e : onceB xs m = false := by rw [onceB, decide_eq_false_iff_not]; rintro ⟨h, _⟩; omega
    rw [e]
    clear e
    have hne : ((n : Int) != m) = true := by simpa using hlen
    clear hlen
    go_enter Try.func60, Try.ntmps60
    go_wp2
    go_ret
    exact ⟨rfl, Below.refl _ _⟩
end Go.Proofs.Ytgloienpmikcfaa
