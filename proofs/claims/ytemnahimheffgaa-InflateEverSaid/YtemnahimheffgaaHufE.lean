/-
  Package huff: longest, Next (contracts).
-/
import Derived.Test.YtemnahimheffgaaHufD
import Derived.Test.YtemnahimheffgaaBitR
set_option linter.unusedVariables false
set_option linter.unusedSimpArgs false
namespace Go.Proofs.Ytemnahimheffgaa
open Go.RowKit
def longT (M : Nat → Int) : Nat → Nat
  | 0 => 0
  | n + 1 => if 0 < M (n + 1) then n + 1 else longT M n
theorem longT_le (M : Nat → Int) : ∀ n, longT M n ≤ n
  | 0 => Nat.le_refl _
  | n + 1 => by
    rw [longT]
    split
    · omega
    · have := longT_le M n; omega
theorem idxT_len (l : List Int) (k : Nat) : ∀ i, i ≤ l.length → ((idxT l k i).length : Int) = cntN (l.take i) k
  | 0, _ => by simp [idxT, cntN]
  | i + 1, h => by
    have ih := idxT_len l k i (by omega)
    have htk : l.take (i + 1) = l.take i ++ [l.getD i 0] := by
      rw [List.take_add_one, List.getElem?_eq_getElem (by omega)]
      simp [List.getD, List.getElem?_eq_getElem (show i < l.length by omega)]
    rw [htk, cntN_snoc, idxT]
    by_cases hx : l.getD i 0 = (k : Int)
    · rw [if_pos hx, if_pos hx, List.length_append, ← ih]; simp
    · rw [if_neg hx, if_neg hx, ← ih]; omega
theorem symT_mono (l : List Int) {a b : Nat} (h : a ≤ b) : (symT l a).length ≤ (symT l b).length := by
  induction b with
  | zero => obtain rfl : a = 0 := by omega
            exact Nat.le_refl _
  | succ b ih =>
    by_cases hab : a = b + 1
    · subst hab; exact Nat.le_refl _
    · rw [symT, List.length_append]
      have := ih (by omega)
      omega
theorem sym_in (l : List Int) {n : Nat} (hn : n < 15) {k : Int} (h0 : 0 ≤ k) (hk : k < cntA l (n + 1)) : 0 ≤ fromT l (n + 1) ∧ fromT l (n + 1) + k < (symT l 15).length := by
  have h1 : fromT l (n + 1) = ((symT l n).length : Nat) := by rw [fromT, if_neg (by omega), show n + 1 - 1 = n by omega]
  have h2 : cntA l (n + 1) = ((idxT l (n + 1) l.length).length : Nat) := by
    rw [idxT_len l (n + 1) l.length (Nat.le_refl _), List.take_of_length_le (Nat.le_refl _), cntA, if_neg (by omega)]
  have h3 : (symT l (n + 1)).length = (symT l n).length + (idxT l (n + 1) l.length).length := by rw [symT, List.length_append]
  have h4 := symT_mono l (show n + 1 ≤ 15 by omega)
  rw [h1]
  omega
/-- the symbol behind n bits that were read, where it stands, the error: (symbol, place behind it, error) -/
def nxt (l : List Int) (b : List Bool) (p : Nat) : Nat → Nat → Int → Int × Nat × Int
  | 0, _, _ => (0, p, 3)
  | f + 1, n, code => if b.length < p + n + 1 then (0, p, 2) else if 0 ≤ (2 * code + (bitsAt b (p + n) 1 : Nat)) - firstT (cntA l) (n + 1) ∧ (2 * code + (bitsAt b (p + n) 1 : Nat)) - firstT (cntA l) (n + 1) < cntA l (n + 1) then ((symT l 15).getD (fromT l (n + 1) + ((2 * code + (bitsAt b (p + n) 1 : Nat)) - firstT (cntA l) (n + 1))).toNat 0, p + (n + 1), 0) else nxt l b p f (n + 1) (2 * code + (bitsAt b (p + n) 1 : Nat))
def nextT (l : List Int) (b : List Bool) (p : Nat) : Int × Nat × Int := nxt l b p (longT (cntA l) 15) 0 0


section
variable {w0 w : World} {L Xt Xr : List Ent} {gt gr p : Nat} {l bs : List Int}
set_option maxRecDepth 100000 in
theorem longest_any {F G : Nat → Int} {S : Value} {M : List Ent} (K : Known w0 w M) (hg : Has (row gt (tbC F (cntA l) G S) 106) M) : Calls Try.prog 72 #[.pointer (some ⟨gt, 0, none⟩)] w fun e w' => e = .returned (.int .i64 (longT (cntA l) 15 : Nat)) ∧ Known w0 w' M := by
  go_enter Try.func72, Try.ntmps72
  go_upto_region 2 with (fail)
  go_loopg [3] 15 (fun d v wr => ∃ n : Nat, v = .int .i64 n ∧ n ≤ d ∧ n ≤ 15 ∧ Hid (longT (cntA l) 15 = longT (cntA l) n) ∧ Known w0 wr M)
  case atStart => exact ⟨15, by go_num, by omega, by omega, Lib.hid rfl, K⟩
  case round =>
    clear K
    obtain ⟨n, rfl, hd, hn15, HL, K⟩ := hrel
    by_cases hn : 0 < n
    · have h2 : (0 : Int) < (n : Int) := by omega
      have HN := Lib.hid (show n < 16 by omega)
      have h3 : (n : Int) < 16 := by omega
      have j1 := IntWalk.i64_in ((n : Int) - 1) (by omega)
      obtain ⟨k, rfl⟩ : ∃ k, n = k + 1 := ⟨n - 1, by omega⟩
      by_cases hc : 0 < cntA l (k + 1)
      · have HR := Lib.hid (show longT (cntA l) 15 = k + 1 by rw [HL.out, longT, if_pos hc])
        go_wp2_with (first | ((with_reducible refine at_slot (N := 13) rfl ?_); refine wpList_reads (by rfl) (kr_load_cell K _ _ (by rfl) (by rfl) hg (by kernel_rfl) (tb_many (i := k + 1) _ _ _ _ HN.out)) ?_))
        go_ret
        exact ⟨by rw [HR.out]; rfl, K⟩
      · have HR := Lib.hid (show longT (cntA l) 15 = longT (cntA l) k by rw [HL.out, longT, if_neg hc])
        go_wp2_with (first | ((with_reducible refine at_slot (N := 13) rfl ?_); refine wpList_reads (by rfl) (kr_load_cell K _ _ (by rfl) (by rfl) hg (by kernel_rfl) (tb_many (i := k + 1) _ _ _ _ HN.out)) ?_))
        go_roundg (gk - 1)
        case measure => omega
        case rel => exact ⟨k, by go_num, by omega, by omega, HR, K⟩
    · have h2 : ¬ (0 : Int) < (n : Int) := by omega
      obtain rfl : n = 0 := by omega
      have HR := Lib.hid (show longT (cntA l) 15 = 0 by rw [HL.out]; rfl)
      go_wp2
      go_ret
      exact ⟨by rw [HR.out]; rfl, K⟩
end
end Go.Proofs.Ytemnahimheffgaa
