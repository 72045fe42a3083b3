/-
  graph: steps; which blocks a plan asks for, as plain mathematics.
-/
import Derived.Test.YtffednkdmkohdaaElm
set_option linter.unusedVariables false
set_option linter.unusedSimpArgs false
namespace Go.Proofs.Ytffednkdmkohdaa
open Go.RowKit
/-- a plan's step -/
structure Ast where
  (kind from_ len : Int) (A : Option Addr) (n c : Nat) (ds : List Int)
def asC (s : Ast) : List Value := [.int .u8 s.kind, .int .i64 s.from_, .int .i64 s.len, .slice s.A s.n s.c]
theorem asC_len (s : Ast) : (asC s).length = 4 := rfl
structure AsOk (w : World) (s : Ast) : Prop where mk :: (k : 0 ≤ s.kind ∧ s.kind ≤ 255) (f : -9223372036854775808 ≤ s.from_ ∧ s.from_ ≤ 9223372036854775807) (l : -9223372036854775808 ≤ s.len ∧ s.len ≤ 9223372036854775807) (R : RdS w [] .u8 s.A s.n s.ds) (c : s.n ≤ s.c) (m : s.c ≤ maxLen) (b : ∀ v ∈ s.ds, 0 ≤ v ∧ v ≤ 255)
/-- is a step right? -/
def rightB (s : Ast) : Bool := decide (1 ≤ s.len) && (decide (s.len ≤ 4096) && (decide (0 ≤ s.from_) && (decide (s.from_ ≤ 2147483647) &&
  (if s.kind = 1 then decide (s.from_ = 0) && decide ((s.n : Int) = s.len) else if s.kind = 2 then decide (s.n = 0) else if s.kind = 3 then decide ((s.n : Int) = s.len) else false))))
theorem rightB_yes {s : Ast} (h : rightB s = true) : (1 ≤ s.len ∧ s.len ≤ 4096) ∧ (0 ≤ s.from_ ∧ s.from_ ≤ 2147483647) ∧ 1 ≤ s.kind ∧ s.kind ≤ 3 := by
  simp only [rightB, Bool.and_eq_true, decide_eq_true_eq] at h
  obtain ⟨h1, h2, h3, h4, h5⟩ := h
  refine ⟨⟨h1, h2⟩, ⟨h3, h4⟩, ?_⟩
  split at h5
  · omega
  · split at h5
    · omega
    · split at h5
      · omega
      · cases h5
/-- does a step ask for a byte of block i's place? -/
def touch (block : Int) (i : Int) (s : Ast) : Bool := decide (s.kind ≠ 1) && (decide (s.from_ / block ≤ i) && decide (i ≤ (s.from_ + s.len - 1) / block))
theorem touch_asks {block i : Int} {s : Ast} (hb : 0 < block) (h : rightB s = true) : touch block i s = (decide (1 < s.kind) && (decide (s.from_ < (i + 1) * block) && decide (i * block < s.from_ + s.len))) := by
  have hr := rightB_yes h
  have e1 : (s.from_ / block ≤ i) ↔ s.from_ < (i + 1) * block := by
    rw [← Int.ediv_lt_iff_lt_mul hb]; omega
  have e2 : (i ≤ (s.from_ + s.len - 1) / block) ↔ i * block < s.from_ + s.len := by
    rw [Int.le_ediv_iff_mul_le hb]; omega
  unfold touch
  congr 1
  · exact decide_eq_decide.2 (by omega)
  · congr 1
    · exact decide_eq_decide.2 e1
    · exact decide_eq_decide.2 e2
def touches (block : Int) (l : List Ast) (i : Int) : Bool := l.any (touch block i)
/-- the blocks, rising -/
def gset (l : List Ast) (block : Int) (many : Nat) : List Int := ((List.range many).filter fun (i : Nat) => touches block l (i : Int)).map fun (i : Nat) => (i : Int)
theorem gset_mem {l : List Ast} {block : Int} {many : Nat} {i : Int} : i ∈ gset l block many ↔ (0 ≤ i ∧ i < many) ∧ touches block l i = true := by
  unfold gset
  simp only [List.mem_map, List.mem_filter, List.mem_range]
  constructor
  · rintro ⟨a, ⟨h1, h2⟩, rfl⟩
    exact ⟨by omega, h2⟩
  · rintro ⟨h1, h2⟩
    exact ⟨i.toNat, ⟨by omega, by rw [Int.toNat_of_nonneg h1.1]; exact h2⟩, by omega⟩
theorem gset_lt (l : List Ast) (block : Int) (many : Nat) : (gset l block many).Pairwise (fun a b => a < b) := by
  unfold gset
  refine List.pairwise_map.2 ?_
  have : (List.range many).Pairwise (fun a b => a < b) := List.pairwise_lt_range
  exact (List.Pairwise.filter _ this).imp fun h => by omega
theorem gset_len (l : List Ast) (block : Int) (many : Nat) : (gset l block many).length ≤ many := by
  unfold gset
  rw [List.length_map]
  exact Nat.le_trans (List.length_filter_le _ _) (by simp)
end Go.Proofs.Ytffednkdmkohdaa
