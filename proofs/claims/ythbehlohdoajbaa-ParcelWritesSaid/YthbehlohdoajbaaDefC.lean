/-
  The reference's symbols; how long a packed text is at most (contracts).
-/
import Derived.Test.YthbehlohdoajbaaDefB
set_option linter.unusedVariables false
set_option linter.unusedSimpArgs false
namespace Go.Proofs.Ythbehlohdoajbaa
open Go.RowKit
theorem ret_int {k : IntKind} {a b : Int} (h : a = b) : Ending.returned (.int k a) = Ending.returned (.int k b) := by rw [h]
theorem ret_int2 {k k' : IntKind} {a b c d : Int} (h : a = b) (h' : c = d) : Ending.returned (.tuple #[.int k a, .int k' c]) = Ending.returned (.tuple #[.int k b, .int k' d]) := by rw [h, h']
def mostN (n : Int) : Int := min (max n 0) 2147483647 + 5 * max 1 ((min (max n 0) 2147483647 + 65534) / 65535)
section
variable {w0 w : World} {L : List Ent}
theorem most_any (n m : Int) (h : mostN n = m) (w : World) : Calls Try.prog 37 #[.int .i64 n] w fun e w' => e = .returned (.int .i64 m) ∧ w = w' := by
  subst h
  obtain ⟨k, hk, hk2, hk3⟩ : ∃ k : Int, min (max n 0) 2147483647 = k ∧ 0 ≤ k ∧ k ≤ 2147483647 := ⟨_, rfl, by omega, by omega⟩
  have HK := Lib.hid hk
  go_enter Try.func37, Try.ntmps37
  go_wp2
  go_ret
  refine ⟨ret_int ?_, rfl⟩
  rw [mostN, HK.out]
  show k + 5 * max 1 ((k + 65535 - 1) / 65535) = _
  omega
end
def leastCells : Array Value := ((List.range 29).map fun j => Value.int .i64 (ent tblL j).1).toArray
theorem leastCells_get {k : Nat} (h : k < 29) {v : Int} (hv : (ent tblL k).1 = v) : leastCells[k]? = some (.int .i64 v) := by simp [leastCells, h, hv]


theorem lits_least (w : World) : (Instr.buildSlice 31 29 #[(0, .int .i64 3), (1, .int .i64 4), (2, .int .i64 5), (3, .int .i64 6), (4, .int .i64 7), (5, .int .i64 8), (6, .int .i64 9), (7, .int .i64 10), (8, .int .i64 11), (9, .int .i64 13), (10, .int .i64 15), (11, .int .i64 17), (12, .int .i64 19), (13, .int .i64 23), (14, .int .i64 27), (15, .int .i64 31), (16, .int .i64 35), (17, .int .i64 43), (18, .int .i64 51), (19, .int .i64 59), (20, .int .i64 67), (21, .int .i64 83), (22, .int .i64 99), (23, .int .i64 115), (24, .int .i64 131), (25, .int .i64 163), (26, .int .i64 195), (27, .int .i64 227), (28, .int .i64 258)]).run Try.prog w = .ok (.slice (some ⟨w.heap.size, 0, none⟩) 29 29) (w.alloc (.cells leastCells 3 (0, 0))) := by kernel_rfl
section
variable {w0 w : World} {L : List Ent}
end
end Go.Proofs.Ythbehlohdoajbaa
