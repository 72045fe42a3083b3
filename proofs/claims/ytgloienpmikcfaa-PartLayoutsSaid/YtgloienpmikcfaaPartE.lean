/-
  '==' of layouts' maps.
-/
import Derived.Test.YtgloienpmikcfaaPartA
import Derived.Test.YtgloienpmikcfaaEqs
namespace Go.Proofs.Ytgloienpmikcfaa
open Go.RowKit

theorem eq25 (d : Nat) (a b c e : Int) (w : World) : (Op.equalIn (d + 2) 25 (.agg #[.int .i64 a, .int .i64 b]) (.agg #[.int .i64 c, .int .i64 e])).run Try.prog w = .ok (a == c && (b == e && true)) w :=
  eq_struct w (fs := [⟨"First", 3, 0, false, "", "", 0⟩, ⟨"Count", 3, 1, false, "", "", 8⟩]) (by kernel_rfl) (by kernel_rfl)
    (eq_fields_cons w (a := .int .i64 a) (b := .int .i64 c) rfl (by kernel_rfl) (by kernel_rfl) (eq_int w .i64 .i64 a c Try.underlying3) (eq_fields_cons w (a := .int .i64 b) (b := .int .i64 e) rfl (by kernel_rfl) (by kernel_rfl) (eq_int w .i64 .i64 b e Try.underlying3) (eq_fields_nil w)))

theorem eq26 (d : Nat) (a b c e : Int) (w : World) : (Op.equalIn (d + 3) 26 (.agg #[.int .i64 a, .int .i64 b, .int .i64 c, .int .i64 e]) (.agg #[.int .i64 a, .int .i64 b, .int .i64 c, .int .i64 e])).run Try.prog w = .ok true w := by
  refine eq_array w (d + 2) (e := 25) (n := 2) (sz := 2) (by kernel_rfl) (by kernel_rfl) _ _ (fun _ => true) (fun i hi => ?_)
  match i, hi with
  | 0, _ => exact ⟨.agg #[.int .i64 a, .int .i64 b], .agg #[.int .i64 a, .int .i64 b], by kernel_rfl, by kernel_rfl, by rw [eq25]; simp⟩
  | 1, _ => exact ⟨.agg #[.int .i64 c, .int .i64 e], .agg #[.int .i64 c, .int .i64 e], by kernel_rfl, by kernel_rfl, by rw [eq25]; simp⟩

theorem eq28 (a0 a1 a2 a3 a4 a5 a6 a7 a8 a9 al : Int) (w : World) : (binOp .eql 28 (.agg (mapCells a0 a1 a2 a3 a4 a5 a6 a7 a8 a9 al)) (.agg (mapCells a0 a1 a2 a3 a4 a5 a6 a7 a8 a9 al))).run Try.prog w = .ok (.bool true) w := by
  rw [run_eql_struct]
  have h := eq_struct (P := Try.prog) w (d := 9999) (t := 28) (xs := mapCells a0 a1 a2 a3 a4 a5 a6 a7 a8 a9 al) (ys := mapCells a0 a1 a2 a3 a4 a5 a6 a7 a8 a9 al)
    (fs := [⟨"Journal", 26, 0, false, "", "", 0⟩, ⟨"Aside", 25, 4, false, "", "", 32⟩, ⟨"Slots", 26, 6, false, "", "", 48⟩, ⟨"All", 3, 10, false, "", "", 80⟩]) (by kernel_rfl) (by kernel_rfl)
    (eq_fields_cons w (a := .agg #[.int .i64 a0, .int .i64 a1, .int .i64 a2, .int .i64 a3]) (b := .agg #[.int .i64 a0, .int .i64 a1, .int .i64 a2, .int .i64 a3]) rfl (by kernel_rfl) (by kernel_rfl) (eq26 9996 a0 a1 a2 a3 w)
    (eq_fields_cons w (a := .agg #[.int .i64 a4, .int .i64 a5]) (b := .agg #[.int .i64 a4, .int .i64 a5]) rfl (by kernel_rfl) (by kernel_rfl) (eq25 9997 a4 a5 a4 a5 w)
    (eq_fields_cons w (a := .agg #[.int .i64 a6, .int .i64 a7, .int .i64 a8, .int .i64 a9]) (b := .agg #[.int .i64 a6, .int .i64 a7, .int .i64 a8, .int .i64 a9]) rfl (by kernel_rfl) (by kernel_rfl) (eq26 9996 a6 a7 a8 a9 w)
    (eq_fields_cons w (a := .int .i64 al) (b := .int .i64 al) rfl (by kernel_rfl) (by kernel_rfl) (eq_int w .i64 .i64 al al Try.underlying3) (eq_fields_nil w)))))
  rw [h]
  simp [Result.andThen]
end Go.Proofs.Ytgloienpmikcfaa
