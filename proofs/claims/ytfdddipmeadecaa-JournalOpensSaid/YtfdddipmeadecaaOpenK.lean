/-
  A record as an argument.
-/
import Derived.Test.YtfdddipmeadecaaOpenR
import Derived.Test.YtfdddipmeadecaaJouG
set_option linter.unusedVariables false
set_option linter.unusedSimpArgs false
namespace Go.Proofs.Ytfdddipmeadecaa
open Go.ChangeShapes Go.WideShapes Go.ChangeAt Go.RowKit


set_option maxRecDepth 100000 in
theorem open_record {H : Type} {enc : TypeId × Value → H} {W : World} {base b0 : Nat} {v : Value} {d : DataW H} {p : List MemPlace} (hv : Value.okWide Try.prog W .any b0 41 v)
    (h : DataW.Trod enc Try.prog W base (fun _ => true) true 41 v d p) : ∃ r : Rec, v = .agg (recC r) ∧ RecOk r := by
  obtain ⟨cs, rfl, hsz⟩ := okWide_struct Try.underlying41 hv
  obtain ⟨fuel, hf⟩ := h
  obtain ⟨m, hl, hfs⟩ := open_fields Try.underlying41 hf
  simp only [Value.cells] at hl hfs
  have c8 : Try.prog.cellsOf 5 = 1 := by kernel_rfl
  have c64 : Try.prog.cellsOf 37 = 1 := by kernel_rfl
  have ci : Try.prog.cellsOf 3 = 1 := by kernel_rfl
  have cD : Try.prog.cellsOf 39 = 32 := by kernel_rfl
  have cR : Try.prog.cellsOf 41 = 44 := by kernel_rfl
  obtain ⟨y0, f0⟩ := hfs _ (List.mem_of_getElem? (i := 0) rfl)
  obtain ⟨y1, f1⟩ := hfs _ (List.mem_of_getElem? (i := 1) rfl)
  obtain ⟨y2, f2⟩ := hfs _ (List.mem_of_getElem? (i := 2) rfl)
  obtain ⟨y3, f3⟩ := hfs _ (List.mem_of_getElem? (i := 3) rfl)
  obtain ⟨y4, f4⟩ := hfs _ (List.mem_of_getElem? (i := 4) rfl)
  obtain ⟨y5, f5⟩ := hfs _ (List.mem_of_getElem? (i := 5) rfl)
  obtain ⟨y6, f6⟩ := hfs _ (List.mem_of_getElem? (i := 6) rfl)
  obtain ⟨y7, f7⟩ := hfs _ (List.mem_of_getElem? (i := 7) rfl)
  obtain ⟨y8, f8⟩ := hfs _ (List.mem_of_getElem? (i := 8) rfl)
  obtain ⟨y9, f9⟩ := hfs _ (List.mem_of_getElem? (i := 9) rfl)
  obtain ⟨y10, f10⟩ := hfs _ (List.mem_of_getElem? (i := 10) rfl)
  obtain ⟨y11, f11⟩ := hfs _ (List.mem_of_getElem? (i := 11) rfl)
  obtain ⟨y12, f12⟩ := hfs _ (List.mem_of_getElem? (i := 12) rfl)
  simp only at f0 f1 f2 f3 f4 f5 f6 f7 f8 f9 f10 f11 f12
  obtain ⟨a0, e0, w0⟩ := open_cell Try.underlying37 f0
  obtain ⟨a1, e1, w1⟩ := open_cell Try.underlying5 f1
  obtain ⟨a2, e2, w2⟩ := open_cell Try.underlying37 f2
  obtain ⟨a3, e3, w3⟩ := open_cell Try.underlying3 f3
  obtain ⟨a4, e4, w4⟩ := open_cell Try.underlying5 f4
  obtain ⟨a5, e5, w5⟩ := open_cell Try.underlying5 f5
  obtain ⟨a6, e6, l6, w6⟩ := open_array Try.underlying39 Try.underlying5 c8 cD f6
  obtain ⟨a7, e7, w7⟩ := open_cell Try.underlying37 f7
  obtain ⟨a8, e8, w8⟩ := open_cell Try.underlying3 f8
  obtain ⟨a9, e9, w9⟩ := open_cell Try.underlying3 f9
  obtain ⟨a10, e10, w10⟩ := open_cell Try.underlying37 f10
  obtain ⟨a11, e11, w11⟩ := open_cell Try.underlying3 f11
  obtain ⟨a12, e12, w12⟩ := open_cell Try.underlying3 f12
  rw [c64] at e0
  rw [c8] at e1
  rw [c64] at e2
  rw [ci] at e3
  rw [c8] at e4
  rw [c8] at e5
  rw [cD] at e6
  rw [c64] at e7
  rw [ci] at e8
  rw [ci] at e9
  rw [c64] at e10
  rw [ci] at e11
  rw [ci] at e12
  have s0 := split_at e0
  have s1 := split_at e1
  have s2 := split_at e2
  have s3 := split_at e3
  have s4 := split_at e4
  have s5 := split_at e5
  have s6 := split_at e6
  have s7 := split_at e7
  have s8 := split_at e8
  have s9 := split_at e9
  have s10 := split_at e10
  have s11 := split_at e11
  have s12 := split_at e12

  have hend : cs.toList.drop 44 = [] := List.drop_eq_nil_of_le (by rw [hl, cR]; exact Nat.le_refl _)
  refine ⟨⟨a0, a1, a2, a3, a4, a5, a6, a7, a8, a9, a10, a11, a12⟩, ?_, ⟨⟨bounds_u64 w0, bounds_u64 w2, bounds_u64 w7, bounds_u64 w10⟩, ⟨bounds_u8 w1, bounds_u8 w4, bounds_u8 w5⟩, l6, fun b hb => bounds_u8 (w6 b hb)⟩⟩
  congr 1
  have hcs : cs.toList = (recC ⟨a0, a1, a2, a3, a4, a5, a6, a7, a8, a9, a10, a11, a12⟩).toList := by
    rw [List.drop_zero] at s0
    rw [s0, s1, s2, s3, s4, s5, s6, s7, s8, s9, s10, s11, s12, hend]
    simp [recC]
  exact Array.toList_inj.1 hcs
end Go.Proofs.Ytfdddipmeadecaa

/-
  Records as an argument: a slice of them.
-/
set_option linter.unusedVariables false
set_option linter.unusedSimpArgs false
namespace Go.Proofs.Ytfdddipmeadecaa
open Go.ChangeShapes Go.WideShapes Go.ChangeAt Go.RowKit

def recL (r : Rec) : List Value := (recC r).toList
set_option maxRecDepth 100000 in
theorem open_recL {H : Type} {enc : TypeId × Value → H} {W : World} {base fuel : Nat} {cs : List Value} {x : DataW H × List MemPlace} (h : DataW.trod enc Try.prog W base (fun _ => true) true fuel 41 cs = some x) : ∃ r : Rec, cs = recL r ∧ RecOk r := by
  obtain ⟨m, hl, hfs⟩ := open_fields Try.underlying41 h
  have c8 : Try.prog.cellsOf 5 = 1 := by kernel_rfl
  have c64 : Try.prog.cellsOf 37 = 1 := by kernel_rfl
  have ci : Try.prog.cellsOf 3 = 1 := by kernel_rfl
  have cD : Try.prog.cellsOf 39 = 32 := by kernel_rfl
  have cR : Try.prog.cellsOf 41 = 44 := by kernel_rfl
  obtain ⟨y0, f0⟩ := hfs _ (List.mem_of_getElem? (i := 0) rfl)
  obtain ⟨y1, f1⟩ := hfs _ (List.mem_of_getElem? (i := 1) rfl)
  obtain ⟨y2, f2⟩ := hfs _ (List.mem_of_getElem? (i := 2) rfl)
  obtain ⟨y3, f3⟩ := hfs _ (List.mem_of_getElem? (i := 3) rfl)
  obtain ⟨y4, f4⟩ := hfs _ (List.mem_of_getElem? (i := 4) rfl)
  obtain ⟨y5, f5⟩ := hfs _ (List.mem_of_getElem? (i := 5) rfl)
  obtain ⟨y6, f6⟩ := hfs _ (List.mem_of_getElem? (i := 6) rfl)
  obtain ⟨y7, f7⟩ := hfs _ (List.mem_of_getElem? (i := 7) rfl)
  obtain ⟨y8, f8⟩ := hfs _ (List.mem_of_getElem? (i := 8) rfl)
  obtain ⟨y9, f9⟩ := hfs _ (List.mem_of_getElem? (i := 9) rfl)
  obtain ⟨y10, f10⟩ := hfs _ (List.mem_of_getElem? (i := 10) rfl)
  obtain ⟨y11, f11⟩ := hfs _ (List.mem_of_getElem? (i := 11) rfl)
  obtain ⟨y12, f12⟩ := hfs _ (List.mem_of_getElem? (i := 12) rfl)
  simp only at f0 f1 f2 f3 f4 f5 f6 f7 f8 f9 f10 f11 f12
  obtain ⟨a0, e0, w0⟩ := open_cell Try.underlying37 f0
  obtain ⟨a1, e1, w1⟩ := open_cell Try.underlying5 f1
  obtain ⟨a2, e2, w2⟩ := open_cell Try.underlying37 f2
  obtain ⟨a3, e3, w3⟩ := open_cell Try.underlying3 f3
  obtain ⟨a4, e4, w4⟩ := open_cell Try.underlying5 f4
  obtain ⟨a5, e5, w5⟩ := open_cell Try.underlying5 f5
  obtain ⟨a6, e6, l6, w6⟩ := open_array Try.underlying39 Try.underlying5 c8 cD f6
  obtain ⟨a7, e7, w7⟩ := open_cell Try.underlying37 f7
  obtain ⟨a8, e8, w8⟩ := open_cell Try.underlying3 f8
  obtain ⟨a9, e9, w9⟩ := open_cell Try.underlying3 f9
  obtain ⟨a10, e10, w10⟩ := open_cell Try.underlying37 f10
  obtain ⟨a11, e11, w11⟩ := open_cell Try.underlying3 f11
  obtain ⟨a12, e12, w12⟩ := open_cell Try.underlying3 f12
  rw [c64] at e0
  rw [c8] at e1
  rw [c64] at e2
  rw [ci] at e3
  rw [c8] at e4
  rw [c8] at e5
  rw [cD] at e6
  rw [c64] at e7
  rw [ci] at e8
  rw [ci] at e9
  rw [c64] at e10
  rw [ci] at e11
  rw [ci] at e12
  have s0 := split_at e0
  have s1 := split_at e1
  have s2 := split_at e2
  have s3 := split_at e3
  have s4 := split_at e4
  have s5 := split_at e5
  have s6 := split_at e6
  have s7 := split_at e7
  have s8 := split_at e8
  have s9 := split_at e9
  have s10 := split_at e10
  have s11 := split_at e11
  have s12 := split_at e12

  have hend : cs.drop 44 = [] := List.drop_eq_nil_of_le (by rw [hl, cR]; exact Nat.le_refl _)
  refine ⟨⟨a0, a1, a2, a3, a4, a5, a6, a7, a8, a9, a10, a11, a12⟩, ?_, ⟨⟨bounds_u64 w0, bounds_u64 w2, bounds_u64 w7, bounds_u64 w10⟩, ⟨bounds_u8 w1, bounds_u8 w4, bounds_u8 w5⟩, l6, fun b hb => bounds_u8 (w6 b hb)⟩⟩
  rw [List.drop_zero] at s0
  rw [s0, s1, s2, s3, s4, s5, s6, s7, s8, s9, s10, s11, s12, hend]
  simp [recL, recC]
set_option maxRecDepth 100000 in
theorem open_records {H : Type} {enc : TypeId × Value → H} {W : World} {base b0 : Nat} {v : Value} {d : DataW H} {p : List MemPlace} (hv : Value.okWide Try.prog W .any b0 22 v)
    (h : DataW.Trod enc Try.prog W base (fun _ => true) true 22 v d p) : ∃ (A : Option Addr) (n c : Nat) (l : List Rec), v = .slice A n c ∧ RdM W [] recL 44 A n l ∧ n ≤ c ∧ c ≤ maxLen ∧ ∀ r ∈ l, RecOk r := by
  obtain ⟨a, l, c, rfl⟩ := okWide_slice Try.underlying22 hv
  obtain ⟨fuel, hf⟩ := h
  have cS : Try.prog.cellsOf 41 = 44 := by kernel_rfl
  obtain ⟨A, n, c', m, e, R, hc, hm, hw⟩ := open_recs (en := recL) RecOk Try.underlying22 cS (by omega) (fun n cs y h => open_recL h) hf
  have e' : Value.slice a l c = .slice A n c' := by simpa [Value.cells] using e
  exact ⟨A, n, c', m, e', R, hc, hm, hw⟩
end Go.Proofs.Ytfdddipmeadecaa
