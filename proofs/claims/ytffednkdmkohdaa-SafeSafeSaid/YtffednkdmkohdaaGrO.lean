/-
  Rows of steps, rows of rows, as arguments.
-/
import Derived.Test.YtffednkdmkohdaaOpenR
import Derived.Test.YtffednkdmkohdaaGrP
set_option linter.unusedVariables false
set_option linter.unusedSimpArgs false
namespace Go.Proofs.Ytffednkdmkohdaa
open Go.ChangeShapes Go.WideShapes Go.ChangeAt Go.RowKit
set_option maxRecDepth 100000 in
theorem open_astep {H : Type} {enc : TypeId × Value → H} {w : World} {base : Nat} {fuel : Nat} {cs : List Value} {x : DataW H × List MemPlace} (h : DataW.trod enc Try.prog w base (fun _ => true) true fuel 71 cs = some x) : ∃ s : Ast, cs = asC s ∧ AsOk w s := by
  obtain ⟨m, hl, hfs⟩ := open_fields Try.underlying71 h
  have c8 : Try.prog.cellsOf 5 = 1 := by kernel_rfl
  have ci : Try.prog.cellsOf 3 = 1 := by kernel_rfl
  have cs8 : Try.prog.cellsOf 48 = 1 := by kernel_rfl
  have cS : Try.prog.cellsOf 71 = 4 := by kernel_rfl
  obtain ⟨y0, f0⟩ := hfs _ (List.mem_of_getElem? (i := 0) rfl)
  obtain ⟨y1, f1⟩ := hfs _ (List.mem_of_getElem? (i := 1) rfl)
  obtain ⟨y2, f2⟩ := hfs _ (List.mem_of_getElem? (i := 2) rfl)
  obtain ⟨y3, f3⟩ := hfs _ (List.mem_of_getElem? (i := 3) rfl)
  simp only at f0 f1 f2 f3
  obtain ⟨a0, e0, w0⟩ := open_cell Try.underlying5 f0
  obtain ⟨a1, e1, w1⟩ := open_cell Try.underlying3 f1
  obtain ⟨a2, e2, w2⟩ := open_cell Try.underlying3 f2
  obtain ⟨A, n, c, ds, e3, R, hc, hm, hb⟩ := open_bytesC Try.underlying48 Try.underlying5 c8 f3
  rw [c8] at e0
  rw [ci] at e1 e2
  rw [cs8] at e3
  have s0 := split_at e0
  have s1 := split_at e1
  have s2 := split_at e2
  have s3 := split_at e3
  have hend := split_end (hl.trans cS)
  refine ⟨⟨a0, a1, a2, A, n, c, ds⟩, ?_, ⟨bounds_u8 w0, bounds_i64 w1, bounds_i64 w2, R, hc, hm, hb⟩⟩
  rw [List.drop_zero] at s0
  rw [s0, s1, s2, s3, hend]
  rfl
/-- a row in a row of rows -/
structure Arow (α : Type) where
  (A : Option Addr) (n c : Nat) (l : List α)
def arC {α : Type} (r : Arow α) : List Value := [.slice r.A r.n r.c]
theorem arC_len {α : Type} (r : Arow α) : (arC r).length = 1 := rfl
structure ArOk (w : World) (r : Arow Ast) : Prop where mk :: (R : RdM w [] asC 4 r.A r.n r.l) (c : r.n ≤ r.c) (s : ∀ s ∈ r.l, AsOk w s)
structure IrOk (w : World) (r : Arow Int) : Prop where mk :: (R : RdS w [] .i64 r.A r.n r.l) (c : r.n ≤ r.c) (s : ∀ x ∈ r.l, -9223372036854775808 ≤ x ∧ x ≤ 9223372036854775807)
set_option maxRecDepth 100000 in
theorem open_asteps {H : Type} {enc : TypeId × Value → H} {W : World} {base b0 : Nat} {v : Value} {d : DataW H} {p : List MemPlace} (hv : Value.okWide Try.prog W .any b0 22 v)
    (h : DataW.Trod enc Try.prog W base (fun _ => true) true 22 v d p) : ∃ (A : Option Addr) (n c : Nat) (l : List Ast), v = .slice A n c ∧ RdM W [] asC 4 A n l ∧ n ≤ c ∧ c ≤ maxLen ∧ ∀ s ∈ l, AsOk W s := by
  obtain ⟨a, l, c, rfl⟩ := okWide_slice Try.underlying22 hv
  obtain ⟨fuel, hf⟩ := h
  have cS : Try.prog.cellsOf 71 = 4 := by kernel_rfl
  obtain ⟨A, n, c', m, e, R, hc, hm, hw⟩ := open_recs (en := asC) (AsOk W) Try.underlying22 cS (by omega) (fun n cs y h => open_astep h) hf
  have e' : Value.slice a l c = .slice A n c' := by simpa [Value.cells] using e
  exact ⟨A, n, c', m, e', R, hc, hm, hw⟩
set_option maxRecDepth 100000 in
theorem open_plans {H : Type} {enc : TypeId × Value → H} {W : World} {base b0 : Nat} {v : Value} {d : DataW H} {p : List MemPlace} (hv : Value.okWide Try.prog W .any b0 39 v)
    (h : DataW.Trod enc Try.prog W base (fun _ => true) true 39 v d p) : ∃ (A : Option Addr) (n c : Nat) (l : List (Arow Ast)), v = .slice A n c ∧ RdM W [] arC 1 A n l ∧ n ≤ c ∧ c ≤ maxLen ∧ ∀ r ∈ l, ArOk W r := by
  obtain ⟨a, l, c, rfl⟩ := okWide_slice Try.underlying39 hv
  obtain ⟨fuel, hf⟩ := h
  have cS : Try.prog.cellsOf 71 = 4 := by kernel_rfl
  have c1 : Try.prog.cellsOf 22 = 1 := by kernel_rfl
  obtain ⟨A, n, c', m, e, R, hc, hm, hw⟩ := open_recs (en := arC) (ArOk W) Try.underlying39 c1 (by omega) (fun n cs y h => by
    obtain ⟨A2, n2, c2, m2, e2, R2, hc2, hm2, hw2⟩ := open_recs (en := asC) (AsOk W) Try.underlying22 cS (by omega) (fun n cs y h => open_astep h) h
    exact ⟨⟨A2, n2, c2, m2⟩, e2, ⟨R2, hc2, hw2⟩⟩) hf
  have e' : Value.slice a l c = .slice A n c' := by simpa [Value.cells] using e
  exact ⟨A, n, c', m, e', R, hc, hm, hw⟩
set_option maxRecDepth 100000 in
theorem open_introws {H : Type} {enc : TypeId × Value → H} {W : World} {base b0 : Nat} {v : Value} {d : DataW H} {p : List MemPlace} (hv : Value.okWide Try.prog W .any b0 33 v)
    (h : DataW.Trod enc Try.prog W base (fun _ => true) true 33 v d p) : ∃ (A : Option Addr) (n c : Nat) (l : List (Arow Int)), v = .slice A n c ∧ RdM W [] arC 1 A n l ∧ n ≤ c ∧ c ≤ maxLen ∧ ∀ r ∈ l, IrOk W r := by
  obtain ⟨a, l, c, rfl⟩ := okWide_slice Try.underlying33 hv
  obtain ⟨fuel, hf⟩ := h
  have ci : Try.prog.cellsOf 3 = 1 := by kernel_rfl
  have c1 : Try.prog.cellsOf 25 = 1 := by kernel_rfl
  obtain ⟨A, n, c', m, e, R, hc, hm, hw⟩ := open_recs (en := arC) (IrOk W) Try.underlying33 c1 (by omega) (fun n cs y h => by
    obtain ⟨A2, n2, c2, xs, e2, R2, hc2, hm2, hw2⟩ := open_nums Try.underlying25 Try.underlying3 ci h
    exact ⟨⟨A2, n2, c2, xs⟩, e2, ⟨RdS.base R2 [], hc2, fun x hx => bounds_i64 (hw2 x hx)⟩⟩) hf
  have e' : Value.slice a l c = .slice A n c' := by simpa [Value.cells] using e
  exact ⟨A, n, c', m, e', R, hc, hm, hw⟩
end Go.Proofs.Ytffednkdmkohdaa
