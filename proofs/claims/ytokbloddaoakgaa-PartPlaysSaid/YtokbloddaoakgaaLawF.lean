/-
  drogherlaw06: a row of steps as an argument.
-/
import Derived.Test.YtokbloddaoakgaaOpenR
set_option linter.unusedVariables false
set_option linter.unusedSimpArgs false
namespace Go.Proofs.Ytokbloddaoakgaa
open Go.ChangeShapes Go.WideShapes Go.ChangeAt Go.RowKit
/-- a step -/
structure Stp where
  (kind i b : Int) (long : Bool) (A : Option Addr) (n c : Nat) (ps : List Int)
def stC (s : Stp) : List Value := [.int .i64 s.kind, .int .i64 s.i, .int .u8 s.b, .bool s.long, .slice s.A s.n s.c]
theorem stC_len (s : Stp) : (stC s).length = 5 := rfl
structure StOk (w : World) (s : Stp) : Prop where mk :: (i : -9223372036854775808 ≤ s.i ∧ s.i ≤ 9223372036854775807) (b : 0 ≤ s.b ∧ s.b ≤ 255) (R : RdS w [] .u8 s.A s.n s.ps) (c : s.n ≤ s.c) (m : s.c ≤ maxLen)
set_option maxRecDepth 100000 in
theorem open_step {H : Type} {enc : TypeId × Value → H} {w : World} {base : Nat} {fuel : Nat} {cs : List Value} {x : DataW H × List MemPlace} (h : DataW.trod enc Try.prog w base (fun _ => true) true fuel 67 cs = some x) : ∃ s : Stp, cs = stC s ∧ StOk w s := by
  obtain ⟨m, hl, hfs⟩ := open_fields Try.underlying67 h
  have c8 : Try.prog.cellsOf 5 = 1 := by kernel_rfl
  have ci : Try.prog.cellsOf 3 = 1 := by kernel_rfl
  have cb : Try.prog.cellsOf 4 = 1 := by kernel_rfl
  have cs8 : Try.prog.cellsOf 24 = 1 := by kernel_rfl
  have cS : Try.prog.cellsOf 67 = 5 := by kernel_rfl
  obtain ⟨y0, f0⟩ := hfs _ (List.mem_of_getElem? (i := 0) rfl)
  obtain ⟨y1, f1⟩ := hfs _ (List.mem_of_getElem? (i := 1) rfl)
  obtain ⟨y2, f2⟩ := hfs _ (List.mem_of_getElem? (i := 2) rfl)
  obtain ⟨y3, f3⟩ := hfs _ (List.mem_of_getElem? (i := 3) rfl)
  obtain ⟨y4, f4⟩ := hfs _ (List.mem_of_getElem? (i := 4) rfl)
  simp only at f0 f1 f2 f3 f4
  obtain ⟨a0, e0, w0⟩ := open_cell Try.underlying3 f0
  obtain ⟨a1, e1, w1⟩ := open_cell Try.underlying3 f1
  obtain ⟨a2, e2, w2⟩ := open_cell Try.underlying5 f2
  obtain ⟨a3, e3⟩ := open_bool Try.underlying4 f3
  obtain ⟨A, n, c, ps, e4, R, hc, hm, hb⟩ := open_bytesC Try.underlying24 Try.underlying5 c8 f4
  rw [ci] at e0 e1
  rw [c8] at e2
  rw [cb] at e3
  rw [cs8] at e4
  have s0 := split_at e0
  have s1 := split_at e1
  have s2 := split_at e2
  have s3 := split_at e3
  have s4 := split_at e4
  have hend := split_end (hl.trans cS)
  refine ⟨⟨a0, a1, a2, a3, A, n, c, ps⟩, ?_, ⟨bounds_i64 w1, bounds_u8 w2, R, hc, hm⟩⟩
  rw [List.drop_zero] at s0
  rw [s0, s1, s2, s3, s4, hend]
  rfl
set_option maxRecDepth 100000 in
theorem open_steps {H : Type} {enc : TypeId × Value → H} {W : World} {base b0 : Nat} {v : Value} {d : DataW H} {p : List MemPlace} (hv : Value.okWide Try.prog W .any b0 63 v)
    (h : DataW.Trod enc Try.prog W base (fun _ => true) true 63 v d p) : ∃ (A : Option Addr) (n c : Nat) (l : List Stp), v = .slice A n c ∧ RdM W [] stC 5 A n l ∧ n ≤ c ∧ c ≤ maxLen ∧ ∀ s ∈ l, StOk W s := by
  obtain ⟨a, l, c, rfl⟩ := okWide_slice Try.underlying63 hv
  obtain ⟨fuel, hf⟩ := h
  have cS : Try.prog.cellsOf 67 = 5 := by kernel_rfl
  obtain ⟨A, n, c', m, e, R, hc, hm, hw⟩ := open_recs (en := stC) (StOk W) Try.underlying63 cS (by omega) (fun n cs y h => open_step h) hf
  have e' : Value.slice a l c = .slice A n c' := by simpa [Value.cells] using e
  exact ⟨A, n, c', m, e', R, hc, hm, hw⟩
end Go.Proofs.Ytokbloddaoakgaa
