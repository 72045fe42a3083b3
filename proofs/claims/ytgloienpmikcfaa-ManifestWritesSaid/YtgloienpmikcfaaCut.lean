/-
  Words: a slice cut at its front. Over any program.
-/
import Derived.Test.YtgloienpmikcfaaGetC
set_option linter.unusedVariables false
set_option linter.unusedSimpArgs false
namespace Go.Proofs.Ytgloienpmikcfaa
open Go.RowKit
section
variable {P : Program}
theorem run_cut (w w0 : World) {t e : TypeId} {k : IntKind} {A : Option Addr} {n c i : Nat} {xs : List Int} (ht : P.underlying t = some (.slice e)) (hinfo : (P.info? e).map (·.size) = some 1) (hr : Rd w0 k A n xs) (hi : i ≤ n) (hc : n ≤ c) :
    ∃ B, (Instr.slice t (.slice A n c) (some (.int .i64 i)) none none).run P w = .ok (.slice B (n - i) (c - i)) w ∧ Rd w0 k B (n - i) (xs.drop i) := by
  cases hq : P.info? e with
  | none => simp [hq] at hinfo
  | some inf =>
    have hs : inf.size = 1 := by simpa [hq] using hinfo
    have hb : (Instr.sliceBound (.int .i64 i) n .sliceB).run P w = .ok i w := by
      rw [run_sliceBound w .i64 (i : Int) n .sliceB (by omega) (by omega)]
      simp
    refine ⟨if c = i then A else A.map (·.add (i * 1)), ?_, ?_⟩
    · unfold Instr.slice
      simp [run_underlying ht, Instr.sliceBounds, hb, sizeOf, typeInfo, hq, hs, Sem.run_bind]
    · by_cases h0 : n = i
      · subst h0
        rw [Nat.sub_self, List.drop_eq_nil_of_le (by rw [hr.len]; exact Nat.le_refl _)]
        exact Rd.nil _ _ _
      · rw [if_neg (by omega)]
        obtain ⟨b, off, rfl, _, _⟩ := hr.form (by omega)
        have e : Option.map (fun x : Addr => x.add (i * 1)) (some ⟨b, off, none⟩) = some ⟨b, off + i, none⟩ := by
          simp [Addr.add]
          try (split <;> simp_all)
        rw [e]
        exact hr.cut i hi
end
section
variable {P : Program} {ops : Array Oper} {rest : List Oper} {o : Oper} {a : Act} {Q : Exit → Act → World → Prop} {W : World}
theorem at_cut {t : TypeId} {x y : Operand} (_h : o.op = .slice t x (some y) none none) (h : wpList P ops Q (o :: rest) a W) : wpList P ops Q (o :: rest) a W := h
/-- s[i:] -/
theorem ev_cut (hgd : Region.wanted o (yielded ops a.tmps) = true) (t e : TypeId) {x y : Operand} (ho : o.op = .slice t x (some y) none none) {w0 : World} {k : IntKind} {A : Option Addr} {n c i : Nat} {xs : List Int} (ht : P.underlying t = some (.slice e)) (hinfo : (P.info? e).map (·.size) = some 1)
    (hr : Rd w0 k A n xs) (hx : a.eval x = .slice A n c) (hy : a.eval y = .int .i64 i) (hi : i ≤ n) (hc : n ≤ c)
    (h : ∀ B, Rd w0 k B (n - i) (xs.drop i) → wpList P ops Q rest (a.put o.dst (.slice B (n - i) (c - i))) W) : wpList P ops Q (o :: rest) a W :=
  ev_wanted hgd fun K hK => by
    obtain ⟨B, hrun, hB⟩ := run_cut (P := P) W w0 ht hinfo hr hi hc
    unfold Oper.wp execOp
    simp only [ho, hx, hy, Instr.sliceAt, run_underlying ht, Option.map_some, Option.map_none, hrun, Sem.run_bind, Sem.run_pure, Result.andThen_ok]
    exact hK _ _ (h B hB)
/-- make([]T, 0, q), elements of one cell. -/
theorem ev_make0 (hgd : Region.wanted o (yielded ops a.tmps) = true) (t e : TypeId) {x y : Operand} (ho : o.op = .makeSlice t x y) {z : Value} {bytes : Nat}
    (ht : P.underlying t = some (.slice e)) (hinfo : (P.info? e).map (fun i => (i.zero, i.size, i.bytes)) = some (some z, 1, bytes)) (hz : z.cells = #[z]) (q : Nat) {cy : Int}
    (hx : a.eval x = .int .i64 0) (hy : a.eval y = .int .i64 cy) (hcy : cy = q) (hb : (bytes : Int) * (q : Int) ≤ 281474976710656) (h63 : (q : Int) ≤ 9223372036854775807)
    (h : ∀ g, g = W.heap.size → ∀ w1, Blk w1 g (Array.replicate q z) e → Below W.heap.size W w1 → wpList P ops Q rest (a.put o.dst (.slice (some ⟨g, 0, none⟩) 0 q)) w1) : wpList P ops Q (o :: rest) a W :=
  ev_wanted hgd fun K hK => by
    subst hcy
    cases hq : P.info? e with
    | none => simp [hq] at hinfo
    | some i =>
      simp only [hq, Option.map_some, Option.some.injEq, Prod.mk.injEq] at hinfo
      obtain ⟨h1, h2, h3⟩ := hinfo
      have hr := run_make (P := P) W t e i z ht hq h1 .i64 .i64 0 (q : Int) (by omega) (by omega) (by rw [h3]; exact hb) h63
      simp only [Int.toNat_natCast, h2, Nat.mul_one, hz, madeCells_one] at hr
      unfold Oper.wp execOp
      simp only [ho, hx, hy, hr, Sem.run_bind, Result.andThen_ok]
      exact hK _ _ (h _ rfl _ (Blk.new W _ e) (below_new W _))
end
theorem mfc_one (mode ver blk ol nl : Int) (D : List Int) (A : Option Addr) (n c : Nat) : (mfc mode ver blk ol nl D (.slice A n c)).all (·.oneCell') = true := by
  simp [mfc, Value.oneCell']
theorem mfc_set (mode ver blk ol nl : Int) (D : List Int) (o o' : Value) (hD : D.length = 96) : (mfc mode ver blk ol nl D o).setIfInBounds 101 o' = mfc mode ver blk ol nl D o' := by
  apply Array.toList_inj.1
  rw [Array.toList_setIfInBounds]
  simp only [mfc]
  rw [show (101 : Nat) = 96 + 1 + 1 + 1 + 1 + 1 by rfl]
  simp only [List.cons_append, List.nil_append, List.set_cons_succ]
  rw [List.set_append_right _ _ (by simp [hD])]
  simp [hD]
end Go.Proofs.Ytgloienpmikcfaa
