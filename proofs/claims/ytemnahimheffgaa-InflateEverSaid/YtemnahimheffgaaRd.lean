/-
  Words: slices of numbers that are read; make; cells at an index. Over any program.
-/
import Derived.Test.YtemnahimheffgaaCom
import Derived.Laws.MakeOwn
set_option linter.unusedVariables false
set_option linter.unusedSimpArgs false
namespace Go.Proofs.Ytemnahimheffgaa
open Go.RowKit

/-- A slice of numbers reads as xs. -/
structure Rd (w : World) (k : IntKind) (A : Option Addr) (n : Nat) (xs : List Int) : Prop where mk ::
  (len : xs.length = n)
  (at_ : ∀ j, j < n → ∃ b off, A = some ⟨b, off, none⟩ ∧ w.cell? ⟨b, off + j, none⟩ = some (.int k (xs.getD j 0)))
namespace Rd
variable {w w1 : World} {k : IntKind} {A : Option Addr} {n : Nat} {xs : List Int}
theorem nil (w : World) (k : IntKind) (A : Option Addr) : Rd w k A 0 [] := ⟨rfl, fun j h => absurd h (Nat.not_lt_zero j)⟩
theorem below (h : Rd w k A n xs) (hb : Below w.heap.size w w1) : Rd w1 k A n xs :=
  ⟨h.len, fun j hj => by
    obtain ⟨b, off, e, hc⟩ := h.at_ j hj
    exact ⟨b, off, e, (hb.cell (p := ⟨b, off + j, none⟩) (World.block_lt_of_cell? w _ hc)).trans hc⟩⟩
theorem drew (h : Rd w k A n xs) : Rd w.drew k A n xs := ⟨h.len, h.at_⟩
theorem put {g : Nat} (h : Rd w k A n xs) (hp : Put w w1 g) (hne : ∀ b off, A = some ⟨b, off, none⟩ → b ≠ g) : Rd w1 k A n xs :=
  ⟨h.len, fun j hj => by
    obtain ⟨b, off, e, hc⟩ := h.at_ j hj
    exact ⟨b, off, e, (World.cell?_of_block (hp.block b (hne b off e))).trans hc⟩⟩
/-- not empty: where it lies -/
theorem form (h : Rd w k A n xs) (hn : 0 < n) : ∃ b off, A = some ⟨b, off, none⟩ ∧ b < w.heap.size ∧ ∀ j, j < n → w.cell? ⟨b, off + j, none⟩ = some (.int k (xs.getD j 0)) := by
  obtain ⟨b, off, e, hc⟩ := h.at_ 0 hn
  refine ⟨b, off, e, World.block_lt_of_cell? w _ hc, fun j hj => ?_⟩
  obtain ⟨b', off', e', hc'⟩ := h.at_ j hj
  rw [e] at e'
  injection e' with e'
  injection e' with e1 e2
  subst e1 e2
  exact hc'
end Rd

theorem madeCells_one (z : Value) (n : Nat) : madeCells #[z] n = Array.replicate n z := by
  apply Array.ext
  · simp [madeCells]
  · intro i h1 h2
    simp [madeCells, Nat.mod_one]

section
variable {P : Program} {ops : Array Oper} {rest : List Oper} {o : Oper} {a : Act} {Q : Exit → Act → World → Prop} {W : World}
/-- make([]T, n), elements of one cell. -/
theorem ev_make (hgd : Region.wanted o (yielded ops a.tmps) = true) (t e : TypeId) {x y : Operand} (ho : o.op = .makeSlice t x y) {z : Value} {bytes : Nat}
    (ht : P.underlying t = some (.slice e)) (hinfo : (P.info? e).map (fun i => (i.zero, i.size, i.bytes)) = some (some z, 1, bytes)) (hz : z.cells = #[z]) (n : Nat)
    (hx : a.eval x = .int .i64 (n : Int)) (hy : a.eval y = .int .i64 (n : Int)) (hb : (bytes : Int) * (n : Int) ≤ 281474976710656) (h63 : (n : Int) ≤ 9223372036854775807)
    (h : ∀ g, g = W.heap.size → ∀ w1, Blk w1 g (Array.replicate n z) e → Below W.heap.size W w1 → wpList P ops Q rest (a.put o.dst (.slice (some ⟨g, 0, none⟩) n n)) w1) : wpList P ops Q (o :: rest) a W :=
  ev_wanted hgd fun K hK => by
    cases hq : P.info? e with
    | none => simp [hq] at hinfo
    | some i =>
      simp only [hq, Option.map_some, Option.some.injEq, Prod.mk.injEq] at hinfo
      obtain ⟨h1, h2, h3⟩ := hinfo
      have hr := run_make (P := P) W t e i z ht hq h1 .i64 .i64 (n : Int) (n : Int) (by omega) (Int.le_refl _) (by rw [h3]; exact hb) h63
      simp only [Int.toNat_natCast, h2, Nat.mul_one, hz, madeCells_one] at hr
      unfold Oper.wp execOp
      simp only [ho, hx, hy, hr, Sem.run_bind, Result.andThen_ok]
      exact hK _ _ (h _ rfl _ (Blk.new W _ e) (below_new W _))
end
end Go.Proofs.Ytemnahimheffgaa
