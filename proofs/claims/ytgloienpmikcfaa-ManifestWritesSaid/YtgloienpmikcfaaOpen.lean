/-
  Arguments opened: a struct's fields, arrays of bytes, slices of numbers; a manifest. Only what a walk needs: the datum itself is not looked at.
-/
import Derived.Test.YtgloienpmikcfaaLaw
import Derived.Test.YtgloienpmikcfaaRd
import Derived.Test.YtgloienpmikcfaaEq8
set_option linter.unusedVariables false
set_option linter.unusedSimpArgs false
namespace Go.Proofs.Ytgloienpmikcfaa
open Go.ChangeShapes Go.WideShapes Go.ChangeAt Go.RowKit
section
variable {H : Type} {enc : TypeId × Value → H} {P : Program} {w : World} {base : Nat} {spare : Nat → Bool} {held : Bool}

theorem mapM_some_mem {α β : Type} {f : α → Option β} : ∀ {l : List α} {r : List β}, l.mapM f = some r → ∀ a ∈ l, ∃ b, f a = some b
  | [], _, _, a, ha => by cases ha
  | x :: l, r, h, a, ha => by
    rw [List.mapM_cons] at h
    cases hx : f x with
    | none => simp [hx] at h
    | some y =>
      cases hl : l.mapM f with
      | none => simp [hx, hl] at h
      | some ys =>
        rcases List.mem_cons.1 ha with rfl | ha
        · exact ⟨y, hx⟩
        · exact mapM_some_mem hl a ha

/-- each field reads -/
theorem open_fields {fuel : Nat} {t : TypeId} {fs : Array Field} {cs : List Value} {x : DataW H × List MemPlace} (ht : P.underlying t = some (.struct fs)) (h : DataW.trod enc P w base spare held fuel t cs = some x) :
    ∃ m, cs.length = P.cellsOf t ∧ ∀ f ∈ fs.toList, ∃ y, DataW.trod enc P w base spare held m f.type ((cs.drop f.offset).take (P.cellsOf f.type)) = some y := by
  cases fuel with
  | zero => simp [DataW.trod] at h
  | succ m =>
    unfold DataW.trod at h
    rw [ht] at h
    refine ⟨m, ?_⟩
    split at h <;> simp_all
    obtain ⟨hl, xs, hp, hd⟩ := h
    intro f hf
    obtain ⟨y, hy⟩ := mapM_some_mem hp f (by simpa using hf)
    exact ⟨y.1, y.2, hy⟩

theorem open_cell {fuel : Nat} {t : TypeId} {k : IntKind} {cs : List Value} {x : DataW H × List MemPlace} (ht : P.underlying t = some (.int k)) (h : DataW.trod enc P w base spare held fuel t cs = some x) :
    ∃ n, cs = [.int k n] ∧ (Lit.int k n).wf = true := by
  obtain ⟨n, e, _, hw⟩ := DataW.trod_int ht h
  exact ⟨n, e, hw⟩

/-- an array of numbers -/
theorem open_array {fuel : Nat} {t e : TypeId} {k : IntKind} {n : Nat} {cs : List Value} {x : DataW H × List MemPlace} (ht : P.underlying t = some (.array n e)) (he : P.underlying e = some (.int k)) (hc : P.cellsOf e = 1) (hct : P.cellsOf t = n)
    (h : DataW.trod enc P w base spare held fuel t cs = some x) : ∃ bs : List Int, cs = bs.map (Value.int k) ∧ bs.length = n ∧ ∀ b ∈ bs, (Lit.int k b).wf = true := by
  obtain ⟨xs, m, rfl, rfl, hl, hx, hi⟩ := DataW.trod_array ht h
  have each : ∀ i, i < n → ∃ b, cs[i]? = some (.int k b) ∧ (Lit.int k b).wf = true := by
    intro i hin
    have h1 := hi i hin
    rw [hc, Nat.mul_one, List.getElem?_eq_getElem (by omega)] at h1
    obtain ⟨b, hb, hw⟩ := open_cell he h1
    refine ⟨b, ?_, hw⟩
    have h2 : ((cs.drop i).take 1)[0]? = some (.int k b) := by rw [hb]; rfl
    rw [List.getElem?_take, if_pos (by omega), List.getElem?_drop] at h2
    simpa using h2
  rw [hct] at hl
  clear hi hx h
  refine ⟨cs.map (fun v => match v with | .int _ b => b | _ => 0), ?_, by simpa using hl, ?_⟩
  · apply List.ext_getElem?
    intro i
    by_cases hin : i < n
    · obtain ⟨b, hb, _⟩ := each i hin
      simp [hb]
    · rw [List.getElem?_eq_none (by omega), List.getElem?_eq_none (by simp; omega)]
  · intro b hb
    obtain ⟨v, hv, rfl⟩ := List.mem_map.1 hb
    obtain ⟨i, hin, hiv⟩ := List.getElem_of_mem hv
    obtain ⟨b', hb', hw⟩ := each i (by omega)
    rw [List.getElem?_eq_getElem hin, hiv] at hb'
    injection hb' with hb'
    subst hb'
    exact hw

/-- a slice of numbers -/
theorem open_nums {fuel : Nat} {t e : TypeId} {k : IntKind} {cs : List Value} {x : DataW H × List MemPlace} (ht : P.underlying t = some (.slice e)) (he : P.underlying e = some (.int k)) (hc : P.cellsOf e = 1)
    (h : DataW.trod enc P w base (fun _ => true) held fuel t cs = some x) : ∃ (A : Option Addr) (n c : Nat) (xs : List Int), cs = [.slice A n c] ∧ Rd w k A n xs ∧ n ≤ c ∧ c ≤ maxLen ∧ ∀ b ∈ xs, (Lit.int k b).wf = true := by
  rcases open_ints ht he hc h with ⟨rfl, _⟩ | ⟨a, len, cap, zs, rfl, _, hl, hm, hz, _, hcell, hw⟩
  · exact ⟨none, 0, 0, [], rfl, Rd.nil w k none, Nat.le_refl _, by simp [maxLen], by simp⟩
  · simp only [if_true] at hz
    refine ⟨some a, len, cap, zs.take len, rfl, ⟨by simp; omega, fun j hj => ?_⟩, hl, hm, fun b hb => hw b (List.mem_of_mem_take hb)⟩
    have h1 := hcell j (by omega)
    obtain ⟨ab, ao, asp⟩ := a
    have hs : asp = none := by
      cases asp with
      | none => rfl
      | some s =>
        have h0 := hcell 0 (by omega)
        rw [Addr.add_zero'] at h0
        simp only [World.cell?, Option.isSome_some, if_true] at h0
        split at h0 <;> cases h0
    subst hs
    refine ⟨ab, ao, rfl, ?_⟩
    rw [Addr.add_lit] at h1
    rw [h1]
    congr 2
    simp [List.getD, List.getElem?_take, hj]

theorem split_at {cs xs : List Value} {i n : Nat} (h : (cs.drop i).take n = xs) : cs.drop i = xs ++ cs.drop (i + n) := by
  rw [← h, ← List.drop_drop]
  exact (List.take_append_drop n (cs.drop i)).symm
end

set_option maxRecDepth 100000 in
/-- A manifest. -/
theorem open_manifest {H : Type} {enc : TypeId × Value → H} {W : World} {base b0 : Nat} {v : Value} {d : DataW H} {p : List MemPlace} (hv : Value.okWide Try.prog W .any b0 41 v)
    (h : DataW.Trod enc Try.prog W base (fun _ => true) true 41 v d p) :
    ∃ (mode ver blk ol nl : Int) (D : List Int) (A : Option Addr) (n c : Nat) (xs : List Int), v = .agg (mfc mode ver blk ol nl D (.slice A n c)) ∧ D.length = 96 ∧ Rd W .i64 A n xs ∧ n ≤ c ∧ c ≤ maxLen ∧
      (0 ≤ mode ∧ mode ≤ 255) ∧ (0 ≤ ver ∧ ver ≤ 18446744073709551615) ∧ nl ≤ 9223372036854775807 ∧ ol ≤ 9223372036854775807 ∧ (∀ b ∈ D, 0 ≤ b ∧ b ≤ 255) := by
  obtain ⟨cs, rfl, hsz⟩ := okWide_struct Try.underlying41 hv
  obtain ⟨fuel, hf⟩ := h
  obtain ⟨m, hl, hfs⟩ := open_fields Try.underlying41 hf
  simp only [Value.cells] at hl hfs
  have c5 : Try.prog.cellsOf 5 = 1 := by kernel_rfl
  have c36 : Try.prog.cellsOf 36 = 1 := by kernel_rfl
  have c3 : Try.prog.cellsOf 3 = 1 := by kernel_rfl
  have c38 : Try.prog.cellsOf 38 = 32 := by kernel_rfl
  have c39 : Try.prog.cellsOf 39 = 1 := by kernel_rfl
  have c41 : Try.prog.cellsOf 41 = 102 := by kernel_rfl
  obtain ⟨y0, f0⟩ := hfs _ (List.mem_of_getElem? (i := 0) rfl)
  obtain ⟨y1, f1⟩ := hfs _ (List.mem_of_getElem? (i := 1) rfl)
  obtain ⟨y2, f2⟩ := hfs _ (List.mem_of_getElem? (i := 2) rfl)
  obtain ⟨y3, f3⟩ := hfs _ (List.mem_of_getElem? (i := 3) rfl)
  obtain ⟨y4, f4⟩ := hfs _ (List.mem_of_getElem? (i := 4) rfl)
  obtain ⟨y5, f5⟩ := hfs _ (List.mem_of_getElem? (i := 5) rfl)
  obtain ⟨y6, f6⟩ := hfs _ (List.mem_of_getElem? (i := 6) rfl)
  obtain ⟨y7, f7⟩ := hfs _ (List.mem_of_getElem? (i := 7) rfl)
  obtain ⟨y8, f8⟩ := hfs _ (List.mem_of_getElem? (i := 8) rfl)
  simp only at f0 f1 f2 f3 f4 f5 f6 f7 f8
  obtain ⟨mode, e0, w0⟩ := open_cell Try.underlying5 f0
  obtain ⟨ver, e1, w1⟩ := open_cell Try.underlying36 f1
  obtain ⟨blk, e2, _⟩ := open_cell Try.underlying3 f2
  obtain ⟨ol, e3, w3⟩ := open_cell Try.underlying3 f3
  obtain ⟨nl, e4, w4⟩ := open_cell Try.underlying3 f4
  obtain ⟨D0, e5, l5, w5⟩ := open_array Try.underlying38 Try.underlying5 c5 c38 f5
  obtain ⟨D1, e6, l6, w6⟩ := open_array Try.underlying38 Try.underlying5 c5 c38 f6
  obtain ⟨D2, e7, l7, w7⟩ := open_array Try.underlying38 Try.underlying5 c5 c38 f7
  obtain ⟨A, n, c, xs, e8, R, hc, hm, _⟩ := open_nums Try.underlying39 Try.underlying3 c3 f8
  rw [c5] at e0
  rw [c36] at e1
  rw [c3] at e2 e3 e4
  rw [c38] at e5 e6 e7
  rw [c39] at e8
  have s0 := split_at e0
  have s1 := split_at e1
  have s2 := split_at e2
  have s3 := split_at e3
  have s4 := split_at e4
  have s5 := split_at e5
  have s6 := split_at e6
  have s7 := split_at e7
  have s8 := split_at e8
  have hend : cs.toList.drop 102 = [] := List.drop_eq_nil_of_le (by rw [hl, c41]; exact Nat.le_refl _)
  refine ⟨mode, ver, blk, ol, nl, D0 ++ (D1 ++ D2), A, n, c, xs, ?_, by simp; omega, R, hc, hm, ?_, ?_, ?_, ?_, ?_⟩
  · congr 1
    have hcs : cs.toList = [Value.int .u8 mode, .int .u64 ver, .int .i64 blk, .int .i64 ol, .int .i64 nl] ++ ((D0 ++ (D1 ++ D2)).map (Value.int .u8) ++ [.slice A n c]) := by
      rw [List.drop_zero] at s0
      rw [s0, s1, s2, s3, s4, s5, s6, s7, s8, hend]
      simp
    rw [mfc, ← hcs]
  · exact bounds_u8 w0
  · exact bounds_u64 w1
  · exact (bounds_i64 w4).2
  · exact (bounds_i64 w3).2
  · intro b hb
    have : (Lit.int .u8 b).wf = true := by
      rcases List.mem_append.1 hb with h | h
      · exact w5 b h
      · rcases List.mem_append.1 h with h | h
        · exact w6 b h
        · exact w7 b h
    exact bounds_u8 this
end Go.Proofs.Ytgloienpmikcfaa
