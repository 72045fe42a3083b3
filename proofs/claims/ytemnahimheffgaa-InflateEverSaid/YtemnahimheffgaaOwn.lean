/-
  Words: slices of numbers that the call owns and appends to; bytes to a string. Over any program.
-/
import Derived.Test.YtemnahimheffgaaRd
import Derived.Deep.AppendLies
import Derived.Lib.AppendZerosOnto
import Derived.Laws.BytesArg
set_option linter.unusedVariables false
set_option linter.unusedSimpArgs false
namespace Go.Proofs.Ytemnahimheffgaa
open Go.RowKit

/-- A slice of numbers that is the call's own (since block 'base'). -/
structure Own (w : World) (base : Nat) (e : TypeId) (k : IntKind) (A : Option Addr) (n c : Nat) (xs : List Int) : Prop where mk ::
  (out : w.ownsRow base e 1 (.slice A n c) n (xs.map (Value.int k)))
/-- Of what was there nothing turned but the row itself. -/
structure Grew (w w1 : World) (A : Option Addr) : Prop where mk ::
  (os : w1.os = w.os) (tape : w1.tape = w.tape) (output : w1.output = w.output) (size : w.heap.size ≤ w1.heap.size)
  (block : ∀ k, k < w.heap.size → (∀ a, A = some a → a.block ≠ k) → w1.heap[k]? = w.heap[k]?)
namespace Grew
variable {w w1 w2 : World} {A : Option Addr}
theorem below {B : Nat} (h : Grew w w1 A) (hA : ∀ a, A = some a → B ≤ a.block) (hB : B ≤ w.heap.size) : Below B w w1 :=
  ⟨h.os, h.tape, h.output, h.size, fun k hk => h.block k (by omega) (fun a ha e => by have := hA a ha; omega)⟩
theorem ofBelow (h : Below w.heap.size w w1) : Grew w w1 A := ⟨h.os, h.tape, h.output, h.size, fun k hk _ => h.block k hk⟩
end Grew
namespace Own
variable {w w1 : World} {base : Nat} {e : TypeId} {k : IntKind} {A : Option Addr} {n c : Nat} {xs : List Int}
theorem len (h : Own w base e k A n c xs) : xs.length = n := by have := h.out.1; simpa using this
theorem nil (w : World) (base : Nat) (e : TypeId) (k : IntKind) : Own w base e k none 0 0 [] := ⟨World.ownsRow_nil w base e 1⟩
theorem lt (h : Own w base e k A n c xs) : ∀ a, A = some a → base ≤ a.block ∧ a.block < w.heap.size := fun a ha =>
  h.out.lt a.block (by subst ha; rfl)
theorem nz (h : Own w base e k A n c xs) : n ≤ c := by
  rcases h.out.2 with ⟨hv, h0⟩ | ⟨g, cap, cur, hv, _, _, hc, _⟩
  · omega
  · injection hv with _ _ e3
    omega
theorem mono {base' : Nat} (h : Own w base e k A n c xs) (hb : base' ≤ base) : Own w base' e k A n c xs :=
  ⟨h.out.1, h.out.2.elim Or.inl (fun ⟨g, cap, cur, hv, hg, r⟩ => Or.inr ⟨g, cap, cur, hv, Nat.le_trans hb hg, r⟩)⟩
theorem form (h : Own w base e k A n c xs) : (A = none ∧ n = 0 ∧ c = 0) ∨ ∃ g, A = some ⟨g, 0, none⟩ ∧ base ≤ g ∧ g < w.heap.size := by
  rcases h.out.2 with ⟨hv, h0⟩ | ⟨g, cap, cur, hv, hb, hg, _⟩
  · injection hv with e1 _ e3
    exact .inl ⟨e1, h0, e3⟩
  · injection hv with e1 _ _
    exact .inr ⟨g, e1, hb, (Array.getElem?_eq_some_iff.1 hg).1⟩
theorem rd (h : Own w base e k A n c xs) : Rd w k A n xs := ⟨h.len, fun j hj => by
  rcases h.form with ⟨rfl, rfl, _⟩ | ⟨g, rfl, hb, hg⟩
  · omega
  · refine ⟨g, 0, rfl, ?_⟩
    have := h.out.cells (g := g) rfl j (.int k (xs.getD j 0)) (by
      have : j < xs.length := by rw [h.len]; exact hj
      simp [this, List.getD])
    have hadd : (⟨g, 0, none⟩ : Addr).add j = ⟨g, 0 + j, none⟩ := by unfold Addr.add; split <;> simp_all
    rwa [hadd] at this⟩
theorem fresh (h : Own w base e k A n c xs) {g : Nat} (hg : g = w.heap.size) : ∀ a, A = some a → a.block ≠ g := fun a ha => by have := (h.lt a ha).2; omega
theorem block (h : Own w base e k A n c xs) (hb : ∀ a, A = some a → w1.heap[a.block]? = w.heap[a.block]?) : Own w1 base e k A n c xs := by
  refine ⟨h.out.1, ?_⟩
  rcases h.out.2 with hn | ⟨g, cap, cur, hv, hbg, hg, rest⟩
  · exact .inl hn
  · have hv' := hv
    injection hv with e1 _ _
    refine .inr ⟨g, cap, cur, hv', hbg, (hb _ e1).trans hg, rest⟩
theorem below (h : Own w base e k A n c xs) (hb : Below w.heap.size w w1) : Own w1 base e k A n c xs :=
  h.block fun a ha => hb.block _ (h.lt a ha).2
theorem drew (h : Own w base e k A n c xs) : Own w.drew base e k A n c xs := ⟨h.out⟩
theorem put {g : Nat} (h : Own w base e k A n c xs) (hp : Put w w1 g) (hne : ∀ a, A = some a → a.block ≠ g) : Own w1 base e k A n c xs :=
  h.block fun a ha => hp.block _ (hne a ha)
theorem grew {B : Option Addr} (h : Own w base e k A n c xs) (hg : Grew w w1 B) (hne : ∀ a b, A = some a → B = some b → b.block ≠ a.block) : Own w1 base e k A n c xs :=
  h.block fun a ha => hg.block _ (h.lt a ha).2 (fun b hb => hne a b ha hb)
/-- a block of another type is another block -/
theorem ne (h : Own w base e k A n c xs) {g : Nat} {cs : Array Value} {t : TypeId} (hB : Blk w g cs t) (ht : t ≠ e) : ∀ a, A = some a → a.block ≠ g := by
  intro a ha hg
  rcases h.out.2 with ⟨hv, h0⟩ | ⟨g', cap, cur, hv, hb, hg', _⟩
  · injection hv with e1
    rw [ha] at e1
    cases e1
  · injection hv with e1 _ _
    rw [ha] at e1
    injection e1 with e1
    subst e1
    simp only at hg
    subst hg
    have := hB.out.symm.trans hg'
    injection this with this
    injection this with _ h2
    exact ht h2
/-- a row of one's own, out of a block known whole -/
theorem ofBlk {g : Nat} {cs : Array Value} (h : Blk w g cs e) (hb : base ≤ g) (hc : cs.size = c) (hcm : c ≤ maxLen) (hn : n ≤ c) (hx : xs.length = n) (hxs : cs.toList.take n = xs.map (Value.int k)) :
    Own w base e k (some ⟨g, 0, none⟩) n c xs :=
  ⟨⟨by simp [hx], .inr ⟨g, c, cs, rfl, hb, h.out, hn, hcm, by omega, by simpa using hxs⟩⟩⟩
end Own
theorem Blk.grew {w w1 : World} {g : Nat} {cs : Array Value} {t : TypeId} {A : Option Addr} (h : Blk w g cs t) (hg : Grew w w1 A) (hne : ∀ a, A = some a → a.block ≠ g) : Blk w1 g cs t :=
  ⟨(hg.block g h.lt hne).trans h.out⟩
theorem Fr.grew {w0 w w1 : World} {A : Option Addr} (h : Fr w0 w) (hg : Grew w w1 A) (hA : ∀ a, A = some a → w0.heap.size ≤ a.block) : Fr w0 w1 :=
  ⟨h.out.trans (hg.below hA h.size)⟩
theorem Rd.grew {w w1 : World} {k : IntKind} {A B : Option Addr} {n : Nat} {xs : List Int} (h : Rd w k A n xs) (hg : Grew w w1 B) (hne : ∀ a b, A = some a → B = some b → b.block ≠ a.block) : Rd w1 k A n xs :=
  ⟨h.len, fun j hj => by
    obtain ⟨b, off, e, hc⟩ := h.at_ j hj
    exact ⟨b, off, e, (World.cell?_of_block (hg.block b (World.block_lt_of_cell? w _ hc) (fun b' hb' => hne _ b' e hb'))).trans hc⟩⟩
theorem Rd.ofBlk {w : World} {k : IntKind} {g off n : Nat} {cs : Array Value} {t : TypeId} {xs : List Int} (h : Blk w g cs t) (hx : xs.length = n) (hxs : (cs.toList.drop off).take n = xs.map (Value.int k)) : Rd w k (some ⟨g, off, none⟩) n xs :=
  ⟨hx, fun j hj => ⟨g, off, rfl, by
    rw [h.cell]
    have e : ((cs.toList.drop off).take n)[j]? = (xs.map (Value.int k))[j]? := by rw [hxs]
    rw [List.getElem?_take_of_lt hj, List.getElem?_drop, Array.getElem?_toList] at e
    rw [e]
    have : j < xs.length := by omega
    simp [this, List.getD]⟩⟩

section
variable {P : Program}
/-- What is appended is empty. -/
theorem run_append_none (w : World) (t ty e : TypeId) (i : TypeInfo) (ht : P.underlying t = some (.slice e)) (hi : P.info? e = some i) (A B : Option Addr) (n c c2 : Nat) (hn : n ≤ c) (hA : A = none → n = 0) (hAs : ∀ a, A = some a → a.spot = none) :
    (Builtin.append_ #[t, t] ty #[.slice A n c, .slice B 0 c2]).run P w = .ok (.slice A n c) w := by
  cases A <;> cases B <;> simp [Builtin.append_, run_underlying ht, sizeOf, typeInfo, hi, Builtin.lenOf, Builtin.firstCells, loadCells, loadCellsFrom, hn, storeCells]

theorem run_append_own2 (w : World) {base : Nat} {t ty e : TypeId} {k : IntKind} {A B : Option Addr} {n c m c2 bytes : Nat} {xs ys : List Int} {z : Value} (ht : P.underlying t = some (.slice e)) (hinfo : (P.info? e).map (fun i => (i.zero, i.size, i.bytes)) = some (some z, 1, bytes)) (hzs : z.cells.size = 1)
    (hown : Own w base e k A n c xs) (hr : Rd w k B m ys) (h63 : n + m ≤ maxLen) (hbytes : (n + m) * bytes ≤ 140737488355328) (hbase : base ≤ w.heap.size) :
    ∃ A' c' w1, (Builtin.append_ #[t, t] ty #[.slice A n c, .slice B m c2]).run P w = .ok (.slice A' (n + m) c') w1 ∧ Own w1 base e k A' (n + m) c' (xs ++ ys) ∧ Grew w w1 A := by
  cases hq : P.info? e with
  | none => simp [hq] at hinfo
  | some i =>
    simp only [hq, Option.map_some, Option.some.injEq, Prod.mk.injEq] at hinfo
    obtain ⟨h1, h2, h3⟩ := hinfo
    by_cases hm : m = 0
    · subst hm
      have hy : ys = [] := List.eq_nil_of_length_eq_zero hr.len
      subst hy
      refine ⟨A, c, w, ?_, by simpa using hown, ⟨rfl, rfl, rfl, Nat.le_refl _, fun _ _ _ => rfl⟩⟩
      rw [run_append_none w t ty e i ht hq A B n c c2 hown.nz]
      · simp
      · intro hA
        rcases hown.form with ⟨_, h0, _⟩ | ⟨g, hg, _⟩
        · exact h0
        · rw [hA] at hg; cases hg
      · intro a ha
        rcases hown.form with ⟨h0, _⟩ | ⟨g, hg, _⟩
        · rw [h0] at ha; cases ha
        · rw [hg] at ha; injection ha with ha; subst ha; rfl
    · obtain ⟨b, off, rfl, hlt, hc⟩ := hr.form (by omega)
      obtain ⟨v', w', hrun, hown', hgr, hnil, _⟩ := run_append_own_at (P := P) w base t ty e i z 1 bytes ht hq h1 h2 h3 hzs (by omega) (.slice A n c) n (xs.map (Value.int k)) hown.out ⟨b, off, none⟩ m c2 (ys.map (Value.int k))
        (by simp [hr.len]) (fun j u hj => by
          have hjm : j < ys.length := by
            rcases Nat.lt_or_ge j ys.length with h | h
            · exact h
            · simp [h] at hj
          have hadd : (⟨b, off, none⟩ : Addr).add j = ⟨b, off + j, none⟩ := by unfold Addr.add; split <;> simp_all
          rw [hadd, hc j (by have := hr.len; omega)]
          simp [hjm] at hj
          simp [hjm, List.getD, hj])
        (fun u hu => by
          rw [List.mem_map] at hu
          obtain ⟨x, _, rfl⟩ := hu
          rfl) h63 hbytes hbase
      have hform : ∃ A' c', v' = .slice A' (n + m) c' := by
        rcases hown'.2 with ⟨rfl, h0⟩ | ⟨g, cap, _, hv, _⟩
        · exact ⟨none, 0, by rw [h0]⟩
        · exact ⟨_, _, hv⟩
      obtain ⟨A', c', rfl⟩ := hform
      refine ⟨A', c', w', hrun, ⟨by simpa using hown'⟩, ⟨hgr.os, hgr.tape, hgr.output, hgr.size, fun j hj hne => hgr.block j hj (fun e => ?_)⟩⟩
      cases A with
      | none => cases e
      | some a => simp [Value.ownBlock] at e; exact hne a rfl e.symm

/-- The bytes of a slice, as a string. -/
theorem run_string (w : World) {src dst e : TypeId} {A : Option Addr} {n c : Nat} {xs : List Int} (hs : P.underlying src = some (.slice e)) (he : P.underlying e = some (.int .u8)) (hd : P.underlying dst = some .string) (hr : Rd w .u8 A n xs) :
    (convert src dst (.slice A n c)).run P w = .ok (.string (strOfNums xs)) w := by
  by_cases hn : n = 0
  · subst hn
    have hx : xs = [] := List.eq_nil_of_length_eq_zero hr.len
    subst hx
    rw [run_convert_bytes_string w src dst e _ 0 c hs he hd]
    cases A <;> simp [Conv.bytesToString, loadCells]
    all_goals rfl
  · obtain ⟨b, off, rfl, hlt, hc⟩ := hr.form (by omega)
    exact run_convert_bytes_arg w src e hs he b off n c xs hr.len hc dst hd
end
section
variable {P : Program} {ops : Array Oper} {rest : List Oper} {o : Oper} {a : Act} {Q : Exit → Act → World → Prop} {W : World}
theorem at_append {t : TypeId} {s x : Operand} (_h : o.op = .call { callee := .builtin .append, args := #[s, x], argTypes := #[t, t] }) (h : wpList P ops Q (o :: rest) a W) : wpList P ops Q (o :: rest) a W := h
theorem at_convert {t u : TypeId} {x : Operand} (_h : o.op = .convert t u x) (h : wpList P ops Q (o :: rest) a W) : wpList P ops Q (o :: rest) a W := h
/-- append(s, x...), s the call's own. -/
theorem ev_append (hgd : Region.wanted o (yielded ops a.tmps) = true) (t e : TypeId) {s x : Operand} (ho : o.op = .call { callee := .builtin .append, args := #[s, x], argTypes := #[t, t] }) {base : Nat} {k : IntKind} {A B : Option Addr} {n c m c2 bytes : Nat} {xs ys : List Int} {z : Value}
    (ht : P.underlying t = some (.slice e)) (hinfo : (P.info? e).map (fun i => (i.zero, i.size, i.bytes)) = some (some z, 1, bytes)) (hzs : z.cells.size = 1)
    (hown : Own W base e k A n c xs) (hr : Rd W k B m ys) (hs : a.eval s = .slice A n c) (hx : a.eval x = .slice B m c2) (hbytes : n + m ≤ maxLen ∧ (n + m) * bytes ≤ 140737488355328) (hbase : base ≤ W.heap.size)
    (h : ∀ A' c' w1, Own w1 base e k A' (n + m) c' (xs ++ ys) → Grew W w1 A → wpList P ops Q rest (a.put o.dst (.slice A' (n + m) c')) w1) : wpList P ops Q (o :: rest) a W :=
  ev_wanted hgd fun K hK => by
    obtain ⟨A', c', w1, hrun, h1, h2⟩ := run_append_own2 (P := P) W (ty := o.type) ht hinfo hzs hown hr hbytes.1 hbytes.2 hbase (c2 := c2)
    refine Lib.wp_append_run W s x t t ho _ _ hs hx _ _ hrun (hK _ _ (h A' c' w1 h1 h2))
/-- string(b) -/
theorem ev_string (hgd : Region.wanted o (yielded ops a.tmps) = true) (t u e : TypeId) {x : Operand} (ho : o.op = .convert t u x) {A : Option Addr} {n c : Nat} {xs : List Int}
    (hs : P.underlying t = some (.slice e)) (he : P.underlying e = some (.int .u8)) (hd : P.underlying u = some .string) (hr : Rd W .u8 A n xs) (hx : a.eval x = .slice A n c)
    (h : wpList P ops Q rest (a.put o.dst (.string (strOfNums xs))) W) : wpList P ops Q (o :: rest) a W :=
  ev_wanted hgd fun K hK => by
    unfold Oper.wp execOp
    simp only [ho, hx, run_string W hs he hd hr, Sem.run_bind, Result.andThen_ok]
    exact hK _ _ h
end
end Go.Proofs.Ytemnahimheffgaa
