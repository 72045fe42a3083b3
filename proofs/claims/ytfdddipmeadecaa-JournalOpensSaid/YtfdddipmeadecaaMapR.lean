/-
  Maps keyed by integers, over what is known: made, looked up, written. Over any program.
-/
import Derived.Test.YtfdddipmeadecaaR
import Derived.Maps.OwnOps
import Derived.Maps.RangeRun
set_option linter.unusedVariables false
set_option linter.unusedSimpArgs false
namespace Go.Proofs.Ytfdddipmeadecaa
open Go.RowKit

/-- an entry: its key, value, when it was born -/
structure ME where
  (k : Int) (v : Value) (b : Nat)
def ME.ent (e : ME) : MapEntry := { key := .int .i64 e.k, val := e.v, born := e.b }
def mes (l : List ME) : Array MapEntry := (l.map ME.ent).toArray
/-- a map's block -/
abbrev mrow (g : Nat) (l : List ME) (c : Nat) : Ent := (g, .map (mes l) c)
/-- where a key stands -/
def mfind : List ME → Int → Nat → Option (Nat × Value)
  | [], _, _ => none
  | e :: l, x, i => if x = e.k then some (i, e.v) else mfind l x (i + 1)
/-- what a write leaves -/
def mput : List ME → Int → Value → Nat → List ME
  | [], x, v, c => [⟨x, v, c⟩]
  | e :: l, x, v, c => if x = e.k then ⟨e.k, v, e.b⟩ :: l else e :: mput l x v c
def mhas (l : List ME) (x : Int) : Bool := (mfind l x 0).isSome
def mget (l : List ME) (x : Int) : Option Value := (mfind l x 0).map (·.2)
theorem mfind_shift : ∀ (l : List ME) (x : Int) (i j : Nat), mfind l x (i + j) = (mfind l x i).map fun p => (p.1 + j, p.2)
  | [], _, _, _ => rfl
  | e :: l, x, i, j => by
    unfold mfind
    by_cases h : x = e.k
    · simp [h]
    · rw [if_neg h, if_neg h, show i + j + 1 = (i + 1) + j by omega]
      exact mfind_shift l x (i + 1) j
theorem mget_cons (e : ME) (l : List ME) (x : Int) : mget (e :: l) x = if x = e.k then some e.v else mget l x := by
  unfold mget
  rw [mfind]
  by_cases h : x = e.k
  · simp [h]
  · rw [if_neg h, if_neg h, mfind_shift l x 0 1]
    cases mfind l x 0 <;> rfl
theorem mhas_get (l : List ME) (x : Int) : mhas l x = (mget l x).isSome := by simp [mhas, mget]
section
variable {P : Program}
theorem findNow_mes (x : Int) : ∀ (l : List ME) (i : Nat), Instr.findNow (.int .i64) (.int .i64 x) (l.map ME.ent) i = some (mfind l x i)
  | [], _ => rfl
  | e :: l, i => by
    simp only [List.map_cons, Instr.findNow, ME.ent, Instr.sameNow, if_true, mfind]
    by_cases h : x = e.k
    · simp [h]
    · have h' : (x == e.k) = false := by simpa using h
      rw [h', if_neg h]
      exact findNow_mes x l (i + 1)
theorem run_findKey_mes (w : World) {kt : TypeId} (hk : P.underlying kt = some (.int .i64)) (x : Int) (l : List ME) : (Instr.findKey kt (.int .i64 x) (mes l).toList).run P w = .ok (mfind l x 0) w := by
  simp [Instr.findKey, mes, Sem.run_bind, run_underlying hk, findNow_mes]
theorem run_checkKey_int (w : World) {kt : TypeId} (hk : P.underlying kt = some (.int .i64)) (x : Int) (e : Bool) : (Instr.checkKey e 10000 kt (.int .i64 x)).run P w = .ok () w := by
  exact MapKept.run_checkKey hk (by exact rfl) e 9999
theorem run_lookup_mes {w : World} {T kt et : TypeId} {g c : Nat} {l : List ME} {z : Value} (hb : w.heap[g]? = some (.map (mes l) c)) (hT : P.underlying T = some (.map kt et)) (hk : P.underlying kt = some (.int .i64)) (hz : (P.info? et).bind (·.zero) = some z) (x : Int) (ok : Bool) :
    (Instr.lookup T (.map (some g)) (.int .i64 x) ok).run P w = .ok (if ok then .tuple #[(mget l x).getD z, .bool (mhas l x)] else (mget l x).getD z) w := by
  have hzz : (zeroValue et).run P w = .ok z w := by
    cases hq : P.info? et with
    | none => simp [hq] at hz
    | some i =>
      have : i.zero = some z := by simpa [hq] using hz
      simp [zeroValue, typeInfo, hq, this, Sem.run_bind]
  have h1 := run_checkKey_int (P := P) w hk x (mes l).isEmpty
  have h2 := run_findKey_mes (P := P) w hk x l
  simp only [Instr.lookup, Sem.run_bind, run_underlying hT, Result.andThen_ok, MapKept.run_getObj_map hb, Sem.run_pure, h1, h2]
  unfold mhas mget
  cases mfind l x 0 with
  | none => cases ok <;> simp [Sem.run_bind, hzz]
  | some p => cases ok <;> simp [Sem.run_bind]
theorem mput_found : ∀ (l : List ME) (x : Int) (v : Value) (c i j : Nat) (u : Value), mfind l x j = some (i, u) → j ≤ i ∧ (mes l).modify (i - j) (fun e => { e with key := .int .i64 x, val := v }) = mes (mput l x v c) ∧ ∃ e, (mes l)[i - j]? = some e ∧ e.key = .int .i64 x
  | [], _, _, _, _, _, _, h => by cases h
  | e :: l, x, v, c, i, j, u, h => by
    unfold mfind at h
    by_cases hx : x = e.k
    · rw [if_pos hx] at h
      injection h with h
      injection h with h1 h2
      subst h1
      refine ⟨Nat.le_refl _, ?_, e.ent, by simp [mes], by rw [hx]; rfl⟩
      unfold mput
      rw [if_pos hx]
      apply Array.ext'
      rw [Nat.sub_self, Array.toList_modify]
      simp [mes, ME.ent, hx]
    · rw [if_neg hx] at h
      obtain ⟨hle, hm, en, h1, h2⟩ := mput_found l x v c i (j + 1) u h
      refine ⟨by omega, ?_, en, ?_, h2⟩
      · unfold mput
        rw [if_neg hx]
        apply Array.ext'
        have hm' := congrArg Array.toList hm
        rw [Array.toList_modify] at hm' ⊢
        simp only [mes, List.map_cons] at hm' ⊢
        rw [show i - j = (i - (j + 1)) + 1 by omega, List.modify_succ_cons, hm']
      · simp only [mes, List.map_cons, List.getElem?_toArray] at h1 ⊢
        rw [show i - j = (i - (j + 1)) + 1 by omega, List.getElem?_cons_succ, h1]
theorem mput_new : ∀ (l : List ME) (x : Int) (v : Value) (c j : Nat), mfind l x j = none → mput l x v c = l ++ [⟨x, v, c⟩]
  | [], _, _, _, _, _ => rfl
  | e :: l, x, v, c, j, h => by
    unfold mfind at h
    by_cases hx : x = e.k
    · rw [if_pos hx] at h; cases h
    · rw [if_neg hx] at h
      unfold mput
      rw [if_neg hx, mput_new l x v c (j + 1) h]
      rfl
theorem sameBits_int (n : Nat) (k : IntKind) (x : Int) : Instr.sameBits n (.int k x) (.int k x) = true := by
  cases n <;> simp [Instr.sameBits]
theorem run_mapUpdate_mes {w : World} {T kt et : TypeId} {g c : Nat} {l : List ME} (hb : w.heap[g]? = some (.map (mes l) c)) (hT : P.underlying T = some (.map kt et)) (hk : P.underlying kt = some (.int .i64)) (x : Int) (v : Value) :
    (Instr.mapUpdate T (.map (some g)) (.int .i64 x) v).run P w = .ok () { w with heap := w.heap.setIfInBounds g (.map (mes (mput l x v c)) (if mhas l x then c else c + 1)) } := by
  have h1 := run_checkKey_int (P := P) w hk x false
  have h2 := run_findKey_mes (P := P) w hk x l
  simp only [Instr.mapUpdate, Sem.run_bind, run_underlying hT, Result.andThen_ok, MapKept.run_getObj_map hb, h1, h2]
  unfold mhas
  cases hf : mfind l x 0 with
  | none =>
    have e : mes (mput l x v c) = (mes l).push { key := .int .i64 x, val := v, born := c } := by
      rw [mput_new l x v c 0 hf]
      simp [mes, ME.ent]
    simp only [MapKept.run_setObj_map _ hb, Option.isSome_none, Bool.false_eq_true, if_false, e]
  | some p =>
    obtain ⟨i, u⟩ := p
    obtain ⟨_, hm, en, h3, h4⟩ := mput_found l x v c i 0 u hf
    rw [Nat.sub_zero] at hm h3
    have hkey : (Instr.keyThatStays (((mes l)[i]?.map (·.key)).getD (.int .i64 x)) (.int .i64 x)).run P w = .ok (.int .i64 x) w := by
      rw [h3]
      simp [h4, Instr.keyThatStays, sameBits_int]
    simp only [hkey, Sem.run_bind, Result.andThen_ok, MapKept.run_setObj_map _ hb, Option.isSome_some, if_true, hm]
end
section
variable {P : Program} {o : Oper} {a : Act} {W w0 : World} {L L' : List Ent}
theorem put_setObj (w : World) (g : Nat) (ob : Obj) : Put w { w with heap := w.heap.setIfInBounds g ob } g := ⟨rfl, rfl, rfl, by simp, fun k hk => by simp [Array.getElem?_setIfInBounds, Ne.symm hk]⟩
/-- map[K]V{} -/
theorem kd_makeMap (K : Known w0 W L) {T : TypeId} (ho : o.op = .makeMap T none) : Does P o a W fun u w1 => ∃ g, u = .map (some g) ∧ Known w0 w1 (mrow g [] 0 :: L) := by
  refine Does.val (v := .map (some W.heap.size)) (w1 := W.alloc (.map #[] 0)) ?_ ⟨W.heap.size, rfl, K.new (.map #[] 0)⟩
  unfold execOp
  simp only [ho, Option.map_none, run_makeMap, Sem.run_bind, Result.andThen_ok, Sem.run_pure]
/-- v, ok := m[k]; m[k] -/
theorem kr_lookup (K : Known w0 W L) {T kt et : TypeId} {m x : Operand} {ok : Bool} (ho : o.op = .lookup T m x ok) {g c : Nat} {l : List ME} {z : Value} {i : Int} (hm : a.eval m = .map (some g)) (hx : a.eval x = .int .i64 i) (hb : Has (mrow g l c) L)
    (hT : P.underlying T = some (.map kt et)) (hk : P.underlying kt = some (.int .i64)) (hz : (P.info? et).bind (·.zero) = some z) : (execOp a.eval o).run P W = .ok (.value (if ok then .tuple #[(mget l i).getD z, .bool (mhas l i)] else (mget l i).getD z)) W := by
  have h := run_lookup_mes (P := P) (K.get hb) hT hk hz i ok
  unfold execOp
  simp only [ho, hm, hx, h, Sem.run_bind, Result.andThen_ok, Sem.run_pure]
/-- m[k] = v -/
theorem kd_mapUpdate (K : Known w0 W L) {T kt et : TypeId} {m x y : Operand} (ho : o.op = .mapUpdate T m x y) {g c : Nat} {l : List ME} {i : Int} {v : Value} (hm : a.eval m = .map (some g)) (hx : a.eval x = .int .i64 i) (hy : a.eval y = v) (hr : Repl (mrow g l c) (mrow g (mput l i v c) (if mhas l i then c else c + 1)) L L')
    (hT : P.underlying T = some (.map kt et)) (hk : P.underlying kt = some (.int .i64)) : Does P o a W fun _ w1 => Known w0 w1 L' := by
  have hb := K.get hr.has
  have h := run_mapUpdate_mes (P := P) hb hT hk i v
  have hlt : g < W.heap.size := (Array.getElem?_eq_some_iff.1 hb).1
  have hp : Put W { W with heap := W.heap.setIfInBounds g (.map (mes (mput l i v c)) (if mhas l i then c else c + 1)) } g := put_setObj W g _
  have K2 := K.put (o' := .map (mes (mput l i v c)) (if mhas l i then c else c + 1)) hr hp (by simp [Array.getElem?_setIfInBounds, hlt])
  refine ⟨.skip, _, ?_, .inr ⟨rfl, K2⟩⟩
  unfold execOp
  simp only [ho, hm, hx, hy, h, Sem.run_bind, Result.andThen_ok, Sem.run_pure]
end
end Go.Proofs.Ytfdddipmeadecaa

/-
  Maps keyed by integers, over what is known: ranged over, cleared. Over any program.
-/
set_option linter.unusedVariables false
set_option linter.unusedSimpArgs false
namespace Go.Proofs.Ytfdddipmeadecaa
open Go.RowKit
/-- a range's block -/
abbrev irow (r g since : Nat) (seen : Array Nat) (c : Nat) : Ent := (r, .mapIter (some g) since seen c)
section
variable {P : Program} {w0 W : World} {L L' : List Ent} {o : Oper} {a : Act} {f : ME → List Ent}
theorem kd_range (K : Known w0 W L) {T kt et : TypeId} {m : Operand} (ho : o.op = .range T m) {g c : Nat} {l : List ME} (hm : a.eval m = .map (some g)) (hb : Has (mrow g l c) L) (hT : P.underlying T = some (.map kt et)) :
    Does P o a W fun v w1 => ∃ r, v = .pointer (some ⟨r, 0, none⟩) ∧ Known w0 w1 (irow r g c #[] c :: L) := by
  have h := run_range_map (P := P) W T kt et g (mes l) c hT (K.get hb)
  refine Does.val (v := .pointer (some ⟨W.heap.size, 0, none⟩)) (w1 := W.alloc (.mapIter (some g) c #[] c)) ?_ ⟨W.heap.size, rfl, K.new _⟩
  unfold execOp
  simp only [ho, hm, h, Sem.run_bind, Result.andThen_ok, Sem.run_pure]
theorem kd_clear (K : Known w0 W L) {T kt et : TypeId} {m : Operand} (ho : o.op = .call { callee := .builtin .clear, args := #[m], argTypes := #[T] }) {g c : Nat} {l : List ME} (hm : a.eval m = .map (some g)) (hr : Repl (mrow g l c) (mrow g [] c) L L') (hT : P.underlying T = some (.map kt et)) :
    Does P o a W fun _ w1 => Known w0 w1 L' := by
  have hb := K.get hr.has
  have hlt : g < W.heap.size := (Array.getElem?_eq_some_iff.1 hb).1
  have hp : Put W { W with heap := W.heap.setIfInBounds g (.map #[] c) } g := put_setObj W g _
  have K2 := K.put (o' := .map #[] c) hr hp (by simp [Array.getElem?_setIfInBounds, hlt])
  have hrun : (Builtin.clear_ #[T] o.type #[.map (some g)]).run P W = .ok (.tuple #[]) { W with heap := W.heap.setIfInBounds g (.map #[] c) } := by
    have hset : (setObj g (.map #[] c)).run P W = .ok () { W with heap := W.heap.setIfInBounds g (.map #[] c) } := by simp [setObj, Sem.run, hb]
    simp [Builtin.clear_, run_underlying hT, Sem.run_bind, MapKept.run_getObj_map hb, hset]
  refine Does.val (v := .tuple #[]) (w1 := { W with heap := W.heap.setIfInBounds g (.map #[] c) }) ?_ K2
  simp only [execOp, ho, resolve, invoke, builtin, List.map_toArray, List.map_cons, List.map_nil, hm, hrun, Sem.run_bind, Sem.run_pure, Result.andThen_ok]
theorem kr_entry (K : Known w0 W L) {it : Operand} (ho : o.op = .entry it) {r g c since : Nat} {seen : Array Nat} {l : List ME} {e : ME} (hi : a.eval it = .pointer (some ⟨r, 0, none⟩)) (hr : Has (irow r g since (seen.push e.b) c) L) (hb : Has (mrow g l c) L) (he : e ∈ l) (hn : (l.map ME.b).Nodup) :
    (execOp a.eval o).run P W = .ok (.value (.tuple #[.int .i64 e.k, e.v])) W := by
  have h := run_entry_at (P := P) W r g since seen (mes l) c e.ent (K.get hr) (K.get hb) (by simp only [mes]; exact List.mem_map_of_mem he) (by simp only [mes, List.map_map]; exact hn)
  unfold execOp
  simp only [ho, hi, h, Sem.run_bind, Result.andThen_ok, Sem.run_pure]
  rfl
/-- the next entry: none is left, or one of those left, whichever -/
theorem kd_next (K : Known w0 W L) {it : Operand} (ho : o.op = .next it false) {r g c since c0 : Nat} {seen : Array Nat} {l : List ME} (hi : a.eval it = .pointer (some ⟨r, 0, none⟩)) (hb : Has (mrow g l c) L) (hr : Has (irow r g since seen c0) L) (hold : ∀ e ∈ l, e.b < since) (hsc : since ≤ c0)
    (hrep : ∀ e : ME, Repl (irow r g since seen c0) (irow r g since (seen.push e.b) c) L (f e)) :
    Does P o a W fun v w1 => ((∀ e ∈ l, e.b ∈ seen) ∧ v = .tuple #[.bool false] ∧ Known w0 w1 L) ∨ (∃ e ∈ l, e.b ∉ seen ∧ v = .tuple #[.bool true, .int .i64 e.k, e.v] ∧ Known w0 w1 (f e)) := by
  have h := run_next_at (P := P) W o.type r g since c0 seen (mes l) c (K.get hr) (K.get hb) (fun x hx => by
    simp only [mes] at hx
    obtain ⟨e, he, rfl⟩ := List.mem_map.1 hx
    exact hold e he) hsc
  have hx : ∀ e : ME, e.ent ∈ (leftOf (mes l) seen).toList ↔ (e.ent ∈ l.map ME.ent ∧ e.b ∉ seen) := fun e => by
    simp [leftOf, mes, ME.ent]
  rcases h with ⟨h0, hrun⟩ | ⟨e', he', w1, hw, hrun⟩
  · refine Does.val (v := .tuple #[.bool false]) (w1 := W) ?_ (.inl ⟨fun e he => ?_, rfl, K⟩)
    · unfold execOp
      simp only [ho, hi, hrun, Sem.run_bind, Result.andThen_ok, Sem.run_pure]
    · by_cases hs : e.b ∈ seen
      · exact hs
      · have := (hx e).2 ⟨List.mem_map_of_mem he, hs⟩
        rw [Array.eq_empty_of_size_eq_zero h0] at this
        simp at this
  · have hm : e' ∈ l.map ME.ent := by
      have : e' ∈ (mes l).toList := by
        unfold leftOf at he'
        simp at he'
        simpa using he'.1
      simpa only [mes] using this
    obtain ⟨e, he, rfl⟩ := List.mem_map.1 hm
    have hns := ((hx e).1 he').2
    have K1 : Known w0 w1 L := by rcases hw with rfl | rfl; exact K; exact K.drew
    have hlt : r < w1.heap.size := (Array.getElem?_eq_some_iff.1 (K1.get hr)).1
    have hp : Put w1 (ChangeMaps.setBlock w1 r (.mapIter (some g) since (seen.push e.b) c)) r := put_setObj w1 r _
    have K2 := K1.put (o' := .mapIter (some g) since (seen.push e.b) c) (hrep e) hp (by simp [ChangeMaps.setBlock, Array.getElem?_setIfInBounds, hlt])
    refine Does.val (v := .tuple #[.bool true, .int .i64 e.k, e.v]) (w1 := ChangeMaps.setBlock w1 r (.mapIter (some g) since (seen.push e.b) c)) ?_ (.inr ⟨e, he, hns, rfl, K2⟩)
    unfold execOp
    simp only [ho, hi, hrun, Sem.run_bind, Result.andThen_ok, Sem.run_pure]
    rfl
end
end Go.Proofs.Ytfdddipmeadecaa
