/-
  More events over what is known: make, copy, an array's slice; rows of numbers. Over any program.
-/
import Derived.Test.YtemnahimheffgaaG
import Derived.Test.YtemnahimheffgaaEq8
set_option linter.unusedVariables false
set_option linter.unusedSimpArgs false
namespace Go.Proofs.Ytemnahimheffgaa
open Go.RowKit

/-- vs in the place of the cells from off on -/
def splice (cs : Array Value) (off : Nat) (vs : List Value) : Array Value := (cs.toList.take off ++ vs ++ cs.toList.drop (off + vs.length)).toArray
theorem splice_size {cs : Array Value} {off : Nat} {vs : List Value} (h : off + vs.length ≤ cs.size) : (splice cs off vs).size = cs.size := by
  simp [splice]
  omega
theorem splice_get {cs : Array Value} {off : Nat} {vs : List Value} (h : off + vs.length ≤ cs.size) (i : Nat) : (splice cs off vs)[i]? = if off ≤ i ∧ i < off + vs.length then vs[i - off]? else cs[i]? := by
  simp only [splice, List.getElem?_toArray]
  by_cases h1 : i < off
  · rw [if_neg (by omega), List.append_assoc, List.getElem?_append_left (by simp; omega), List.getElem?_take_of_lt h1, Array.getElem?_toList]
  · by_cases h2 : i < off + vs.length
    · rw [if_pos ⟨by omega, h2⟩, List.append_assoc, List.getElem?_append_right (by simp; omega), List.getElem?_append_left (by simp; omega)]
      congr 1
      simp
      omega
    · rw [if_neg (by omega), List.getElem?_append_right (by simp; omega), List.getElem?_drop, Array.getElem?_toList]
      congr 1
      simp
      omega
theorem splice_nil (cs : Array Value) (off : Nat) : splice cs off [] = cs := by
  simp [splice]
section
variable {P : Program} {o : Oper} {a : Act} {W : World} {T T' : TypeId} {x y : Operand}
/-- v >> s, v no less than 0 -/
theorem kr_shrU {k : IntKind} {v : Int} (s : Nat) (ho : o.op = .binOp .shr T x y T') (hx : a.eval x = .int k v) (hy : a.eval y = .int .i64 (s : Int)) (h0 : 0 ≤ v) (hs : s ≤ k.bits) : (execOp a.eval o).run P W = .ok (.value (.int k (v / 2 ^ s))) W := by
  unfold execOp
  simp only [ho, hx, hy]
  have h1 : ¬ ((s : Int) < 0) := by omega
  have h2 : v.fdiv (2 ^ s) = v / 2 ^ s := Int.fdiv_eq_ediv_of_nonneg _ (Int.pow_nonneg (by omega))
  simp [eqGuard, binOp, Op.shift, Sem.run_bind, h1, Nat.min_eq_left hs, h2]
end
section
variable {P : Program} {o : Oper} {a : Act} {W w0 : World} {L : List Ent}
/-- an element's type of one cell: its zero -/
def zeroIs (P : Program) (e : TypeId) (z : Value) : Prop := ∃ i, P.info? e = some i ∧ i.zero = some z ∧ i.size = 1 ∧ i.bytes ≤ 4096
/-- make([]T, n, c), elements of one cell -/
theorem kd_make (K : Known w0 W L) (T e : TypeId) {x y : Operand} (ho : o.op = .makeSlice T x y) {z : Value} {bytes : Nat}
    (ht : P.underlying T = some (.slice e)) (hinfo : (P.info? e).map (fun i => (i.zero, i.size, i.bytes)) = some (some z, 1, bytes)) (hz : z.cells = #[z]) (n c : Nat)
    (hx : a.eval x = .int .i64 (n : Int)) (hy : a.eval y = .int .i64 (c : Int)) (hnc : n ≤ c) (hb : bytes ≤ 4096) (h63 : c ≤ 34000000000) :
    Does P o a W fun u w1 => ∃ g, u = .slice (some ⟨g, 0, none⟩) n c ∧ Known w0 w1 (row g (Array.replicate c z) e :: L) := by
  cases hq : P.info? e with
  | none => simp [hq] at hinfo
  | some i =>
    simp only [hq, Option.map_some, Option.some.injEq, Prod.mk.injEq] at hinfo
    obtain ⟨h1, h2, h3⟩ := hinfo
    have hbb : (i.bytes : Int) * (c : Int) ≤ 281474976710656 := by
      have : i.bytes * c ≤ 4096 * 34000000000 := Nat.mul_le_mul (by omega) h63
      rw [← Int.natCast_mul]
      omega
    have hr := run_make (P := P) W T e i z ht hq h1 .i64 .i64 (n : Int) (c : Int) (by omega) (by omega) hbb (by omega)
    simp only [Int.toNat_natCast, h2, Nat.mul_one, hz, madeCells_one] at hr
    refine Does.val (v := .slice (some ⟨W.heap.size, 0, none⟩) n c) ?_ ⟨W.heap.size, rfl, K.new (.cells (Array.replicate c z) e (0, 0))⟩
    unfold execOp
    simp only [ho, hx, hy, hr, Sem.run_bind, Result.andThen_ok, Sem.run_pure]
theorem OwnL.made {e : TypeId} {k : IntKind} {g n c : Nat} (h : n ≤ c) (hc : c ≤ 34000000000) : OwnL e 1 (some ⟨g, 0, none⟩) n c ((List.replicate n (0 : Int)).map (Value.int k)) [row g (Array.replicate c (.int k 0)) e] :=
  OwnL.of h (by unfold maxLen; omega) (by simp) (by simp [List.take_replicate]; omega) (by simp)
/-- copy(d, s): numbers, into a row that is known -/
theorem kd_copy (K : Known w0 W L) {T T' e : TypeId} {d s : Operand} (ho : o.op = .call { callee := .builtin .copy, args := #[d, s], argTypes := #[T, T'] }) {g off n dc m c2 : Nat} {t : TypeId} {cur : Array Value} {B : Option Addr} {k : IntKind} {ys : List Int} {L' : List Ent}
    (hd : a.eval d = .slice (some ⟨g, off, none⟩) n dc) (hs : a.eval s = .slice B m c2) (hr : Rd W k B m ys) (hu : P.underlying T = some (.slice e)) (he : sizeIs P e 1 = true) (hrow : Repl (row g cur t) (row g (splice cur off ((ys.take n).map (Value.int k))) t) L L') (hfit : off + n ≤ cur.size) :
    Does P o a W fun v w1 => v = .int .i64 ((min n m : Nat) : Int) ∧ Known w0 w1 L' := by
  have hyl := hr.len
  have hb := K.blk hrow.has
  have hlen : ((ys.take n).map (Value.int k)).length = min n m := by simp [hyl]
  by_cases h0 : m = 0
  · subst h0
    have : ys = [] := List.eq_nil_of_length_eq_zero hyl
    subst this
    simp only [List.take_nil, List.map_nil, splice_nil] at hrow
    have hrun : (Builtin.copy_ #[T, T'] o.type #[.slice (some ⟨g, off, none⟩) n dc, .slice B 0 c2]).run P W = .ok (.int .i64 0) W := by
      cases B <;> simp [Builtin.copy_, run_underlying hu, Builtin.lenOf, Sem.run_bind, sizeIs_run he, Builtin.firstCells, storeCells, goInt, loadCells, loadCellsFrom]
    have hL : L' = L := by
      obtain ⟨A, B, rfl, rfl⟩ := hrow.out
      rfl
    refine Does.val (v := .int .i64 0) (w1 := W) ?_ ⟨by simp, by rw [hL]; exact K⟩
    simp only [execOp, ho, resolve, invoke, builtin, List.map_toArray, List.map_cons, List.map_nil, hd, hs, hrun, Sem.run_bind, Sem.run_pure, Result.andThen_ok]
  · obtain ⟨b, boff, rfl, hlt, hc⟩ := hr.form (by omega)
    have hrun := run_copy_row (P := P) W T T' o.type e g off n dc ⟨b, boff, none⟩ m c2 cur t ((ys.take n).map (Value.int k)) hu (sizeIs_info he) hb.out (by rw [hlen]; exact Nat.min_comm _ _)
      (fun j v hj => by
        have hadd : (⟨b, boff, none⟩ : Addr).add j = ⟨b, boff + j, none⟩ := by unfold Addr.add; split <;> simp_all
        have hjn : j < min n m := by
          rcases Nat.lt_or_ge j (min n m) with h | h
          · exact h
          · rw [List.getElem?_eq_none (by omega)] at hj; cases hj
        have hjy : j < ys.length := by omega
        rw [hadd, hc j (by omega)]
        rw [List.getElem?_map, List.getElem?_take_of_lt (by omega), List.getElem?_eq_getElem hjy] at hj
        simp [List.getD, hjy] at hj ⊢
        exact hj) (by rw [hlen]; omega) (fun v hv => by
        rw [List.mem_map] at hv
        obtain ⟨x, _, rfl⟩ := hv
        rfl)
    rw [hlen] at hrun
    refine Does.val (v := .int .i64 ((min n m : Nat) : Int)) ?_ ⟨rfl, K.put (o' := .cells (splice cur off ((ys.take n).map (Value.int k))) t (0, 0)) hrow (put_row W g (splice cur off ((ys.take n).map (Value.int k)))) (setRow_heap W g cur _ t (0, 0) hb.out)⟩
    simp only [execOp, ho, resolve, invoke, builtin, List.map_toArray, List.map_cons, List.map_nil, hd, hs, hrun, Sem.run_bind, Sem.run_pure, Result.andThen_ok]
    simp only [splice, hlen, goInt]
/-- x[i:j] of an array variable -/
theorem kr_slice_arr {T e : TypeId} {N : Nat} {x : Operand} {lo hi : Option Operand} (ho : o.op = .slice T x lo hi none) {g off : Nat} (hx : a.eval x = .pointer (some ⟨g, off, none⟩)) (i j : Nat)
    (hlo : lo.map a.eval = none ∧ i = 0 ∨ lo.map a.eval = some (.int .i64 i)) (hhi : hi.map a.eval = none ∧ j = N ∨ hi.map a.eval = some (.int .i64 j)) (h1 : i ≤ j) (h2 : j ≤ N) (hT : P.underlying T = some (.array N e)) (hs : sizeIs P e 1 = true) :
    (execOp a.eval o).run P W = .ok (.value (.slice (some ⟨g, if N = i then off else off + i, none⟩) (j - i) (N - i))) W := by
  have hadd : (⟨g, off, none⟩ : Addr).add i = ⟨g, off + i, none⟩ := by unfold Addr.add; split <;> simp_all
  have b1 : (Instr.sliceBound (.int .i64 (i : Int)) j .sliceB).run P W = .ok i W := by
    rw [run_sliceBound W .i64 (i : Int) j .sliceB (by omega) (by omega)]; simp
  have b2 : (Instr.sliceBound (.int .i64 (j : Int)) N .sliceAlen).run P W = .ok j W := by
    rw [run_sliceBound W .i64 (j : Int) N .sliceAlen (by omega) (by omega)]; simp
  have b3 : (Instr.sliceAt T (.pointer (some ⟨g, off, none⟩)) (lo.map a.eval) (hi.map a.eval) none).run P W = .ok (.slice (some ⟨g, if N = i then off else off + i, none⟩) (j - i) (N - i)) W := by
    unfold Instr.sliceAt
    have hif : (if N = i then (⟨g, off, none⟩ : Addr) else ⟨g, off + i, none⟩) = ⟨g, if N = i then off else off + i, none⟩ := by split <;> rfl
    rcases hlo with ⟨hl, rfl⟩ | hl <;> rcases hhi with ⟨hh, rfl⟩ | hh <;> rw [hl, hh] <;> simp [run_underlying hT, Instr.sureAddr, Instr.sliceBounds, b1, b2, sizeIs_run hs, Sem.run_bind, hadd, hif]
  unfold execOp
  simp only [ho, hx, Option.map_none, b3, Sem.run_bind, Result.andThen_ok, Sem.run_pure]
theorem kr_slice_arr_lt {T e : TypeId} {N : Nat} {x : Operand} {lo hi : Option Operand} (ho : o.op = .slice T x lo hi none) {g off : Nat} (hx : a.eval x = .pointer (some ⟨g, off, none⟩)) (i j : Nat)
    (hlo : lo.map a.eval = none ∧ i = 0 ∨ lo.map a.eval = some (.int .i64 i)) (hhi : hi.map a.eval = none ∧ j = N ∨ hi.map a.eval = some (.int .i64 j)) (h1 : i ≤ j) (h2 : j ≤ N) (hlt : i < N) (hT : P.underlying T = some (.array N e)) (hs : sizeIs P e 1 = true) :
    (execOp a.eval o).run P W = .ok (.value (.slice (some ⟨g, off + i, none⟩) (j - i) (N - i))) W := by
  have h := kr_slice_arr (P := P) (o := o) (a := a) (W := W) ho hx i j hlo hhi h1 h2 hT hs
  rwa [if_neg (by omega)] at h
end
def upd {α : Type} (f : Nat → α) (n : Nat) (v : α) : Nat → α := fun i => if i = n then v else f i
/-- cells that a function tells -/
def fcells (n : Nat) (f : Nat → Value) : Array Value := ((List.range n).map f).toArray
theorem fcells_size (n : Nat) (f : Nat → Value) : (fcells n f).size = n := by simp [fcells]
theorem fcells_get {n i : Nat} (f : Nat → Value) (h : i < n) : (fcells n f)[i]? = some (f i) := by simp [fcells, h]
theorem fcells_set {n i : Nat} (f : Nat → Value) (v : Value) (h : i < n) : (fcells n f).set! i v = fcells n (upd f i v) := by
  apply Array.ext
  · simp [fcells]
  · intro j h1 h2
    simp only [fcells, List.size_toArray, List.length_map, List.length_range] at h2
    simp only [fcells, upd, Array.set!_eq_setIfInBounds, Array.getElem_setIfInBounds, List.getElem_toArray, List.getElem_map, List.getElem_range]
    by_cases e : i = j
    · subst e; simp
    · have : ¬ j = i := fun c => e c.symm
      simp [e, this]
theorem fcells_congr {n : Nat} {f g : Nat → Value} (h : ∀ i, i < n → f i = g i) : fcells n f = fcells n g := by
  simp only [fcells]
  congr 1
  exact List.map_congr_left (fun i hi => h i (List.mem_range.1 hi))
theorem splice_fcells {N off : Nat} (f : Nat → Value) (vs : List Value) (h : off + vs.length ≤ N) : splice (fcells N f) off vs = fcells N (fun i => if off ≤ i ∧ i < off + vs.length then vs.getD (i - off) (.bool false) else f i) := by
  have hs : off + vs.length ≤ (fcells N f).size := by rw [fcells_size]; exact h
  apply Array.ext
  · rw [splice_size hs, fcells_size, fcells_size]
  · intro i h1 h2
    have e1 : (splice (fcells N f) off vs)[i]? = some (splice (fcells N f) off vs)[i] := Array.getElem?_eq_getElem h1
    rw [splice_get hs] at e1
    have hi : i < N := by rw [fcells_size] at h2; exact h2
    have e2 := fcells_get (fun i => if off ≤ i ∧ i < off + vs.length then vs.getD (i - off) (.bool false) else f i) hi
    rw [Array.getElem?_eq_getElem h2] at e2
    injection e2 with e2
    rw [e2]
    split
    · next hc =>
      rw [if_pos hc, List.getElem?_eq_getElem (by omega)] at e1
      injection e1 with e1
      rw [← e1]
      simp [List.getD, show i - off < vs.length by omega]
    · next hc =>
      rw [if_neg hc, fcells_get _ hi] at e1
      injection e1 with e1
      exact e1.symm
theorem fcells_repl (N : Nat) (z : Value) : Array.replicate N z = fcells N (fun _ => z) := by
  apply Array.ext
  · simp [fcells]
  · intro i h1 h2
    simp [fcells]
theorem fcells_u8s (n : Nat) (f : Nat → Int) : fcells n (fun i => .int .u8 (f i)) = u8s ((List.range n).map f) := by
  simp [fcells, u8s, Function.comp_def]
theorem fcells_rd {w0 : World} {L : List Ent} {k : IntKind} {g N off n : Nat} {t : TypeId} {f : Nat → Value} {xs : List Int} (h : Has (row g (fcells N f) t) L) (hx : xs.length = n) (hN : off + n ≤ N) (hxs : ∀ j, j < n → f (off + j) = .int k (xs.getD j 0)) : RdS w0 L k (some ⟨g, off, none⟩) n xs :=
  RdS.ofRow h hx (by
    apply List.ext_getElem?
    intro i
    by_cases hi : i < n
    · rw [List.getElem?_take_of_lt hi, List.getElem?_drop, Array.getElem?_toList, fcells_get _ (by omega), hxs i hi]
      simp [List.getD, show i < xs.length by omega]
    · rw [List.getElem?_eq_none (by simp; omega), List.getElem?_eq_none (by simp; omega)])
end Go.Proofs.Ytemnahimheffgaa
