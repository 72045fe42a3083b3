/-
  Steps of regions that draw: new blocks, rows written, copy; a manifest's digests laid in.
-/
import Derived.Test.YtgloienpmikcfaaGetB
import Derived.Laws.CopyRow
set_option linter.unusedVariables false
set_option linter.unusedSimpArgs false
namespace Go.Proofs.Ytgloienpmikcfaa
open Go.RowKit

section
variable {P : Program} {ops : Array Oper} {o : Oper} {a : Act} {K : Act → World → Prop} {Q : Exit → Act → World → Prop} {W : World} {E : Prop}
theorem st_new (hgd : Region.wanted o (yielded ops a.tmps) = true) {cs : Array Value} {t : TypeId}
    (hrun : (execOp a.eval o).run P W = .ok (.value (.pointer (some ⟨W.heap.size, 0, none⟩))) (W.alloc (.cells cs t (0, 0))))
    (h : ∀ g, g = W.heap.size → ∀ w1, Blk w1 g cs t → Below W.heap.size W w1 → K (a.put o.dst (.pointer (some ⟨g, 0, none⟩))) w1) : if Region.wanted o (yielded ops a.tmps) = true then Oper.wp P o a W K Q else E := by
  rw [if_pos hgd]
  unfold Oper.wp
  rw [hrun]
  exact h _ rfl _ (Blk.new W cs t) (below_new W _)
theorem st_store_row (hgd : Region.wanted o (yielded ops a.tmps) = true) (ty : TypeId) (x y : Operand) (ho : o.op = .store ty x y) {g : Nat} {t : TypeId} {old : Array Value} (hb : Blk W g old t)
    (hx : a.eval x = .pointer (some ⟨g, 0, none⟩)) {cells : Array Value} (hy : a.eval y = .agg cells)
    (hi : (P.info? ty).map (·.size) = some cells.size) (hold : old.size = cells.size) (h1 : cells.all (·.oneCell') = true)
    (h : ∀ w1, Blk w1 g cells t → Put W w1 g → K (a.put o.dst undef) w1) : if Region.wanted o (yielded ops a.tmps) = true then Oper.wp P o a W K Q else E := by
  rw [if_pos hgd]
  exact wp_store_row ty x y ho g cells hx hy t old hb.out hi hold h1 (h _ ⟨setRow_heap W g old cells t (0, 0) hb.out⟩ (put_row W g cells))
theorem st_store_cell (hgd : Region.wanted o (yielded ops a.tmps) = true) (ty : TypeId) (x y : Operand) (ho : o.op = .store ty x y) {g i : Nat} {t : TypeId} {old : Array Value} (hb : Blk W g old t)
    (hx : a.eval x = .pointer (some ⟨g, i, none⟩)) (v : Value) (hy : a.eval y = v) (h1 : v.oneCell' = true) (hc : v.cells = #[v]) (hi : (P.info? ty).map (·.size) = some 1) (hin : i < old.size)
    (h : ∀ w1, Blk w1 g (old.setIfInBounds i v) t → Put W w1 g → K (a.put o.dst undef) w1) : if Region.wanted o (yielded ops a.tmps) = true then Oper.wp P o a W K Q else E := by
  rw [if_pos hgd]
  have hcell : W.cell? ⟨g, i, none⟩ = some old[i] := (hb.cell i).trans (by simp [hin])
  have hf := hb.frozen i
  have hst : (store ⟨g, i, none⟩ v).run P W = .ok () (W.setCell ⟨g, i, none⟩ v) := by
    rw [run_store P W _ v _ h1, hcell]
    simp [hf]
  have hb1 : Blk (W.setCell ⟨g, i, none⟩ v) g (old.setIfInBounds i v) t := ⟨heap_setCell_same W g i old t v hb.out⟩
  cases hq : P.info? ty with
  | none => simp [hq] at hi
  | some inf =>
    have hs : inf.size = 1 := by simpa [hq] using hi
    unfold Oper.wp execOp
    simp only [ho, hx, hy, Instr.storeAt, Instr.sureAddr, Sem.run_bind, Sem.run_pure, Result.andThen_ok]
    simp [storeVar, sizeOf, typeInfo, hq, hc, hs, storeCells, Addr.add, hst, Oper.upon]
    exact h _ hb1 (put_cell W g i v)
theorem st_load_cell (hgd : Region.wanted o (yielded ops a.tmps) = true) (ty : TypeId) (x : Operand) (ho : o.op = .load ty x) {g i : Nat} {t : TypeId} {cs : Array Value} (hb : Blk W g cs t)
    (hx : a.eval x = .pointer (some ⟨g, i, none⟩)) (hu : (P.underlying ty).all (fun d => match d with | .struct _ | .array _ _ => false | _ => true) = true) (hs : (P.underlying ty).isSome = true) {v : Value} (hv : cs[i]? = some v)
    (h : K (a.put o.dst v) W) : if Region.wanted o (yielded ops a.tmps) = true then Oper.wp P o a W K Q else E := by
  rw [if_pos hgd]
  unfold Oper.wp
  rw [run_op_load_cell ty x ho hb hx hu hs hv]
  exact h
/-- copy(d, s): part of a block that is known whole. -/
theorem st_copy (hgd : Region.wanted o (yielded ops a.tmps) = true) (T e : TypeId) {d s : Operand} (ho : o.op = .call { callee := .builtin .copy, args := #[d, s], argTypes := #[T, T] }) {g off n dc m c2 : Nat} {t : TypeId} {cur : Array Value} {B : Option Addr} {k : IntKind} {ys : List Int}
    (hu : P.underlying T = some (.slice e)) (hsz : (P.info? e).map (·.size) = some 1) (hb : Blk W g cur t) (hd : a.eval d = .slice (some ⟨g, off, none⟩) n dc) (hs : a.eval s = .slice B m c2) (hr : Rd W k B m ys) (h0 : 0 < n) (hnm : n ≤ m) (hfit : off + n ≤ cur.size)
    (h : ∀ w1, Blk w1 g (cur.toList.take off ++ (ys.take n).map (Value.int k) ++ cur.toList.drop (off + n)).toArray t → Put W w1 g → K (a.put o.dst (.int .i64 n)) w1) : if Region.wanted o (yielded ops a.tmps) = true then Oper.wp P o a W K Q else E := by
  rw [if_pos hgd]
  obtain ⟨b, boff, rfl, hlt, hc⟩ := hr.form (by omega)
  have hlen : ((ys.take n).map (Value.int k)).length = n := by simp [hr.len]; omega
  have hrun := run_copy_row (P := P) W T T o.type e g off n dc ⟨b, boff, none⟩ m c2 cur t ((ys.take n).map (Value.int k)) hu hsz hb.out (by rw [hlen]; exact (Nat.min_eq_right hnm).symm)
    (fun j v hj => by
      have hadd : (⟨b, boff, none⟩ : Addr).add j = ⟨b, boff + j, none⟩ := by unfold Addr.add; split <;> simp_all
      have hjn : j < n := by
        rcases Nat.lt_or_ge j n with h | h
        · exact h
        · rw [List.getElem?_eq_none (by omega)] at hj; cases hj
      have hjy : j < ys.length := by rw [hr.len]; omega
      rw [hadd, hc j (by omega)]
      rw [List.getElem?_map, List.getElem?_take_of_lt hjn, List.getElem?_eq_getElem hjy] at hj
      simp [List.getD, hjy] at hj ⊢
      exact hj) (by rw [hlen]; exact hfit) (fun v hv => by
      rw [List.mem_map] at hv
      obtain ⟨x, _, rfl⟩ := hv
      rfl)
  rw [hlen] at hrun
  unfold Oper.wp
  simp only [execOp, ho, resolve, invoke, builtin, List.map_toArray, List.map_cons, List.map_nil, hd, hs, hrun, Sem.run_bind, Sem.run_pure, Result.andThen_ok]
  exact h _ ⟨setRow_heap W g cur _ t (0, 0) hb.out⟩ (put_row W g _)
/-- A struct or array out of known parts, as one operation's run. -/
theorem run_op_build {w : World} (T : TypeId) {ps : Array (Nat × Operand)} (ho : o.op = .build T ps) {vals : Array (Nat × Value)} (hp : (ps.map fun (i, x) => (i, a.eval x)) = vals) {v : Value} (hr : (Instr.build T vals).run P w = .ok v w) :
    (execOp a.eval o).run P w = .ok (.value v) w := by
  unfold execOp
  simp only [ho, hp, hr, Sem.run_bind, Result.andThen_ok, Sem.run_pure]
end
/-- a digest laid into a manifest -/
theorem mfc_lay (mode ver blk ol nl : Int) (D d : List Int) (o : Value) (i : Nat) (hD : D.length = 96) (hd : d.length = 32) (hi : i + 32 ≤ 96) :
    ((mfc mode ver blk ol nl D o).toList.take (5 + i) ++ d.map (Value.int .u8) ++ (mfc mode ver blk ol nl D o).toList.drop (5 + i + 32)).toArray = mfc mode ver blk ol nl (D.take i ++ d ++ D.drop (i + 32)) o := by
  rw [show 5 + i = i + 1 + 1 + 1 + 1 + 1 by omega, show i + 1 + 1 + 1 + 1 + 1 + 32 = (i + 32) + 1 + 1 + 1 + 1 + 1 by omega]
  simp only [mfc, List.cons_append, List.nil_append, List.take_succ_cons, List.drop_succ_cons]
  rw [List.take_append_of_le_length (by simp; omega), List.drop_append_of_le_length (by simp; omega)]
  simp [List.map_take, List.map_drop]
theorem mfc_lay0 (mode ver blk ol nl : Int) (d : List Int) (o : Value) (hd : d.length = 32) :
    ((mfc mode ver blk ol nl (List.replicate 96 0) o).toList.take 5 ++ d.map (Value.int .u8) ++ (mfc mode ver blk ol nl (List.replicate 96 0) o).toList.drop (5 + 32)).toArray = mfc mode ver blk ol nl (d ++ List.replicate 64 0) o := by
  have h := mfc_lay mode ver blk ol nl (List.replicate 96 0) d o 0 (by simp) hd (by omega)
  rw [Nat.add_zero] at h
  rw [h]
  have e : (List.replicate 96 (0 : Int)).drop (0 + 32) = List.replicate 64 0 := by simp
  rw [e, List.take_zero, List.nil_append]
theorem mfc_lay1 (mode ver blk ol nl : Int) (d0 d : List Int) (o : Value) (h0 : d0.length = 32) (hd : d.length = 32) :
    ((mfc mode ver blk ol nl (d0 ++ List.replicate 64 0) o).toList.take 37 ++ d.map (Value.int .u8) ++ (mfc mode ver blk ol nl (d0 ++ List.replicate 64 0) o).toList.drop (37 + 32)).toArray = mfc mode ver blk ol nl (d0 ++ (d ++ List.replicate 32 0)) o := by
  have h := mfc_lay mode ver blk ol nl (d0 ++ List.replicate 64 0) d o 32 (by simp [h0]) hd (by omega)
  rw [h]
  have e : (d0 ++ List.replicate 64 (0 : Int)).take 32 ++ d ++ (d0 ++ List.replicate 64 (0 : Int)).drop (32 + 32) = d0 ++ (d ++ List.replicate 32 0) := by
    simp [List.take_append, List.drop_append, h0, List.take_of_length_le, List.drop_eq_nil_of_le]
  rw [e]
theorem mfc_lay2 (mode ver blk ol nl : Int) (d0 d1 d : List Int) (o : Value) (h0 : d0.length = 32) (h1 : d1.length = 32) (hd : d.length = 32) :
    ((mfc mode ver blk ol nl (d0 ++ (d1 ++ List.replicate 32 0)) o).toList.take 69 ++ d.map (Value.int .u8) ++ (mfc mode ver blk ol nl (d0 ++ (d1 ++ List.replicate 32 0)) o).toList.drop (69 + 32)).toArray = mfc mode ver blk ol nl (d0 ++ (d1 ++ d)) o := by
  have h := mfc_lay mode ver blk ol nl (d0 ++ (d1 ++ List.replicate 32 0)) d o 64 (by simp [h0, h1]) hd (by omega)
  rw [h]
  have e : (d0 ++ (d1 ++ List.replicate 32 (0 : Int))).take 64 ++ d ++ (d0 ++ (d1 ++ List.replicate 32 (0 : Int))).drop (64 + 32) = d0 ++ (d1 ++ d) := by
    simp [List.take_append, List.drop_append, h0, h1, List.take_of_length_le, List.drop_eq_nil_of_le]
  rw [e]
theorem Rd.cut {w : World} {k : IntKind} {b off n : Nat} {xs : List Int} (h : Rd w k (some ⟨b, off, none⟩) n xs) (i : Nat) (hi : i ≤ n) : Rd w k (some ⟨b, off + i, none⟩) (n - i) (xs.drop i) :=
  ⟨by simp [h.len], fun j hj => by
    obtain ⟨b', off', e, hc⟩ := h.at_ (i + j) (by omega)
    injection e with e
    injection e with e1 e2
    subst e1 e2
    refine ⟨b, off + i, rfl, ?_⟩
    rw [Nat.add_assoc, hc]
    simp [List.getD]⟩
end Go.Proofs.Ytgloienpmikcfaa
