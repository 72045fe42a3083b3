/-
  sector: Offs, Waits, Writes, Fuse (contracts).
-/
import Derived.Test.YtokbloddaoakgaaSecN
import Derived.Test.YtokbloddaoakgaaMapR
import Derived.Lib.MinMax
set_option linter.unusedVariables false
set_option linter.unusedSimpArgs false
namespace Go.Proofs.Ytokbloddaoakgaa
open Go.RowKit

theorem at_len1 {P : Program} {ops : Array Oper} {rest : List Oper} {o : Oper} {a : Act} {Q : Exit → Act → World → Prop} {W : World} {t : TypeId} {x : Operand} (_h : o.op = .call { callee := .builtin .len, args := #[x], argTypes := #[t] }) (k : wpList P ops Q (o :: rest) a W) : wpList P ops Q (o :: rest) a W := k
theorem at_clear1 {P : Program} {ops : Array Oper} {rest : List Oper} {o : Oper} {a : Act} {Q : Exit → Act → World → Prop} {W : World} {t : TypeId} {x : Operand} (_h : o.op = .call { callee := .builtin .clear, args := #[x], argTypes := #[t] }) (k : wpList P ops Q (o :: rest) a W) : wpList P ops Q (o :: rest) a W := k
section
variable {P : Program} {w0 w W : World} {L X : List Ent} {g : Nat} {D : Dev} {o : Oper} {a : Act}
/-- len(m) -/
theorem kr_lenMap (K : Known w0 W L) {T kt et : TypeId} {m : Operand} (ho : o.op = .call { callee := .builtin .len, args := #[m], argTypes := #[T] }) {q c : Nat} {l : List ME} (hm : a.eval m = .map (some q)) (hb : Has (mrow q l c) L) (hT : P.underlying T = some (.map kt et)) :
    (execOp a.eval o).run P W = .ok (.value (.int .i64 l.length)) W := by
  have hrun : (Builtin.len_ #[T] o.type #[.map (some q)]).run P W = .ok (.int .i64 l.length) W := by
    simp [Builtin.len_, Builtin.lenOf, Sem.run_bind, run_underlying hT, MapKept.run_getObj_map (K.get hb), mes, goInt]
  simp only [execOp, ho, resolve, invoke, builtin, List.map_toArray, List.map_cons, List.map_nil, hm, hrun, Sem.run_bind, Sem.run_pure, Result.andThen_ok]
set_option maxRecDepth 100000 in
theorem soffs_any (K : Known w0 w (X ++ L)) (hD : DevIs w0 g D X) : Calls Try.prog 39 #[.pointer (some ⟨g, 0, none⟩)] w fun e w' => e = .returned (.int .i64 D.offs) ∧ w = w' := by
  obtain ⟨mk, mw, lk, ck, lw, cw, fz, Y, rfl, hfz, HK, HW⟩ := hD.out
  have hok := hD.ok
  simp only [List.cons_append] at K
  clear hD hok HK HW hfz
  go_enter Try.func39, Try.ntmps39
  go_wp2_with (first | ((with_reducible refine at_eqnil rfl ?_); refine wpList_reads rfl (kr_eqnil rfl rfl (by kernel_rfl)) ?_) | ((with_reducible refine at_box rfl ?_); refine wpList_does rfl (kd_box K _ _ rfl (by conv => lhs; whnf)) ?_; clear K; rintro _ w1 ⟨g, rfl, K⟩; (try dsimp only [Value.cells] at K)) | ((with_reducible refine at_alloc rfl ?_); refine wpList_does rfl (kd_alloc K _ rfl rfl) ?_; clear K; rintro _ w1 ⟨g, rfl, K⟩; (try dsimp only [Value.cells] at K)) | ((with_reducible refine at_buildSlice rfl ?_); refine wpList_does rfl (kd_lits (cs := _) K _ _ _ rfl (by first | rfl | (go_simp; done) | (go_simp; rfl)) (by first | rfl | (go_simp; done) | (go_simp; rfl))) ?_; clear K; rintro _ w1 ⟨g, rfl, K⟩) | ((with_reducible refine at_load rfl ?_); first | (refine wpList_reads (by rfl) (kr_load_cell K _ _ (by rfl) (by rfl) (by repeat (first | with_reducible exact Has.hd _ _ | with_reducible refine Has.tl _ ?_ | with_reducible refine Has.ap _ ?_)) (by decide +kernel) (by (try simp only [List.getElem?_toArray, List.getElem?_cons_succ, List.getElem?_cons_zero]); exact rfl)) ?_) | (refine wpList_reads (by rfl) (kr_load_row K _ _ (by rfl) (by rfl) (by repeat (first | with_reducible exact Has.hd _ _ | with_reducible refine Has.tl _ ?_ | with_reducible refine Has.ap _ ?_)) (by decide +kernel) (by kernel_rfl)) ?_)) | ((with_reducible refine at_store rfl ?_); (first | (refine wpList_does rfl (kd_store_cell K _ _ _ rfl rfl (by conv => lhs; whnf) (by repeat (first | with_reducible exact Repl.hd _ _ _ | with_reducible apply Repl.tl | with_reducible apply Repl.ap)) rfl rfl (by kernel_rfl) (by kernel_rfl) (by first | (simp only [List.setIfInBounds_toArray, List.set_cons_succ, List.set_cons_zero]; rfl) | rfl)) ?_) | (refine wpList_does rfl (kd_store_row K _ _ _ rfl rfl rfl (by repeat (first | with_reducible exact Repl.hd _ _ _ | with_reducible apply Repl.tl | with_reducible apply Repl.ap)) (by kernel_rfl) (by kernel_rfl) (by kernel_rfl)) ?_)); clear K; intro _ w1 K; (try simp only [Act.put])))
  go_ret
  exact ⟨rfl, rfl⟩
set_option maxRecDepth 100000 in
theorem swrites_any (K : Known w0 w (X ++ L)) (hD : DevIs w0 g D X) : Calls Try.prog 41 #[.pointer (some ⟨g, 0, none⟩)] w fun e w' => e = .returned (.int .u64 D.writes) ∧ w = w' := by
  obtain ⟨mk, mw, lk, ck, lw, cw, fz, Y, rfl, hfz, HK, HW⟩ := hD.out
  have hok := hD.ok
  simp only [List.cons_append] at K
  clear hD hok HK HW hfz
  go_enter Try.func41, Try.ntmps41
  go_wp2_with (first | ((with_reducible refine at_eqnil rfl ?_); refine wpList_reads rfl (kr_eqnil rfl rfl (by kernel_rfl)) ?_) | ((with_reducible refine at_box rfl ?_); refine wpList_does rfl (kd_box K _ _ rfl (by conv => lhs; whnf)) ?_; clear K; rintro _ w1 ⟨g, rfl, K⟩; (try dsimp only [Value.cells] at K)) | ((with_reducible refine at_alloc rfl ?_); refine wpList_does rfl (kd_alloc K _ rfl rfl) ?_; clear K; rintro _ w1 ⟨g, rfl, K⟩; (try dsimp only [Value.cells] at K)) | ((with_reducible refine at_buildSlice rfl ?_); refine wpList_does rfl (kd_lits (cs := _) K _ _ _ rfl (by first | rfl | (go_simp; done) | (go_simp; rfl)) (by first | rfl | (go_simp; done) | (go_simp; rfl))) ?_; clear K; rintro _ w1 ⟨g, rfl, K⟩) | ((with_reducible refine at_load rfl ?_); first | (refine wpList_reads (by rfl) (kr_load_cell K _ _ (by rfl) (by rfl) (by repeat (first | with_reducible exact Has.hd _ _ | with_reducible refine Has.tl _ ?_ | with_reducible refine Has.ap _ ?_)) (by decide +kernel) (by (try simp only [List.getElem?_toArray, List.getElem?_cons_succ, List.getElem?_cons_zero]); exact rfl)) ?_) | (refine wpList_reads (by rfl) (kr_load_row K _ _ (by rfl) (by rfl) (by repeat (first | with_reducible exact Has.hd _ _ | with_reducible refine Has.tl _ ?_ | with_reducible refine Has.ap _ ?_)) (by decide +kernel) (by kernel_rfl)) ?_)) | ((with_reducible refine at_store rfl ?_); (first | (refine wpList_does rfl (kd_store_cell K _ _ _ rfl rfl (by conv => lhs; whnf) (by repeat (first | with_reducible exact Repl.hd _ _ _ | with_reducible apply Repl.tl | with_reducible apply Repl.ap)) rfl rfl (by kernel_rfl) (by kernel_rfl) (by first | (simp only [List.setIfInBounds_toArray, List.set_cons_succ, List.set_cons_zero]; rfl) | rfl)) ?_) | (refine wpList_does rfl (kd_store_row K _ _ _ rfl rfl rfl (by repeat (first | with_reducible exact Repl.hd _ _ _ | with_reducible apply Repl.tl | with_reducible apply Repl.ap)) (by kernel_rfl) (by kernel_rfl) (by kernel_rfl)) ?_)); clear K; intro _ w1 K; (try simp only [Act.put])))
  go_ret
  exact ⟨rfl, rfl⟩
set_option maxRecDepth 100000 in
theorem swaits_any (K : Known w0 w (X ++ L)) (hD : DevIs w0 g D X) : Calls Try.prog 40 #[.pointer (some ⟨g, 0, none⟩)] w fun e w' => e = .returned (.int .i64 D.waits.length) ∧ w = w' := by
  obtain ⟨mk, mw, lk, ck, lw, cw, fz, Y, rfl, hfz, HK, HW⟩ := hD.out
  have hok := hD.ok
  simp only [List.cons_append] at K
  have HL := Lib.hid HW.len
  clear hD hok HK HW hfz
  go_enter Try.func40, Try.ntmps40
  go_wp2_with (first | ((with_reducible refine at_len1 (t := 106) rfl ?_); refine wpList_reads rfl (kr_lenMap K rfl rfl (by repeat (first | with_reducible exact Has.hd _ _ | with_reducible refine Has.tl _ ?_ | with_reducible refine Has.ap _ ?_)) Try.underlying106) ?_) | ((with_reducible refine at_eqnil rfl ?_); refine wpList_reads rfl (kr_eqnil rfl rfl (by kernel_rfl)) ?_) | ((with_reducible refine at_box rfl ?_); refine wpList_does rfl (kd_box K _ _ rfl (by conv => lhs; whnf)) ?_; clear K; rintro _ w1 ⟨g, rfl, K⟩; (try dsimp only [Value.cells] at K)) | ((with_reducible refine at_alloc rfl ?_); refine wpList_does rfl (kd_alloc K _ rfl rfl) ?_; clear K; rintro _ w1 ⟨g, rfl, K⟩; (try dsimp only [Value.cells] at K)) | ((with_reducible refine at_buildSlice rfl ?_); refine wpList_does rfl (kd_lits (cs := _) K _ _ _ rfl (by first | rfl | (go_simp; done) | (go_simp; rfl)) (by first | rfl | (go_simp; done) | (go_simp; rfl))) ?_; clear K; rintro _ w1 ⟨g, rfl, K⟩) | ((with_reducible refine at_load rfl ?_); first | (refine wpList_reads (by rfl) (kr_load_cell K _ _ (by rfl) (by rfl) (by repeat (first | with_reducible exact Has.hd _ _ | with_reducible refine Has.tl _ ?_ | with_reducible refine Has.ap _ ?_)) (by decide +kernel) (by (try simp only [List.getElem?_toArray, List.getElem?_cons_succ, List.getElem?_cons_zero]); exact rfl)) ?_) | (refine wpList_reads (by rfl) (kr_load_row K _ _ (by rfl) (by rfl) (by repeat (first | with_reducible exact Has.hd _ _ | with_reducible refine Has.tl _ ?_ | with_reducible refine Has.ap _ ?_)) (by decide +kernel) (by kernel_rfl)) ?_)) | ((with_reducible refine at_store rfl ?_); (first | (refine wpList_does rfl (kd_store_cell K _ _ _ rfl rfl (by conv => lhs; whnf) (by repeat (first | with_reducible exact Repl.hd _ _ _ | with_reducible apply Repl.tl | with_reducible apply Repl.ap)) rfl rfl (by kernel_rfl) (by kernel_rfl) (by first | (simp only [List.setIfInBounds_toArray, List.set_cons_succ, List.set_cons_zero]; rfl) | rfl)) ?_) | (refine wpList_does rfl (kd_store_row K _ _ _ rfl rfl rfl (by repeat (first | with_reducible exact Repl.hd _ _ _ | with_reducible apply Repl.tl | with_reducible apply Repl.ap)) (by kernel_rfl) (by kernel_rfl) (by kernel_rfl)) ?_)); clear K; intro _ w1 K; (try simp only [Act.put])))
  go_ret
  exact ⟨by rw [← HL.out]; rfl, rfl⟩
theorem dfuse_ok (h : DevOk D) {n : Int} (hn : n ≤ 9223372036854775807) : DevOk (dfuse D n) :=
  ⟨h.size, h.count, h.rk, h.rw_, h.fk, h.fw, h.offs, ⟨by show -1 ≤ max n 0; omega, by show max n 0 ≤ _; omega⟩, h.writes⟩
set_option maxRecDepth 100000 in
theorem sfuse_any (K : Known w0 w (X ++ L)) (hD : DevIs w0 g D X) (n : Int) (hn : n ≤ 9223372036854775807) : Calls Try.prog 32 #[.pointer (some ⟨g, 0, none⟩), .int .i64 n] w fun e w' => e = .returned (.tuple #[]) ∧ ∃ X', DevIs w0 g (dfuse D n) X' ∧ Known w0 w' (X' ++ L) := by
  obtain ⟨mk, mw, lk, ck, lw, cw, fz, Y, rfl, hfz, HK, HW⟩ := hD.out
  have hok := hD.ok
  simp only [List.cons_append] at K
  have HOK := Lib.hid (dfuse_ok hok hn)
  have HT := Lib.hid (show decide (0 ≤ (dfuse D n).fuse) = true by show decide (0 ≤ max n 0) = true; exact decide_eq_true (by omega))
  clear hD hok hfz
  go_enter Try.func32, Try.ntmps32
  go_wp2_with (first | ((with_reducible refine at_eqnil rfl ?_); refine wpList_reads rfl (kr_eqnil rfl rfl (by kernel_rfl)) ?_) | ((with_reducible refine at_box rfl ?_); refine wpList_does rfl (kd_box K _ _ rfl (by conv => lhs; whnf)) ?_; clear K; rintro _ w1 ⟨g, rfl, K⟩; (try dsimp only [Value.cells] at K)) | ((with_reducible refine at_alloc rfl ?_); refine wpList_does rfl (kd_alloc K _ rfl rfl) ?_; clear K; rintro _ w1 ⟨g, rfl, K⟩; (try dsimp only [Value.cells] at K)) | ((with_reducible refine at_buildSlice rfl ?_); refine wpList_does rfl (kd_lits (cs := _) K _ _ _ rfl (by first | rfl | (go_simp; done) | (go_simp; rfl)) (by first | rfl | (go_simp; done) | (go_simp; rfl))) ?_; clear K; rintro _ w1 ⟨g, rfl, K⟩) | ((with_reducible refine at_load rfl ?_); first | (refine wpList_reads (by rfl) (kr_load_cell K _ _ (by rfl) (by rfl) (by repeat (first | with_reducible exact Has.hd _ _ | with_reducible refine Has.tl _ ?_ | with_reducible refine Has.ap _ ?_)) (by decide +kernel) (by (try simp only [List.getElem?_toArray, List.getElem?_cons_succ, List.getElem?_cons_zero]); exact rfl)) ?_) | (refine wpList_reads (by rfl) (kr_load_row K _ _ (by rfl) (by rfl) (by repeat (first | with_reducible exact Has.hd _ _ | with_reducible refine Has.tl _ ?_ | with_reducible refine Has.ap _ ?_)) (by decide +kernel) (by kernel_rfl)) ?_)) | ((with_reducible refine at_store rfl ?_); (first | (refine wpList_does rfl (kd_store_cell K _ _ _ rfl rfl (by conv => lhs; whnf) (by repeat (first | with_reducible exact Repl.hd _ _ _ | with_reducible apply Repl.tl | with_reducible apply Repl.ap)) rfl rfl (by kernel_rfl) (by kernel_rfl) (by first | (simp only [List.setIfInBounds_toArray, List.set_cons_succ, List.set_cons_zero]; rfl) | rfl)) ?_) | (refine wpList_does rfl (kd_store_row K _ _ _ rfl rfl rfl (by repeat (first | with_reducible exact Repl.hd _ _ _ | with_reducible apply Repl.tl | with_reducible apply Repl.ap)) (by kernel_rfl) (by kernel_rfl) (by kernel_rfl)) ?_)); clear K; intro _ w1 K; (try simp only [Act.put])))
  go_end0
  exact ⟨rfl, _, ⟨⟨mk, mw, lk, ck, lw, cw, max n 0, Y, rfl, fun _ => rfl, HK, HW⟩, HOK.out⟩, by rw [HT.out]; exact K⟩
end
end Go.Proofs.Ytokbloddaoakgaa
