/-
  drogherlaw24: places; records compared, and read out of a slice.
-/
import Derived.Test.YtfdddipmeadecaaJouK
import Derived.Test.YtfdddipmeadecaaOpenK
set_option linter.unusedVariables false
set_option linter.unusedSimpArgs false
namespace Go.Proofs.Ytfdddipmeadecaa
open Go.RowKit
theorem neq_of_eql {P : Program} {T : TypeId} {X Y : Array Value} {b : Bool} {w : World} (h : (binOp .eql T (.agg X) (.agg Y)).run P w = .ok (.bool b) w) : (binOp .neq T (.agg X) (.agg Y)).run P w = .ok (.bool (!b)) w := by
  simp only [binOp, Sem.run_bind] at h ⊢
  cases hq : (Op.equal T (.agg X) (.agg Y)).run P w with
  | ok r w' =>
    rw [hq] at h
    simp only [Result.andThen_ok] at h ⊢
    simp at h
    obtain ⟨rfl, rfl⟩ := h
    simp
  | _ => rw [hq] at h; cases h
theorem kr_neqR {o : Oper} {a : Act} {W : World} {U : TypeId} {x y : Operand} (ho : o.op = .binOp .neq 41 x y U) {r s : Rec} (hx : a.eval x = .agg (recC r)) (hy : a.eval y = .agg (recC s)) (hr : r.man.length = 32) (he : r = s) : (execOp a.eval o).run Try.prog W = .ok (.value (.bool false)) W := by
  subst he
  unfold execOp
  have hn := neq_of_eql (eql_rec r r hr hr W)
  rw [recEq_self] at hn
  simp only [ho, hx, hy, Sem.run_bind, run_eqGuard_agg (P := Try.prog) W .neq 41 x y (recC r) (recC r) (by kernel_rfl), Result.andThen_ok, hn]
  rfl
theorem kr_load_R {P : Program} {o : Oper} {a : Act} {w0 W : World} {L : List Ent} (K : Known w0 W L) (ty : TypeId) (x : Operand) (ho : o.op = .load ty x) {b off q n : Nat} {m : List Rec} (j : Nat) (r : Rec) (hx : a.eval x = .pointer (some ⟨b, q, none⟩)) (hR : RdM w0 L recL 44 (some ⟨b, off, none⟩) n m) (hj : j < n) (he : encAt recL m j = recL r) (hq : q = off + j * 44) (hu : aggB P ty = true) (hi : sizeIs P ty 44 = true) (hl : r.man.length = 32) :
    (execOp a.eval o).run P W = .ok (.value (.agg (recC r))) W := by
  have := kr_load_rec K ty x ho j (recL r) hx hR hj he hq hu hi (by rw [recL, Array.length_toList]; exact recC_size r hl)
  simpa [recL] using this

section
variable {w0 w : World} {L X : List Ent}
theorem snew_J (K : Known w0 w L) : Calls Try.prog 6 #[.int .i64 128, .int .i64 4] w fun e w' => ∃ g, e = .returned (.tuple #[.pointer (some ⟨g, 0, none⟩), .int .i64 0]) ∧ ∃ X, DevIs w0 g (Dev.new 128 4) X ∧ Known w0 w' (X ++ L) := snew_yes K 128 4 (by omega) (by omega)
set_option maxRecDepth 100000 in
theorem places_any (K : Known w0 w L) : Calls Try.prog 8 #[] w fun e w' => e = .returned (.agg mapJ) ∧ Known w0 w' L := by
  go_enter Try.func8, Try.ntmps8
  go_wp2_with (first | ((with_reducible refine at_slot (N := 0) rfl ?_); (with_reducible refine at_alloc rfl ?_); refine wpList_does rfl (kd_alloc (z := (.agg #[.int .i64 0, .int .i64 0, .int .i64 0, .int .i64 0, .int .i64 0, .int .i64 0, .int .i64 0, .int .i64 0, .int .i64 0, .int .i64 0, .int .i64 0])) K _ rfl (by kernel_rfl)) ?_; clear K; rintro _ w1 ⟨gm, rfl, K⟩; (try dsimp only [Value.cells] at K)) | ((with_reducible refine at_slot (N := 1) rfl ?_); refine ev_build rfl 31 rfl (vals := #[(0, .int .i64 0), (1, .int .i64 1)]) (by first | rfl | (go_simp; done) | (go_simp; rfl)) (v := .agg #[.int .i64 0, .int .i64 1]) (by kernel_rfl) ?_) | ((with_reducible refine at_slot (N := 2) rfl ?_); refine ev_build rfl 31 rfl (vals := #[(0, .int .i64 1), (1, .int .i64 1)]) (by first | rfl | (go_simp; done) | (go_simp; rfl)) (v := .agg #[.int .i64 1, .int .i64 1]) (by kernel_rfl) ?_) | ((with_reducible refine at_slot (N := 3) rfl ?_); refine ev_build rfl 32 rfl (vals := #[(0, .agg #[.int .i64 0, .int .i64 1]), (1, .agg #[.int .i64 1, .int .i64 1])]) (by first | rfl | (go_simp; done) | (go_simp; rfl)) (v := .agg #[.int .i64 0, .int .i64 1, .int .i64 1, .int .i64 1]) (by kernel_rfl) ?_) | ((with_reducible refine at_slot (N := 4) rfl ?_); refine ev_build rfl 34 rfl (vals := #[(0, .agg #[.int .i64 0, .int .i64 1, .int .i64 1, .int .i64 1])]) (by first | rfl | (go_simp; done) | (go_simp; rfl)) (v := .agg mapJ) (by kernel_rfl) ?_) | ((with_reducible refine at_store rfl ?_); refine wpList_does (by rfl) (kd_store_row K _ _ _ (by rfl) (by rfl) (by rfl) Repl.auto (by kernel_rfl) (by kernel_rfl) (by kernel_rfl)) ?_; clear K; intro _ w1 K; (try simp only [Act.put])))
  exact bodyPost_cellK K (by rfl) (by rfl) Has.auto (by kernel_rfl) (by kernel_rfl) rfl ⟨rfl, K.cov Cov.auto⟩
end
end Go.Proofs.Ytfdddipmeadecaa
