/-
  Package part: Layout; the reference's May and Layout; the law's example (contracts).
-/
import Derived.Test.YtokbloddaoakgaaPartA
import Derived.Test.YtokbloddaoakgaaCom
namespace Go.Proofs.Ytokbloddaoakgaa
open Go.RowKit

set_option maxHeartbeats 400000 in
set_option maxRecDepth 100000 in
theorem layout_yes (s b n : Int) (hv : mayB s b n = true) (w : World) : Calls Try.prog 57 #[.agg #[.int .i64 s, .int .i64 b, .int .i64 n]] w fun e w' => e = .returned (.tuple #[.agg (mapCells 0 1 1 1 2 (b / s) (2 + b / s) (b / s * n) (2 + b / s + b / s * n) (b / s * n) (2 + b / s + b / s * n + b / s * n)), .int .i64 0]) ∧ Below w.heap.size w w' := by
  have h := hv
  simp only [mayB, decide_eq_true_eq] at h
  obtain ⟨s1, s2, b1, b2, n1, n2, -, -⟩ := h
  have q1 : 0 ≤ b / s := Int.ediv_nonneg (by omega) (by omega)
  have q2 : b / s ≤ 32 := Int.ediv_le_of_le_mul (by omega) (by omega)
  have F : Fr w w := Fr.refl w
  go_enter Try.func57, Try.ntmps57
  go_wp2_with (first | ((with_reducible refine at_slot (N := 1) rfl ?_); refine ev_new rfl (cs := #[.int .i64 s, .int .i64 b, .int .i64 n]) (t := 102) (by first | (go_simp; done) | (go_simp; rfl)) ?_; intro gC hgC wC C nbC; have GEC : w.heap.size ≤ gC := (by rw [hgC]; exact F.size); clear hgC; replace F := F.step nbC; clear nbC) | ((with_reducible refine at_slot (N := 2) rfl ?_); refine ev_new rfl (cs := mapCells 0 0 0 0 0 0 0 0 0 0 0) (t := 93) (by first | (go_simp; done) | (go_simp; rfl)) ?_; intro gM hgM wM M nbM; have GEM : w.heap.size ≤ gM := (by rw [hgM]; exact F.size); have neCM : gC ≠ gM := (by have := C.lt; omega); have neMC : gM ≠ gC := Ne.symm neCM; clear hgM; replace F := F.step nbM; replace C := C.below nbM; clear nbM) | ((with_reducible refine at_load (t := 102) rfl ?_); refine ev_load_row rfl 102 _ rfl C rfl Try.underlying102 rfl (by kernel_rfl) ?_) | (go_at_call 79; (with_reducible refine (may_any _ _ _ _ hv _).mono ?_); rintro e w1 ⟨rfl, nb⟩; replace F := F.step nb; replace C := C.below nb; replace M := M.below nb; clear nb) | (go_at_call 80; (with_reducible refine (plan_any _ _ _ _ s1 s2 b1 b2 n1 n2 q1 q2).mono ?_); rintro e w1 ⟨rfl, nb⟩; replace F := F.step nb; replace C := C.below nb; replace M := M.below nb; clear nb) | ((with_reducible refine at_store (t := 93) rfl ?_); refine ev_store_row rfl 93 _ _ rfl M rfl rfl (by kernel_rfl) rfl (by kernel_rfl) ?_; intro w1 M np; replace F := F.put np GEM; replace C := C.put np neCM; clear np))
  exact bodyPost_ret (res_cell_tmp rfl _ M rfl Try.underlying93 rfl (by kernel_rfl)) rfl ⟨rfl, F.out⟩

theorem map_zero (w : World) : (Instr.build 93 #[]).run Try.prog w = .ok (.agg (mapCells 0 0 0 0 0 0 0 0 0 0 0)) w := by kernel_rfl
set_option maxHeartbeats 400000 in
set_option maxRecDepth 100000 in
theorem layout_no (s b n : Int) (hv : mayB s b n = false) (w : World) : Calls Try.prog 57 #[.agg #[.int .i64 s, .int .i64 b, .int .i64 n]] w fun e w' => e = .returned (.tuple #[.agg (mapCells 0 0 0 0 0 0 0 0 0 0 0), .int .i64 1]) ∧ Below w.heap.size w w' := by
  have F : Fr w w := Fr.refl w
  have mz := map_zero
  go_enter Try.func57, Try.ntmps57
  go_wp2_with (first | ((with_reducible refine at_slot (N := 1) rfl ?_); refine ev_new rfl (cs := #[.int .i64 s, .int .i64 b, .int .i64 n]) (t := 102) (by first | (go_simp; done) | (go_simp; rfl)) ?_; intro gC hgC wC C nbC; have GEC : w.heap.size ≤ gC := (by rw [hgC]; exact F.size); clear hgC; replace F := F.step nbC; clear nbC) | ((with_reducible refine at_slot (N := 2) rfl ?_); refine ev_new rfl (cs := mapCells 0 0 0 0 0 0 0 0 0 0 0) (t := 93) (by first | (go_simp; done) | (go_simp; rfl)) ?_; intro gM hgM wM M nbM; have GEM : w.heap.size ≤ gM := (by rw [hgM]; exact F.size); have neCM : gC ≠ gM := (by have := C.lt; omega); have neMC : gM ≠ gC := Ne.symm neCM; clear hgM; replace F := F.step nbM; replace C := C.below nbM; clear nbM) | ((with_reducible refine at_load (t := 102) rfl ?_); refine ev_load_row rfl 102 _ rfl C rfl Try.underlying102 rfl (by kernel_rfl) ?_) | (go_at_call 79; (with_reducible refine (may_any _ _ _ _ hv _).mono ?_); rintro e w1 ⟨rfl, nb⟩; replace F := F.step nb; replace C := C.below nb; replace M := M.below nb; clear nb) | ((with_reducible refine at_store (t := 93) rfl ?_); refine ev_store_row rfl 93 _ _ rfl M rfl rfl (by kernel_rfl) rfl (by kernel_rfl) ?_; intro w1 M np; replace F := F.put np GEM; replace C := C.put np neCM; clear np))
  exact bodyPost_ret (res_cell_tmp rfl _ M rfl Try.underlying93 rfl (by kernel_rfl)) rfl ⟨rfl, F.out⟩
end Go.Proofs.Ytokbloddaoakgaa
