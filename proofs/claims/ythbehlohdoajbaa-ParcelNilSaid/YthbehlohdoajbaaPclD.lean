/-
  drogherlaw23: ParcelNil (walk).
-/
import Derived.Test.YthbehlohdoajbaaPclC
import Derived.Test.YthbehlohdoajbaaPclA
set_option linter.unusedVariables false
set_option linter.unusedSimpArgs false
namespace Go.Proofs.Ythbehlohdoajbaa
open Go.RowKit
theorem bodyPost_cellK1 {w0 w : World} {L : List Ent} {P : Program} {fn : Func} {R : Ending → World → Prop} {a : Act} {s g : Nat} {T t : TypeId} {cs : Array Value} (K : Known w0 w L) (hr : fn.results = #[.cell s T]) (ha : a.tmps.getD s undef = .pointer (some ⟨g, 0, none⟩))
    (hb : Has (row g cs t) L) (hu : aggB P T = true) (hi : sizeIs P T cs.size = true) (hd : a.defers = []) (hR : R (.returned (.agg cs)) w) : bodyPost P fn R .ret a w := by
  refine bodyPost_ret ?_ hd hR
  have hl := run_loadMid (P := P) (i := 0) (X := cs) (K.blk hb) hu hi (by simp) (by omega)
  have ha' : a.tmps[s]?.getD undef = .pointer (some ⟨g, 0, none⟩) := by rw [← ha]; simp
  simp [results, hr, ha', asAddr, Sem.run_bind, hl]
theorem bodyPost_cell12K {w0 w : World} {L : List Ent} {P : Program} {fn : Func} {R : Ending → World → Prop} {a : Act} {s q q2 g : Nat} {T t : TypeId} {cs : Array Value} {v v2 : Value} (K : Known w0 w L) (hr : fn.results = #[.cell s T, .tmp q, .tmp q2]) (ha : a.tmps.getD s undef = .pointer (some ⟨g, 0, none⟩)) (hv : a.tmps.getD q undef = v) (hv2 : a.tmps.getD q2 undef = v2)
    (hb : Has (row g cs t) L) (hu : aggB P T = true) (hi : sizeIs P T cs.size = true) (hd : a.defers = []) (hR : R (.returned (.tuple #[.agg cs, v, v2])) w) : bodyPost P fn R .ret a w := by
  refine bodyPost_ret ?_ hd hR
  have hl := run_loadMid (P := P) (i := 0) (X := cs) (K.blk hb) hu hi (by simp) (by omega)
  have ha' : a.tmps[s]?.getD undef = .pointer (some ⟨g, 0, none⟩) := by rw [← ha]; simp
  have hv' : a.tmps[q]?.getD undef = v := by rw [← hv]; simp
  have hv2' : a.tmps[q2]?.getD undef = v2 := by rw [← hv2]; simp
  simp [results, hr, ha', hv', hv2', asAddr, Sem.run_bind, hl]
def mfZ : Array Value := ([Value.int .u8 0, Value.int .u64 0, Value.int .i64 0, Value.int .i64 0, Value.int .i64 0] ++ ((List.replicate 96 0).map (Value.int .u8) ++ [Value.slice none 0 0])).toArray
def chZ : Array Value := #[.int .i64 0, .slice none 0 0, .slice none 0 0]

section
variable {w0 w : World} {L : List Ent} {A : Option Addr} {n c : Nat} {k : Int}
theorem pready_nil (w : World) : Calls Try.prog 11 #[.pointer none] w fun e w' => e = .returned (.bool false) ∧ w = w' := by
  go_enter Try.func11, Try.ntmps11
  go_wp2
  go_ret
  exact ⟨rfl, rfl⟩
theorem pdone_nil (w : World) : Calls Try.prog 12 #[.pointer none] w fun e w' => e = .returned (.bool false) ∧ w = w' := by
  go_enter Try.func12, Try.ntmps12
  go_wp2
  go_ret
  exact ⟨rfl, rfl⟩
theorem pheld_nil (w : World) : Calls Try.prog 13 #[.pointer none] w fun e w' => e = .returned (.int .i64 0) ∧ w = w' := by
  go_enter Try.func13, Try.ntmps13
  go_wp2
  go_ret
  exact ⟨rfl, rfl⟩
set_option maxRecDepth 100000 in
theorem pskip_nil (w : World) : Calls Try.prog 14 #[.pointer none, .int .i64 k] w fun e w' => e = .returned (.int .i64 1) ∧ w = w' := by
  go_enter Try.func14, Try.ntmps14
  go_wp2
  go_ret
  exact ⟨rfl, rfl⟩
set_option maxRecDepth 100000 in
theorem pfeed_nil (w : World) : Calls Try.prog 7 #[.pointer none, .slice A n c] w fun e w' => e = .returned (.tuple #[.int .i64 0, .int .i64 1]) ∧ w = w' := by
  go_enter Try.func7, Try.ntmps7
  go_wp2
  go_ret2
  exact ⟨rfl, rfl⟩
set_option maxRecDepth 100000 in
theorem pnext_nil (w : World) : Calls Try.prog 8 #[.pointer none] w fun e w' => e = .returned (.tuple #[]) ∧ w = w' := by
  go_enter Try.func8, Try.ntmps8
  go_wp2_with (first | (go_at_call 11; (with_reducible refine (pready_nil _).mono ?_); rintro e w' ⟨rfl, rfl⟩))
  exact bodyPost_ret (results_none rfl _ _ _) rfl ⟨rfl, rfl⟩
set_option maxRecDepth 100000 in
theorem pheader_nil (K : Known w0 w L) : Calls Try.prog 9 #[.pointer none] w fun e w' => e = .returned (.tuple #[.agg mfZ, .slice none 0 0, .slice none 0 0]) ∧ Known w0 w' L := by
  go_enter Try.func9, Try.ntmps9
  go_wp2_with (first | ((with_reducible refine at_slot (N := 2) rfl ?_); (with_reducible refine at_alloc rfl ?_); refine wpList_does rfl (kd_alloc (z := (.agg mfZ)) K _ rfl (by kernel_rfl)) ?_; clear K; rintro _ w1 ⟨gm, rfl, K⟩; (try dsimp only [Value.cells] at K)) | ((with_reducible refine at_build (t := 33) rfl ?_); refine ev_build0 rfl 33 rfl (show (Instr.build 33 #[]).run Try.prog _ = .ok (.agg mfZ) _ by kernel_rfl) ?_) | ((with_reducible refine at_store rfl ?_); refine wpList_does (by rfl) (kd_store_row K _ _ _ (by rfl) (by rfl) (by rfl) Repl.auto (by kernel_rfl) (by kernel_rfl) (by kernel_rfl)) ?_; clear K; intro _ w1 K; (try simp only [Act.put])))
  exact bodyPost_cell12K K (by rfl) (by rfl) rfl rfl Has.auto (by kernel_rfl) (by kernel_rfl) rfl ⟨rfl, K.cov Cov.auto⟩
set_option maxRecDepth 100000 in
theorem pchunk_nil (K : Known w0 w L) : Calls Try.prog 10 #[.pointer none] w fun e w' => e = .returned (.agg chZ) ∧ Known w0 w' L := by
  go_enter Try.func10, Try.ntmps10
  go_wp2_with (first | ((with_reducible refine at_slot (N := 2) rfl ?_); (with_reducible refine at_alloc rfl ?_); refine wpList_does rfl (kd_alloc (z := (.agg chZ)) K _ rfl (by kernel_rfl)) ?_; clear K; rintro _ w1 ⟨gm, rfl, K⟩; (try dsimp only [Value.cells] at K)) | ((with_reducible refine at_build (t := 38) rfl ?_); refine ev_build0 rfl 38 rfl (show (Instr.build 38 #[]).run Try.prog _ = .ok (.agg chZ) _ by kernel_rfl) ?_) | ((with_reducible refine at_store rfl ?_); refine wpList_does (by rfl) (kd_store_row K _ _ _ (by rfl) (by rfl) (by rfl) Repl.auto (by kernel_rfl) (by kernel_rfl) (by kernel_rfl)) ?_; clear K; intro _ w1 K; (try simp only [Act.put])) | (go_at_call 11; (with_reducible refine (pready_nil _).mono ?_); rintro e w' ⟨rfl, rfl⟩))
  exact bodyPost_cellK1 K (by rfl) (by rfl) Has.auto (by kernel_rfl) (by kernel_rfl) rfl ⟨rfl, K.cov Cov.auto⟩

set_option maxRecDepth 100000 in
theorem same_nil (K : Known w0 w L) : Calls Try.prog 15 #[.agg chZ, .agg chZ] w fun e w' => e = .returned (.bool true) ∧ Known w0 w' L := by
  go_enter Try.func15, Try.ntmps15
  go_upto_region 4 with ((first | ((with_reducible refine at_slot (N := 2) rfl ?_); (with_reducible refine at_box rfl ?_); refine wpList_does rfl (kd_box K _ _ rfl (by conv => lhs; whnf)) ?_; clear K; rintro _ w1 ⟨ga, rfl, K⟩; (try dsimp only [Value.cells] at K)) | ((with_reducible refine at_slot (N := 3) rfl ?_); (with_reducible refine at_box rfl ?_); refine wpList_does rfl (kd_box K _ _ rfl (by conv => lhs; whnf)) ?_; clear K; rintro _ w1 ⟨gb, rfl, K⟩; (try dsimp only [Value.cells] at K)) | ((with_reducible refine at_load rfl ?_); first | (refine wpList_reads (by rfl) (kr_load_cell K _ _ (by rfl) (by rfl) Has.auto (by decide +kernel) (show chZ[0]? = some (.int .i64 0) from rfl)) ?_) | (refine wpList_reads (by rfl) (kr_load_cell K _ _ (by rfl) (by rfl) Has.auto (by decide +kernel) (show chZ[1]? = some (.slice none 0 0) from rfl)) ?_) | (refine wpList_reads (by rfl) (kr_load_cell K _ _ (by rfl) (by rfl) Has.auto (by decide +kernel) (show chZ[2]? = some (.slice none 0 0) from rfl)) ?_)) | ((with_reducible refine at_convert (t := 22) (u := 9) rfl ?_); refine wpList_reads rfl (kr_string rfl rfl (Rd.nil _ _ _) Try.underlying22 Try.underlying5 Try.underlying9) ?_)))
  go_loopg [32] 0 (fun d v wr => v = .int .i64 0 ∧ Known w0 wr L)
  case atStart => exact ⟨by go_num, K.cov Cov.auto⟩
  case round =>
    clear K
    obtain ⟨rfl, K⟩ := hrel
    go_wp2
    go_ret
    exact ⟨rfl, K⟩
set_option maxHeartbeats 800000 in
set_option maxRecDepth 100000 in
theorem parcelNil_any (K : Known w0 w L) : Calls Try.prog 3 #[.slice A n c, .int .i64 k] w fun e w' => e = .returned (.bool true) ∧ Known w0 w' L := by
  by_cases h : n ≤ 500
  rotate_left
  · have h' : 500 < (n : Int) := by omega
    go_enter Try.func3, Try.ntmps3
    go_wp2_with (first | (go_at_call 6; (with_reducible refine (awake23K K).mono ?_); clear K; rintro e w1 ⟨rfl, K⟩))
    go_ret
    exact ⟨rfl, K.cov Cov.auto⟩
  have h' : ¬ 500 < (n : Int) := by omega
  go_enter Try.func3, Try.ntmps3
  go_wp2_with (first | (go_at_call 7; (with_reducible refine (pfeed_nil _).mono ?_); rintro e w' ⟨rfl, rfl⟩) | (go_at_call 8; (with_reducible refine (pnext_nil _).mono ?_); rintro e w' ⟨rfl, rfl⟩) | (go_at_call 9; (with_reducible refine (pheader_nil K).mono ?_); clear K; rintro e w1 ⟨rfl, K⟩) | (go_at_call 10; (with_reducible refine (pchunk_nil K).mono ?_); clear K; rintro e w1 ⟨rfl, K⟩) | (go_at_call 11; (with_reducible refine (pready_nil _).mono ?_); rintro e w' ⟨rfl, rfl⟩) | (go_at_call 12; (with_reducible refine (pdone_nil _).mono ?_); rintro e w' ⟨rfl, rfl⟩) | (go_at_call 13; (with_reducible refine (pheld_nil _).mono ?_); rintro e w' ⟨rfl, rfl⟩) | (go_at_call 14; (with_reducible refine (pskip_nil _).mono ?_); rintro e w' ⟨rfl, rfl⟩) | ((with_reducible refine at_slot (N := 8) rfl ?_); (with_reducible refine at_alloc rfl ?_); refine wpList_does rfl (kd_alloc (z := (.agg mfZ)) K _ rfl (by kernel_rfl)) ?_; clear K; rintro _ w1 ⟨gm, rfl, K⟩; (try dsimp only [Value.cells] at K)) | ((with_reducible refine at_slot (N := 11) rfl ?_); (with_reducible refine at_alloc rfl ?_); refine wpList_does rfl (kd_alloc (z := (.agg chZ)) K _ rfl (by kernel_rfl)) ?_; clear K; rintro _ w1 ⟨gc, rfl, K⟩; (try dsimp only [Value.cells] at K)) | ((with_reducible refine at_store rfl ?_); refine wpList_does (by rfl) (kd_store_row K _ _ _ (by rfl) (by rfl) (by rfl) Repl.auto (by kernel_rfl) (by kernel_rfl) (by kernel_rfl)) ?_; clear K; intro _ w1 K; (try simp only [Act.put])) | ((with_reducible refine at_load (t := 38) rfl ?_); refine wpList_reads (by rfl) (kr_load_row K _ _ (by rfl) (by rfl) Has.auto (by kernel_rfl) (by kernel_rfl)) ?_) | ((with_reducible refine at_build (t := 38) rfl ?_); refine ev_build0 rfl 38 rfl (show (Instr.build 38 #[]).run Try.prog _ = .ok (.agg chZ) _ by kernel_rfl) ?_) | (go_at_call 15; (with_reducible refine (same_nil K).mono ?_); clear K; rintro e w1 ⟨rfl, K⟩) | (go_at_call 6; (with_reducible refine (awake23K K).mono ?_); clear K; rintro e w1 ⟨rfl, K⟩))
  go_ret
  exact ⟨rfl, K.cov Cov.auto⟩
end
end Go.Proofs.Ythbehlohdoajbaa
