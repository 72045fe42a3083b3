/-
  slices.Sorted(slices.Values(s)) (contracts over what is known).
-/
import Derived.Test.YtffednkdmkohdaaKeyG
import Derived.OwnWalkIn
import Derived.TacticsInMore
import Derived.LoopNIn
import Derived.LoopIn
set_option linter.unusedVariables false
set_option linter.unusedSimpArgs false
namespace Go.Proofs.Ytffednkdmkohdaa
open Go.RowKit Go.Maps Go.Sort Go.Shelf
attribute [local go_sem] Oper.semAt_some
section
variable {w0 w : World} {L : List Ent} {A : Option Addr} {n c : Nat} {xs : List Int}
set_option maxRecDepth 100000 in
set_option maxHeartbeats 2000000 in
/-- the iterator: to a round that keeps what is known -/
theorem values1_in (l gb : Nat) (hb : Has (row gb #[.slice A n c] 25) L) (R : RdS w0 L .i64 A n xs) (hn : n ≤ 1000000000) (m : Nat) (J : List Int → World → Prop) (hJ : ∀ s W, J s W → Known w0 W L)
    (hY : ∀ pre x W, J pre W → pre.length < n → YieldAt Fence.wide (m - 1) Try.prog l #[.int .i64 x] W fun e W' => e = .returned (.bool true) ∧ J (pre ++ [x]) W') (hm : 1 ≤ m) (W : World) (h0 : J [] W) :
    CallsIn Fence.wide m Try.prog 137 #[.func (.yield l) #[] #[], .pointer (some ⟨gb, 0, none⟩)] W fun e W' => (∃ v, e = .returned v) ∧ J xs W' := by
  have hl := R.len
  have hbox := ((hJ _ _ h0).blk hb).cell 0
  replace hbox : W.cell? ⟨gb, 0, none⟩ = some (.slice A n c) := hbox
  refine callsIn_of_wp Try.func137 rfl trivial ?_ rfl
  simp only [Try.ntmps137, List.size_toArray, List.length_cons, List.length_nil, Nat.reduceAdd, Nat.reduceSub, Array.replicate_succ, Array.replicate_zero, List.push_toArray, List.append_toArray, List.nil_append, List.cons_append]
  gi_wp2
  gi_loopw [7] (fun i wr => ∃ k : Nat, k ≤ n ∧ i = .int .i64 k ∧ J (xs.take k) wr) (fun i _ => n - (intOf i).toNat)
  case atStart => exact ⟨0, Nat.zero_le _, rfl, h0⟩
  case round =>
    obtain ⟨k, hk, rfl, hJs⟩ := hrel
    by_cases hlt : k < n
    · obtain ⟨b, off, rfl⟩ := R.form (hJ _ _ hJs) (by omega)
      obtain ⟨u, hu⟩ : ∃ u, xs.getD k 0 = u := ⟨_, rfl⟩
      have hcx := R.cell (hJ _ _ hJs) hlt hu rfl
      have HT := Lib.hid (show xs.take (k + 1) = xs.take k ++ [u] by rw [List.take_succ_eq_append_getElem (by omega), ← hu]; simp [List.getD, show k < xs.length by omega])
      obtain ⟨fn, tmps, assign, body, hy, hR⟩ := hY _ u wr hJs (by rw [List.length_take]; omega)
      clear hu
      gi_wp2
      refine hR.mono ?_
      rintro e W3 ⟨rfl, hJ3⟩
      gi_wp2
      go_roundw
      case rel => exact ⟨k + 1, by omega, by simp, by rw [HT.out]; exact hJ3⟩
      case measure => simp [intOf]; omega
    · obtain rfl : k = n := by omega
      rw [List.take_of_length_le (by omega)] at hJs
      gi_wp2
      go_end0
      exact ⟨⟨_, rfl⟩, hJs⟩
set_option maxRecDepth 100000 in
set_option maxHeartbeats 2000000 in
/-- slices.AppendSeq(nil, such an iterator) -/
theorem appendVals_in (K : Known w0 w L) (gb : Nat) (hb : Has (row gb #[.slice A n c] 25) L) (R : RdS w0 L .i64 A n xs) (hn : n ≤ 1000000000) :
    CallsIn Fence.wide 3 Try.prog 105 #[.slice none 0 0, .func (.func 137) #[] #[.pointer (some ⟨gb, 0, none⟩)]] w fun e w' => ∃ v : Value, e = .returned v ∧ w'.ownsRow w.heap.size 3 1 v xs.length (xs.map (Value.int .i64)) ∧ Below w.heap.size w w' := by
  have hne : 25 ≠ 3 := by decide
  have hmx : (1000000000 : Nat) ≤ maxLen := by decide
  obtain ⟨it, hit⟩ : ∃ it : Value, it = .func (.func 137) #[] #[.pointer (some ⟨gb, 0, none⟩)] := ⟨_, rfl⟩
  rw [← hit]
  refine callsIn_of_wp_marks Try.func105 rfl trivial ?_ rfl
  simp only [Try.ntmps105, List.size_toArray, List.length_cons, List.length_nil, Nat.reduceAdd, Nat.reduceSub, Array.replicate_succ, Array.replicate_zero, List.push_toArray, List.append_toArray, List.nil_append, List.cons_append]
  gi_wp2
  refine wpIn_rangeFunc ?_
  intro fn hfn
  obtain ⟨W0, hW0⟩ : ∃ W0, w.alloc (.cells #[.slice none 0 0] 25) = W0 := ⟨_, rfl⟩
  have hs0 : W0.heap.size = w.heap.size + 1 := by rw [← hW0]; simp
  have hv0 : W0.heap[w.heap.size]? = some (.cells #[.slice none 0 0] 25 (0, 0)) := by rw [← hW0]; exact World.alloc_heap_new w _
  have hb0 : Below w.heap.size w W0 := by rw [← hW0]; exact (Below.refl _ w).alloc (Nat.le_refl _) _
  rw [hW0]
  obtain ⟨W1, hW1⟩ : ∃ W1, (W0.alloc (.deferred (some []))).alloc (.loop (AnyZI.apRec sortedA_ren fn it w.heap.size W0.heap.size .ready none)) = W1 := ⟨_, rfl⟩
  have hold : ∀ k, k < W0.heap.size → W1.heap[k]? = W0.heap[k]? := fun k hk => by
    rw [← hW1]; exact (Below.heap_alloc _ _ k (by simp; omega)).trans (Below.heap_alloc _ _ k hk)
  have hb1 : Below w.heap.size w W1 := by rw [← hW1]; exact (hb0.alloc hb0.size _).alloc (by have := hb0.size; simp; omega) _
  have hM : AnyZI.ApAt sortedA_ren w fn it w.heap.size (W0.heap.size + 1) W0.heap.size [] W1 :=
    ⟨⟨_, (hold w.heap.size (by omega)).trans hv0, ⟨rfl, .inl ⟨rfl, rfl⟩⟩, by simp⟩,
     by rw [← hW1]; have := World.alloc_heap_new (W0.alloc (.deferred (some []))) (.loop (AnyZI.apRec sortedA_ren fn it w.heap.size W0.heap.size .ready none)); rwa [World.size_alloc] at this,
     by rw [← hW1]; exact (Below.heap_alloc _ _ _ (by simp)).trans (World.alloc_heap_new W0 _), hb1⟩
  have CV := values1_in (W := W1) (m := 2) (W0.heap.size + 1) gb hb R hn (AnyZI.ApAt sortedA_ren w fn it w.heap.size (W0.heap.size + 1) W0.heap.size) (fun s W h => K.below h.below)
    (fun pre x W hJ hlt => (AnyZI.apYield { sortedA with } Fence.wide 1 w fn hfn it w.heap.size (W0.heap.size + 1) W0.heap.size (by omega) (by omega) (by omega) (Nat.le_refl _) (by omega) n (by omega) (by omega) pre x W hJ hlt).mono fun e W' h => ⟨h.1, h.2.1⟩) (by omega) hM
  rw [hit]
  refine ⟨W0.heap.size + 1, [{ target := .collected W0.heap.size, args := #[] }], W1, { target := .fn (.func 137) #[.pointer (some ⟨gb, 0, none⟩)], args := #[.func (.yield (W0.heap.size + 1)) #[] #[]] }, W1, 137,
    #[.func (.yield (W0.heap.size + 1)) #[] #[]] ++ #[.pointer (some ⟨gb, 0, none⟩)], W1, ?_, ?_, ?_, ?_, fun _ => by omega, ?_⟩
  · rw [← hW1, hit]; exact run_enterLoop_outer _ _ _ _ _
  · simp [resolve, go_sem]
  · intro f' hf'; simp [Target.leads] at hf'; subst hf'; exact trivial
  · simp [invoke, go_sem, enters_of Try.func137 (by kernel_rfl) rfl]
  · refine CV.mono ?_
    rintro e W2 ⟨⟨v0, rfl⟩, h2⟩
    obtain ⟨v, hv, hrow, hnil⟩ := h2.box
    have hend := run_endLoop (P := Try.prog) h2.L (by simp [AnyZI.apRec])
    obtain ⟨W3, hW3⟩ : ∃ W3, W2.putObj (W0.heap.size + 1) (.loop { AnyZI.apRec sortedA_ren fn it w.heap.size W0.heap.size .ready none with state := .exhausted }) = W3 := ⟨_, rfl⟩
    rw [hW3] at hend
    have hg3 : W2.grownBy W3 (some (W0.heap.size + 1)) := by rw [← hW3]; exact grownBy_putObj_a _ _ _
    have hv3 : W3.heap[w.heap.size]? = some (.cells #[v] 25 (0, 0)) := by rw [← hW3]; exact (World.putObj_heap_other (by omega)).trans hv
    have hK3 : W3.heap[W0.heap.size]? = some (.deferred (some [])) := by rw [← hW3]; exact (World.putObj_heap_other (by omega)).trans h2.K
    have hrow3 := hrow.kept hg3 (ownsRow_ne_a hrow h2.L (fun cur e => by first | cases e | exact hne (Obj.cells.inj e).2.1))
    have hb3 : Below w.heap.size w W3 := h2.below.grown hg3 h2.below.size (fun k e => by cases e; omega)
    obtain ⟨hc3, hf3⟩ := cell_of_box_a hv3
    clear hW3
    refine ⟨none, W3, hend, ?_⟩
    gi_wp2
    rw [← hs0]
    refine ⟨by simp, .inl ⟨_, _, rfl, run_takeDeferred hK3, ?_⟩⟩
    exact ⟨_, results_tmp rfl _ _ _, v, rfl, hrow3.kept (grownBy_putObj_a _ _ _) (ownsRow_ne_a hrow3 hK3 (fun cur e => by first | cases e | exact hne (Obj.cells.inj e).2.1)), hb3.grown (grownBy_putObj_a _ _ _) hb3.size (fun k e => by cases e; omega)⟩

set_option maxRecDepth 100000 in
theorem collectVals_any (K : Known w0 w L) (gb : Nat) (hb : Has (row gb #[.slice A n c] 25) L) (R : RdS w0 L .i64 A n xs) (hn : n ≤ 1000000000) :
    Calls Try.prog 75 #[.func (.func 137) #[] #[.pointer (some ⟨gb, 0, none⟩)]] w fun e w' => ∃ v : Value, e = .returned v ∧ w'.ownsRow w.heap.size 3 1 v xs.length (xs.map (Value.int .i64)) ∧ Below w.heap.size w w' := by
  go_enter Try.func75, Try.ntmps75
  go_wp2_with (first | (go_at_call 105; (with_reducible refine ((callsIn_wide (n := 3)).1 (appendVals_in K gb hb R hn)).mono ?_); rintro e w1 ⟨v, rfl, hrow, hB⟩))
  go_ret
  exact ⟨v, rfl, hrow, hB⟩
theorem values_any (K : Known w0 w L) (A : Option Addr) (n c : Nat) : Calls Try.prog 108 #[.slice A n c] w fun e w' => ∃ gb, e = .returned (.func (.func 137) #[] #[.pointer (some ⟨gb, 0, none⟩)]) ∧ Known w0 w' (row gb #[.slice A n c] 25 :: L) := by
  go_enter Try.func108, Try.ntmps108
  go_wp2_with (first | ((with_reducible refine at_eqnil rfl ?_); refine wpList_reads rfl (kr_eqnil rfl rfl (by kernel_rfl)) ?_) | ((with_reducible refine at_box rfl ?_); refine wpList_does rfl (kd_box K _ _ rfl (by conv => lhs; whnf)) ?_; clear K; rintro _ w1 ⟨g, rfl, K⟩; (try dsimp only [Value.cells] at K)) | ((with_reducible refine at_alloc rfl ?_); refine wpList_does rfl (kd_alloc K _ rfl rfl) ?_; clear K; rintro _ w1 ⟨g, rfl, K⟩; (try dsimp only [Value.cells] at K)) | ((with_reducible refine at_buildSlice rfl ?_); refine wpList_does rfl (kd_lits (cs := _) K _ _ _ rfl (by first | rfl | (go_simp; done) | (go_simp; rfl)) (by first | rfl | (go_simp; done) | (go_simp; rfl))) ?_; clear K; rintro _ w1 ⟨g, rfl, K⟩) | ((with_reducible refine at_load rfl ?_); first | (refine wpList_reads (by rfl) (kr_load_cell K _ _ (by rfl) (by rfl) Has.auto (by decide +kernel) (by (try simp only [List.getElem?_toArray, List.getElem?_cons_succ, List.getElem?_cons_zero]); exact rfl)) ?_) | (refine wpList_reads (by rfl) (kr_load_row K _ _ (by rfl) (by rfl) Has.auto (by decide +kernel) (by kernel_rfl)) ?_)) | ((with_reducible refine at_store rfl ?_); (first | (refine wpList_does rfl (kd_store_cell K _ _ _ rfl rfl (by conv => lhs; whnf) Repl.auto rfl rfl (by kernel_rfl) (by kernel_rfl) (by first | (simp only [List.setIfInBounds_toArray, List.set_cons_succ, List.set_cons_zero]; rfl) | rfl)) ?_) | (refine wpList_does rfl (kd_store_row K _ _ _ rfl rfl rfl Repl.auto (by kernel_rfl) (by kernel_rfl) (by kernel_rfl)) ?_)); clear K; intro _ w1 K; (try simp only [Act.put])))
  go_ret
  exact ⟨_, rfl, K⟩
set_option maxRecDepth 100000 in
theorem vsorted_any (K : Known w0 w L) (gb : Nat) (hb : Has (row gb #[.slice A n c] 25) L) (R : RdS w0 L .i64 A n xs) (hn : n ≤ 1000000000) :
    Calls Try.prog 47 #[.func (.func 137) #[] #[.pointer (some ⟨gb, 0, none⟩)]] w fun e w' => ∃ A' c', e = .returned (.slice A' n c') ∧ ∃ X, OwnL 3 1 A' n c' ((xs.mergeSort (fun x y => decide (x ≤ y))).map (Value.int .i64)) X ∧ Known w0 w' (X ++ L) := by
  have HL := Lib.hid R.len
  go_enter Try.func47, Try.ntmps47
  go_upto_region 2 with ((first | (go_at_call 75; (with_reducible refine (collectVals_any K gb hb R hn).mono ?_); rintro e w1 ⟨v, rfl, hrow, hB⟩)))
  rcases hrow.2 with ⟨rfl, hz⟩ | ⟨g, cap, cur, rfl, hbase, hgb, r1, r2, r3, r4⟩
  · have hx : xs = [] := List.eq_nil_of_length_eq_zero hz
    subst hx
    have cS : Calls Try.prog 76 #[.slice none 0 0] w1 (fun e w' => e = .returned (.tuple #[]) ∧ w' = w1) := AnyM.slices_Sort_int_none sortA none 0 w1
    go_wp2_with (first | (go_at_call 76; (with_reducible refine cS.mono ?_); rintro e w2 ⟨rfl, rfl⟩))
    go_ret
    obtain rfl : n = 0 := by simpa using HL.out.symm
    exact ⟨_, _, rfl, [], by simpa using OwnL.nil _ _, K.below hB⟩
  · have hH : Holds encZ w1 g 0 xs.toArray := holds_of_block_i hgb (by simpa [encZ] using r4)
    have hgl : g < w1.heap.size := (Array.getElem?_eq_some_iff.1 hgb).1
    have cS : Calls Try.prog 76 #[.slice (some ⟨g, 0, none⟩) xs.length cap] w1 (fun e w' => e = .returned (.tuple #[]) ∧ ∃ k os, w' = grow (putRow encZ (Sort.ahead w1 k) g 0 (xs.mergeSort fun x y => decide (x ≤ y)).toArray) os) := AnyM.slices_Sort_int sortA g 0 cap xs w1 hH hgl (by have := HL.out; omega)
    go_wp2_with (first | (go_at_call 76; (with_reducible refine cS.mono ?_); rintro e w2 ⟨rfl, nn, os, hw2⟩; replace hw2 := Lib.hid hw2))
    go_ret
    have hO : w2.ownsRow w.heap.size 3 1 (.slice (some ⟨g, 0, none⟩) xs.length cap) xs.length ((xs.mergeSort (fun x y => decide (x ≤ y))).map encZ) := by rw [hw2.out]; exact ownsRow_sorted_i (by simp) hbase hgb r1 r2 r3
    have hB2 : Below w.heap.size w w2 := by rw [hw2.out]; exact hB.grown (grownBy_sorted_i _) hB.size (fun j hj => by cases hj; exact hbase)
    clear hw2
    obtain ⟨X, O, K2⟩ := Own.toL (k := .i64) (xs := xs.mergeSort (fun x y => decide (x ≤ y))) ⟨hO⟩ K hB2
    rw [HL.out] at O
    exact ⟨_, _, by rw [HL.out]; rfl, X, O, K2⟩
end
end Go.Proofs.Ytffednkdmkohdaa
