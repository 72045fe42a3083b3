/-
  Package huff: counts (contract).
-/
import Derived.Test.YtemnahimheffgaaR
import Derived.Deep.LoopGhost
import Derived.Deep.Cut
set_option linter.unusedVariables false
set_option linter.unusedSimpArgs false
namespace Go.Proofs.Ytemnahimheffgaa
open Go.RowKit
/-- two results: a struct or an array that stands in a block, and a value -/
theorem bodyPost_cell1K {w0 w : World} {L : List Ent} {P : Program} {fn : Func} {R : Ending → World → Prop} {a : Act} {s q g : Nat} {T t : TypeId} {cs : Array Value} {v : Value} (K : Known w0 w L) (hr : fn.results = #[.cell s T, .tmp q]) (ha : a.tmps.getD s undef = .pointer (some ⟨g, 0, none⟩)) (hv : a.tmps.getD q undef = v)
    (hb : Has (row g cs t) L) (hu : aggB P T = true) (hi : sizeIs P T cs.size = true) (hd : a.defers = []) (hR : R (.returned (.tuple #[.agg cs, v])) w) : bodyPost P fn R .ret a w := by
  refine bodyPost_ret ?_ hd hR
  have hl := run_loadMid (P := P) (i := 0) (X := cs) (K.blk hb) hu hi (by simp) (by omega)
  have ha' : a.tmps[s]?.getD undef = .pointer (some ⟨g, 0, none⟩) := by rw [← ha]; simp
  have hv' : a.tmps[q]?.getD undef = v := by rw [← hv]; simp
  simp [results, hr, ha', hv', asAddr, Sem.run_bind, hl]
theorem bodyPost_cellK0 {w0 w : World} {L : List Ent} {P : Program} {fn : Func} {R : Ending → World → Prop} {a : Act} {s g : Nat} {T t : TypeId} {cs : Array Value} (K : Known w0 w L) (hr : fn.results = #[.cell s T]) (ha : a.tmps.getD s undef = .pointer (some ⟨g, 0, none⟩))
    (hb : Has (row g cs t) L) (hu : aggB P T = true) (hi : sizeIs P T cs.size = true) (hd : a.defers = []) (hR : R (.returned (.agg cs)) w) : bodyPost P fn R .ret a w := by
  refine bodyPost_ret ?_ hd hR
  have hl := run_loadMid (P := P) (i := 0) (X := cs) (K.blk hb) hu hi (by simp) (by omega)
  have ha' : a.tmps[s]?.getD undef = .pointer (some ⟨g, 0, none⟩) := by rw [← ha]; simp
  simp [results, hr, ha', asAddr, Sem.run_bind, hl]
/-- sixteen numbers -/
def ar (f : Nat → Int) : Array Value := fcells 16 (fun i => .int .i64 (f i))
theorem ar_size (f : Nat → Int) : (ar f).size = 16 := fcells_size _ _
theorem ar_get (f : Nat → Int) {i : Nat} (h : i < 16) : (ar f)[i]? = some (.int .i64 (f i)) := fcells_get _ h
theorem ar_congr {f g : Nat → Int} (h : ∀ i, i < 16 → f i = g i) : ar f = ar g := fcells_congr fun i hi => by rw [h i hi]
theorem ar_set (f : Nat → Int) {i : Nat} (v : Int) (h : i < 16) : (ar f).setIfInBounds i (.int .i64 v) = ar (fun j => if j = i then v else f j) := by
  have := fcells_set (n := 16) (fun i => .int .i64 (f i)) (.int .i64 v) h
  rw [Array.set!_eq_setIfInBounds] at this
  rw [ar, this]
  refine fcells_congr fun j hj => ?_
  by_cases hji : j = i <;> simp [upd, hji]
theorem ar_one (f : Nat → Int) : (ar f).all (·.oneCell') = true := by
  simp [ar, fcells, Value.oneCell']
theorem ar_zero : ar (fun _ => 0) = Array.replicate 16 (.int .i64 0) := (fcells_repl 16 _).symm
/-- how many there are of a length -/
def cntN (l : List Int) (n : Nat) : Int := (l.countP (fun x => x == (n : Int)) : Nat)
def cntA (l : List Int) (n : Nat) : Int := if n = 0 then 0 else cntN l n
theorem cntN_snoc (l : List Int) (x : Int) (n : Nat) : cntN (l ++ [x]) n = cntN l n + if x = n then 1 else 0 := by
  unfold cntN
  rw [List.countP_append]
  by_cases h : x = n
  · simp [h]
  · have : (x == (n : Int)) = false := by simpa using h
    simp [this, h]
theorem cntN_le (l : List Int) (n : Nat) : 0 ≤ cntN l n ∧ cntN l n ≤ l.length := by
  unfold cntN
  have := List.countP_le_length (p := fun x => x == (n : Int)) (l := l)
  omega
def okL (l : List Int) : Bool := decide (l.length ≤ 300) && l.all (fun x => decide (x ≤ 15))


section
variable {w0 w : World} {L : List Ent} {A : Option Addr} {n c : Nat} {l : List Int}
set_option maxHeartbeats 800000 in
set_option maxRecDepth 100000 in
theorem counts_any (K : Known w0 w L) (R : RdS w0 L .u8 A n l) (hb : ∀ v ∈ l, 0 ≤ v ∧ v ≤ 255) (hc : n ≤ 100000) : Calls Try.prog 68 #[.slice A n c] w fun e w' => (∃ f, e = .returned (.tuple #[.agg (ar f), .bool (okL l)]) ∧ (okL l = true → ∀ i, i < 16 → f i = cntA l i)) ∧ Known w0 w' L := by
  have hl := R.len
  by_cases h300 : 300 < n
  · have d1 : decide (300 < (n : Int)) = true := decide_eq_true (by omega)
    have HK := Lib.hid (show okL l = false by unfold okL; rw [decide_eq_false (by omega)]; rfl)
    go_enter Try.func68, Try.ntmps68
    go_wp2_with (first | ((with_reducible refine at_slot (N := 2) rfl ?_); (with_reducible refine at_alloc rfl ?_); refine wpList_does rfl (kd_alloc (z := (.agg (ar fun _ => 0))) K _ rfl (by kernel_rfl)) ?_; clear K; rintro _ w1 ⟨g2, rfl, K⟩; (try dsimp only [Value.cells] at K)) | ((with_reducible refine at_slot (N := 4) rfl ?_); (with_reducible refine at_alloc rfl ?_); refine wpList_does rfl (kd_alloc (z := (.agg (ar fun _ => 0))) K _ rfl (by kernel_rfl)) ?_; clear K; rintro _ w1 ⟨g4, rfl, K⟩; (try dsimp only [Value.cells] at K)) | ((with_reducible refine at_load (t := 104) rfl ?_); refine wpList_reads (by rfl) (kr_load_row K _ _ (by rfl) (by rfl) Has.auto (by kernel_rfl) (by rw [ar_size]; kernel_rfl)) ?_) | ((with_reducible refine at_store rfl ?_); refine wpList_does (by rfl) (kd_store_row K _ _ _ (by rfl) (by rfl) (by rfl) Repl.auto (by rw [ar_size]; kernel_rfl) (by simp only [ar_size]; rfl) (ar_one _)) ?_; clear K; intro _ w1 K; (try simp only [Act.put])))
    exact bodyPost_cell1K K (by rfl) (by rfl) rfl Has.auto (by kernel_rfl) (by rw [ar_size]; kernel_rfl) rfl  ⟨⟨_, by rw [HK.out]; rfl, fun h => absurd (HK.out.symm.trans h) (by simp)⟩, K.cov Cov.auto⟩
  have d1 : decide (300 < (n : Int)) = false := decide_eq_false (by omega)
  go_enter Try.func68, Try.ntmps68
  go_upto_region 5 with ((first | ((with_reducible refine at_slot (N := 2) rfl ?_); (with_reducible refine at_alloc rfl ?_); refine wpList_does rfl (kd_alloc (z := (.agg (ar fun _ => 0))) K _ rfl (by kernel_rfl)) ?_; clear K; rintro _ w1 ⟨g2, rfl, K⟩; (try dsimp only [Value.cells] at K)) | ((with_reducible refine at_slot (N := 4) rfl ?_); (with_reducible refine at_alloc rfl ?_); refine wpList_does rfl (kd_alloc (z := (.agg (ar fun _ => 0))) K _ rfl (by kernel_rfl)) ?_; clear K; rintro _ w1 ⟨g4, rfl, K⟩; (try dsimp only [Value.cells] at K))))
  go_loopg [13] n (fun d v wr => ∃ i : Nat, v = .int .i64 i ∧ i + d = n ∧ (∀ x ∈ l.take i, x ≤ 15) ∧ Known w0 wr (row g4 (ar (cntN (l.take i))) 104 :: row g2 (ar fun _ => 0) 104 :: L))
  case atStart => exact ⟨0, by go_num, by omega, by simp, K⟩
  case round =>
    clear K
    obtain ⟨i, rfl, hi, hall, K⟩ := hrel
    by_cases hin : i < n
    · have h2 : (i : Int) < (n : Int) := by omega
      obtain ⟨b, off, rfl⟩ := R.form (K.cov Cov.auto) (by omega)
      have hm : l.getD i 0 ∈ l := by simp [List.getD, List.getElem?_eq_getElem (show i < l.length by omega)]
      obtain ⟨x, hx⟩ : ∃ x : Nat, l.getD i 0 = (x : Int) := ⟨(l.getD i 0).toNat, by have := hb _ hm; omega⟩
      have hx255 : x ≤ 255 := by have := hb _ hm; omega
      have htk : l.take (i + 1) = l.take i ++ [(x : Int)] := by
        rw [List.take_add_one, List.getElem?_eq_getElem (by omega), ← hx]
        simp [List.getD, List.getElem?_eq_getElem (show i < l.length by omega)]
      have HX := Lib.hid hx
      have HIN := Lib.hid hin
      have i1 := IntWalk.i64_in ((i : Int) + 1) (by omega)
      by_cases h15 : 15 < x
      · have d2 : decide (15 < (x : Int)) = true := decide_eq_true (by omega)
        have HK := Lib.hid (show okL l = false by
          unfold okL
          rw [Bool.and_eq_false_iff]
          refine .inr ?_
          rw [List.all_eq_false]
          exact ⟨_, hm, by rw [hx]; simp; omega⟩)
        clear hx hm htk
        go_wp2_with (first | ((with_reducible refine at_slot (N := 16) rfl ?_); refine wpList_reads (by rfl) (kr_load_fact _ _ (by rfl) (by rfl) (R.cell (K.cov Cov.auto) HIN.out HX.out (by omega)) (by kernel_rfl)) ?_) | ((with_reducible refine at_load (t := 104) rfl ?_); refine wpList_reads (by rfl) (kr_load_row K _ _ (by rfl) (by rfl) Has.auto (by kernel_rfl) (by rw [ar_size]; kernel_rfl)) ?_) | ((with_reducible refine at_store rfl ?_); refine wpList_does (by rfl) (kd_store_row K _ _ _ (by rfl) (by rfl) (by rfl) Repl.auto (by rw [ar_size]; kernel_rfl) (by simp only [ar_size]; rfl) (ar_one _)) ?_; clear K; intro _ w1 K; (try simp only [Act.put])))
        exact bodyPost_cell1K K (by rfl) (by rfl) rfl Has.auto (by kernel_rfl) (by rw [ar_size]; kernel_rfl) rfl  ⟨⟨_, by rw [HK.out]; rfl, fun h => absurd (HK.out.symm.trans h) (by simp)⟩, K.cov Cov.auto⟩
      · have d2 : decide (15 < (x : Int)) = false := decide_eq_false (by omega)
        have HX15 := Lib.hid (show x < 16 by omega)
        have hcl := cntN_le (l.take i) x
        have htl : (l.take i).length ≤ l.length := by rw [List.length_take]; omega
        have i2 := IntWalk.i64_in (cntN (l.take i) x + 1) (by omega)
        have HS := Lib.hid (show ar (fun j => if j = x then cntN (l.take i) x + 1 else cntN (l.take i) j) = ar (cntN (l.take (i + 1))) from ar_congr fun j hj => by
          rw [htk, cntN_snoc]
          by_cases hjx : j = x
          · subst hjx; simp
          · rw [if_neg hjx, if_neg (by omega)]; omega)
        have HA := Lib.hid (show ∀ y ∈ l.take (i + 1), y ≤ 15 by
          rw [htk]
          intro y hy
          rcases List.mem_append.1 hy with h | h
          · exact hall y h
          · rw [List.mem_singleton.1 h]; omega)
        clear hx hm htk hcl htl hall
        go_wp2_with (first | ((with_reducible refine at_slot (N := 16) rfl ?_); refine wpList_reads (by rfl) (kr_load_fact _ _ (by rfl) (by rfl) (R.cell (K.cov Cov.auto) HIN.out HX.out (by omega)) (by kernel_rfl)) ?_) | ((with_reducible refine at_slot (N := 22) rfl ?_); refine wpList_reads (by rfl) (kr_load_cell K _ _ (by rfl) (by rfl) Has.auto (by kernel_rfl) (ar_get _ HX15.out)) ?_) | ((with_reducible refine at_store (t := 3) rfl ?_); refine wpList_does rfl (kd_store_cell K _ _ _ rfl rfl (by conv => lhs; whnf) Repl.auto rfl rfl (by kernel_rfl) (by rw [ar_size]; exact decide_eq_true (by omega)) (ar_set _ _ HX15.out)) ?_; clear K; intro _ w1 K))
        rw [HS.out] at K
        go_roundg (gk - 1)
        case measure => omega
        case rel => exact ⟨i + 1, by go_num, by omega, HA.out, K⟩
    · have h2 : ¬ (i : Int) < (n : Int) := by omega
      have htk : l.take i = l := List.take_of_length_le (by omega)
      rw [htk] at K hall
      have HK := Lib.hid (show okL l = true by
        unfold okL
        rw [Bool.and_eq_true]
        exact ⟨decide_eq_true (by omega), List.all_eq_true.2 fun x hx => decide_eq_true (hall x hx)⟩)
      clear htk hall
      go_wp2_with (first | ((with_reducible refine at_store (t := 3) rfl ?_); refine wpList_does rfl (kd_store_cell K _ _ _ rfl rfl (by conv => lhs; whnf) Repl.auto rfl rfl (by kernel_rfl) (by rw [ar_size]; exact decide_eq_true (by omega)) (ar_set (i := 0) _ _ (by omega))) ?_; clear K; intro _ w1 K) | ((with_reducible refine at_load (t := 104) rfl ?_); refine wpList_reads (by rfl) (kr_load_row K _ _ (by rfl) (by rfl) Has.auto (by kernel_rfl) (by rw [ar_size]; kernel_rfl)) ?_) | ((with_reducible refine at_store rfl ?_); refine wpList_does (by rfl) (kd_store_row K _ _ _ (by rfl) (by rfl) (by rfl) Repl.auto (by rw [ar_size]; kernel_rfl) (by simp only [ar_size]; rfl) (ar_one _)) ?_; clear K; intro _ w1 K; (try simp only [Act.put])))
      exact bodyPost_cell1K K (by rfl) (by rfl) rfl Has.auto (by kernel_rfl) (by rw [ar_size]; kernel_rfl) rfl  ⟨⟨_, by rw [HK.out]; rfl, fun _ j hj => rfl⟩, K.cov Cov.auto⟩
end
end Go.Proofs.Ytemnahimheffgaa
