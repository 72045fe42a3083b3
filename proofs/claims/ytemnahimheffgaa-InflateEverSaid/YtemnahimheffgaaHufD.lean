/-
  Package huff: a table in memory; New (contract).
-/
import Derived.Test.YtemnahimheffgaaHufC
set_option linter.unusedVariables false
set_option linter.unusedSimpArgs false
namespace Go.Proofs.Ytemnahimheffgaa
open Go.RowKit
theorem ar_len (f : Nat → Int) : (ar f).toList.length = 16 := by rw [Array.length_toList, ar_size]
theorem ar_getL (f : Nat → Int) {i : Nat} (h : i < 16) : (ar f).toList[i]? = some (.int .i64 (f i)) := by rw [Array.getElem?_toList]; exact ar_get f h
/-- a table's cells -/
def tbC (F M G : Nat → Int) (S : Value) : Array Value := ((ar F).toList ++ ((ar M).toList ++ ((ar G).toList ++ [S]))).toArray
section
variable (F M G : Nat → Int) (S : Value)
theorem tb_size : (tbC F M G S).size = 49 := by simp [tbC, ar_size]
theorem tb_first {i : Nat} (h : i < 16) : (tbC F M G S)[i]? = some (.int .i64 (F i)) := by
  rw [tbC, List.getElem?_toArray, List.getElem?_append_left (by rw [ar_len]; exact h), ar_getL F h]
theorem tb_many {i : Nat} (h : i < 16) : (tbC F M G S)[16 + i]? = some (.int .i64 (M i)) := by
  rw [tbC, List.getElem?_toArray, List.getElem?_append_right (by rw [ar_len]; omega), List.getElem?_append_left (by rw [ar_len, ar_len]; omega), ar_len, show 16 + i - 16 = i by omega, ar_getL M h]
theorem tb_from {i : Nat} (h : i < 16) : (tbC F M G S)[32 + i]? = some (.int .i64 (G i)) := by
  rw [tbC, List.getElem?_toArray, List.getElem?_append_right (by rw [ar_len]; omega), List.getElem?_append_right (by rw [ar_len, ar_len]; omega), List.getElem?_append_left (by rw [ar_len, ar_len, ar_len]; omega), ar_len, ar_len, show 32 + i - 16 - 16 = i by omega, ar_getL G h]
theorem tb_sym : (tbC F M G S)[48]? = some S := by
  rw [tbC, List.getElem?_toArray, List.getElem?_append_right (by rw [ar_len]; omega), List.getElem?_append_right (by rw [ar_len, ar_len]; omega), List.getElem?_append_right (by rw [ar_len, ar_len, ar_len]; omega), ar_len, ar_len, ar_len]
  rfl
theorem tb_layM (M' : Nat → Int) : ((tbC F M G S).toList.take 16 ++ (ar M').toList ++ (tbC F M G S).toList.drop (16 + (ar M').size)).toArray = tbC F M' G S := by
  simp [tbC, ar_size, List.take_append, List.drop_append, ar_len]
theorem tb_layF (F' : Nat → Int) : ((tbC F M G S).toList.take 0 ++ (ar F').toList ++ (tbC F M G S).toList.drop (0 + (ar F').size)).toArray = tbC F' M G S := by
  simp [tbC, ar_size, List.take_append, List.drop_append, ar_len]
theorem tb_exM : (tbC F M G S).extract 16 (16 + 16) = ar M := by
  apply Array.ext'
  simp [tbC, ar_size, List.take_append, List.drop_append, ar_len]
theorem tb_setS (S' : Value) : (tbC F M G S).setIfInBounds 48 S' = tbC F M G S' := by
  rw [tbC, List.setIfInBounds_toArray, List.set_append_right _ _ (by rw [ar_len]; omega), List.set_append_right _ _ (by rw [ar_len, ar_len]; omega), List.set_append_right _ _ (by rw [ar_len, ar_len, ar_len]; omega), ar_len, ar_len, ar_len]
  rfl
theorem tb_setG {i : Nat} (v : Int) (h : i < 16) : (tbC F M G S).setIfInBounds (32 + i) (.int .i64 v) = tbC F M (fun j => if j = i then v else G j) S := by
  rw [tbC, List.setIfInBounds_toArray, List.set_append_right _ _ (by rw [ar_len]; omega), List.set_append_right _ _ (by rw [ar_len, ar_len]; omega), List.set_append_left _ _ (by rw [ar_len, ar_len, ar_len]; omega), ar_len, ar_len, show 32 + i - 16 - 16 = i by omega, tbC, ← ar_set G v h]
  simp
end
theorem tb_congr {F M G F' M' G' : Nat → Int} {S : Value} (h1 : ∀ i, i < 16 → F i = F' i) (h2 : ∀ i, i < 16 → M i = M' i) (h3 : ∀ i, i < 16 → G i = G' i) : tbC F M G S = tbC F' M' G' S := by
  rw [tbC, tbC, ar_congr h1, ar_congr h2, ar_congr h3]
set_option maxRecDepth 100000 in
theorem tb_build (w : World) : (Instr.build 106 #[]).run Try.prog w = .ok (.agg (tbC (fun _ => 0) (fun _ => 0) (fun _ => 0) (.slice none 0 0))) w := by kernel_rfl
/-- the symbols of a length among the first i, and of all lengths up to n -/
def idxT (l : List Int) (k : Nat) : Nat → List Int
  | 0 => []
  | i + 1 => if l.getD i 0 = k then idxT l k i ++ [(i : Int)] else idxT l k i
def symT (l : List Int) : Nat → List Int
  | 0 => []
  | k + 1 => symT l k ++ idxT l (k + 1) l.length
def fromT (l : List Int) (j : Nat) : Int := if j = 0 then 0 else ((symT l (j - 1)).length : Nat)
/-- a table of lengths -/
structure TbIs (g : Nat) (l : List Int) (X : List Ent) : Prop where mk ::
  (out : ∃ A n c Y, X = row g (tbC (firstT (cntA l)) (cntA l) (fromT l) (.slice A n c)) 106 :: Y ∧ OwnL 3 1 A n c ((symT l 15).map (Value.int .i64)) Y)


section
variable {w0 w : World} {L : List Ent} {A : Option Addr} {n c : Nat} {l : List Int}
set_option maxRecDepth 100000 in
theorem hnew_no (K : Known w0 w L) (R : RdS w0 L .u8 A n l) (hb : ∀ v ∈ l, 0 ≤ v ∧ v ≤ 255) (hn : n ≤ 100000) (hm : mayH l = false) : Calls Try.prog 56 #[.slice A n c] w fun e w' => e = .returned (.tuple #[.pointer none, .int .i64 3]) ∧ Known w0 w' L := by
  have HM := Lib.hid hm
  go_enter Try.func56, Try.ntmps56
  go_wp2_with (first | (go_at_call 67; (with_reducible refine (hmay_any K (R.cov Cov.auto) hb (by omega) _ HM.out).mono ?_); clear K; rintro e w1 ⟨rfl, K⟩))
  go_ret2
  exact ⟨rfl, K⟩
set_option maxHeartbeats 1600000 in
set_option maxRecDepth 100000 in
theorem hnew_yes (K : Known w0 w L) (R : RdS w0 L .u8 A n l) (hb : ∀ v ∈ l, 0 ≤ v ∧ v ≤ 255) (hm : mayH l = true) : Calls Try.prog 56 #[.slice A n c] w fun e w' => ∃ gt, e = .returned (.tuple #[.pointer (some ⟨gt, 0, none⟩), .int .i64 0]) ∧ ∃ X, TbIs gt l X ∧ Known w0 w' (X ++ L) := by
  have HM := Lib.hid hm
  have hl := R.len
  have HOK := Lib.hid (show okL l = true by rw [mayH, Bool.and_eq_true] at hm; exact hm.1)
  have hn : n ≤ 300 := by
    have h := HOK.out
    rw [okL, Bool.and_eq_true] at h
    have := of_decide_eq_true h.1
    omega
  have HC := Lib.hid (show ∀ i, i < 16 → 0 ≤ cntA l i ∧ cntA l i ≤ 300 from fun i _ => by have := cntA_le l i; omega)
  clear hm
  go_enter Try.func56, Try.ntmps56
  go_upto_region 7 with ((first | (go_at_call 67; (with_reducible refine (hmay_any K (R.cov Cov.auto) hb (by omega) _ HM.out).mono ?_); clear K; rintro e w1 ⟨rfl, K⟩) | ((with_reducible refine at_build (t := 106) rfl ?_); refine ev_build0 rfl 106 rfl (tb_build _) ?_) | ((with_reducible refine at_slot (N := 12) rfl ?_); (with_reducible refine at_box rfl ?_); refine wpList_does rfl (kd_box K _ _ rfl (by conv => lhs; whnf)) ?_; clear K; rintro _ w1 ⟨gt, rfl, K⟩; (try dsimp only [Value.cells] at K)) | (go_at_call 68; (with_reducible refine (counts_any K (R.cov Cov.auto) hb (by omega)).mono ?_); clear K; rintro e w1 ⟨⟨f, rfl, hf⟩, K⟩; rw [HOK.out, ar_congr (hf HOK.out)]; clear hf) | ((with_reducible refine at_store (t := 104) rfl ?_); refine wpList_does (by rfl) (kd_store_mid K _ _ _ (by rfl) (by rfl) (by rfl) Repl.auto (by rw [ar_size]; kernel_rfl) (by rw [ar_size, tb_size]; omega) (ar_one _) (tb_layM _ _ _ _ _)) ?_; clear K; intro _ w1 K) | ((with_reducible refine at_store (t := 104) rfl ?_); refine wpList_does (by rfl) (kd_store_mid K _ _ _ (by rfl) (by rfl) (by rfl) Repl.auto (by rw [ar_size]; kernel_rfl) (by rw [ar_size, tb_size]; omega) (ar_one _) (tb_layF _ _ _ _ _)) ?_; clear K; intro _ w1 K) | ((with_reducible refine at_load (t := 104) rfl ?_); refine wpList_reads (by rfl) (kr_load_mid (n := 16) (i := 16) K _ _ (by rfl) (by rfl) Has.auto (by kernel_rfl) (by kernel_rfl) (tb_exM _ _ _ _) (by rw [tb_size]; rfl)) ?_) | (go_at_call 69; (with_reducible refine (firsts_any K HC.out).mono ?_); clear K; rintro e w1 ⟨rfl, K⟩)))
  have HZ := Lib.hid (show tbC (firstT (cntA l)) (cntA l) (fun _ => 0) (.slice none 0 0) = tbC (firstT (cntA l)) (cntA l) (fun j => if j ≤ 0 then fromT l j else 0) (.slice none 0 0) from tb_congr (fun _ _ => rfl) (fun _ _ => rfl) fun j _ => by
    by_cases h : j ≤ 0
    · rw [if_pos h, fromT, if_pos (by omega)]
    · rw [if_neg h])
  go_loopg [5] 15 (fun d v wr => ∃ (k : Nat) (A1 : Option Addr) (m1 c1 : Nat) (Y : List Ent), v = .int .i64 ((k : Int) + 1) ∧ k + d = 15 ∧ m1 ≤ 300 * k ∧ OwnL 3 1 A1 m1 c1 ((symT l k).map (Value.int .i64)) Y ∧ Known w0 wr (row gt (tbC (firstT (cntA l)) (cntA l) (fun j => if j ≤ k then fromT l j else 0) (.slice A1 m1 c1)) 106 :: (Y ++ L)))
  case atStart => exact ⟨0, none, 0, 0, [], by go_num, by omega, by omega, OwnL.nil _ _, by rw [← HZ.out]; exact K⟩
  case round =>
    clear K
    obtain ⟨k, A1, m1, c1, Y, rfl, hk, hm1, O, K⟩ := hrel
    by_cases hk15 : k < 15
    · have h2 : (k : Int) + 1 ≤ 15 := by omega
      have HK1 := Lib.hid (show k + 1 < 16 by omega)
      have hml : (symT l k).length = m1 := by have := O.len; simpa using this
      have HS := Lib.hid (show tbC (firstT (cntA l)) (cntA l) (fun j => if j = k + 1 then (m1 : Int) else if j ≤ k then fromT l j else 0) (.slice A1 m1 c1) = tbC (firstT (cntA l)) (cntA l) (fun j => if j ≤ k + 1 then fromT l j else 0) (.slice A1 m1 c1) from tb_congr (fun _ _ => rfl) (fun _ _ => rfl) fun j _ => by
        by_cases h1 : j = k + 1
        · subst h1
          rw [if_pos rfl, if_pos (Nat.le_refl _), fromT, if_neg (by omega), show k + 1 - 1 = k by omega, hml]
        · rw [if_neg h1]
          by_cases h3 : j ≤ k
          · rw [if_pos h3, if_pos (by omega)]
          · rw [if_neg h3, if_neg (by omega)])
      have j1 : (0 : Int) ≤ (k : Int) + 1 := by omega
      have j2 : ((k : Int) + 1).toNat = k + 1 := by omega
      have j3 : (k : Int) + 1 < 16 := by omega
      have j4 := IntWalk.i64_in ((k : Int) + 1 + 1) (by omega)
      clear hml
      go_upto_region 9 with (fail)
      refine wp_region_GK (X := [row gt (tbC (firstT (cntA l)) (cntA l) (fun j => if j ≤ k then fromT l j else 0) (.slice A1 m1 c1)) 106]) K Cov.auto (by kernel_rfl) (by kernel_rfl) (by kernel_rfl) (fun K hHeld => ?_)
      refine wpG_takeA 0 (v := ?_) ?_ hHeld ?_
      rotate_left
      · (intro w hS; (clear hS; go_simp); try with_reducible rfl)
      try simp only [Act.put, List.setIfInBounds_toArray, List.set_cons_zero, List.set_cons_succ]
      refine wpG_takeA 1 (v := ?_) ?_ hHeld ?_
      rotate_left
      · (intro w hS; (clear hS; go_simp); try with_reducible rfl)
      try simp only [Act.put, List.setIfInBounds_toArray, List.set_cons_zero, List.set_cons_succ]
      refine wpG_takeA 2 (v := ?_) ?_ hHeld ?_
      rotate_left
      · (intro w hS; (clear hS; go_simp); try with_reducible rfl)
      try simp only [Act.put, List.setIfInBounds_toArray, List.set_cons_zero, List.set_cons_succ]
      refine wpG_takeA 3 (v := ?_) ?_ hHeld ?_
      rotate_left
      · (intro w hS; (clear hS; go_simp); try with_reducible rfl)
      try simp only [Act.put, List.setIfInBounds_toArray, List.set_cons_zero, List.set_cons_succ]
      refine wpG_takeA 4 (v := ?_) ?_ hHeld ?_
      rotate_left
      · (intro w hS; (clear hS; go_simp); try with_reducible rfl)
      try simp only [Act.put, List.setIfInBounds_toArray, List.set_cons_zero, List.set_cons_succ]
      refine wpG_takeA 5 (v := .slice A1 m1 c1) ?_ hHeld ?_
      · (intro w hS; first | exact kr_load_cell hS _ _ (by rfl) (by rfl) Has.auto (by kernel_rfl) (tb_sym _ _ _ _))
      try simp only [Act.put, List.setIfInBounds_toArray, List.set_cons_zero, List.set_cons_succ]
      refine wpG_takeA 6 (v := ?_) ?_ hHeld ?_
      rotate_left
      · (intro w hS; (clear hS; go_simp); try with_reducible rfl)
      try simp only [Act.put, List.setIfInBounds_toArray, List.set_cons_zero, List.set_cons_succ]
      refine wpG_takeA 7 (v := ?_) ?_ hHeld ?_
      rotate_left
      · (intro w hS; (clear hS; go_simp); try with_reducible rfl)
      try simp only [Act.put, List.setIfInBounds_toArray, List.set_cons_zero, List.set_cons_succ]
      refine wpG_takeA 8 (v := ?_) ?_ hHeld ?_
      rotate_left
      · (intro w hS; (clear hS; go_simp); try with_reducible rfl)
      try simp only [Act.put, List.setIfInBounds_toArray, List.set_cons_zero, List.set_cons_succ]
      refine wpG_takeA 9 (v := ?_) ?_ hHeld ?_
      rotate_left
      · (intro w hS; (clear hS; go_simp); try with_reducible rfl)
      try simp only [Act.put, List.setIfInBounds_toArray, List.set_cons_zero, List.set_cons_succ]
      refine wpG_lastA 10 (fun K9 hK => ?_)
      refine st_does (by rfl) (kd_store_cell K _ _ _ (by rfl) (by rfl) (by conv => lhs; whnf) Repl.auto (by rfl) (by rfl) (by kernel_rfl) (by rw [tb_size]; exact decide_eq_true (by omega)) (tb_setG (i := k + 1) _ _ _ _ _ HK1.out)) ?_
      clear K; intro _ w1 K
      refine hK.out _ _ ?_
      clear hK K9
      try simp only [Act.put, List.setIfInBounds_toArray, List.set_cons_zero, List.set_cons_succ]
      skip
      rw [HS.out] at K
      obtain ⟨og, hog⟩ : ∃ og, og = gk := ⟨_, rfl⟩
      go_upto_region 11 with (fail)
      go_loopg [45] n (fun d v wr => ∃ (i : Nat) (A1 : Option Addr) (m1 c1 : Nat) (Y : List Ent), v = .int .i64 i ∧ i + d = n ∧ m1 ≤ 300 * k + i ∧ OwnL 3 1 A1 m1 c1 ((symT l k ++ idxT l (k + 1) i).map (Value.int .i64)) Y ∧ Known w0 wr (row gt (tbC (firstT (cntA l)) (cntA l) (fun j => if j ≤ k + 1 then fromT l j else 0) (.slice A1 m1 c1)) 106 :: (Y ++ L)))
      case atStart => exact ⟨0, A1, m1, c1, Y, by go_num, by omega, by omega, by simpa [idxT] using O, K⟩
      case round =>
        clear K O HS hm1
        obtain ⟨i, A1, m1, c1, Y, rfl, hi, hm1, O, K⟩ := hrel
        by_cases hin : i < n
        · have h3 : (i : Int) < (n : Int) := by omega
          obtain ⟨b, off, rfl⟩ := R.form (K.cov Cov.auto) (by omega)
          have hm : l.getD i 0 ∈ l := by simp [List.getD, List.getElem?_eq_getElem (show i < l.length by omega)]
          obtain ⟨x, hx⟩ : ∃ x : Nat, l.getD i 0 = (x : Int) := ⟨(l.getD i 0).toNat, by have := hb _ hm; omega⟩
          have hx255 : x ≤ 255 := by have := hb _ hm; omega
          have HX := Lib.hid hx
          have HIN := Lib.hid hin
          have i1 := IntWalk.i64_in ((i : Int) + 1) (by omega)
          have i2 := IntWalk.i64_in (x : Int) (by omega)
          by_cases hxk : x = k + 1
          · have e1 : ((x : Int) == (k : Int) + 1) = true := by rw [hxk]; simp
            have HT := Lib.hid (show idxT l (k + 1) (i + 1) = idxT l (k + 1) i ++ [(i : Int)] by rw [idxT, if_pos (by rw [hx, hxk])])
            have HXK := Lib.hid hxk
            clear hx hm hxk
            go_wp2_with (first | ((with_reducible refine at_slot (N := 49) rfl ?_); refine wpList_reads (by rfl) (kr_load_fact _ _ (by rfl) (by rfl) (R.cell (K.cov Cov.auto) HIN.out HX.out (by omega)) (by kernel_rfl)) ?_) | ((with_reducible refine at_slot (N := 58) rfl ?_); refine wpList_reads (by rfl) (kr_load_cell K _ _ (by rfl) (by rfl) Has.auto (by kernel_rfl) (tb_sym _ _ _ _)) ?_) | ((with_reducible refine at_buildSlice (n := 1) rfl ?_); refine wpList_does rfl (kd_lits (cs := _) K _ _ _ rfl (by first | rfl | (go_simp; done) | (go_simp; rfl)) (by first | rfl | (go_simp; done) | (go_simp; rfl))) ?_; clear K; rintro _ w1 ⟨gi, rfl, K⟩) | (at_builtin; refine wpList_does rfl (kd_appendN (k := .i64) K _ _ rfl rfl rfl O Seg.auto (Rd.ofBlk (n := 1) (xs := [(i : Int)]) (K.blk Has.auto) rfl rfl) (by kernel_rfl) (by kernel_rfl) (by omega)) ?_; clear K; rintro _ w1 ⟨A2, c2, Y2, rfl, O2, K⟩) | ((with_reducible refine at_store rfl ?_); refine wpList_does (by rfl) (kd_store_cell K _ _ _ (by rfl) (by rfl) (by conv => lhs; whnf) Repl.auto (by rfl) (by rfl) (by kernel_rfl) (by rw [tb_size]; rfl) (tb_setS _ _ _ _ _)) ?_; clear K; intro _ w1 K))
            replace O2 : OwnL 3 1 A2 (m1 + 1) c2 ((symT l k ++ idxT l (k + 1) (i + 1)).map (Value.int .i64)) Y2 := by rw [HT.out]; simpa using O2
            go_roundg (gk - 1)
            case measure => omega
            case rel => exact ⟨i + 1, A2, m1 + 1, c2, Y2, by go_num, by omega, by omega, O2, K.cov Cov.auto⟩
          · have e1 : ((x : Int) == (k : Int) + 1) = false := by
              have : ¬ (x : Int) = (k : Int) + 1 := by omega
              simpa using this
            have HT := Lib.hid (show idxT l (k + 1) (i + 1) = idxT l (k + 1) i by rw [idxT, if_neg (by rw [hx]; omega)])
            clear hx hm hxk
            go_wp2_with (first | ((with_reducible refine at_slot (N := 49) rfl ?_); refine wpList_reads (by rfl) (kr_load_fact _ _ (by rfl) (by rfl) (R.cell (K.cov Cov.auto) HIN.out HX.out (by omega)) (by kernel_rfl)) ?_))
            rw [← HT.out] at O
            go_roundg (gk - 1)
            case measure => omega
            case rel => exact ⟨i + 1, A1, m1, c1, Y, by go_num, by omega, by omega, O, K⟩
        · have h3 : ¬ (i : Int) < (n : Int) := by omega
          obtain rfl : i = n := by omega
          have HT := Lib.hid (show symT l (k + 1) = symT l k ++ idxT l (k + 1) i by rw [symT, hl])
          rw [← HT.out] at O
          go_wp2
          go_roundg (og - 1)
          case measure => omega
          case rel => exact ⟨k + 1, A1, m1, c1, Y, by go_num, by omega, by omega, O, K⟩
    · have h2 : ¬ (k : Int) + 1 ≤ 15 := by omega
      obtain rfl : k = 15 := by omega
      have HE := Lib.hid (show tbC (firstT (cntA l)) (cntA l) (fun j => if j ≤ 15 then fromT l j else 0) (.slice A1 m1 c1) = tbC (firstT (cntA l)) (cntA l) (fromT l) (.slice A1 m1 c1) from tb_congr (fun _ _ => rfl) (fun _ _ => rfl) fun j hj => by rw [if_pos (by omega)])
      rw [HE.out] at K
      go_wp2
      go_ret2
      exact ⟨gt, rfl, _, ⟨A1, m1, c1, Y, rfl, O⟩, K⟩
end
end Go.Proofs.Ytemnahimheffgaa
