/-
  journal: records in memory; whether one may be (contracts).
-/
import Derived.Test.YtfdddipmeadecaaOctG
import Derived.Deep.Cut
import Derived.Test.YtfdddipmeadecaaShaG
import Derived.Test.YtfdddipmeadecaaOpenR
set_option linter.unusedVariables false
set_option linter.unusedSimpArgs false
namespace Go.Proofs.Ytfdddipmeadecaa
open Go.RowKit

structure Rec where
  (seq act ver len st md : Int) (man : List Int) (nver nlen done pos blk asz : Int)
/-- a record's cells -/
def recC (r : Rec) : Array Value := ([Value.int .u64 r.seq, Value.int .u8 r.act, Value.int .u64 r.ver, Value.int .i64 r.len, Value.int .u8 r.st, Value.int .u8 r.md] ++ (r.man.map (Value.int .u8) ++ [Value.int .u64 r.nver, Value.int .i64 r.nlen, Value.int .i64 r.done, Value.int .u64 r.pos, Value.int .i64 r.blk, Value.int .i64 r.asz])).toArray
theorem recC_size (r : Rec) (h : r.man.length = 32) : (recC r).size = 44 := by simp [recC, h]
theorem recC_0 (r : Rec) : (recC r)[0]? = some (.int .u64 r.seq) := by simp [recC]
theorem recC_1 (r : Rec) : (recC r)[1]? = some (.int .u8 r.act) := by simp [recC]
theorem recC_2 (r : Rec) : (recC r)[2]? = some (.int .u64 r.ver) := by simp [recC]
theorem recC_3 (r : Rec) : (recC r)[3]? = some (.int .i64 r.len) := by simp [recC]
theorem recC_4 (r : Rec) : (recC r)[4]? = some (.int .u8 r.st) := by simp [recC]
theorem recC_5 (r : Rec) : (recC r)[5]? = some (.int .u8 r.md) := by simp [recC]

theorem recC_38 (r : Rec) (h : r.man.length = 32) : (recC r)[38]? = some (.int .u64 r.nver) := by
  rw [recC, List.getElem?_toArray, show (38 : Nat) = 32 + 1 + 1 + 1 + 1 + 1 + 1 from rfl]
  simp [List.getElem?_append_right, h]
theorem recC_39 (r : Rec) (h : r.man.length = 32) : (recC r)[39]? = some (.int .i64 r.nlen) := by
  rw [recC, List.getElem?_toArray, show (39 : Nat) = 33 + 1 + 1 + 1 + 1 + 1 + 1 from rfl]
  simp [List.getElem?_append_right, h]
theorem recC_40 (r : Rec) (h : r.man.length = 32) : (recC r)[40]? = some (.int .i64 r.done) := by
  rw [recC, List.getElem?_toArray, show (40 : Nat) = 34 + 1 + 1 + 1 + 1 + 1 + 1 from rfl]
  simp [List.getElem?_append_right, h]
theorem recC_41 (r : Rec) (h : r.man.length = 32) : (recC r)[41]? = some (.int .u64 r.pos) := by
  rw [recC, List.getElem?_toArray, show (41 : Nat) = 35 + 1 + 1 + 1 + 1 + 1 + 1 from rfl]
  simp [List.getElem?_append_right, h]
theorem recC_42 (r : Rec) (h : r.man.length = 32) : (recC r)[42]? = some (.int .i64 r.blk) := by
  rw [recC, List.getElem?_toArray, show (42 : Nat) = 36 + 1 + 1 + 1 + 1 + 1 + 1 from rfl]
  simp [List.getElem?_append_right, h]
theorem recC_43 (r : Rec) (h : r.man.length = 32) : (recC r)[43]? = some (.int .i64 r.asz) := by
  rw [recC, List.getElem?_toArray, show (43 : Nat) = 37 + 1 + 1 + 1 + 1 + 1 + 1 from rfl]
  simp [List.getElem?_append_right, h]

theorem recC_man (r : Rec) (h : r.man.length = 32) : ((recC r).toList.drop 6).take 32 = r.man.map (Value.int .u8) := by
  simp [recC, h]
theorem recC_one (r : Rec) : (recC r).all (·.oneCell') = true := by
  simp only [recC, List.all_toArray, List.all_append, List.all_map, List.all_cons, List.all_nil, Bool.and_eq_true, List.all_eq_true]
  refine ⟨⟨rfl, rfl, rfl, rfl, rfl, rfl, trivial⟩, fun x _ => rfl, rfl, rfl, rfl, rfl, rfl, rfl, trivial⟩
def inR (n : Int) : Bool := decide (0 ≤ n) && decide (n ≤ 2147483647)
def mayR (r : Rec) : Bool := decide (r.act ≤ 1) && (decide (r.st ≤ 3) && (decide (r.md ≤ 3) && [r.len, r.nlen, r.done, r.blk, r.asz].all inR))
theorem mayR_lt (r : Rec) : mayR r = (decide (r.act < 2) && (decide (r.st < 4) && (decide (r.md < 4) && (inR r.len && (inR r.nlen && (inR r.done && (inR r.blk && inR r.asz))))))) := by
  have e : ∀ x y : Int, decide (x ≤ y) = decide (x < y + 1) := fun x y => by simp [Int.lt_add_one_iff]
  simp [mayR, e]
theorem ret_bool {a b : Bool} (h : a = b) : Ending.returned (.bool a) = Ending.returned (.bool b) := by rw [h]
section
variable {w0 w : World} {L : List Ent} {A B : Option Addr} {n c m c2 : Nat} {xs ys : List Int}
theorem in1_any (x : Int) (w : World) : Calls Try.prog 70 #[.int .i64 x] w fun e w' => e = .returned (.bool (!inR x)) ∧ w = w' := by
  go_enter Try.func70, Try.ntmps70
  go_wp2
  all_goals
    go_ret
    refine ⟨ret_bool ?_, rfl⟩
    (try simp only [beq_iff_eq, beq_eq_false_iff_ne, bne_iff_ne, ne_eq, bne_eq_false_iff_eq] at *)
    by_cases h1 : 0 ≤ x <;> by_cases h2 : x ≤ 2147483647 <;> simp [inR, h1, h2] <;> omega
theorem rin_any (x : Int) (w : World) : Calls Try.prog 29 #[.int .i64 x] w fun e w' => e = .returned (.bool (inR x)) ∧ w = w' := by
  go_enter Try.func29, Try.ntmps29
  go_wp2
  all_goals
    go_ret
    refine ⟨ret_bool ?_, rfl⟩
    (try simp only [beq_iff_eq, beq_eq_false_iff_ne, bne_iff_ne, ne_eq, bne_eq_false_iff_eq] at *)
    by_cases h1 : 0 ≤ x <;> by_cases h2 : x ≤ 2147483647 <;> simp [inR, h1, h2] <;> omega
set_option maxRecDepth 100000 in
theorem equal_any (K : Known w0 w L) (R1 : RdS w0 L .u8 A n xs) (R2 : RdS w0 L .u8 B m ys) (hn9 : n ≤ 1000000000000) :
    Calls Try.prog 44 #[.slice A n c, .slice B m c2] w fun e w' => e = .returned (.bool (xs == ys)) ∧ Known w0 w' L := by
  have h1 := R1.len
  have h2 := R2.len
  by_cases hnm : n = m
  · subst hnm
    have H1 := Lib.hid h1
    have H2 := Lib.hid h2
    clear h1 h2
    go_enter Try.func44, Try.ntmps44
    go_wp2
    go_loopg [13] n (fun d i wr => ∃ k : Nat, i = .int .i64 k ∧ k + d = n ∧ Hid (∀ j, j < k → xs.getD j 0 = ys.getD j 0) ∧ Known w0 wr L)
    case atStart => exact ⟨0, by go_num, by omega, Lib.hid (fun j hj => by omega), K⟩
    case round =>
      clear K
      obtain ⟨k, rfl, hd, HE, K⟩ := hrel
      by_cases hk : k < n
      · have hk' : (k : Int) < (n : Int) := by omega
        have hk2 : (0 : Int) ≤ (k : Int) ∧ (k : Int) < (n : Int) := by omega
        obtain ⟨b, off, rfl⟩ := R1.form K (by omega)
        obtain ⟨b2, off2, rfl⟩ := R2.form K (by omega)
        obtain ⟨u, hu⟩ : ∃ u, xs.getD k 0 = u := ⟨_, rfl⟩
        obtain ⟨v, hv⟩ : ∃ v, ys.getD k 0 = v := ⟨_, rfl⟩
        have HU := Lib.hid hu
        have HV := Lib.hid hv
        clear hu hv
        go_upto_region 6 with (fail)
        refine wp_region_QLK K (by kernel_rfl) (by kernel_rfl) ?_
        clear K
        refine wpQL_A (k := 0) (v := ?_) ?_ ?_
        rotate_left
        · (intro w hS; (clear hS; go_simp); try with_reducible rfl)
        try simp only [Act.put, List.setIfInBounds_toArray, List.set_cons_zero, List.set_cons_succ]
        refine wpQL_A (k := 1) (v := ?_) ?_ ?_
        rotate_left
        · (intro w hS; (clear hS; go_simp); try with_reducible rfl)
        try simp only [Act.put, List.setIfInBounds_toArray, List.set_cons_zero, List.set_cons_succ]
        refine wpQL_A (k := 2) (v := ?_) ?_ ?_
        rotate_left
        · (intro w hS; (clear hS; go_simp); try with_reducible rfl)
        try simp only [Act.put, List.setIfInBounds_toArray, List.set_cons_zero, List.set_cons_succ]
        refine wpQL_A (k := 3) (v := .int .u8 u) ?_ ?_
        · (intro w hS; exact kr_load_fact _ _ (by rfl) (by rfl) (R1.cell hS (by omega) HU.out rfl) (by kernel_rfl))
        try simp only [Act.put, List.setIfInBounds_toArray, List.set_cons_zero, List.set_cons_succ]
        refine wpQL_A (k := 4) (v := ?_) ?_ ?_
        rotate_left
        · (intro w hS; (clear hS; go_simp); try with_reducible rfl)
        try simp only [Act.put, List.setIfInBounds_toArray, List.set_cons_zero, List.set_cons_succ]
        refine wpQL_A (k := 5) (v := ?_) ?_ ?_
        rotate_left
        · (intro w hS; (clear hS; go_simp); try with_reducible rfl)
        try simp only [Act.put, List.setIfInBounds_toArray, List.set_cons_zero, List.set_cons_succ]
        refine wpQL_A (k := 6) (v := ?_) ?_ ?_
        rotate_left
        · (intro w hS; (clear hS; go_simp); try with_reducible rfl)
        try simp only [Act.put, List.setIfInBounds_toArray, List.set_cons_zero, List.set_cons_succ]
        refine wpQL_A (k := 7) (v := .int .u8 v) ?_ ?_
        · (intro w hS; exact kr_load_fact _ _ (by rfl) (by rfl) (R2.cell hS (by omega) HV.out rfl) (by kernel_rfl))
        try simp only [Act.put, List.setIfInBounds_toArray, List.set_cons_zero, List.set_cons_succ]
        refine wpQL_endA (k := 8) (fun w1 K K9 hK => ?_)
        refine st_reads (v := ?_) (by rfl) ?_ ?_
        rotate_left
        · (go_simp; try with_reducible rfl)
        refine hK.out _ _ ?_
        clear hK K9
        try simp only [Act.put, List.setIfInBounds_toArray, List.set_cons_zero, List.set_cons_succ]
        skip
        by_cases huv : u = v
        · have huv' : (u != v) = false := by simpa using huv
          go_wp2
          go_roundg (gk - 1)
          case measure => omega
          case rel => exact ⟨k + 1, by go_num, by omega, Lib.hid (fun j hj => by
            rcases Nat.lt_succ_iff_lt_or_eq.1 hj with h | rfl
            · exact HE.out j h
            · rw [HU.out, HV.out, huv]), K⟩
        · have huv' : (u != v) = true := by simpa using huv
          go_wp2
          go_ret
          refine ⟨ret_bool ?_, K⟩
          symm
          rw [beq_eq_false_iff_ne]
          intro e
          exact huv (by rw [← HU.out, ← HV.out, e])
      · obtain rfl : k = n := by omega
        go_wp2
        go_ret
        refine ⟨ret_bool ?_, K⟩
        symm
        rw [beq_iff_eq]
        apply List.ext_getElem (by rw [H1.out, H2.out])
        intro j hj1 hj2
        have := HE.out j (by rw [← H1.out]; exact hj1)
        simpa [List.getD, hj1, hj2] using this
  · have hne : ((n : Int) != (m : Int)) = true := by simp; omega
    have H1 := Lib.hid h1
    have H2 := Lib.hid h2
    clear h1 h2
    go_enter Try.func44, Try.ntmps44
    go_wp2
    go_ret
    refine ⟨ret_bool ?_, K⟩
    symm
    rw [beq_eq_false_iff_ne]
    intro e
    exact hnm (by rw [← H1.out, ← H2.out, e])
set_option maxRecDepth 100000 in
theorem index_in_any (K : Known w0 w L) (R : RdS w0 L .i64 A n xs) (hn9 : n ≤ 1000000000000) :
    Calls Try.prog 86 #[.slice A n c, .func (.func 70) #[] #[]] w fun e w' => ∃ k : Int, e = .returned (.int .i64 k) ∧ Hid ((decide (0 ≤ k)) = !(xs.all inR)) ∧ Known w0 w' L := by
  have h1 := R.len
  have H1 := Lib.hid h1
  clear h1
  go_enter Try.func86, Try.ntmps86
  go_wp2
  go_loopg [8] n (fun d i wr => ∃ k : Nat, i = .int .i64 k ∧ k + d = n ∧ Hid ((xs.take k).all inR = true) ∧ Known w0 wr L)
  case atStart => exact ⟨0, by go_num, by omega, Lib.hid (by simp), K⟩
  case round =>
    clear K
    obtain ⟨k, rfl, hd, HE, K⟩ := hrel
    by_cases hk : k < n
    · have hk' : (k : Int) < (n : Int) := by omega
      have hk2 : (0 : Int) ≤ (k : Int) ∧ (k : Int) < (n : Int) := by omega
      obtain ⟨b, off, rfl⟩ := R.form K (by omega)
      obtain ⟨u, hu⟩ : ∃ u, xs.getD k 0 = u := ⟨_, rfl⟩
      have HT := Lib.hid (show xs.take (k + 1) = xs.take k ++ [u] by rw [take_snoc' xs k (by rw [H1.out]; exact hk), hu])
      have HU := Lib.hid hu
      have HM := Lib.hid (show u ∈ xs by
        rw [← hu, List.getD_eq_getElem?_getD, List.getElem?_eq_getElem (by rw [H1.out]; exact hk)]
        exact List.getElem_mem _)
      clear hu
      cases hin : inR u
      · go_wp2_with (first | ((with_reducible refine at_load rfl ?_); first | (refine wpList_reads (by rfl) (kr_load_cell K _ _ (by rfl) (by rfl) Has.auto (by decide +kernel) (by (try simp only [List.getElem?_toArray, List.getElem?_cons_succ, List.getElem?_cons_zero]); exact rfl)) ?_) | (refine wpList_reads (by rfl) (kr_load_row K _ _ (by rfl) (by rfl) Has.auto (by decide +kernel) (by kernel_rfl)) ?_) | (refine wpList_reads (by rfl) (kr_load_fact _ _ (by rfl) (by rfl) (R.cell K (by omega) HU.out rfl) (by decide +kernel)) ?_)) | (go_at_call 70; (with_reducible refine (in1_any u _).mono ?_); rintro e w' ⟨rfl, rfl⟩; rw [hin]))
        go_ret
        refine ⟨_, rfl, Lib.hid ?_, K⟩
        have : xs.all inR = false := by
          rw [List.all_eq_false]
          exact ⟨u, HM.out, by simp [hin]⟩
        rw [this]
        simp
      · go_wp2_with (first | ((with_reducible refine at_load rfl ?_); first | (refine wpList_reads (by rfl) (kr_load_cell K _ _ (by rfl) (by rfl) Has.auto (by decide +kernel) (by (try simp only [List.getElem?_toArray, List.getElem?_cons_succ, List.getElem?_cons_zero]); exact rfl)) ?_) | (refine wpList_reads (by rfl) (kr_load_row K _ _ (by rfl) (by rfl) Has.auto (by decide +kernel) (by kernel_rfl)) ?_) | (refine wpList_reads (by rfl) (kr_load_fact _ _ (by rfl) (by rfl) (R.cell K (by omega) HU.out rfl) (by decide +kernel)) ?_)) | (go_at_call 70; (with_reducible refine (in1_any u _).mono ?_); rintro e w' ⟨rfl, rfl⟩; rw [hin]))
        go_roundg (gk - 1)
        case measure => omega
        case rel => exact ⟨k + 1, by go_num, by omega, Lib.hid (by rw [HT.out, List.all_append, HE.out]; simp [hin]), K⟩
    · obtain rfl : k = n := by omega
      go_wp2
      go_ret
      refine ⟨_, rfl, Lib.hid ?_, K⟩
      rw [List.take_of_length_le (by rw [H1.out]; omega)] at HE
      rw [HE.out]
      rfl
set_option maxRecDepth 100000 in
theorem contains_in_any (K : Known w0 w L) (R : RdS w0 L .i64 A n xs) (hn9 : n ≤ 1000000000000) :
    Calls Try.prog 69 #[.slice A n c, .func (.func 70) #[] #[]] w fun e w' => e = .returned (.bool (!xs.all inR)) ∧ Known w0 w' L := by
  go_enter Try.func69, Try.ntmps69
  go_wp2_with (first | (go_at_call 86; (with_reducible refine (index_in_any K R hn9).mono ?_); clear K; rintro e w1 ⟨k, rfl, HK, K⟩))
  go_ret
  exact ⟨ret_bool HK.out, K⟩
set_option maxRecDepth 100000 in
theorem in_any (K : Known w0 w L) (R : RdS w0 L .i64 A n xs) (hn9 : n ≤ 1000000000000) :
    Calls Try.prog 59 #[.slice A n c] w fun e w' => e = .returned (.bool (xs.all inR)) ∧ Known w0 w' L := by
  go_enter Try.func59, Try.ntmps59
  go_wp2_with (first | (go_at_call 69; (with_reducible refine (contains_in_any K R hn9).mono ?_); clear K; rintro e w1 ⟨rfl, K⟩))
  go_ret
  exact ⟨ret_bool (by simp), K⟩
variable {r : Rec}


set_option maxHeartbeats 800000 in
set_option maxRecDepth 100000 in
theorem jmay_any (K : Known w0 w L) (b : Bool) (hb : mayR r = b) (hm : r.man.length = 32) :
    Calls Try.prog 46 #[.agg (recC r)] w fun e w' => e = .returned (.bool b) ∧ Known w0 w' L := by
  have HMN := Lib.hid hm
  have HB := Lib.hid hb
  clear hm hb
  by_cases h1 : r.act ≤ 1
  · by_cases h2 : r.st ≤ 3
    · by_cases h3 : r.md ≤ 3
      · have HX := Lib.hid (show b = [r.len, r.nlen, r.done, r.blk, r.asz].all inR by rw [← HB.out]; simp [mayR, h1, h2, h3])
        go_enter Try.func46, Try.ntmps46
        go_wp2_with (first | ((with_reducible refine at_load rfl ?_); refine wpList_reads (by rfl) (kr_load_cell K _ _ (by rfl) (by rfl) Has.auto (by kernel_rfl) (recC_0 _)) ?_) | ((with_reducible refine at_load rfl ?_); refine wpList_reads (by rfl) (kr_load_cell K _ _ (by rfl) (by rfl) Has.auto (by kernel_rfl) (recC_1 _)) ?_) | ((with_reducible refine at_load rfl ?_); refine wpList_reads (by rfl) (kr_load_cell K _ _ (by rfl) (by rfl) Has.auto (by kernel_rfl) (recC_2 _)) ?_) | ((with_reducible refine at_load rfl ?_); refine wpList_reads (by rfl) (kr_load_cell K _ _ (by rfl) (by rfl) Has.auto (by kernel_rfl) (recC_3 _)) ?_) | ((with_reducible refine at_load rfl ?_); refine wpList_reads (by rfl) (kr_load_cell K _ _ (by rfl) (by rfl) Has.auto (by kernel_rfl) (recC_4 _)) ?_) | ((with_reducible refine at_load rfl ?_); refine wpList_reads (by rfl) (kr_load_cell K _ _ (by rfl) (by rfl) Has.auto (by kernel_rfl) (recC_5 _)) ?_) | ((with_reducible refine at_load rfl ?_); refine wpList_reads (by rfl) (kr_load_cell K _ _ (by rfl) (by rfl) Has.auto (by kernel_rfl) (recC_38 _ HMN.out)) ?_) | ((with_reducible refine at_load rfl ?_); refine wpList_reads (by rfl) (kr_load_cell K _ _ (by rfl) (by rfl) Has.auto (by kernel_rfl) (recC_39 _ HMN.out)) ?_) | ((with_reducible refine at_load rfl ?_); refine wpList_reads (by rfl) (kr_load_cell K _ _ (by rfl) (by rfl) Has.auto (by kernel_rfl) (recC_40 _ HMN.out)) ?_) | ((with_reducible refine at_load rfl ?_); refine wpList_reads (by rfl) (kr_load_cell K _ _ (by rfl) (by rfl) Has.auto (by kernel_rfl) (recC_41 _ HMN.out)) ?_) | ((with_reducible refine at_load rfl ?_); refine wpList_reads (by rfl) (kr_load_cell K _ _ (by rfl) (by rfl) Has.auto (by kernel_rfl) (recC_42 _ HMN.out)) ?_) | ((with_reducible refine at_load rfl ?_); refine wpList_reads (by rfl) (kr_load_cell K _ _ (by rfl) (by rfl) Has.auto (by kernel_rfl) (recC_43 _ HMN.out)) ?_) | ((with_reducible refine at_box rfl ?_); refine wpList_does rfl (kd_box K _ _ rfl (by conv => lhs; whnf)) ?_; clear K; rintro _ w1 ⟨g, rfl, K⟩; (try dsimp only [Value.cells] at K)) | ((with_reducible refine at_buildSlice (n := 5) rfl ?_); refine wpList_does rfl (kd_litsN K _ _ _ rfl (by first | rfl | (go_simp; done) | (go_simp; rfl)) (by first | rfl | (go_simp; done) | (go_simp; rfl)) (xs := [_, _, _, _, _]) (by rfl) (by rfl) (by kernel_rfl)) ?_; clear K; rintro _ w1 ⟨g, rfl, K, O⟩) | (go_at_call 59; (with_reducible refine (in_any K (RdS.own O Seg.auto) (by omega)).mono ?_); clear K; rintro e w1 ⟨rfl, K⟩))
        go_ret
        exact ⟨ret_bool (by rw [HX.out]; simp), K.cov Cov.auto⟩
      · have HX := Lib.hid (show b = false by rw [← HB.out]; simp [mayR, h1, h2, h3])
        go_enter Try.func46, Try.ntmps46
        go_wp2_with (first | ((with_reducible refine at_load rfl ?_); refine wpList_reads (by rfl) (kr_load_cell K _ _ (by rfl) (by rfl) Has.auto (by kernel_rfl) (recC_0 _)) ?_) | ((with_reducible refine at_load rfl ?_); refine wpList_reads (by rfl) (kr_load_cell K _ _ (by rfl) (by rfl) Has.auto (by kernel_rfl) (recC_1 _)) ?_) | ((with_reducible refine at_load rfl ?_); refine wpList_reads (by rfl) (kr_load_cell K _ _ (by rfl) (by rfl) Has.auto (by kernel_rfl) (recC_2 _)) ?_) | ((with_reducible refine at_load rfl ?_); refine wpList_reads (by rfl) (kr_load_cell K _ _ (by rfl) (by rfl) Has.auto (by kernel_rfl) (recC_3 _)) ?_) | ((with_reducible refine at_load rfl ?_); refine wpList_reads (by rfl) (kr_load_cell K _ _ (by rfl) (by rfl) Has.auto (by kernel_rfl) (recC_4 _)) ?_) | ((with_reducible refine at_load rfl ?_); refine wpList_reads (by rfl) (kr_load_cell K _ _ (by rfl) (by rfl) Has.auto (by kernel_rfl) (recC_5 _)) ?_) | ((with_reducible refine at_load rfl ?_); refine wpList_reads (by rfl) (kr_load_cell K _ _ (by rfl) (by rfl) Has.auto (by kernel_rfl) (recC_38 _ HMN.out)) ?_) | ((with_reducible refine at_load rfl ?_); refine wpList_reads (by rfl) (kr_load_cell K _ _ (by rfl) (by rfl) Has.auto (by kernel_rfl) (recC_39 _ HMN.out)) ?_) | ((with_reducible refine at_load rfl ?_); refine wpList_reads (by rfl) (kr_load_cell K _ _ (by rfl) (by rfl) Has.auto (by kernel_rfl) (recC_40 _ HMN.out)) ?_) | ((with_reducible refine at_load rfl ?_); refine wpList_reads (by rfl) (kr_load_cell K _ _ (by rfl) (by rfl) Has.auto (by kernel_rfl) (recC_41 _ HMN.out)) ?_) | ((with_reducible refine at_load rfl ?_); refine wpList_reads (by rfl) (kr_load_cell K _ _ (by rfl) (by rfl) Has.auto (by kernel_rfl) (recC_42 _ HMN.out)) ?_) | ((with_reducible refine at_load rfl ?_); refine wpList_reads (by rfl) (kr_load_cell K _ _ (by rfl) (by rfl) Has.auto (by kernel_rfl) (recC_43 _ HMN.out)) ?_) | ((with_reducible refine at_box rfl ?_); refine wpList_does rfl (kd_box K _ _ rfl (by conv => lhs; whnf)) ?_; clear K; rintro _ w1 ⟨g, rfl, K⟩; (try dsimp only [Value.cells] at K)))
        go_ret
        exact ⟨ret_bool HX.out.symm, K.cov Cov.auto⟩
    · have HX := Lib.hid (show b = false by rw [← HB.out]; simp [mayR, h1, h2])
      go_enter Try.func46, Try.ntmps46
      go_wp2_with (first | ((with_reducible refine at_load rfl ?_); refine wpList_reads (by rfl) (kr_load_cell K _ _ (by rfl) (by rfl) Has.auto (by kernel_rfl) (recC_0 _)) ?_) | ((with_reducible refine at_load rfl ?_); refine wpList_reads (by rfl) (kr_load_cell K _ _ (by rfl) (by rfl) Has.auto (by kernel_rfl) (recC_1 _)) ?_) | ((with_reducible refine at_load rfl ?_); refine wpList_reads (by rfl) (kr_load_cell K _ _ (by rfl) (by rfl) Has.auto (by kernel_rfl) (recC_2 _)) ?_) | ((with_reducible refine at_load rfl ?_); refine wpList_reads (by rfl) (kr_load_cell K _ _ (by rfl) (by rfl) Has.auto (by kernel_rfl) (recC_3 _)) ?_) | ((with_reducible refine at_load rfl ?_); refine wpList_reads (by rfl) (kr_load_cell K _ _ (by rfl) (by rfl) Has.auto (by kernel_rfl) (recC_4 _)) ?_) | ((with_reducible refine at_load rfl ?_); refine wpList_reads (by rfl) (kr_load_cell K _ _ (by rfl) (by rfl) Has.auto (by kernel_rfl) (recC_5 _)) ?_) | ((with_reducible refine at_load rfl ?_); refine wpList_reads (by rfl) (kr_load_cell K _ _ (by rfl) (by rfl) Has.auto (by kernel_rfl) (recC_38 _ HMN.out)) ?_) | ((with_reducible refine at_load rfl ?_); refine wpList_reads (by rfl) (kr_load_cell K _ _ (by rfl) (by rfl) Has.auto (by kernel_rfl) (recC_39 _ HMN.out)) ?_) | ((with_reducible refine at_load rfl ?_); refine wpList_reads (by rfl) (kr_load_cell K _ _ (by rfl) (by rfl) Has.auto (by kernel_rfl) (recC_40 _ HMN.out)) ?_) | ((with_reducible refine at_load rfl ?_); refine wpList_reads (by rfl) (kr_load_cell K _ _ (by rfl) (by rfl) Has.auto (by kernel_rfl) (recC_41 _ HMN.out)) ?_) | ((with_reducible refine at_load rfl ?_); refine wpList_reads (by rfl) (kr_load_cell K _ _ (by rfl) (by rfl) Has.auto (by kernel_rfl) (recC_42 _ HMN.out)) ?_) | ((with_reducible refine at_load rfl ?_); refine wpList_reads (by rfl) (kr_load_cell K _ _ (by rfl) (by rfl) Has.auto (by kernel_rfl) (recC_43 _ HMN.out)) ?_) | ((with_reducible refine at_box rfl ?_); refine wpList_does rfl (kd_box K _ _ rfl (by conv => lhs; whnf)) ?_; clear K; rintro _ w1 ⟨g, rfl, K⟩; (try dsimp only [Value.cells] at K)))
      go_ret
      exact ⟨ret_bool HX.out.symm, K.cov Cov.auto⟩
  · have HX := Lib.hid (show b = false by rw [← HB.out]; simp [mayR, h1])
    go_enter Try.func46, Try.ntmps46
    go_wp2_with (first | ((with_reducible refine at_load rfl ?_); refine wpList_reads (by rfl) (kr_load_cell K _ _ (by rfl) (by rfl) Has.auto (by kernel_rfl) (recC_0 _)) ?_) | ((with_reducible refine at_load rfl ?_); refine wpList_reads (by rfl) (kr_load_cell K _ _ (by rfl) (by rfl) Has.auto (by kernel_rfl) (recC_1 _)) ?_) | ((with_reducible refine at_load rfl ?_); refine wpList_reads (by rfl) (kr_load_cell K _ _ (by rfl) (by rfl) Has.auto (by kernel_rfl) (recC_2 _)) ?_) | ((with_reducible refine at_load rfl ?_); refine wpList_reads (by rfl) (kr_load_cell K _ _ (by rfl) (by rfl) Has.auto (by kernel_rfl) (recC_3 _)) ?_) | ((with_reducible refine at_load rfl ?_); refine wpList_reads (by rfl) (kr_load_cell K _ _ (by rfl) (by rfl) Has.auto (by kernel_rfl) (recC_4 _)) ?_) | ((with_reducible refine at_load rfl ?_); refine wpList_reads (by rfl) (kr_load_cell K _ _ (by rfl) (by rfl) Has.auto (by kernel_rfl) (recC_5 _)) ?_) | ((with_reducible refine at_load rfl ?_); refine wpList_reads (by rfl) (kr_load_cell K _ _ (by rfl) (by rfl) Has.auto (by kernel_rfl) (recC_38 _ HMN.out)) ?_) | ((with_reducible refine at_load rfl ?_); refine wpList_reads (by rfl) (kr_load_cell K _ _ (by rfl) (by rfl) Has.auto (by kernel_rfl) (recC_39 _ HMN.out)) ?_) | ((with_reducible refine at_load rfl ?_); refine wpList_reads (by rfl) (kr_load_cell K _ _ (by rfl) (by rfl) Has.auto (by kernel_rfl) (recC_40 _ HMN.out)) ?_) | ((with_reducible refine at_load rfl ?_); refine wpList_reads (by rfl) (kr_load_cell K _ _ (by rfl) (by rfl) Has.auto (by kernel_rfl) (recC_41 _ HMN.out)) ?_) | ((with_reducible refine at_load rfl ?_); refine wpList_reads (by rfl) (kr_load_cell K _ _ (by rfl) (by rfl) Has.auto (by kernel_rfl) (recC_42 _ HMN.out)) ?_) | ((with_reducible refine at_load rfl ?_); refine wpList_reads (by rfl) (kr_load_cell K _ _ (by rfl) (by rfl) Has.auto (by kernel_rfl) (recC_43 _ HMN.out)) ?_) | ((with_reducible refine at_box rfl ?_); refine wpList_does rfl (kd_box K _ _ rfl (by conv => lhs; whnf)) ?_; clear K; rintro _ w1 ⟨g, rfl, K⟩; (try dsimp only [Value.cells] at K)))
    go_ret
    exact ⟨ret_bool HX.out.symm, K.cov Cov.auto⟩
set_option maxHeartbeats 800000 in
set_option maxRecDepth 100000 in
theorem rjmay_any (K : Known w0 w L) (b : Bool) (hb : mayR r = b) (hm : r.man.length = 32) :
    Calls Try.prog 12 #[.agg (recC r)] w fun e w' => e = .returned (.bool b) ∧ Known w0 w' L := by
  have HMN := Lib.hid hm
  have HB := Lib.hid hb
  clear hm hb
  go_enter Try.func12, Try.ntmps12
  go_wp2_with (first | ((with_reducible refine at_load rfl ?_); refine wpList_reads (by rfl) (kr_load_cell K _ _ (by rfl) (by rfl) Has.auto (by kernel_rfl) (recC_0 _)) ?_) | ((with_reducible refine at_load rfl ?_); refine wpList_reads (by rfl) (kr_load_cell K _ _ (by rfl) (by rfl) Has.auto (by kernel_rfl) (recC_1 _)) ?_) | ((with_reducible refine at_load rfl ?_); refine wpList_reads (by rfl) (kr_load_cell K _ _ (by rfl) (by rfl) Has.auto (by kernel_rfl) (recC_2 _)) ?_) | ((with_reducible refine at_load rfl ?_); refine wpList_reads (by rfl) (kr_load_cell K _ _ (by rfl) (by rfl) Has.auto (by kernel_rfl) (recC_3 _)) ?_) | ((with_reducible refine at_load rfl ?_); refine wpList_reads (by rfl) (kr_load_cell K _ _ (by rfl) (by rfl) Has.auto (by kernel_rfl) (recC_4 _)) ?_) | ((with_reducible refine at_load rfl ?_); refine wpList_reads (by rfl) (kr_load_cell K _ _ (by rfl) (by rfl) Has.auto (by kernel_rfl) (recC_5 _)) ?_) | ((with_reducible refine at_load rfl ?_); refine wpList_reads (by rfl) (kr_load_cell K _ _ (by rfl) (by rfl) Has.auto (by kernel_rfl) (recC_38 _ HMN.out)) ?_) | ((with_reducible refine at_load rfl ?_); refine wpList_reads (by rfl) (kr_load_cell K _ _ (by rfl) (by rfl) Has.auto (by kernel_rfl) (recC_39 _ HMN.out)) ?_) | ((with_reducible refine at_load rfl ?_); refine wpList_reads (by rfl) (kr_load_cell K _ _ (by rfl) (by rfl) Has.auto (by kernel_rfl) (recC_40 _ HMN.out)) ?_) | ((with_reducible refine at_load rfl ?_); refine wpList_reads (by rfl) (kr_load_cell K _ _ (by rfl) (by rfl) Has.auto (by kernel_rfl) (recC_41 _ HMN.out)) ?_) | ((with_reducible refine at_load rfl ?_); refine wpList_reads (by rfl) (kr_load_cell K _ _ (by rfl) (by rfl) Has.auto (by kernel_rfl) (recC_42 _ HMN.out)) ?_) | ((with_reducible refine at_load rfl ?_); refine wpList_reads (by rfl) (kr_load_cell K _ _ (by rfl) (by rfl) Has.auto (by kernel_rfl) (recC_43 _ HMN.out)) ?_) | ((with_reducible refine at_box rfl ?_); refine wpList_does rfl (kd_box K _ _ rfl (by conv => lhs; whnf)) ?_; clear K; rintro _ w1 ⟨g, rfl, K⟩; (try dsimp only [Value.cells] at K)) | (go_at_call 29; (with_reducible refine (rin_any _ _).mono ?_); rintro e w' ⟨rfl, rfl⟩))
  all_goals
    go_ret
    refine ⟨ret_bool ?_, K.cov Cov.auto⟩
    rw [← HB.out, mayR_lt]
    first | (simp [*]; done) | (simp [*]; intros; exfalso; omega)
end
end Go.Proofs.Ytfdddipmeadecaa

/-
  journal: a record's writing (contracts).
-/
set_option linter.unusedVariables false
set_option linter.unusedSimpArgs false
namespace Go.Proofs.Ytfdddipmeadecaa
open Go.RowKit
def markL : List Int := [74, 82, 78, 76]
/-- a record's writing but its check -/
def recB (r : Rec) : List Int := markL ++ beN 8 r.seq ++ [r.act] ++ beN 8 r.ver ++ beN 4 r.len ++ [r.st] ++ [r.md] ++ r.man ++ beN 8 r.nver ++ beN 4 r.nlen ++ beN 4 r.done ++ beN 8 r.pos ++ beN 4 r.blk ++ beN 4 r.asz
def recW (r : Rec) : List Int := recB r ++ (shaL (recB r)).take 8
theorem recB_len (r : Rec) (h : r.man.length = 32) : (recB r).length = 91 := by simp [recB, markL, beN_length, h]
theorem recW_len (r : Rec) (h : r.man.length = 32) : (recW r).length = 99 := by simp [recW, recB_len r h, shaL_len]
/-- a record's numbers are within their kinds -/
structure RecOk (r : Rec) : Prop where mk ::
  (u64 : (0 ≤ r.seq ∧ r.seq ≤ 18446744073709551615) ∧ (0 ≤ r.ver ∧ r.ver ≤ 18446744073709551615) ∧ (0 ≤ r.nver ∧ r.nver ≤ 18446744073709551615) ∧ (0 ≤ r.pos ∧ r.pos ≤ 18446744073709551615))
  (u8 : (0 ≤ r.act ∧ r.act ≤ 255) ∧ (0 ≤ r.st ∧ r.st ≤ 255) ∧ (0 ≤ r.md ∧ r.md ≤ 255)) (man : r.man.length = 32) (byte : ∀ b ∈ r.man, 0 ≤ b ∧ b ≤ 255)
theorem beN_byte : ∀ (k : Nat) (x : Int), ∀ c ∈ beN k x, 0 ≤ c ∧ c ≤ 255
  | 0, _, c, h => by cases h
  | k + 1, x, c, h => by
    rcases List.mem_cons.1 h with rfl | h
    · omega
    · exact beN_byte k x c h
theorem recB_byte (r : Rec) (h : RecOk r) : ∀ b ∈ recB r, 0 ≤ b ∧ b ≤ 255 := by
  intro b hb
  simp only [recB, List.mem_append, List.mem_singleton, markL] at hb
  rcases hb with ((((((((((((hb | hb) | hb) | hb) | hb) | hb) | hb) | hb) | hb) | hb) | hb) | hb) | hb) | hb
  · simp at hb; omega
  all_goals first | exact beN_byte _ _ _ hb | (subst hb; have := h.u8; omega) | exact h.byte _ hb
theorem shaL_byte (bs : List Int) : ∀ b ∈ shaL bs, 0 ≤ b ∧ b ≤ 255 := by
  intro b hb
  obtain ⟨j, _, rfl⟩ := List.mem_map.1 hb
  unfold shaB
  omega
theorem recW_byte (r : Rec) (h : RecOk r) : ∀ b ∈ recW r, 0 ≤ b ∧ b ≤ 255 := by
  intro b hb
  rcases List.mem_append.1 hb with hb | hb
  · exact recB_byte r h b hb
  · exact shaL_byte _ b (List.mem_of_mem_take hb)
theorem u64_may (x : Int) (h : inR x = true) : IntKind.u64.wrap x = x := by
  simp only [inR, Bool.and_eq_true, decide_eq_true_eq] at h
  exact IntWalk.u64_in x (by omega)
section
variable {w0 w : World} {L : List Ent} {r : Rec}



set_option maxHeartbeats 1600000 in
set_option maxRecDepth 100000 in
theorem jput_yes (K : Known w0 w L) (hv : mayR r = true) (hm : RecOk r) :
    Calls Try.prog 26 #[.agg (recC r)] w fun e w' => ∃ A c X, e = .returned (.tuple #[.slice A 99 c, .int .i64 0]) ∧ OwnL 5 1 A 99 c ((recW r).map (Value.int .u8)) X ∧ Known w0 w' (X ++ L) := by
  have HMN := Lib.hid hm.man
  have HV := Lib.hid hv
  rw [mayR_lt] at hv
  simp only [Bool.and_eq_true] at hv
  obtain ⟨_, _, _, v1, v2, v3, v4, v5⟩ := hv
  have i1 := u64_may _ v1
  have i2 := u64_may _ v2
  have i3 := u64_may _ v3
  have i4 := u64_may _ v4
  have i5 := u64_may _ v5
  have HRB := Lib.hid (recB_byte r hm)
  have HRM := Lib.hid hm.byte
  clear v1 v2 v3 v4 v5
  go_enter Try.func26, Try.ntmps26
  go_upto_region 4 with ((first | ((with_reducible refine at_load (t := 41) rfl ?_); refine wpList_reads (by rfl) (kr_load_row K _ _ (by rfl) (by rfl) Has.auto (by kernel_rfl) (by rw [recC_size _ HMN.out]; kernel_rfl)) ?_) | ((with_reducible refine at_load rfl ?_); refine wpList_reads (by rfl) (kr_load_cell K _ _ (by rfl) (by rfl) Has.auto (by kernel_rfl) (recC_0 _)) ?_) | ((with_reducible refine at_load rfl ?_); refine wpList_reads (by rfl) (kr_load_cell K _ _ (by rfl) (by rfl) Has.auto (by kernel_rfl) (recC_1 _)) ?_) | ((with_reducible refine at_load rfl ?_); refine wpList_reads (by rfl) (kr_load_cell K _ _ (by rfl) (by rfl) Has.auto (by kernel_rfl) (recC_2 _)) ?_) | ((with_reducible refine at_load rfl ?_); refine wpList_reads (by rfl) (kr_load_cell K _ _ (by rfl) (by rfl) Has.auto (by kernel_rfl) (recC_3 _)) ?_) | ((with_reducible refine at_load rfl ?_); refine wpList_reads (by rfl) (kr_load_cell K _ _ (by rfl) (by rfl) Has.auto (by kernel_rfl) (recC_4 _)) ?_) | ((with_reducible refine at_load rfl ?_); refine wpList_reads (by rfl) (kr_load_cell K _ _ (by rfl) (by rfl) Has.auto (by kernel_rfl) (recC_5 _)) ?_) | ((with_reducible refine at_load rfl ?_); refine wpList_reads (by rfl) (kr_load_cell K _ _ (by rfl) (by rfl) Has.auto (by kernel_rfl) (recC_38 _ HMN.out)) ?_) | ((with_reducible refine at_load rfl ?_); refine wpList_reads (by rfl) (kr_load_cell K _ _ (by rfl) (by rfl) Has.auto (by kernel_rfl) (recC_39 _ HMN.out)) ?_) | ((with_reducible refine at_load rfl ?_); refine wpList_reads (by rfl) (kr_load_cell K _ _ (by rfl) (by rfl) Has.auto (by kernel_rfl) (recC_40 _ HMN.out)) ?_) | ((with_reducible refine at_load rfl ?_); refine wpList_reads (by rfl) (kr_load_cell K _ _ (by rfl) (by rfl) Has.auto (by kernel_rfl) (recC_41 _ HMN.out)) ?_) | ((with_reducible refine at_load rfl ?_); refine wpList_reads (by rfl) (kr_load_cell K _ _ (by rfl) (by rfl) Has.auto (by kernel_rfl) (recC_42 _ HMN.out)) ?_) | ((with_reducible refine at_load rfl ?_); refine wpList_reads (by rfl) (kr_load_cell K _ _ (by rfl) (by rfl) Has.auto (by kernel_rfl) (recC_43 _ HMN.out)) ?_) | ((with_reducible refine at_box rfl ?_); refine wpList_does rfl (kd_box K _ _ rfl (by conv => lhs; whnf)) ?_; clear K; rintro _ w1 ⟨gr, rfl, K⟩; (try dsimp only [Value.cells] at K)) | (go_at_call 46; (with_reducible refine (jmay_any K true HV.out HMN.out).mono ?_); clear K; rintro e w1 ⟨rfl, K⟩) | ((with_reducible refine at_buildSlice rfl ?_); refine wpList_does rfl (kd_lits (cs := _) K _ _ _ rfl (by first | rfl | (go_simp; done) | (go_simp; rfl)) (by first | rfl | (go_simp; done) | (go_simp; rfl))) ?_; clear K; rintro _ w1 ⟨g, rfl, K⟩) | ((with_reducible refine at_convert (t := 46) (u := 46) rfl ?_); refine wpList_does rfl (kd_mark K rfl rfl Repl.auto Try.underlying46 Try.underlying5) ?_; clear K; rintro _ w1 ⟨rfl, K⟩) | (go_at_call 47; (with_reducible refine (putK 8 _ 8 K (xs := markL) (Has.objRd (n := 4) Has.auto rfl rfl) (by omega) rfl (by omega) (by omega)).mono ?_); clear K; rintro e w1 ⟨A1, c1, X1, rfl, O, K⟩)))
  refine wp_region_GK (X := [row gr (recC r) 41]) K Cov.auto (by kernel_rfl) (by kernel_rfl) (by kernel_rfl) (fun K hHeld => ?_)
  refine wpG_takeA 0 (v := ?_) ?_ hHeld ?_
  rotate_left
  · (intro w hS; (clear hS; go_simp); try with_reducible rfl)
  try simp only [Act.put, List.setIfInBounds_toArray, List.set_cons_zero, List.set_cons_succ]
  refine wpG_takeA 1 (v := ?_) ?_ hHeld ?_
  rotate_left
  · (intro w hS; (clear hS; go_simp); try with_reducible rfl)
  try simp only [Act.put, List.setIfInBounds_toArray, List.set_cons_zero, List.set_cons_succ]
  refine wpG_takeA 2 (v := .int .u8 r.act) ?_ hHeld ?_
  · (intro w hS; first | exact kr_load_cell hS _ _ (by rfl) (by rfl) Has.auto (by kernel_rfl) (recC_1 _))
  try simp only [Act.put, List.setIfInBounds_toArray, List.set_cons_zero, List.set_cons_succ]
  refine wpG_takeA 5 (v := ?_) ?_ hHeld ?_
  rotate_left
  · (intro w hS; (clear hS; go_simp); try with_reducible rfl)
  try simp only [Act.put, List.setIfInBounds_toArray, List.set_cons_zero, List.set_cons_succ]
  refine wpG_takeA 6 (v := .int .u64 r.ver) ?_ hHeld ?_
  · (intro w hS; first | exact kr_load_cell hS _ _ (by rfl) (by rfl) Has.auto (by kernel_rfl) (recC_2 _))
  try simp only [Act.put, List.setIfInBounds_toArray, List.set_cons_zero, List.set_cons_succ]
  refine wpG_oneA 3 (fun K9 hK => ?_)
  refine st_does (by rfl) (kd_lits K _ _ _ (by rfl) (by first | rfl | (go_simp; done) | (go_simp; rfl)) (by first | rfl | (go_simp; done) | (go_simp; rfl))) ?_
  clear K; rintro _ w1 ⟨g, rfl, K⟩
  refine hK.out _ _ (K.cov Cov.auto) (fun hHeld => ?_)
  clear hK K9
  try simp only [Act.put, List.setIfInBounds_toArray, List.set_cons_zero, List.set_cons_succ]
  refine wpG_oneA 4 (fun K9 hK => ?_)
  refine st_does (by rfl) (kd_appendN K _ _ (by rfl) (by rfl) (by rfl) (by with_reducible assumption) Seg.auto (Rd.ofBlk (n := 1) (xs := [_]) (K.blk Has.auto) rfl rfl) (by kernel_rfl) (by kernel_rfl) (by omega)) ?_
  clear K; rintro _ w1 ⟨A1, c1, X1, rfl, O, K⟩; (try simp only [Nat.zero_add, List.nil_append] at O)
  refine hK.out _ _ (K.cov Cov.auto) (fun hHeld => ?_)
  clear hK K9
  try simp only [Act.put, List.setIfInBounds_toArray, List.set_cons_zero, List.set_cons_succ]
  refine wpG_oneA 7 (fun K9 hK => ?_)
  go_simp
  (go_at_call 47; (with_reducible refine (putK 8 _ 8 K (RdS.own O Seg.auto) (by omega) rfl (by omega) (by omega)).mono ?_); clear K; rintro e w1 ⟨A1, c1, X1, rfl, O, K⟩)
  refine hK.out _ _ (K.cov Cov.auto) (fun hHeld => ?_)
  clear hK K9
  try simp only [Act.put, List.setIfInBounds_toArray, List.set_cons_zero, List.set_cons_succ]
  refine wpG_takeA 8 (v := ?_) ?_ hHeld ?_
  rotate_left
  · (intro w hS; (clear hS; go_simp); try with_reducible rfl)
  try simp only [Act.put, List.setIfInBounds_toArray, List.set_cons_zero, List.set_cons_succ]
  refine wpG_done (by kernel_rfl) ?_
  skip
  go_upto_region 5 with (fail)
  refine wp_region_GK (X := [row gr (recC r) 41]) K Cov.auto (by kernel_rfl) (by kernel_rfl) (by kernel_rfl) (fun K hHeld => ?_)
  refine wpG_takeA 0 (v := ?_) ?_ hHeld ?_
  rotate_left
  · (intro w hS; (clear hS; go_simp); try with_reducible rfl)
  try simp only [Act.put, List.setIfInBounds_toArray, List.set_cons_zero, List.set_cons_succ]
  refine wpG_takeA 1 (v := ?_) ?_ hHeld ?_
  rotate_left
  · (intro w hS; (clear hS; go_simp); try with_reducible rfl)
  try simp only [Act.put, List.setIfInBounds_toArray, List.set_cons_zero, List.set_cons_succ]
  refine wpG_takeA 2 (v := .int .i64 r.len) ?_ hHeld ?_
  · (intro w hS; first | exact kr_load_cell hS _ _ (by rfl) (by rfl) Has.auto (by kernel_rfl) (recC_3 _))
  try simp only [Act.put, List.setIfInBounds_toArray, List.set_cons_zero, List.set_cons_succ]
  refine wpG_takeA 3 (v := ?_) ?_ hHeld ?_
  rotate_left
  · (intro w hS; (clear hS; go_simp); try with_reducible rfl)
  try simp only [Act.put, List.setIfInBounds_toArray, List.set_cons_zero, List.set_cons_succ]
  refine wpG_takeA 5 (v := ?_) ?_ hHeld ?_
  rotate_left
  · (intro w hS; (clear hS; go_simp); try with_reducible rfl)
  try simp only [Act.put, List.setIfInBounds_toArray, List.set_cons_zero, List.set_cons_succ]
  refine wpG_takeA 6 (v := .int .u8 r.st) ?_ hHeld ?_
  · (intro w hS; first | exact kr_load_cell hS _ _ (by rfl) (by rfl) Has.auto (by kernel_rfl) (recC_4 _))
  try simp only [Act.put, List.setIfInBounds_toArray, List.set_cons_zero, List.set_cons_succ]
  refine wpG_takeA 7 (v := ?_) ?_ hHeld ?_
  rotate_left
  · (intro w hS; (clear hS; go_simp); try with_reducible rfl)
  try simp only [Act.put, List.setIfInBounds_toArray, List.set_cons_zero, List.set_cons_succ]
  refine wpG_takeA 8 (v := .int .u8 r.md) ?_ hHeld ?_
  · (intro w hS; first | exact kr_load_cell hS _ _ (by rfl) (by rfl) Has.auto (by kernel_rfl) (recC_5 _))
  try simp only [Act.put, List.setIfInBounds_toArray, List.set_cons_zero, List.set_cons_succ]
  refine wpG_some (i := 4) (l := [9]) (by kernel_rfl) ?_
  refine AllG.consA (fun K9 hK => ?_) ?_
  · skip
    go_simp
    (go_at_call 47; (with_reducible refine (putK 4 _ 4 K (RdS.own O Seg.auto) (by omega) rfl (by omega) (by omega)).mono ?_); clear K; rintro e w1 ⟨A1, c1, X1, rfl, O, K⟩)
    refine hK.out _ _ (K.cov Cov.auto) (fun hHeld => ?_)
    clear hK K9
    try simp only [Act.put, List.setIfInBounds_toArray, List.set_cons_zero, List.set_cons_succ]
    refine wpG_oneA 9 (fun K9 hK => ?_)
    refine st_does (by rfl) (kd_lits K _ _ _ (by rfl) (by first | rfl | (go_simp; done) | (go_simp; rfl)) (by first | rfl | (go_simp; done) | (go_simp; rfl))) ?_
    clear K; rintro _ w1 ⟨g, rfl, K⟩
    refine hK.out _ _ (K.cov Cov.auto) (fun hHeld => ?_)
    clear hK K9
    try simp only [Act.put, List.setIfInBounds_toArray, List.set_cons_zero, List.set_cons_succ]
    refine wpG_oneA 10 (fun K9 hK => ?_)
    refine st_does (by rfl) (kd_appendN K _ _ (by rfl) (by rfl) (by rfl) (by with_reducible assumption) Seg.auto (Rd.ofBlk (n := 2) (xs := [_, _]) (K.blk Has.auto) rfl rfl) (by kernel_rfl) (by kernel_rfl) (by omega)) ?_
    clear K; rintro _ w1 ⟨A1, c1, X1, rfl, O, K⟩; (try simp only [Nat.zero_add, List.nil_append] at O)
    refine hK.out _ _ (K.cov Cov.auto) (fun hHeld => ?_)
    clear hK K9
    try simp only [Act.put, List.setIfInBounds_toArray, List.set_cons_zero, List.set_cons_succ]
    refine wpG_takeA 11 (v := ?_) ?_ hHeld ?_
    rotate_left
    · (intro w hS; (clear hS; go_simp); try with_reducible rfl)
    try simp only [Act.put, List.setIfInBounds_toArray, List.set_cons_zero, List.set_cons_succ]
    refine wpG_done (by kernel_rfl) ?_
    go_upto_region 6 with (fail)
    refine wp_region_GK (X := [row gr (recC r) 41]) K Cov.auto (by kernel_rfl) (by kernel_rfl) (by kernel_rfl) (fun K hHeld => ?_)
    refine wpG_takeA 0 (v := ?_) ?_ hHeld ?_
    rotate_left
    · (intro w hS; (clear hS; go_simp); try with_reducible rfl)
    try simp only [Act.put, List.setIfInBounds_toArray, List.set_cons_zero, List.set_cons_succ]
    refine wpG_takeA 1 (v := ?_) ?_ hHeld ?_
    rotate_left
    · (intro w hS; (clear hS; go_simp); try with_reducible rfl)
    try simp only [Act.put, List.setIfInBounds_toArray, List.set_cons_zero, List.set_cons_succ]
    refine wpG_takeA 2 (v := .slice (some ⟨gr, 6, none⟩) 32 32) ?_ hHeld ?_
    · (intro w hS; first | exact kr_slice_arr_lt (N := 32) (by rfl) (by rfl) 0 32 (.inl ⟨rfl, rfl⟩) (.inl ⟨rfl, rfl⟩) (by omega) (by omega) (by omega) Try.underlying39 (by kernel_rfl))
    try simp only [Act.put, List.setIfInBounds_toArray, List.set_cons_zero, List.set_cons_succ]
    refine wpG_takeA 4 (v := ?_) ?_ hHeld ?_
    rotate_left
    · (intro w hS; (clear hS; go_simp); try with_reducible rfl)
    try simp only [Act.put, List.setIfInBounds_toArray, List.set_cons_zero, List.set_cons_succ]
    refine wpG_takeA 5 (v := .int .u64 r.nver) ?_ hHeld ?_
    · (intro w hS; first | exact kr_load_cell hS _ _ (by rfl) (by rfl) Has.auto (by kernel_rfl) (recC_38 _ HMN.out))
    try simp only [Act.put, List.setIfInBounds_toArray, List.set_cons_zero, List.set_cons_succ]
    refine wpG_oneA 3 (fun K9 hK => ?_)
    refine st_does (by rfl) (kd_appendN K _ _ (by rfl) (by rfl) (by rfl) (by with_reducible assumption) Seg.auto (Rd.ofBlk (K.blk Has.auto) HMN.out (recC_man r HMN.out)) (by kernel_rfl) (by kernel_rfl) (by omega)) ?_
    clear K; rintro _ w1 ⟨A1, c1, X1, rfl, O, K⟩; (try simp only [Nat.zero_add, List.nil_append] at O)
    refine hK.out _ _ (K.cov Cov.auto) (fun hHeld => ?_)
    clear hK K9
    try simp only [Act.put, List.setIfInBounds_toArray, List.set_cons_zero, List.set_cons_succ]
    refine wpG_oneA 6 (fun K9 hK => ?_)
    go_simp
    (go_at_call 47; (with_reducible refine (putK 8 _ 8 K (RdS.own O Seg.auto) (by omega) rfl (by omega) (by omega)).mono ?_); clear K; rintro e w1 ⟨A1, c1, X1, rfl, O, K⟩)
    refine hK.out _ _ (K.cov Cov.auto) (fun hHeld => ?_)
    clear hK K9
    try simp only [Act.put, List.setIfInBounds_toArray, List.set_cons_zero, List.set_cons_succ]
    refine wpG_takeA 7 (v := ?_) ?_ hHeld ?_
    rotate_left
    · (intro w hS; (clear hS; go_simp); try with_reducible rfl)
    try simp only [Act.put, List.setIfInBounds_toArray, List.set_cons_zero, List.set_cons_succ]
    refine wpG_done (by kernel_rfl) ?_
    skip
    go_upto_region 7 with (fail)
    refine wp_region_GK (X := [row gr (recC r) 41]) K Cov.auto (by kernel_rfl) (by kernel_rfl) (by kernel_rfl) (fun K hHeld => ?_)
    refine wpG_takeA 0 (v := ?_) ?_ hHeld ?_
    rotate_left
    · (intro w hS; (clear hS; go_simp); try with_reducible rfl)
    try simp only [Act.put, List.setIfInBounds_toArray, List.set_cons_zero, List.set_cons_succ]
    refine wpG_takeA 1 (v := ?_) ?_ hHeld ?_
    rotate_left
    · (intro w hS; (clear hS; go_simp); try with_reducible rfl)
    try simp only [Act.put, List.setIfInBounds_toArray, List.set_cons_zero, List.set_cons_succ]
    refine wpG_takeA 2 (v := .int .i64 r.nlen) ?_ hHeld ?_
    · (intro w hS; first | exact kr_load_cell hS _ _ (by rfl) (by rfl) Has.auto (by kernel_rfl) (recC_39 _ HMN.out))
    try simp only [Act.put, List.setIfInBounds_toArray, List.set_cons_zero, List.set_cons_succ]
    refine wpG_takeA 3 (v := ?_) ?_ hHeld ?_
    rotate_left
    · (intro w hS; (clear hS; go_simp); try with_reducible rfl)
    try simp only [Act.put, List.setIfInBounds_toArray, List.set_cons_zero, List.set_cons_succ]
    refine wpG_takeA 5 (v := ?_) ?_ hHeld ?_
    rotate_left
    · (intro w hS; (clear hS; go_simp); try with_reducible rfl)
    try simp only [Act.put, List.setIfInBounds_toArray, List.set_cons_zero, List.set_cons_succ]
    refine wpG_takeA 6 (v := .int .i64 r.done) ?_ hHeld ?_
    · (intro w hS; first | exact kr_load_cell hS _ _ (by rfl) (by rfl) Has.auto (by kernel_rfl) (recC_40 _ HMN.out))
    try simp only [Act.put, List.setIfInBounds_toArray, List.set_cons_zero, List.set_cons_succ]
    refine wpG_takeA 7 (v := ?_) ?_ hHeld ?_
    rotate_left
    · (intro w hS; (clear hS; go_simp); try with_reducible rfl)
    try simp only [Act.put, List.setIfInBounds_toArray, List.set_cons_zero, List.set_cons_succ]
    refine wpG_oneA 4 (fun K9 hK => ?_)
    go_simp
    (go_at_call 47; (with_reducible refine (putK 4 _ 4 K (RdS.own O Seg.auto) (by omega) rfl (by omega) (by omega)).mono ?_); clear K; rintro e w1 ⟨A1, c1, X1, rfl, O, K⟩)
    refine hK.out _ _ (K.cov Cov.auto) (fun hHeld => ?_)
    clear hK K9
    try simp only [Act.put, List.setIfInBounds_toArray, List.set_cons_zero, List.set_cons_succ]
    refine wpG_oneA 8 (fun K9 hK => ?_)
    go_simp
    (go_at_call 47; (with_reducible refine (putK 4 _ 4 K (RdS.own O Seg.auto) (by omega) rfl (by omega) (by omega)).mono ?_); clear K; rintro e w1 ⟨A1, c1, X1, rfl, O, K⟩)
    refine hK.out _ _ (K.cov Cov.auto) (fun hHeld => ?_)
    clear hK K9
    try simp only [Act.put, List.setIfInBounds_toArray, List.set_cons_zero, List.set_cons_succ]
    refine wpG_takeA 9 (v := ?_) ?_ hHeld ?_
    rotate_left
    · (intro w hS; (clear hS; go_simp); try with_reducible rfl)
    try simp only [Act.put, List.setIfInBounds_toArray, List.set_cons_zero, List.set_cons_succ]
    refine wpG_done (by kernel_rfl) ?_
    skip
    go_upto_region 9 with ((first | ((with_reducible refine at_load rfl ?_); refine wpList_reads (by rfl) (kr_load_cell K _ _ (by rfl) (by rfl) Has.auto (by kernel_rfl) (recC_41 _ HMN.out)) ?_) | (go_at_call 47; (with_reducible refine (putK 8 _ 8 K (RdS.own O Seg.auto) (by omega) rfl (by omega) (by omega)).mono ?_); clear K; rintro e w1 ⟨A1, c1, X1, rfl, ON, K⟩; replace O := ON; clear ON)))
    refine wp_region_GK (X := [row gr (recC r) 41]) K Cov.auto (by kernel_rfl) (by kernel_rfl) (by kernel_rfl) (fun K hHeld => ?_)
    refine wpG_takeA 0 (v := ?_) ?_ hHeld ?_
    rotate_left
    · (intro w hS; (clear hS; go_simp); try with_reducible rfl)
    try simp only [Act.put, List.setIfInBounds_toArray, List.set_cons_zero, List.set_cons_succ]
    refine wpG_takeA 1 (v := ?_) ?_ hHeld ?_
    rotate_left
    · (intro w hS; (clear hS; go_simp); try with_reducible rfl)
    try simp only [Act.put, List.setIfInBounds_toArray, List.set_cons_zero, List.set_cons_succ]
    refine wpG_takeA 2 (v := .int .i64 r.blk) ?_ hHeld ?_
    · (intro w hS; first | exact kr_load_cell hS _ _ (by rfl) (by rfl) Has.auto (by kernel_rfl) (recC_42 _ HMN.out))
    try simp only [Act.put, List.setIfInBounds_toArray, List.set_cons_zero, List.set_cons_succ]
    refine wpG_takeA 3 (v := ?_) ?_ hHeld ?_
    rotate_left
    · (intro w hS; (clear hS; go_simp); try with_reducible rfl)
    try simp only [Act.put, List.setIfInBounds_toArray, List.set_cons_zero, List.set_cons_succ]
    refine wpG_takeA 5 (v := ?_) ?_ hHeld ?_
    rotate_left
    · (intro w hS; (clear hS; go_simp); try with_reducible rfl)
    try simp only [Act.put, List.setIfInBounds_toArray, List.set_cons_zero, List.set_cons_succ]
    refine wpG_takeA 6 (v := .int .i64 r.asz) ?_ hHeld ?_
    · (intro w hS; first | exact kr_load_cell hS _ _ (by rfl) (by rfl) Has.auto (by kernel_rfl) (recC_43 _ HMN.out))
    try simp only [Act.put, List.setIfInBounds_toArray, List.set_cons_zero, List.set_cons_succ]
    refine wpG_takeA 7 (v := ?_) ?_ hHeld ?_
    rotate_left
    · (intro w hS; (clear hS; go_simp); try with_reducible rfl)
    try simp only [Act.put, List.setIfInBounds_toArray, List.set_cons_zero, List.set_cons_succ]
    refine wpG_oneA 4 (fun K9 hK => ?_)
    go_simp
    (go_at_call 47; (with_reducible refine (putK 4 _ 4 K (RdS.own O Seg.auto) (by omega) rfl (by omega) (by omega)).mono ?_); clear K; rintro e w1 ⟨A1, c1, X1, rfl, O, K⟩)
    refine hK.out _ _ (K.cov Cov.auto) (fun hHeld => ?_)
    clear hK K9
    try simp only [Act.put, List.setIfInBounds_toArray, List.set_cons_zero, List.set_cons_succ]
    refine wpG_oneA 8 (fun K9 hK => ?_)
    go_simp
    (go_at_call 47; (with_reducible refine (putK 4 _ 4 K (RdS.own O Seg.auto) (by omega) rfl (by omega) (by omega)).mono ?_); clear K; rintro e w1 ⟨A1, c1, X1, rfl, O, K⟩)
    refine hK.out _ _ (K.cov Cov.auto) (fun hHeld => ?_)
    clear hK K9
    try simp only [Act.put, List.setIfInBounds_toArray, List.set_cons_zero, List.set_cons_succ]
    refine wpG_takeA 9 (v := ?_) ?_ hHeld ?_
    rotate_left
    · (intro w hS; (clear hS; go_simp); try with_reducible rfl)
    try simp only [Act.put, List.setIfInBounds_toArray, List.set_cons_zero, List.set_cons_succ]
    refine wpG_done (by kernel_rfl) ?_
    skip
    go_upto_region 10 with (fail)
    replace O : OwnL 5 1 A1 91 c1 ((recB r).map (Value.int .u8)) X1 := by simpa only [recB, List.append_assoc, List.cons_append, List.nil_append] using O
    have K2 : Known w0 _ (X1 ++ L) := K.cov Cov.auto
    clear K hHeld
    have K := K2
    clear K2
    have hcc := O.le
    have hc9 := O.cap
    go_wp2_with (first | (go_at_call 43; (with_reducible refine (sum_any K (RdS.own O Seg.auto) hcc hc9 HRB.out (by omega)).mono ?_); clear K; rintro e w1 ⟨rfl, K⟩) | ((with_reducible refine at_slot (N := 5) rfl ?_); (with_reducible refine at_alloc rfl ?_); refine wpList_does rfl (kd_alloc (z := (.agg (u8s (List.replicate 32 0)))) K _ rfl (by kernel_rfl)) ?_; clear K; rintro _ w1 ⟨gs, rfl, K⟩; (try dsimp only [Value.cells] at K)) | ((with_reducible refine at_store rfl ?_); refine wpList_does (by rfl) (kd_store_row K _ _ _ (by rfl) (by rfl) (by rfl) Repl.auto (by rw [u8s_size, shaL_len]; kernel_rfl) (by rw [u8s_size, u8s_size, shaL_len]; rfl) (u8s_one _)) ?_; clear K; intro _ w1 K; (try simp only [Act.put])) | ((with_reducible refine at_slice (l := none) (h := some _) rfl ?_); refine wpList_reads rfl (kr_slice_arr rfl rfl (0) (8) (.inl ⟨rfl, rfl⟩) (.inr rfl) (by omega) (by omega) Try.underlying39 (by kernel_rfl)) ?_) | (at_builtin; refine wpList_does rfl (kd_appendN K _ _ rfl rfl rfl (by with_reducible assumption) Seg.auto (Rd.ofBlk (n := 8) (xs := (shaL (recB r)).take 8) (K.blk Has.auto) (by simp [shaL_len]) (by simp [u8s])) (by kernel_rfl) (by kernel_rfl) (by omega)) ?_; clear K; rintro _ w1 ⟨A2, c2, X2, rfl, O2, K⟩; (try simp only [Nat.zero_add, List.nil_append] at O2)))
    go_ret2
    exact ⟨A2, c2, X2, rfl, O2, K.cov Cov.auto⟩
  refine AllG.consA (fun K9 hK => ?_) ?_
  · skip
    refine st_does (by rfl) (kd_lits K _ _ _ (by rfl) (by first | rfl | (go_simp; done) | (go_simp; rfl)) (by first | rfl | (go_simp; done) | (go_simp; rfl))) ?_
    clear K; rintro _ w1 ⟨g, rfl, K⟩
    refine hK.out _ _ (K.cov Cov.auto) (fun hHeld => ?_)
    clear hK K9
    try simp only [Act.put, List.setIfInBounds_toArray, List.set_cons_zero, List.set_cons_succ]
    refine wpG_oneA 4 (fun K9 hK => ?_)
    go_simp
    (go_at_call 47; (with_reducible refine (putK 4 _ 4 K (RdS.own O Seg.auto) (by omega) rfl (by omega) (by omega)).mono ?_); clear K; rintro e w1 ⟨A1, c1, X1, rfl, O, K⟩)
    refine hK.out _ _ (K.cov Cov.auto) (fun hHeld => ?_)
    clear hK K9
    try simp only [Act.put, List.setIfInBounds_toArray, List.set_cons_zero, List.set_cons_succ]
    refine wpG_oneA 10 (fun K9 hK => ?_)
    refine st_does (by rfl) (kd_appendN K _ _ (by rfl) (by rfl) (by rfl) (by with_reducible assumption) Seg.auto (Rd.ofBlk (n := 2) (xs := [_, _]) (K.blk Has.auto) rfl rfl) (by kernel_rfl) (by kernel_rfl) (by omega)) ?_
    clear K; rintro _ w1 ⟨A1, c1, X1, rfl, O, K⟩; (try simp only [Nat.zero_add, List.nil_append] at O)
    refine hK.out _ _ (K.cov Cov.auto) (fun hHeld => ?_)
    clear hK K9
    try simp only [Act.put, List.setIfInBounds_toArray, List.set_cons_zero, List.set_cons_succ]
    refine wpG_takeA 11 (v := ?_) ?_ hHeld ?_
    rotate_left
    · (intro w hS; (clear hS; go_simp); try with_reducible rfl)
    try simp only [Act.put, List.setIfInBounds_toArray, List.set_cons_zero, List.set_cons_succ]
    refine wpG_done (by kernel_rfl) ?_
    go_upto_region 6 with (fail)
    refine wp_region_GK (X := [row gr (recC r) 41]) K Cov.auto (by kernel_rfl) (by kernel_rfl) (by kernel_rfl) (fun K hHeld => ?_)
    refine wpG_takeA 0 (v := ?_) ?_ hHeld ?_
    rotate_left
    · (intro w hS; (clear hS; go_simp); try with_reducible rfl)
    try simp only [Act.put, List.setIfInBounds_toArray, List.set_cons_zero, List.set_cons_succ]
    refine wpG_takeA 1 (v := ?_) ?_ hHeld ?_
    rotate_left
    · (intro w hS; (clear hS; go_simp); try with_reducible rfl)
    try simp only [Act.put, List.setIfInBounds_toArray, List.set_cons_zero, List.set_cons_succ]
    refine wpG_takeA 2 (v := .slice (some ⟨gr, 6, none⟩) 32 32) ?_ hHeld ?_
    · (intro w hS; first | exact kr_slice_arr_lt (N := 32) (by rfl) (by rfl) 0 32 (.inl ⟨rfl, rfl⟩) (.inl ⟨rfl, rfl⟩) (by omega) (by omega) (by omega) Try.underlying39 (by kernel_rfl))
    try simp only [Act.put, List.setIfInBounds_toArray, List.set_cons_zero, List.set_cons_succ]
    refine wpG_takeA 4 (v := ?_) ?_ hHeld ?_
    rotate_left
    · (intro w hS; (clear hS; go_simp); try with_reducible rfl)
    try simp only [Act.put, List.setIfInBounds_toArray, List.set_cons_zero, List.set_cons_succ]
    refine wpG_takeA 5 (v := .int .u64 r.nver) ?_ hHeld ?_
    · (intro w hS; first | exact kr_load_cell hS _ _ (by rfl) (by rfl) Has.auto (by kernel_rfl) (recC_38 _ HMN.out))
    try simp only [Act.put, List.setIfInBounds_toArray, List.set_cons_zero, List.set_cons_succ]
    refine wpG_oneA 3 (fun K9 hK => ?_)
    refine st_does (by rfl) (kd_appendN K _ _ (by rfl) (by rfl) (by rfl) (by with_reducible assumption) Seg.auto (Rd.ofBlk (K.blk Has.auto) HMN.out (recC_man r HMN.out)) (by kernel_rfl) (by kernel_rfl) (by omega)) ?_
    clear K; rintro _ w1 ⟨A1, c1, X1, rfl, O, K⟩; (try simp only [Nat.zero_add, List.nil_append] at O)
    refine hK.out _ _ (K.cov Cov.auto) (fun hHeld => ?_)
    clear hK K9
    try simp only [Act.put, List.setIfInBounds_toArray, List.set_cons_zero, List.set_cons_succ]
    refine wpG_oneA 6 (fun K9 hK => ?_)
    go_simp
    (go_at_call 47; (with_reducible refine (putK 8 _ 8 K (RdS.own O Seg.auto) (by omega) rfl (by omega) (by omega)).mono ?_); clear K; rintro e w1 ⟨A1, c1, X1, rfl, O, K⟩)
    refine hK.out _ _ (K.cov Cov.auto) (fun hHeld => ?_)
    clear hK K9
    try simp only [Act.put, List.setIfInBounds_toArray, List.set_cons_zero, List.set_cons_succ]
    refine wpG_takeA 7 (v := ?_) ?_ hHeld ?_
    rotate_left
    · (intro w hS; (clear hS; go_simp); try with_reducible rfl)
    try simp only [Act.put, List.setIfInBounds_toArray, List.set_cons_zero, List.set_cons_succ]
    refine wpG_done (by kernel_rfl) ?_
    skip
    go_upto_region 7 with (fail)
    refine wp_region_GK (X := [row gr (recC r) 41]) K Cov.auto (by kernel_rfl) (by kernel_rfl) (by kernel_rfl) (fun K hHeld => ?_)
    refine wpG_takeA 0 (v := ?_) ?_ hHeld ?_
    rotate_left
    · (intro w hS; (clear hS; go_simp); try with_reducible rfl)
    try simp only [Act.put, List.setIfInBounds_toArray, List.set_cons_zero, List.set_cons_succ]
    refine wpG_takeA 1 (v := ?_) ?_ hHeld ?_
    rotate_left
    · (intro w hS; (clear hS; go_simp); try with_reducible rfl)
    try simp only [Act.put, List.setIfInBounds_toArray, List.set_cons_zero, List.set_cons_succ]
    refine wpG_takeA 2 (v := .int .i64 r.nlen) ?_ hHeld ?_
    · (intro w hS; first | exact kr_load_cell hS _ _ (by rfl) (by rfl) Has.auto (by kernel_rfl) (recC_39 _ HMN.out))
    try simp only [Act.put, List.setIfInBounds_toArray, List.set_cons_zero, List.set_cons_succ]
    refine wpG_takeA 3 (v := ?_) ?_ hHeld ?_
    rotate_left
    · (intro w hS; (clear hS; go_simp); try with_reducible rfl)
    try simp only [Act.put, List.setIfInBounds_toArray, List.set_cons_zero, List.set_cons_succ]
    refine wpG_takeA 5 (v := ?_) ?_ hHeld ?_
    rotate_left
    · (intro w hS; (clear hS; go_simp); try with_reducible rfl)
    try simp only [Act.put, List.setIfInBounds_toArray, List.set_cons_zero, List.set_cons_succ]
    refine wpG_takeA 6 (v := .int .i64 r.done) ?_ hHeld ?_
    · (intro w hS; first | exact kr_load_cell hS _ _ (by rfl) (by rfl) Has.auto (by kernel_rfl) (recC_40 _ HMN.out))
    try simp only [Act.put, List.setIfInBounds_toArray, List.set_cons_zero, List.set_cons_succ]
    refine wpG_takeA 7 (v := ?_) ?_ hHeld ?_
    rotate_left
    · (intro w hS; (clear hS; go_simp); try with_reducible rfl)
    try simp only [Act.put, List.setIfInBounds_toArray, List.set_cons_zero, List.set_cons_succ]
    refine wpG_oneA 4 (fun K9 hK => ?_)
    go_simp
    (go_at_call 47; (with_reducible refine (putK 4 _ 4 K (RdS.own O Seg.auto) (by omega) rfl (by omega) (by omega)).mono ?_); clear K; rintro e w1 ⟨A1, c1, X1, rfl, O, K⟩)
    refine hK.out _ _ (K.cov Cov.auto) (fun hHeld => ?_)
    clear hK K9
    try simp only [Act.put, List.setIfInBounds_toArray, List.set_cons_zero, List.set_cons_succ]
    refine wpG_oneA 8 (fun K9 hK => ?_)
    go_simp
    (go_at_call 47; (with_reducible refine (putK 4 _ 4 K (RdS.own O Seg.auto) (by omega) rfl (by omega) (by omega)).mono ?_); clear K; rintro e w1 ⟨A1, c1, X1, rfl, O, K⟩)
    refine hK.out _ _ (K.cov Cov.auto) (fun hHeld => ?_)
    clear hK K9
    try simp only [Act.put, List.setIfInBounds_toArray, List.set_cons_zero, List.set_cons_succ]
    refine wpG_takeA 9 (v := ?_) ?_ hHeld ?_
    rotate_left
    · (intro w hS; (clear hS; go_simp); try with_reducible rfl)
    try simp only [Act.put, List.setIfInBounds_toArray, List.set_cons_zero, List.set_cons_succ]
    refine wpG_done (by kernel_rfl) ?_
    skip
    go_upto_region 9 with ((first | ((with_reducible refine at_load rfl ?_); refine wpList_reads (by rfl) (kr_load_cell K _ _ (by rfl) (by rfl) Has.auto (by kernel_rfl) (recC_41 _ HMN.out)) ?_) | (go_at_call 47; (with_reducible refine (putK 8 _ 8 K (RdS.own O Seg.auto) (by omega) rfl (by omega) (by omega)).mono ?_); clear K; rintro e w1 ⟨A1, c1, X1, rfl, ON, K⟩; replace O := ON; clear ON)))
    refine wp_region_GK (X := [row gr (recC r) 41]) K Cov.auto (by kernel_rfl) (by kernel_rfl) (by kernel_rfl) (fun K hHeld => ?_)
    refine wpG_takeA 0 (v := ?_) ?_ hHeld ?_
    rotate_left
    · (intro w hS; (clear hS; go_simp); try with_reducible rfl)
    try simp only [Act.put, List.setIfInBounds_toArray, List.set_cons_zero, List.set_cons_succ]
    refine wpG_takeA 1 (v := ?_) ?_ hHeld ?_
    rotate_left
    · (intro w hS; (clear hS; go_simp); try with_reducible rfl)
    try simp only [Act.put, List.setIfInBounds_toArray, List.set_cons_zero, List.set_cons_succ]
    refine wpG_takeA 2 (v := .int .i64 r.blk) ?_ hHeld ?_
    · (intro w hS; first | exact kr_load_cell hS _ _ (by rfl) (by rfl) Has.auto (by kernel_rfl) (recC_42 _ HMN.out))
    try simp only [Act.put, List.setIfInBounds_toArray, List.set_cons_zero, List.set_cons_succ]
    refine wpG_takeA 3 (v := ?_) ?_ hHeld ?_
    rotate_left
    · (intro w hS; (clear hS; go_simp); try with_reducible rfl)
    try simp only [Act.put, List.setIfInBounds_toArray, List.set_cons_zero, List.set_cons_succ]
    refine wpG_takeA 5 (v := ?_) ?_ hHeld ?_
    rotate_left
    · (intro w hS; (clear hS; go_simp); try with_reducible rfl)
    try simp only [Act.put, List.setIfInBounds_toArray, List.set_cons_zero, List.set_cons_succ]
    refine wpG_takeA 6 (v := .int .i64 r.asz) ?_ hHeld ?_
    · (intro w hS; first | exact kr_load_cell hS _ _ (by rfl) (by rfl) Has.auto (by kernel_rfl) (recC_43 _ HMN.out))
    try simp only [Act.put, List.setIfInBounds_toArray, List.set_cons_zero, List.set_cons_succ]
    refine wpG_takeA 7 (v := ?_) ?_ hHeld ?_
    rotate_left
    · (intro w hS; (clear hS; go_simp); try with_reducible rfl)
    try simp only [Act.put, List.setIfInBounds_toArray, List.set_cons_zero, List.set_cons_succ]
    refine wpG_oneA 4 (fun K9 hK => ?_)
    go_simp
    (go_at_call 47; (with_reducible refine (putK 4 _ 4 K (RdS.own O Seg.auto) (by omega) rfl (by omega) (by omega)).mono ?_); clear K; rintro e w1 ⟨A1, c1, X1, rfl, O, K⟩)
    refine hK.out _ _ (K.cov Cov.auto) (fun hHeld => ?_)
    clear hK K9
    try simp only [Act.put, List.setIfInBounds_toArray, List.set_cons_zero, List.set_cons_succ]
    refine wpG_oneA 8 (fun K9 hK => ?_)
    go_simp
    (go_at_call 47; (with_reducible refine (putK 4 _ 4 K (RdS.own O Seg.auto) (by omega) rfl (by omega) (by omega)).mono ?_); clear K; rintro e w1 ⟨A1, c1, X1, rfl, O, K⟩)
    refine hK.out _ _ (K.cov Cov.auto) (fun hHeld => ?_)
    clear hK K9
    try simp only [Act.put, List.setIfInBounds_toArray, List.set_cons_zero, List.set_cons_succ]
    refine wpG_takeA 9 (v := ?_) ?_ hHeld ?_
    rotate_left
    · (intro w hS; (clear hS; go_simp); try with_reducible rfl)
    try simp only [Act.put, List.setIfInBounds_toArray, List.set_cons_zero, List.set_cons_succ]
    refine wpG_done (by kernel_rfl) ?_
    skip
    go_upto_region 10 with (fail)
    replace O : OwnL 5 1 A1 91 c1 ((recB r).map (Value.int .u8)) X1 := by simpa only [recB, List.append_assoc, List.cons_append, List.nil_append] using O
    have K2 : Known w0 _ (X1 ++ L) := K.cov Cov.auto
    clear K hHeld
    have K := K2
    clear K2
    have hcc := O.le
    have hc9 := O.cap
    go_wp2_with (first | (go_at_call 43; (with_reducible refine (sum_any K (RdS.own O Seg.auto) hcc hc9 HRB.out (by omega)).mono ?_); clear K; rintro e w1 ⟨rfl, K⟩) | ((with_reducible refine at_slot (N := 5) rfl ?_); (with_reducible refine at_alloc rfl ?_); refine wpList_does rfl (kd_alloc (z := (.agg (u8s (List.replicate 32 0)))) K _ rfl (by kernel_rfl)) ?_; clear K; rintro _ w1 ⟨gs, rfl, K⟩; (try dsimp only [Value.cells] at K)) | ((with_reducible refine at_store rfl ?_); refine wpList_does (by rfl) (kd_store_row K _ _ _ (by rfl) (by rfl) (by rfl) Repl.auto (by rw [u8s_size, shaL_len]; kernel_rfl) (by rw [u8s_size, u8s_size, shaL_len]; rfl) (u8s_one _)) ?_; clear K; intro _ w1 K; (try simp only [Act.put])) | ((with_reducible refine at_slice (l := none) (h := some _) rfl ?_); refine wpList_reads rfl (kr_slice_arr rfl rfl (0) (8) (.inl ⟨rfl, rfl⟩) (.inr rfl) (by omega) (by omega) Try.underlying39 (by kernel_rfl)) ?_) | (at_builtin; refine wpList_does rfl (kd_appendN K _ _ rfl rfl rfl (by with_reducible assumption) Seg.auto (Rd.ofBlk (n := 8) (xs := (shaL (recB r)).take 8) (K.blk Has.auto) (by simp [shaL_len]) (by simp [u8s])) (by kernel_rfl) (by kernel_rfl) (by omega)) ?_; clear K; rintro _ w1 ⟨A2, c2, X2, rfl, O2, K⟩; (try simp only [Nat.zero_add, List.nil_append] at O2)))
    go_ret2
    exact ⟨A2, c2, X2, rfl, O2, K.cov Cov.auto⟩
  exact AllG.nil
end
end Go.Proofs.Ytfdddipmeadecaa

/-
  journal: a record out of bytes; what may not be written (contracts).
-/
set_option linter.unusedVariables false
set_option linter.unusedSimpArgs false
namespace Go.Proofs.Ytfdddipmeadecaa
open Go.RowKit
def man0 : List Int := List.replicate 32 0
def rec0 : Rec := ⟨0, 0, 0, 0, 0, 0, man0, 0, 0, 0, 0, 0, 0⟩
theorem rec0_build (w : World) : (Instr.build 41 #[]).run Try.prog w = .ok (.agg (recC rec0)) w := by kernel_rfl
def getRec (xs : List Int) : Rec := ⟨numL ((xs.drop 4).take 8), xs.getD 12 0, numL ((xs.drop 13).take 8), numL ((xs.drop 21).take 4), xs.getD 25 0, xs.getD 26 0, (xs.drop 27).take 32, numL ((xs.drop 59).take 8), numL ((xs.drop 67).take 4), numL ((xs.drop 71).take 4), numL ((xs.drop 75).take 8), numL ((xs.drop 83).take 4), numL ((xs.drop 87).take 4)⟩
/-- the record in front of bytes; the error -/
def resG (xs : List Int) : Rec × Int :=
  if xs.length < 99 then (rec0, 2) else if xs.take 4 ≠ markL then (rec0, 3) else if (shaL (xs.take 91)).take 8 ≠ (xs.drop 91).take 8 then (rec0, 10) else if mayR (getRec xs) then (getRec xs, 0) else (rec0, 3)
theorem getRec_man (xs : List Int) (h : 99 ≤ xs.length) : (getRec xs).man.length = 32 := by
  show ((xs.drop 27).take 32).length = 32
  simp
  omega
theorem recC_set38 {a0 a1 a2 a3 a4 a5 : Int} {m : List Int} {a6 a7 a8 a9 a10 a11 : Int} (v : Int) (h : m.length = 32) : (recC ⟨a0, a1, a2, a3, a4, a5, m, a6, a7, a8, a9, a10, a11⟩).set! 38 (.int .u64 v) = recC ⟨a0, a1, a2, a3, a4, a5, m, v, a7, a8, a9, a10, a11⟩ := by
  apply Array.ext_getElem?
  intro i
  simp only [Array.set!_eq_setIfInBounds, recC, List.setIfInBounds_toArray, List.getElem?_toArray]
  rw [List.set_append_right _ _ (by simp), List.set_append_right _ _ (by simp [h])]
  simp [h]
theorem recC_set39 {a0 a1 a2 a3 a4 a5 : Int} {m : List Int} {a6 a7 a8 a9 a10 a11 : Int} (v : Int) (h : m.length = 32) : (recC ⟨a0, a1, a2, a3, a4, a5, m, a6, a7, a8, a9, a10, a11⟩).set! 39 (.int .i64 v) = recC ⟨a0, a1, a2, a3, a4, a5, m, a6, v, a8, a9, a10, a11⟩ := by
  apply Array.ext_getElem?
  intro i
  simp only [Array.set!_eq_setIfInBounds, recC, List.setIfInBounds_toArray, List.getElem?_toArray]
  rw [List.set_append_right _ _ (by simp), List.set_append_right _ _ (by simp [h])]
  simp [h]
theorem recC_set40 {a0 a1 a2 a3 a4 a5 : Int} {m : List Int} {a6 a7 a8 a9 a10 a11 : Int} (v : Int) (h : m.length = 32) : (recC ⟨a0, a1, a2, a3, a4, a5, m, a6, a7, a8, a9, a10, a11⟩).set! 40 (.int .i64 v) = recC ⟨a0, a1, a2, a3, a4, a5, m, a6, a7, v, a9, a10, a11⟩ := by
  apply Array.ext_getElem?
  intro i
  simp only [Array.set!_eq_setIfInBounds, recC, List.setIfInBounds_toArray, List.getElem?_toArray]
  rw [List.set_append_right _ _ (by simp), List.set_append_right _ _ (by simp [h])]
  simp [h]
theorem recC_set41 {a0 a1 a2 a3 a4 a5 : Int} {m : List Int} {a6 a7 a8 a9 a10 a11 : Int} (v : Int) (h : m.length = 32) : (recC ⟨a0, a1, a2, a3, a4, a5, m, a6, a7, a8, a9, a10, a11⟩).set! 41 (.int .u64 v) = recC ⟨a0, a1, a2, a3, a4, a5, m, a6, a7, a8, v, a10, a11⟩ := by
  apply Array.ext_getElem?
  intro i
  simp only [Array.set!_eq_setIfInBounds, recC, List.setIfInBounds_toArray, List.getElem?_toArray]
  rw [List.set_append_right _ _ (by simp), List.set_append_right _ _ (by simp [h])]
  simp [h]
theorem recC_set42 {a0 a1 a2 a3 a4 a5 : Int} {m : List Int} {a6 a7 a8 a9 a10 a11 : Int} (v : Int) (h : m.length = 32) : (recC ⟨a0, a1, a2, a3, a4, a5, m, a6, a7, a8, a9, a10, a11⟩).set! 42 (.int .i64 v) = recC ⟨a0, a1, a2, a3, a4, a5, m, a6, a7, a8, a9, v, a11⟩ := by
  apply Array.ext_getElem?
  intro i
  simp only [Array.set!_eq_setIfInBounds, recC, List.setIfInBounds_toArray, List.getElem?_toArray]
  rw [List.set_append_right _ _ (by simp), List.set_append_right _ _ (by simp [h])]
  simp [h]
theorem recC_set43 {a0 a1 a2 a3 a4 a5 : Int} {m : List Int} {a6 a7 a8 a9 a10 a11 : Int} (v : Int) (h : m.length = 32) : (recC ⟨a0, a1, a2, a3, a4, a5, m, a6, a7, a8, a9, a10, a11⟩).set! 43 (.int .i64 v) = recC ⟨a0, a1, a2, a3, a4, a5, m, a6, a7, a8, a9, a10, v⟩ := by
  apply Array.ext_getElem?
  intro i
  simp only [Array.set!_eq_setIfInBounds, recC, List.setIfInBounds_toArray, List.getElem?_toArray]
  rw [List.set_append_right _ _ (by simp), List.set_append_right _ _ (by simp [h])]
  simp [h]

theorem recC_lt (r : Rec) (h : r.man.length = 32) {i : Nat} (hi : i < 44) : decide (i < (recC r).size) = true := by
  rw [recC_size r h]; exact decide_eq_true hi
def recSet (r : Rec) (i : Nat) (v : Int) : Rec := if i = 38 then { r with nver := v } else if i = 39 then { r with nlen := v } else if i = 40 then { r with done := v } else if i = 41 then { r with pos := v } else if i = 42 then { r with blk := v } else { r with asz := v }
def recKind (i : Nat) : Option IntKind := if i = 38 then some .u64 else if i = 39 then some .i64 else if i = 40 then some .i64 else if i = 41 then some .u64 else if i = 42 then some .i64 else if i = 43 then some .i64 else none
theorem recC_set (r : Rec) (i : Nat) (k : IntKind) (v : Int) (hk : recKind i = some k) (h : r.man.length = 32) : (recC r).set! i (.int k v) = recC (recSet r i v) := by
  obtain ⟨a0, a1, a2, a3, a4, a5, m, a6, a7, a8, a9, a10, a11⟩ := r
  unfold recKind at hk
  by_cases h0 : i = 38
  · subst h0; rw [if_pos rfl] at hk; cases hk; exact recC_set38 v h
  rw [if_neg h0] at hk
  by_cases h1 : i = 39
  · subst h1; rw [if_pos rfl] at hk; cases hk; exact recC_set39 v h
  rw [if_neg h1] at hk
  by_cases h2 : i = 40
  · subst h2; rw [if_pos rfl] at hk; cases hk; exact recC_set40 v h
  rw [if_neg h2] at hk
  by_cases h3 : i = 41
  · subst h3; rw [if_pos rfl] at hk; cases hk; exact recC_set41 v h
  rw [if_neg h3] at hk
  by_cases h4 : i = 42
  · subst h4; rw [if_pos rfl] at hk; cases hk; exact recC_set42 v h
  rw [if_neg h4] at hk
  by_cases h5 : i = 43
  · subst h5; rw [if_pos rfl] at hk; cases hk; exact recC_set43 v h
  rw [if_neg h5] at hk
  cases hk
theorem recSet_38 {a0 a1 a2 a3 a4 a5 : Int} {m : List Int} {a6 a7 a8 a9 a10 a11 : Int} (v : Int) : recSet ⟨a0, a1, a2, a3, a4, a5, m, a6, a7, a8, a9, a10, a11⟩ 38 v = ⟨a0, a1, a2, a3, a4, a5, m, v, a7, a8, a9, a10, a11⟩ := rfl
theorem recSet_39 {a0 a1 a2 a3 a4 a5 : Int} {m : List Int} {a6 a7 a8 a9 a10 a11 : Int} (v : Int) : recSet ⟨a0, a1, a2, a3, a4, a5, m, a6, a7, a8, a9, a10, a11⟩ 39 v = ⟨a0, a1, a2, a3, a4, a5, m, a6, v, a8, a9, a10, a11⟩ := rfl
theorem recSet_40 {a0 a1 a2 a3 a4 a5 : Int} {m : List Int} {a6 a7 a8 a9 a10 a11 : Int} (v : Int) : recSet ⟨a0, a1, a2, a3, a4, a5, m, a6, a7, a8, a9, a10, a11⟩ 40 v = ⟨a0, a1, a2, a3, a4, a5, m, a6, a7, v, a9, a10, a11⟩ := rfl
theorem recSet_41 {a0 a1 a2 a3 a4 a5 : Int} {m : List Int} {a6 a7 a8 a9 a10 a11 : Int} (v : Int) : recSet ⟨a0, a1, a2, a3, a4, a5, m, a6, a7, a8, a9, a10, a11⟩ 41 v = ⟨a0, a1, a2, a3, a4, a5, m, a6, a7, a8, v, a10, a11⟩ := rfl
theorem recSet_42 {a0 a1 a2 a3 a4 a5 : Int} {m : List Int} {a6 a7 a8 a9 a10 a11 : Int} (v : Int) : recSet ⟨a0, a1, a2, a3, a4, a5, m, a6, a7, a8, a9, a10, a11⟩ 42 v = ⟨a0, a1, a2, a3, a4, a5, m, a6, a7, a8, a9, v, a11⟩ := rfl
theorem recSet_43 {a0 a1 a2 a3 a4 a5 : Int} {m : List Int} {a6 a7 a8 a9 a10 a11 : Int} (v : Int) : recSet ⟨a0, a1, a2, a3, a4, a5, m, a6, a7, a8, a9, a10, a11⟩ 43 v = ⟨a0, a1, a2, a3, a4, a5, m, a6, a7, a8, a9, a10, v⟩ := rfl

theorem recC_copy {a0 a1 a2 a3 a4 a5 : Int} {m : List Int} {a6 a7 a8 a9 a10 a11 : Int} (ys : List Int) (h : m.length = 32) (hy : ys.length = 32) : splice (recC ⟨a0, a1, a2, a3, a4, a5, m, a6, a7, a8, a9, a10, a11⟩) 6 (ys.map (Value.int .u8)) = recC ⟨a0, a1, a2, a3, a4, a5, ys, a6, a7, a8, a9, a10, a11⟩ := by
  simp [splice, recC, h, hy]
theorem build_rec (a0 a1 a2 a3 a4 a5 : Int) (w : World) : (Instr.build 41 #[(0, .int .u64 a0), (1, .int .u8 a1), (2, .int .u64 a2), (3, .int .i64 a3), (4, .int .u8 a4), (5, .int .u8 a5)]).run Try.prog w = .ok (.agg (recC ⟨a0, a1, a2, a3, a4, a5, man0, 0, 0, 0, 0, 0, 0⟩)) w := by kernel_rfl
section
variable {w0 w : World} {L : List Ent} {r : Rec}


set_option maxRecDepth 100000 in
theorem jput_no (K : Known w0 w L) (hv : mayR r = false) (hm : r.man.length = 32) :
    Calls Try.prog 26 #[.agg (recC r)] w fun e w' => e = .returned (.tuple #[.slice none 0 0, .int .i64 3]) ∧ Known w0 w' L := by
  go_enter Try.func26, Try.ntmps26
  go_wp2_with (first | ((with_reducible refine at_load (t := 41) rfl ?_); refine wpList_reads (by rfl) (kr_load_row K _ _ (by rfl) (by rfl) Has.auto (by kernel_rfl) (by rw [recC_size _ (by assumption)]; kernel_rfl)) ?_) | ((with_reducible refine at_box rfl ?_); refine wpList_does rfl (kd_box K _ _ rfl (by conv => lhs; whnf)) ?_; clear K; rintro _ w1 ⟨gr, rfl, K⟩; (try dsimp only [Value.cells] at K)) | (go_at_call 46; (with_reducible refine (jmay_any K false hv hm).mono ?_); clear K; rintro e w1 ⟨rfl, K⟩))
  go_ret2
  exact ⟨rfl, K.cov Cov.auto⟩
variable {A : Option Addr} {n c : Nat} {xs : List Int}
theorem getKK (a k : Nat) (x y v : Int) (hv : numL ((xs.drop a).take k) = v) (K : Known w0 w L) (R : RdS w0 L .u8 A n xs) (hx : x = a) (hy : y = k) (h1 : 1 ≤ k) (h8 : k ≤ 8) (hak : a + k ≤ n) (hc : n ≤ c) (hm : c ≤ 9223372036854775807) (hb : ∀ b ∈ xs, 0 ≤ b ∧ b ≤ 255) :
    Calls Try.prog 58 #[.slice A n c, .int .i64 x, .int .i64 y] w fun e w' => e = .returned (.tuple #[.int .u64 v, .int .i64 0]) ∧ Known w0 w' L :=
  (getK a k x y v hv K R hx hy h1 h8 hak hc hm hb).mono (by rintro e w' ⟨h1, rfl⟩; exact ⟨h1, K⟩)
set_option maxRecDepth 100000 in
theorem number_any {L' : List Ent} {gt : Nat} {t : TypeId} (a k : Nat) (x y x' v : Int) (hv : numL ((xs.drop a).take k) = v) (K : Known w0 w L) (hr : Repl (row gt #[.slice A n c, .int .i64 x] t) (row gt #[.slice A n c, .int .i64 x'] t) L L') (R : RdS w0 L .u8 A n xs) (hx : x = a) (hy : y = k) (hx' : x' = a + k) (h1 : 1 ≤ k) (h8 : k ≤ 8) (hak : a + k ≤ n) (hc : n ≤ c) (hm : c ≤ 9223372036854775807) (hb : ∀ b ∈ xs, 0 ≤ b ∧ b ≤ 255) :
    Calls Try.prog 45 #[.pointer (some ⟨gt, 0, none⟩), .int .i64 y] w fun e w' => e = .returned (.int .u64 v) ∧ Known w0 w' L' := by
  subst hx hy hx'
  have hh : Has (row gt #[.slice A n c, .int .i64 (a : Int)] t) L := hr.has
  have e2 := IntWalk.i64_in ((a : Int) + (k : Int)) (by omega)
  go_enter Try.func45, Try.ntmps45
  go_upto_region 1 with (fail)
  refine wp_region_QLK K (by kernel_rfl) (by kernel_rfl) ?_
  clear K
  refine wpQL_A (k := 0) (v := ?_) ?_ ?_
  rotate_left
  · (intro w hS; (clear hS; go_simp); try with_reducible rfl)
  try simp only [Act.put, List.setIfInBounds_toArray, List.set_cons_zero, List.set_cons_succ]
  refine wpQL_A (k := 1) (v := ?_) ?_ ?_
  rotate_left
  · (intro w hS; (clear hS; go_simp); try with_reducible rfl)
  try simp only [Act.put, List.setIfInBounds_toArray, List.set_cons_zero, List.set_cons_succ]
  refine wpQL_A (k := 2) (v := ?_) ?_ ?_
  rotate_left
  · (intro w hS; (clear hS; go_simp); try with_reducible rfl)
  try simp only [Act.put, List.setIfInBounds_toArray, List.set_cons_zero, List.set_cons_succ]
  refine wpQL_A (k := 3) (v := .slice A n c) ?_ ?_
  · (intro w hS; exact kr_load_cell hS _ _ (by rfl) (by rfl) hh (by kernel_rfl) (by rfl))
  try simp only [Act.put, List.setIfInBounds_toArray, List.set_cons_zero, List.set_cons_succ]
  refine wpQL_A (k := 4) (v := ?_) ?_ ?_
  rotate_left
  · (intro w hS; (clear hS; go_simp); try with_reducible rfl)
  try simp only [Act.put, List.setIfInBounds_toArray, List.set_cons_zero, List.set_cons_succ]
  refine wpQL_A (k := 5) (v := ?_) ?_ ?_
  rotate_left
  · (intro w hS; (clear hS; go_simp); try with_reducible rfl)
  try simp only [Act.put, List.setIfInBounds_toArray, List.set_cons_zero, List.set_cons_succ]
  refine wpQL_A (k := 6) (v := ?_) ?_ ?_
  rotate_left
  · (intro w hS; (clear hS; go_simp); try with_reducible rfl)
  try simp only [Act.put, List.setIfInBounds_toArray, List.set_cons_zero, List.set_cons_succ]
  refine wpQL_A (k := 7) (v := .int .i64 (a : Int)) ?_ ?_
  · (intro w hS; exact kr_load_cell hS _ _ (by rfl) (by rfl) hh (by kernel_rfl) (by rfl))
  try simp only [Act.put, List.setIfInBounds_toArray, List.set_cons_zero, List.set_cons_succ]
  refine wpQL_A (k := 8) (v := ?_) ?_ ?_
  rotate_left
  · (intro w hS; (clear hS; go_simp); try with_reducible rfl)
  try simp only [Act.put, List.setIfInBounds_toArray, List.set_cons_zero, List.set_cons_succ]
  refine wpQL_step (k := 9) (x := { dst := some 17, op := Op.call { callee := Callee.value (Operand.func 58), args := #[Operand.tmp 11, Operand.tmp 15, Operand.tmp 16], argTypes := #[46, 3, 3] }, type := 114, pos := "journal.go:54", after := #[{ on := 3, ground := Ground.data }, { on := 7, ground := Ground.data }, { on := 8, ground := Ground.data }], guard := none }) (v := .tuple #[.int .u64 v, .int .i64 0]) rfl (by kernel_rfl) (by rfl) ?_ ?_
  · intro w hS
    refine quiet_call (f := 58) (args := ?_) ?_ ?_
    rotate_left
    · (go_simp; try with_reducible rfl)
    · exact (getKK a k (a : Int) (k : Int) v hv hS R rfl rfl h1 h8 hak hc hm hb)
  try simp only [Act.put, List.setIfInBounds_toArray, List.set_cons_zero, List.set_cons_succ]
  refine wpQL_A (k := 10) (v := ?_) ?_ ?_
  rotate_left
  · (intro w hS; (clear hS; go_simp); try with_reducible rfl)
  try simp only [Act.put, List.setIfInBounds_toArray, List.set_cons_zero, List.set_cons_succ]
  refine wpQL_A (k := 11) (v := ?_) ?_ ?_
  rotate_left
  · (intro w hS; (clear hS; go_simp); try with_reducible rfl)
  try simp only [Act.put, List.setIfInBounds_toArray, List.set_cons_zero, List.set_cons_succ]
  refine wpQL_A (k := 12) (v := ?_) ?_ ?_
  rotate_left
  · (intro w hS; (clear hS; go_simp); try with_reducible rfl)
  try simp only [Act.put, List.setIfInBounds_toArray, List.set_cons_zero, List.set_cons_succ]
  refine wpQL_A (k := 13) (v := ?_) ?_ ?_
  rotate_left
  · (intro w hS; (clear hS; go_simp); try with_reducible rfl)
  try simp only [Act.put, List.setIfInBounds_toArray, List.set_cons_zero, List.set_cons_succ]
  refine wpQL_endA (k := 14) (fun w1 K K9 hK => ?_)
  refine st_reads (v := ?_) (by rfl) ?_ ?_
  rotate_left
  · (go_simp; try with_reducible rfl)
  refine hK.out _ _ ?_
  clear hK K9
  try simp only [Act.put, List.setIfInBounds_toArray, List.set_cons_zero, List.set_cons_succ]
  skip
  go_wp2_with (first | ((with_reducible refine at_load rfl ?_); refine wpList_reads (by rfl) (kr_load_cell K _ _ (by rfl) (by rfl) hh (by kernel_rfl) (by rfl)) ?_) | ((with_reducible refine at_store rfl ?_); (first | (refine wpList_does rfl (kd_store_cell K _ _ _ rfl rfl (by conv => lhs; whnf) hr rfl rfl (by kernel_rfl) (by kernel_rfl) (by first | (simp only [List.setIfInBounds_toArray, List.set_cons_succ, List.set_cons_zero]; rfl) | rfl)) ?_) | (refine wpList_does rfl (kd_store_row K _ _ _ rfl rfl rfl hr (by kernel_rfl) (by kernel_rfl) (by kernel_rfl)) ?_)); clear K; intro _ w1 K; (try simp only [Act.put])))
  go_ret
  exact ⟨rfl, K⟩
end
end Go.Proofs.Ytfdddipmeadecaa

/-
  journal: a record out of bytes (contracts).
-/
set_option linter.unusedVariables false
set_option linter.unusedSimpArgs false
namespace Go.Proofs.Ytfdddipmeadecaa
open Go.RowKit
section
variable {w0 w : World} {L : List Ent} {r : Rec} {A : Option Addr} {n c : Nat} {xs : List Int}
theorem man0_len : man0.length = 32 := rfl


theorem numL_one (xs : List Int) (i : Nat) (h : i < xs.length) : numL ((xs.drop i).take 1) = xs.getD i 0 := by
  have e : (xs.drop i).take 1 = [xs[i]] := by rw [List.drop_eq_getElem_cons h]; rfl
  rw [e]
  simp [numL, List.getD, h]
theorem numL_range : ∀ (k : Nat) (l : List Int), l.length ≤ k → (∀ b ∈ l, 0 ≤ b ∧ b ≤ 255) → 0 ≤ numL l ∧ numL l ≤ 256 ^ k - 1 := fun k l h hb => by
  have := numL_bound k l h hb
  omega
theorem i64_in4 (x : Int) (h : 0 ≤ x ∧ x ≤ 256 ^ 4 - 1) : IntKind.i64.wrap x = x := IntWalk.i64_in x (by
  have e : (256 : Int) ^ 4 = 4294967296 := by decide
  omega)
theorem markL_byte : ∀ b ∈ markL, 0 ≤ b ∧ b ≤ 255 := by decide
set_option maxHeartbeats 3200000 in
set_option maxRecDepth 100000 in
theorem jget_any (K : Known w0 w L) (R : RdS w0 L .u8 A n xs) (hc : n ≤ c) (hm : c ≤ 9223372036854775807) (hb : ∀ b ∈ xs, 0 ≤ b ∧ b ≤ 255) (hn9 : n ≤ 100000000) :
    Calls Try.prog 25 #[.slice A n c] w fun e w' => e = .returned (.tuple #[.agg (recC (resG xs).1), .int .i64 (resG xs).2]) ∧ Known w0 w' L := by
  have hxl := R.len
  by_cases h99 : n < 99
  · have HRES := Lib.hid (show resG xs = (rec0, 2) by rw [resG, if_pos (by omega)])
    have h99' : (n : Int) < 99 := by omega
    clear hxl
    go_enter Try.func25, Try.ntmps25
    go_wp2_with (first | ((with_reducible refine at_build (t := 41) rfl ?_); refine ev_build0 rfl 41 rfl (rec0_build _) ?_) | ((with_reducible refine at_slot (N := 2) rfl ?_); (with_reducible refine at_alloc rfl ?_); refine wpList_does rfl (kd_alloc (z := (.agg (recC rec0))) K _ rfl (by kernel_rfl)) ?_; clear K; rintro _ w1 ⟨go, rfl, K⟩; (try dsimp only [Value.cells] at K)) | ((with_reducible refine at_store rfl ?_); refine wpList_does (by rfl) (kd_store_row K _ _ _ (by rfl) (by rfl) (by rfl) Repl.auto (by rw [recC_size _ (by first | exact man0_len | assumption)]; kernel_rfl) (by first | (rw [recC_size _ man0_len, recC_size _ (by assumption)]; rfl) | (rw [recC_size _ man0_len]; rfl)) (recC_one _)) ?_; clear K; intro _ w1 K; (try simp only [Act.put])))
    exact bodyPost_cell2K K (by rfl) (by rfl) (by rfl) Has.auto (by kernel_rfl) (by rw [recC_size _ (by first | exact man0_len | assumption)]; kernel_rfl) rfl ⟨by rw [HRES.out]; rfl, K.cov Cov.auto⟩
  · have RC4 := R.cut 0 4 (by omega) hc
    rw [List.drop_zero] at RC4
    have RC91 := R.cut 0 91 (by omega) hc
    rw [List.drop_zero] at RC91
    have RC8 := R.cut 91 8 (by omega) hc
    have HB4 := Lib.hid (show ∀ b ∈ xs.take 4, 0 ≤ b ∧ b ≤ 255 from fun b h => hb b (List.mem_of_mem_take h))
    have HB91 := Lib.hid (show ∀ b ∈ xs.take 91, 0 ≤ b ∧ b ≤ 255 from fun b h => hb b (List.mem_of_mem_take h))
    by_cases h4 : xs.take 4 = markL
    · have HEQ4 := Lib.hid (show (xs.take 4 == markL) = true by rw [h4]; rfl)
      by_cases h8 : (shaL (xs.take 91)).take 8 = (xs.drop 91).take 8
      · have hee : ((xs.drop 91).take 8 == (shaL (xs.take 91)).take 8) = true := by rw [h8]; simp
        have h99' : ¬ ((n : Int) < 99) := by omega
        have HE8 := Lib.hid hee
        obtain ⟨r, hr⟩ : ∃ r, r = getRec xs := ⟨_, rfl⟩
        have HMN := Lib.hid (show r.man.length = 32 by rw [hr]; exact getRec_man xs (by omega))
        have HMV := Lib.hid (show (xs.drop 27).take 32 = r.man by rw [hr]; rfl)
        have HRG := Lib.hid (show resG xs = if mayR r then (r, 0) else (rec0, 3) by rw [resG, if_neg (by omega), if_neg (by rw [h4]; simp), if_neg (by rw [h8]; simp), hr])
        have HV_seq := Lib.hid (show numL ((xs.drop 4).take 8) = r.seq by rw [hr]; exact rfl)
        have HV_act := Lib.hid (show numL ((xs.drop 12).take 1) = r.act by rw [hr]; exact numL_one xs 12 (by omega))
        have HV_ver := Lib.hid (show numL ((xs.drop 13).take 8) = r.ver by rw [hr]; exact rfl)
        have HV_len := Lib.hid (show numL ((xs.drop 21).take 4) = r.len by rw [hr]; exact rfl)
        have HV_st := Lib.hid (show numL ((xs.drop 25).take 1) = r.st by rw [hr]; exact numL_one xs 25 (by omega))
        have HV_md := Lib.hid (show numL ((xs.drop 26).take 1) = r.md by rw [hr]; exact numL_one xs 26 (by omega))
        have HV_nver := Lib.hid (show numL ((xs.drop 59).take 8) = r.nver by rw [hr]; exact rfl)
        have HV_nlen := Lib.hid (show numL ((xs.drop 67).take 4) = r.nlen by rw [hr]; exact rfl)
        have HV_done := Lib.hid (show numL ((xs.drop 71).take 4) = r.done by rw [hr]; exact rfl)
        have HV_pos := Lib.hid (show numL ((xs.drop 75).take 8) = r.pos by rw [hr]; exact rfl)
        have HV_blk := Lib.hid (show numL ((xs.drop 83).take 4) = r.blk by rw [hr]; exact rfl)
        have HV_asz := Lib.hid (show numL ((xs.drop 87).take 4) = r.asz by rw [hr]; exact rfl)
        have i_act := IntWalk.u8_in r.act (by rw [← HV_act.out]; exact numL_range 1 _ (by simp; omega) (fun b h => hb b (List.mem_of_mem_drop (List.mem_of_mem_take h))))
        have i_len := i64_in4 r.len (by rw [← HV_len.out]; exact numL_range 4 _ (by simp; omega) (fun b h => hb b (List.mem_of_mem_drop (List.mem_of_mem_take h))))
        have i_st := IntWalk.u8_in r.st (by rw [← HV_st.out]; exact numL_range 1 _ (by simp; omega) (fun b h => hb b (List.mem_of_mem_drop (List.mem_of_mem_take h))))
        have i_md := IntWalk.u8_in r.md (by rw [← HV_md.out]; exact numL_range 1 _ (by simp; omega) (fun b h => hb b (List.mem_of_mem_drop (List.mem_of_mem_take h))))
        have i_nlen := i64_in4 r.nlen (by rw [← HV_nlen.out]; exact numL_range 4 _ (by simp; omega) (fun b h => hb b (List.mem_of_mem_drop (List.mem_of_mem_take h))))
        have i_done := i64_in4 r.done (by rw [← HV_done.out]; exact numL_range 4 _ (by simp; omega) (fun b h => hb b (List.mem_of_mem_drop (List.mem_of_mem_take h))))
        have i_blk := i64_in4 r.blk (by rw [← HV_blk.out]; exact numL_range 4 _ (by simp; omega) (fun b h => hb b (List.mem_of_mem_drop (List.mem_of_mem_take h))))
        have i_asz := i64_in4 r.asz (by rw [← HV_asz.out]; exact numL_range 4 _ (by simp; omega) (fun b h => hb b (List.mem_of_mem_drop (List.mem_of_mem_take h))))
        have HB := Lib.hid hb
        clear hxl h4 h8 hee hr hb
        go_enter Try.func25, Try.ntmps25
        go_upto_region 6 with ((first | ((with_reducible refine at_build (t := 41) rfl ?_); refine ev_build0 rfl 41 rfl (rec0_build _) ?_) | ((with_reducible refine at_slot (N := 2) rfl ?_); (with_reducible refine at_alloc rfl ?_); refine wpList_does rfl (kd_alloc (z := (.agg (recC rec0))) K _ rfl (by kernel_rfl)) ?_; clear K; rintro _ w1 ⟨go, rfl, K⟩; (try dsimp only [Value.cells] at K)) | ((with_reducible refine at_slice (l := none) (h := some _) rfl ?_); refine wpList_reads rfl (kr_cut rfl rfl (0) (91) (.inl ⟨by rfl, by omega⟩) (.inr ⟨_, _, by rfl, by rfl, by omega⟩) (by omega) (by omega) Try.underlying46 (by kernel_rfl)) ?_) | (go_at_call 43; (with_reducible refine (sum_any K (RC91.cov Cov.auto) (by omega) (by omega) HB91.out (by omega)).mono ?_); clear K; rintro e w1 ⟨rfl, K⟩) | ((with_reducible refine at_slot (N := 4) rfl ?_); (with_reducible refine at_alloc rfl ?_); refine wpList_does rfl (kd_alloc (z := (.agg (u8s (List.replicate 32 0)))) K _ rfl (by kernel_rfl)) ?_; clear K; rintro _ w1 ⟨gs, rfl, K⟩; (try dsimp only [Value.cells] at K)) | ((with_reducible refine at_store rfl ?_); refine wpList_does (by rfl) (kd_store_row K _ _ _ (by rfl) (by rfl) (by rfl) Repl.auto (by rw [u8s_size, shaL_len]; kernel_rfl) (by rw [u8s_size, u8s_size, shaL_len]; rfl) (u8s_one _)) ?_; clear K; intro _ w1 K; (try simp only [Act.put])) | ((with_reducible refine at_slice (l := none) (h := some _) rfl ?_); refine wpList_reads rfl (kr_cut rfl rfl (0) (4) (.inl ⟨by rfl, by omega⟩) (.inr ⟨_, _, by rfl, by rfl, by omega⟩) (by omega) (by omega) Try.underlying46 (by kernel_rfl)) ?_) | ((with_reducible refine at_convert (t := 46) (u := 9) rfl ?_); refine wpList_reads rfl (kr_string rfl rfl (RC4.at_ _ (K.cov Cov.auto)) Try.underlying46 Try.underlying5 Try.underlying9) ?_) | ((with_reducible refine at_bin (b := .neq) (t := 9) rfl ?_); refine wpList_reads rfl (kr_strneq (bs := markL) rfl rfl rfl (by rfl) HB4.out markL_byte) ?_; rw [HEQ4.out]) | ((with_reducible refine at_store rfl ?_); refine wpList_does (by rfl) (kd_store_row K _ _ _ (by rfl) (by rfl) (by rfl) Repl.auto (by rw [recC_size _ (by first | exact man0_len | assumption)]; kernel_rfl) (by first | (rw [recC_size _ man0_len, recC_size _ (by assumption)]; rfl) | (rw [recC_size _ man0_len]; rfl)) (recC_one _)) ?_; clear K; intro _ w1 K; (try simp only [Act.put]))))
        refine wp_region_QLK K (by kernel_rfl) (by kernel_rfl) ?_
        clear K
        refine wpQL_A (k := 0) (v := ?_) ?_ ?_
        rotate_left
        · (intro w hS; (clear hS; go_simp); try with_reducible rfl)
        try simp only [Act.put, List.setIfInBounds_toArray, List.set_cons_zero, List.set_cons_succ]
        refine wpQL_A (k := 1) (v := .slice (cutA (A) (c) (91)) (8) (c - (91))) ?_ ?_
        · (intro w hS; exact kr_cut (by rfl) (by rfl) (91) (8) (.inr ⟨_, _, by rfl, by rfl, by omega⟩) (.inr ⟨_, _, by rfl, by rfl, by omega⟩) (by omega) (by omega) Try.underlying46 (by kernel_rfl))
        try simp only [Act.put, List.setIfInBounds_toArray, List.set_cons_zero, List.set_cons_succ]
        refine wpQL_A (k := 2) (v := .slice (some ⟨gs, 0, none⟩) 8 32) ?_ ?_
        · (intro w hS; exact kr_slice_arr_lt (N := 32) (by rfl) (by rfl) 0 8 (.inl ⟨rfl, rfl⟩) (.inr rfl) (by omega) (by omega) (by omega) Try.underlying39 (by kernel_rfl))
        try simp only [Act.put, List.setIfInBounds_toArray, List.set_cons_zero, List.set_cons_succ]
        refine wpQL_step (k := 3) (x := { dst := some 24, op := Op.call { callee := Callee.value (Operand.func 44), args := #[Operand.tmp 22, Operand.tmp 23], argTypes := #[46, 46] }, type := 4, pos := "journal.go:68", after := #[{ on := 1, ground := Ground.data }, { on := 2, ground := Ground.data }], guard := none }) (v := .bool ((xs.drop 91).take 8 == (shaL (xs.take 91)).take 8)) rfl (by kernel_rfl) (by rfl) ?_ ?_
        · intro w hS
          refine quiet_call (f := 44) (args := ?_) ?_ ?_
          rotate_left
          · (go_simp; try with_reducible rfl)
          · exact (equal_any hS (RC8.cov Cov.auto) (RdS.ofRow (xs := (shaL (xs.take 91)).take 8) Has.auto (by simp [shaL_len]) (by simp [u8s])) (by omega))
        try simp only [Act.put, List.setIfInBounds_toArray, List.set_cons_zero, List.set_cons_succ]
        refine wpQL_A (k := 4) (v := ?_) ?_ ?_
        rotate_left
        · (intro w hS; (clear hS; go_simp); try with_reducible rfl)
        try simp only [Act.put, List.setIfInBounds_toArray, List.set_cons_zero, List.set_cons_succ]
        refine wpQL_endA (k := 5) (fun w1 K K9 hK => ?_)
        refine st_reads (v := ?_) (by rfl) ?_ ?_
        rotate_left
        · (go_simp; try with_reducible rfl)
        refine hK.out _ _ ?_
        clear hK K9
        try simp only [Act.put, List.setIfInBounds_toArray, List.set_cons_zero, List.set_cons_succ]
        skip
        rw [HE8.out]
        have RC27 := R.cutE 27 (n - 27) (by omega) hc
        have hmin : ((min 32 (n - 27) : Nat) : Int) = 32 := by omega
        go_upto_region 10 with ((first | (go_at_call 45; (with_reducible refine (number_any 4 8 4 8 12 r.seq HV_seq.out K Repl.auto (R.cov Cov.auto) rfl rfl rfl (by omega) (by omega) (by omega) hc hm HB.out).mono ?_); clear K; rintro e w1 ⟨rfl, K⟩) | (go_at_call 45; (with_reducible refine (number_any 12 1 12 1 13 r.act HV_act.out K Repl.auto (R.cov Cov.auto) rfl rfl rfl (by omega) (by omega) (by omega) hc hm HB.out).mono ?_); clear K; rintro e w1 ⟨rfl, K⟩) | (go_at_call 45; (with_reducible refine (number_any 13 8 13 8 21 r.ver HV_ver.out K Repl.auto (R.cov Cov.auto) rfl rfl rfl (by omega) (by omega) (by omega) hc hm HB.out).mono ?_); clear K; rintro e w1 ⟨rfl, K⟩) | (go_at_call 45; (with_reducible refine (number_any 21 4 21 4 25 r.len HV_len.out K Repl.auto (R.cov Cov.auto) rfl rfl rfl (by omega) (by omega) (by omega) hc hm HB.out).mono ?_); clear K; rintro e w1 ⟨rfl, K⟩) | (go_at_call 45; (with_reducible refine (number_any 25 1 25 1 26 r.st HV_st.out K Repl.auto (R.cov Cov.auto) rfl rfl rfl (by omega) (by omega) (by omega) hc hm HB.out).mono ?_); clear K; rintro e w1 ⟨rfl, K⟩) | (go_at_call 45; (with_reducible refine (number_any 26 1 26 1 27 r.md HV_md.out K Repl.auto (R.cov Cov.auto) rfl rfl rfl (by omega) (by omega) (by omega) hc hm HB.out).mono ?_); clear K; rintro e w1 ⟨rfl, K⟩) | (go_at_call 45; (with_reducible refine (number_any 59 8 59 8 67 r.nver HV_nver.out K Repl.auto (R.cov Cov.auto) rfl rfl rfl (by omega) (by omega) (by omega) hc hm HB.out).mono ?_); clear K; rintro e w1 ⟨rfl, K⟩) | (go_at_call 45; (with_reducible refine (number_any 67 4 67 4 71 r.nlen HV_nlen.out K Repl.auto (R.cov Cov.auto) rfl rfl rfl (by omega) (by omega) (by omega) hc hm HB.out).mono ?_); clear K; rintro e w1 ⟨rfl, K⟩) | (go_at_call 45; (with_reducible refine (number_any 71 4 71 4 75 r.done HV_done.out K Repl.auto (R.cov Cov.auto) rfl rfl rfl (by omega) (by omega) (by omega) hc hm HB.out).mono ?_); clear K; rintro e w1 ⟨rfl, K⟩) | (go_at_call 45; (with_reducible refine (number_any 75 8 75 8 83 r.pos HV_pos.out K Repl.auto (R.cov Cov.auto) rfl rfl rfl (by omega) (by omega) (by omega) hc hm HB.out).mono ?_); clear K; rintro e w1 ⟨rfl, K⟩) | (go_at_call 45; (with_reducible refine (number_any 83 4 83 4 87 r.blk HV_blk.out K Repl.auto (R.cov Cov.auto) rfl rfl rfl (by omega) (by omega) (by omega) hc hm HB.out).mono ?_); clear K; rintro e w1 ⟨rfl, K⟩) | (go_at_call 45; (with_reducible refine (number_any 87 4 87 4 91 r.asz HV_asz.out K Repl.auto (R.cov Cov.auto) rfl rfl rfl (by omega) (by omega) (by omega) hc hm HB.out).mono ?_); clear K; rintro e w1 ⟨rfl, K⟩) | ((with_reducible refine at_box rfl ?_); refine wpList_does rfl (kd_box K _ _ rfl (by conv => lhs; whnf)) ?_; clear K; rintro _ w1 ⟨gt, rfl, K⟩; (try dsimp only [Value.cells] at K)) | ((with_reducible refine at_build (t := 41) rfl ?_); refine ev_build rfl 41 rfl (vals := #[(0, .int .u64 r.seq), (1, .int .u8 r.act), (2, .int .u64 r.ver), (3, .int .i64 r.len), (4, .int .u8 r.st), (5, .int .u8 r.md)]) (by first | rfl | (go_simp; done) | (go_simp; rfl)) (build_rec _ _ _ _ _ _ _) ?_) | ((with_reducible refine at_slot (N := 6) rfl ?_); (with_reducible refine at_alloc rfl ?_); refine wpList_does rfl (kd_alloc (z := (.agg (recC rec0))) K _ rfl (by kernel_rfl)) ?_; clear K; rintro _ w1 ⟨gm, rfl, K⟩; (try dsimp only [Value.cells] at K)) | ((with_reducible refine at_store rfl ?_); refine wpList_does (by rfl) (kd_store_row K _ _ _ (by rfl) (by rfl) (by rfl) Repl.auto (by rw [recC_size _ (by first | exact man0_len | assumption)]; kernel_rfl) (by first | (rw [recC_size _ man0_len, recC_size _ (by assumption)]; rfl) | (rw [recC_size _ man0_len]; rfl)) (recC_one _)) ?_; clear K; intro _ w1 K; (try simp only [Act.put]))))
        refine wp_region_GK (X := [row gt #[.slice A n c, .int .i64 27] 102]) K Cov.auto (by kernel_rfl) (by kernel_rfl) (by kernel_rfl) (fun K hHeld => ?_)
        refine wpG_takeA 0 (v := ?_) ?_ hHeld ?_
        rotate_left
        · (intro w hS; (clear hS; go_simp); try with_reducible rfl)
        try simp only [Act.put, List.setIfInBounds_toArray, List.set_cons_zero, List.set_cons_succ]
        refine wpG_takeA 1 (v := ?_) ?_ hHeld ?_
        rotate_left
        · (intro w hS; (clear hS; go_simp); try with_reducible rfl)
        try simp only [Act.put, List.setIfInBounds_toArray, List.set_cons_zero, List.set_cons_succ]
        refine wpG_takeA 2 (v := ?_) ?_ hHeld ?_
        rotate_left
        · (intro w hS; (clear hS; go_simp); try with_reducible rfl)
        try simp only [Act.put, List.setIfInBounds_toArray, List.set_cons_zero, List.set_cons_succ]
        refine wpG_takeA 3 (v := .int .i64 27) ?_ hHeld ?_
        · (intro w hS; first | exact kr_load_cell hS _ _ (by rfl) (by rfl) Has.auto (by kernel_rfl) (by rfl))
        try simp only [Act.put, List.setIfInBounds_toArray, List.set_cons_zero, List.set_cons_succ]
        refine wpG_takeA 4 (v := ?_) ?_ hHeld ?_
        rotate_left
        · (intro w hS; (clear hS; go_simp); try with_reducible rfl)
        try simp only [Act.put, List.setIfInBounds_toArray, List.set_cons_zero, List.set_cons_succ]
        refine wpG_takeA 5 (v := .slice (some ⟨gm, 6, none⟩) 32 32) ?_ hHeld ?_
        · (intro w hS; first | exact kr_slice_arr_lt (N := 32) (by rfl) (by rfl) 0 32 (.inl ⟨rfl, rfl⟩) (.inl ⟨rfl, rfl⟩) (by omega) (by omega) (by omega) Try.underlying39 (by kernel_rfl))
        try simp only [Act.put, List.setIfInBounds_toArray, List.set_cons_zero, List.set_cons_succ]
        refine wpG_takeA 6 (v := ?_) ?_ hHeld ?_
        rotate_left
        · (intro w hS; (clear hS; go_simp); try with_reducible rfl)
        try simp only [Act.put, List.setIfInBounds_toArray, List.set_cons_zero, List.set_cons_succ]
        refine wpG_takeA 7 (v := ?_) ?_ hHeld ?_
        rotate_left
        · (intro w hS; (clear hS; go_simp); try with_reducible rfl)
        try simp only [Act.put, List.setIfInBounds_toArray, List.set_cons_zero, List.set_cons_succ]
        refine wpG_takeA 8 (v := ?_) ?_ hHeld ?_
        rotate_left
        · (intro w hS; (clear hS; go_simp); try with_reducible rfl)
        try simp only [Act.put, List.setIfInBounds_toArray, List.set_cons_zero, List.set_cons_succ]
        refine wpG_takeA 9 (v := ?_) ?_ hHeld ?_
        rotate_left
        · (intro w hS; (clear hS; go_simp); try with_reducible rfl)
        try simp only [Act.put, List.setIfInBounds_toArray, List.set_cons_zero, List.set_cons_succ]
        refine wpG_takeA 10 (v := .int .i64 27) ?_ hHeld ?_
        · (intro w hS; first | exact kr_load_cell hS _ _ (by rfl) (by rfl) Has.auto (by kernel_rfl) (by rfl))
        try simp only [Act.put, List.setIfInBounds_toArray, List.set_cons_zero, List.set_cons_succ]
        refine wpG_takeA 11 (v := .slice (cutA (A) (c) (27)) (n - 27) (c - (27))) ?_ hHeld ?_
        · (intro w hS; first | exact kr_cut (by rfl) (by rfl) (27) (n - 27) (.inr ⟨_, _, by rfl, by rfl, by omega⟩) (.inl ⟨by rfl, by omega⟩) (by omega) (by omega) Try.underlying46 (by kernel_rfl))
        try simp only [Act.put, List.setIfInBounds_toArray, List.set_cons_zero, List.set_cons_succ]
        refine wpG_oneA 12 (fun K9 hK => ?_)
        refine st_does (by rfl) (kd_copy K (by rfl) (by rfl) (by rfl) (RC27.at_ _ (K.cov Cov.auto)) Try.underlying46 (by kernel_rfl) Repl.auto (by rw [recC_size _ man0_len]; omega)) ?_
        clear K; rintro _ w1 ⟨rfl, K⟩
        rw [hmin]
        rw [HMV.out, recC_copy _ man0_len HMN.out] at K
        refine hK.out _ _ (K.cov Cov.auto) (fun hHeld => ?_)
        clear hK K9
        try simp only [Act.put, List.setIfInBounds_toArray, List.set_cons_zero, List.set_cons_succ]
        refine wpG_takeA 13 (v := ?_) ?_ hHeld ?_
        rotate_left
        · (intro w hS; (clear hS; go_simp); try with_reducible rfl)
        try simp only [Act.put, List.setIfInBounds_toArray, List.set_cons_zero, List.set_cons_succ]
        refine wpG_takeA 14 (v := ?_) ?_ hHeld ?_
        rotate_left
        · (intro w hS; (clear hS; go_simp); try with_reducible rfl)
        try simp only [Act.put, List.setIfInBounds_toArray, List.set_cons_zero, List.set_cons_succ]
        refine wpG_takeA 15 (v := ?_) ?_ hHeld ?_
        rotate_left
        · (intro w hS; (clear hS; go_simp); try with_reducible rfl)
        try simp only [Act.put, List.setIfInBounds_toArray, List.set_cons_zero, List.set_cons_succ]
        refine wpG_lastA 16 (fun K9 hK => ?_)
        (first | (refine st_does (by rfl) (kd_store_cell K _ _ _ (by rfl) (by rfl) (by conv => lhs; whnf) Repl.auto (by rfl) (by rfl) (by kernel_rfl) (by kernel_rfl) (by first | (simp only [List.setIfInBounds_toArray, List.set_cons_succ, List.set_cons_zero]; rfl) | rfl)) ?_) | (refine st_does (by rfl) (kd_store_row K _ _ _ (by rfl) (by rfl) (by rfl) Repl.auto (by kernel_rfl) (by kernel_rfl) (by kernel_rfl)) ?_))
        clear K; intro _ w1 K
        refine hK.out _ _ ?_
        clear hK K9
        try simp only [Act.put, List.setIfInBounds_toArray, List.set_cons_zero, List.set_cons_succ]
        skip
        rw [show IntKind.i64.wrap 59 = 59 from IntWalk.i64_in 59 (by omega)] at K
        go_upto_region 13 with ((first | (go_at_call 45; (with_reducible refine (number_any 4 8 4 8 12 r.seq HV_seq.out K Repl.auto (R.cov Cov.auto) rfl rfl rfl (by omega) (by omega) (by omega) hc hm HB.out).mono ?_); clear K; rintro e w1 ⟨rfl, K⟩) | (go_at_call 45; (with_reducible refine (number_any 12 1 12 1 13 r.act HV_act.out K Repl.auto (R.cov Cov.auto) rfl rfl rfl (by omega) (by omega) (by omega) hc hm HB.out).mono ?_); clear K; rintro e w1 ⟨rfl, K⟩) | (go_at_call 45; (with_reducible refine (number_any 13 8 13 8 21 r.ver HV_ver.out K Repl.auto (R.cov Cov.auto) rfl rfl rfl (by omega) (by omega) (by omega) hc hm HB.out).mono ?_); clear K; rintro e w1 ⟨rfl, K⟩) | (go_at_call 45; (with_reducible refine (number_any 21 4 21 4 25 r.len HV_len.out K Repl.auto (R.cov Cov.auto) rfl rfl rfl (by omega) (by omega) (by omega) hc hm HB.out).mono ?_); clear K; rintro e w1 ⟨rfl, K⟩) | (go_at_call 45; (with_reducible refine (number_any 25 1 25 1 26 r.st HV_st.out K Repl.auto (R.cov Cov.auto) rfl rfl rfl (by omega) (by omega) (by omega) hc hm HB.out).mono ?_); clear K; rintro e w1 ⟨rfl, K⟩) | (go_at_call 45; (with_reducible refine (number_any 26 1 26 1 27 r.md HV_md.out K Repl.auto (R.cov Cov.auto) rfl rfl rfl (by omega) (by omega) (by omega) hc hm HB.out).mono ?_); clear K; rintro e w1 ⟨rfl, K⟩) | (go_at_call 45; (with_reducible refine (number_any 59 8 59 8 67 r.nver HV_nver.out K Repl.auto (R.cov Cov.auto) rfl rfl rfl (by omega) (by omega) (by omega) hc hm HB.out).mono ?_); clear K; rintro e w1 ⟨rfl, K⟩) | (go_at_call 45; (with_reducible refine (number_any 67 4 67 4 71 r.nlen HV_nlen.out K Repl.auto (R.cov Cov.auto) rfl rfl rfl (by omega) (by omega) (by omega) hc hm HB.out).mono ?_); clear K; rintro e w1 ⟨rfl, K⟩) | (go_at_call 45; (with_reducible refine (number_any 71 4 71 4 75 r.done HV_done.out K Repl.auto (R.cov Cov.auto) rfl rfl rfl (by omega) (by omega) (by omega) hc hm HB.out).mono ?_); clear K; rintro e w1 ⟨rfl, K⟩) | (go_at_call 45; (with_reducible refine (number_any 75 8 75 8 83 r.pos HV_pos.out K Repl.auto (R.cov Cov.auto) rfl rfl rfl (by omega) (by omega) (by omega) hc hm HB.out).mono ?_); clear K; rintro e w1 ⟨rfl, K⟩) | (go_at_call 45; (with_reducible refine (number_any 83 4 83 4 87 r.blk HV_blk.out K Repl.auto (R.cov Cov.auto) rfl rfl rfl (by omega) (by omega) (by omega) hc hm HB.out).mono ?_); clear K; rintro e w1 ⟨rfl, K⟩) | (go_at_call 45; (with_reducible refine (number_any 87 4 87 4 91 r.asz HV_asz.out K Repl.auto (R.cov Cov.auto) rfl rfl rfl (by omega) (by omega) (by omega) hc hm HB.out).mono ?_); clear K; rintro e w1 ⟨rfl, K⟩) | ((with_reducible refine at_store rfl ?_); refine wpList_does rfl (kd_store_cell K _ _ _ rfl rfl (by conv => lhs; whnf) Repl.auto rfl rfl (by kernel_rfl) (recC_lt _ (by exact HMN.out) (by decide)) (recC_set _ _ _ _ (by rfl) (by exact HMN.out))) ?_; clear K; intro _ w1 K; (try simp only [Act.put]); simp only [recSet_38, recSet_39, recSet_40, recSet_41, recSet_42, recSet_43] at K)))
        replace K : Known w0 _ (row gm (recC r) 41 :: _) := K
        cases hv : mayR r
        · have HRES := Lib.hid (show resG xs = (rec0, 3) by rw [HRG.out, hv]; rfl)
          have HMN2 := HMN.out
          have hmv := Lib.hid hv
          clear hv
          go_wp2_with (first | ((with_reducible refine at_load (t := 41) rfl ?_); refine wpList_reads (by rfl) (kr_load_row K _ _ (by rfl) (by rfl) Has.auto (by kernel_rfl) (by rw [recC_size _ (by assumption)]; kernel_rfl)) ?_) | (go_at_call 46; (with_reducible refine (jmay_any K false hmv.out HMN.out).mono ?_); clear K; rintro e w1 ⟨rfl, K⟩) | ((with_reducible refine at_build (t := 41) rfl ?_); refine ev_build0 rfl 41 rfl (rec0_build _) ?_) | ((with_reducible refine at_slot (N := 2) rfl ?_); (with_reducible refine at_alloc rfl ?_); refine wpList_does rfl (kd_alloc (z := (.agg (recC rec0))) K _ rfl (by kernel_rfl)) ?_; clear K; rintro _ w1 ⟨go, rfl, K⟩; (try dsimp only [Value.cells] at K)) | ((with_reducible refine at_slice (l := none) (h := some _) rfl ?_); refine wpList_reads rfl (kr_cut rfl rfl (0) (91) (.inl ⟨by rfl, by omega⟩) (.inr ⟨_, _, by rfl, by rfl, by omega⟩) (by omega) (by omega) Try.underlying46 (by kernel_rfl)) ?_) | (go_at_call 43; (with_reducible refine (sum_any K (RC91.cov Cov.auto) (by omega) (by omega) HB91.out (by omega)).mono ?_); clear K; rintro e w1 ⟨rfl, K⟩) | ((with_reducible refine at_slot (N := 4) rfl ?_); (with_reducible refine at_alloc rfl ?_); refine wpList_does rfl (kd_alloc (z := (.agg (u8s (List.replicate 32 0)))) K _ rfl (by kernel_rfl)) ?_; clear K; rintro _ w1 ⟨gs, rfl, K⟩; (try dsimp only [Value.cells] at K)) | ((with_reducible refine at_store rfl ?_); refine wpList_does (by rfl) (kd_store_row K _ _ _ (by rfl) (by rfl) (by rfl) Repl.auto (by rw [u8s_size, shaL_len]; kernel_rfl) (by rw [u8s_size, u8s_size, shaL_len]; rfl) (u8s_one _)) ?_; clear K; intro _ w1 K; (try simp only [Act.put])) | ((with_reducible refine at_slice (l := none) (h := some _) rfl ?_); refine wpList_reads rfl (kr_cut rfl rfl (0) (4) (.inl ⟨by rfl, by omega⟩) (.inr ⟨_, _, by rfl, by rfl, by omega⟩) (by omega) (by omega) Try.underlying46 (by kernel_rfl)) ?_) | ((with_reducible refine at_convert (t := 46) (u := 9) rfl ?_); refine wpList_reads rfl (kr_string rfl rfl (RC4.at_ _ (K.cov Cov.auto)) Try.underlying46 Try.underlying5 Try.underlying9) ?_) | ((with_reducible refine at_bin (b := .neq) (t := 9) rfl ?_); refine wpList_reads rfl (kr_strneq (bs := markL) rfl rfl rfl (by rfl) HB4.out markL_byte) ?_; rw [HEQ4.out]) | ((with_reducible refine at_store rfl ?_); refine wpList_does (by rfl) (kd_store_row K _ _ _ (by rfl) (by rfl) (by rfl) Repl.auto (by rw [recC_size _ (by first | exact man0_len | assumption)]; kernel_rfl) (by first | (rw [recC_size _ man0_len, recC_size _ (by assumption)]; rfl) | (rw [recC_size _ man0_len]; rfl)) (recC_one _)) ?_; clear K; intro _ w1 K; (try simp only [Act.put])))
          exact bodyPost_cell2K K (by rfl) (by rfl) (by rfl) Has.auto (by kernel_rfl) (by rw [recC_size _ (by first | exact man0_len | assumption)]; kernel_rfl) rfl ⟨by rw [HRES.out]; rfl, K.cov Cov.auto⟩
        · have HRES := Lib.hid (show resG xs = (r, 0) by rw [HRG.out, hv]; rfl)
          have HMN2 := HMN.out
          have hmv := Lib.hid hv
          clear hv
          go_wp2_with (first | ((with_reducible refine at_load (t := 41) rfl ?_); refine wpList_reads (by rfl) (kr_load_row K _ _ (by rfl) (by rfl) Has.auto (by kernel_rfl) (by rw [recC_size _ (by assumption)]; kernel_rfl)) ?_) | (go_at_call 46; (with_reducible refine (jmay_any K true hmv.out HMN.out).mono ?_); clear K; rintro e w1 ⟨rfl, K⟩) | ((with_reducible refine at_store rfl ?_); refine wpList_does (by rfl) (kd_store_row K _ _ _ (by rfl) (by rfl) (by rfl) Repl.auto (by rw [recC_size _ (by first | exact man0_len | assumption)]; kernel_rfl) (by first | (rw [recC_size _ man0_len, recC_size _ (by assumption)]; rfl) | (rw [recC_size _ man0_len]; rfl)) (recC_one _)) ?_; clear K; intro _ w1 K; (try simp only [Act.put])))
          exact bodyPost_cell2K K (by rfl) (by rfl) (by rfl) Has.auto (by kernel_rfl) (by rw [recC_size _ (by first | exact man0_len | assumption)]; kernel_rfl) rfl ⟨by rw [HRES.out]; rfl, K.cov Cov.auto⟩
      · have HRES := Lib.hid (show resG xs = (rec0, 10) by rw [resG, if_neg (by omega), if_neg (by rw [h4]; simp), if_pos h8])
        have h99' : ¬ ((n : Int) < 99) := by omega
        have hee : ((xs.drop 91).take 8 == (shaL (xs.take 91)).take 8) = false := by rw [beq_eq_false_iff_ne]; exact fun h => h8 h.symm
        have HE8 := Lib.hid hee
        clear hxl h4 h8 hee
        go_enter Try.func25, Try.ntmps25
        go_upto_region 6 with ((first | ((with_reducible refine at_build (t := 41) rfl ?_); refine ev_build0 rfl 41 rfl (rec0_build _) ?_) | ((with_reducible refine at_slot (N := 2) rfl ?_); (with_reducible refine at_alloc rfl ?_); refine wpList_does rfl (kd_alloc (z := (.agg (recC rec0))) K _ rfl (by kernel_rfl)) ?_; clear K; rintro _ w1 ⟨go, rfl, K⟩; (try dsimp only [Value.cells] at K)) | ((with_reducible refine at_slice (l := none) (h := some _) rfl ?_); refine wpList_reads rfl (kr_cut rfl rfl (0) (91) (.inl ⟨by rfl, by omega⟩) (.inr ⟨_, _, by rfl, by rfl, by omega⟩) (by omega) (by omega) Try.underlying46 (by kernel_rfl)) ?_) | (go_at_call 43; (with_reducible refine (sum_any K (RC91.cov Cov.auto) (by omega) (by omega) HB91.out (by omega)).mono ?_); clear K; rintro e w1 ⟨rfl, K⟩) | ((with_reducible refine at_slot (N := 4) rfl ?_); (with_reducible refine at_alloc rfl ?_); refine wpList_does rfl (kd_alloc (z := (.agg (u8s (List.replicate 32 0)))) K _ rfl (by kernel_rfl)) ?_; clear K; rintro _ w1 ⟨gs, rfl, K⟩; (try dsimp only [Value.cells] at K)) | ((with_reducible refine at_store rfl ?_); refine wpList_does (by rfl) (kd_store_row K _ _ _ (by rfl) (by rfl) (by rfl) Repl.auto (by rw [u8s_size, shaL_len]; kernel_rfl) (by rw [u8s_size, u8s_size, shaL_len]; rfl) (u8s_one _)) ?_; clear K; intro _ w1 K; (try simp only [Act.put])) | ((with_reducible refine at_slice (l := none) (h := some _) rfl ?_); refine wpList_reads rfl (kr_cut rfl rfl (0) (4) (.inl ⟨by rfl, by omega⟩) (.inr ⟨_, _, by rfl, by rfl, by omega⟩) (by omega) (by omega) Try.underlying46 (by kernel_rfl)) ?_) | ((with_reducible refine at_convert (t := 46) (u := 9) rfl ?_); refine wpList_reads rfl (kr_string rfl rfl (RC4.at_ _ (K.cov Cov.auto)) Try.underlying46 Try.underlying5 Try.underlying9) ?_) | ((with_reducible refine at_bin (b := .neq) (t := 9) rfl ?_); refine wpList_reads rfl (kr_strneq (bs := markL) rfl rfl rfl (by rfl) HB4.out markL_byte) ?_; rw [HEQ4.out]) | ((with_reducible refine at_store rfl ?_); refine wpList_does (by rfl) (kd_store_row K _ _ _ (by rfl) (by rfl) (by rfl) Repl.auto (by rw [recC_size _ (by first | exact man0_len | assumption)]; kernel_rfl) (by first | (rw [recC_size _ man0_len, recC_size _ (by assumption)]; rfl) | (rw [recC_size _ man0_len]; rfl)) (recC_one _)) ?_; clear K; intro _ w1 K; (try simp only [Act.put]))))
        refine wp_region_QLK K (by kernel_rfl) (by kernel_rfl) ?_
        clear K
        refine wpQL_A (k := 0) (v := ?_) ?_ ?_
        rotate_left
        · (intro w hS; (clear hS; go_simp); try with_reducible rfl)
        try simp only [Act.put, List.setIfInBounds_toArray, List.set_cons_zero, List.set_cons_succ]
        refine wpQL_A (k := 1) (v := .slice (cutA (A) (c) (91)) (8) (c - (91))) ?_ ?_
        · (intro w hS; exact kr_cut (by rfl) (by rfl) (91) (8) (.inr ⟨_, _, by rfl, by rfl, by omega⟩) (.inr ⟨_, _, by rfl, by rfl, by omega⟩) (by omega) (by omega) Try.underlying46 (by kernel_rfl))
        try simp only [Act.put, List.setIfInBounds_toArray, List.set_cons_zero, List.set_cons_succ]
        refine wpQL_A (k := 2) (v := .slice (some ⟨gs, 0, none⟩) 8 32) ?_ ?_
        · (intro w hS; exact kr_slice_arr_lt (N := 32) (by rfl) (by rfl) 0 8 (.inl ⟨rfl, rfl⟩) (.inr rfl) (by omega) (by omega) (by omega) Try.underlying39 (by kernel_rfl))
        try simp only [Act.put, List.setIfInBounds_toArray, List.set_cons_zero, List.set_cons_succ]
        refine wpQL_step (k := 3) (x := { dst := some 24, op := Op.call { callee := Callee.value (Operand.func 44), args := #[Operand.tmp 22, Operand.tmp 23], argTypes := #[46, 46] }, type := 4, pos := "journal.go:68", after := #[{ on := 1, ground := Ground.data }, { on := 2, ground := Ground.data }], guard := none }) (v := .bool ((xs.drop 91).take 8 == (shaL (xs.take 91)).take 8)) rfl (by kernel_rfl) (by rfl) ?_ ?_
        · intro w hS
          refine quiet_call (f := 44) (args := ?_) ?_ ?_
          rotate_left
          · (go_simp; try with_reducible rfl)
          · exact (equal_any hS (RC8.cov Cov.auto) (RdS.ofRow (xs := (shaL (xs.take 91)).take 8) Has.auto (by simp [shaL_len]) (by simp [u8s])) (by omega))
        try simp only [Act.put, List.setIfInBounds_toArray, List.set_cons_zero, List.set_cons_succ]
        refine wpQL_A (k := 4) (v := ?_) ?_ ?_
        rotate_left
        · (intro w hS; (clear hS; go_simp); try with_reducible rfl)
        try simp only [Act.put, List.setIfInBounds_toArray, List.set_cons_zero, List.set_cons_succ]
        refine wpQL_endA (k := 5) (fun w1 K K9 hK => ?_)
        refine st_reads (v := ?_) (by rfl) ?_ ?_
        rotate_left
        · (go_simp; try with_reducible rfl)
        refine hK.out _ _ ?_
        clear hK K9
        try simp only [Act.put, List.setIfInBounds_toArray, List.set_cons_zero, List.set_cons_succ]
        skip
        rw [HE8.out]
        go_wp2_with (first | ((with_reducible refine at_build (t := 41) rfl ?_); refine ev_build0 rfl 41 rfl (rec0_build _) ?_) | ((with_reducible refine at_slot (N := 2) rfl ?_); (with_reducible refine at_alloc rfl ?_); refine wpList_does rfl (kd_alloc (z := (.agg (recC rec0))) K _ rfl (by kernel_rfl)) ?_; clear K; rintro _ w1 ⟨go, rfl, K⟩; (try dsimp only [Value.cells] at K)) | ((with_reducible refine at_slice (l := none) (h := some _) rfl ?_); refine wpList_reads rfl (kr_cut rfl rfl (0) (91) (.inl ⟨by rfl, by omega⟩) (.inr ⟨_, _, by rfl, by rfl, by omega⟩) (by omega) (by omega) Try.underlying46 (by kernel_rfl)) ?_) | (go_at_call 43; (with_reducible refine (sum_any K (RC91.cov Cov.auto) (by omega) (by omega) HB91.out (by omega)).mono ?_); clear K; rintro e w1 ⟨rfl, K⟩) | ((with_reducible refine at_slot (N := 4) rfl ?_); (with_reducible refine at_alloc rfl ?_); refine wpList_does rfl (kd_alloc (z := (.agg (u8s (List.replicate 32 0)))) K _ rfl (by kernel_rfl)) ?_; clear K; rintro _ w1 ⟨gs, rfl, K⟩; (try dsimp only [Value.cells] at K)) | ((with_reducible refine at_store rfl ?_); refine wpList_does (by rfl) (kd_store_row K _ _ _ (by rfl) (by rfl) (by rfl) Repl.auto (by rw [u8s_size, shaL_len]; kernel_rfl) (by rw [u8s_size, u8s_size, shaL_len]; rfl) (u8s_one _)) ?_; clear K; intro _ w1 K; (try simp only [Act.put])) | ((with_reducible refine at_slice (l := none) (h := some _) rfl ?_); refine wpList_reads rfl (kr_cut rfl rfl (0) (4) (.inl ⟨by rfl, by omega⟩) (.inr ⟨_, _, by rfl, by rfl, by omega⟩) (by omega) (by omega) Try.underlying46 (by kernel_rfl)) ?_) | ((with_reducible refine at_convert (t := 46) (u := 9) rfl ?_); refine wpList_reads rfl (kr_string rfl rfl (RC4.at_ _ (K.cov Cov.auto)) Try.underlying46 Try.underlying5 Try.underlying9) ?_) | ((with_reducible refine at_bin (b := .neq) (t := 9) rfl ?_); refine wpList_reads rfl (kr_strneq (bs := markL) rfl rfl rfl (by rfl) HB4.out markL_byte) ?_; rw [HEQ4.out]) | ((with_reducible refine at_store rfl ?_); refine wpList_does (by rfl) (kd_store_row K _ _ _ (by rfl) (by rfl) (by rfl) Repl.auto (by rw [recC_size _ (by first | exact man0_len | assumption)]; kernel_rfl) (by first | (rw [recC_size _ man0_len, recC_size _ (by assumption)]; rfl) | (rw [recC_size _ man0_len]; rfl)) (recC_one _)) ?_; clear K; intro _ w1 K; (try simp only [Act.put])))
        exact bodyPost_cell2K K (by rfl) (by rfl) (by rfl) Has.auto (by kernel_rfl) (by rw [recC_size _ (by first | exact man0_len | assumption)]; kernel_rfl) rfl ⟨by rw [HRES.out]; rfl, K.cov Cov.auto⟩
    · have HRES := Lib.hid (show resG xs = (rec0, 3) by rw [resG, if_neg (by omega), if_pos h4])
      have HEQ4 := Lib.hid (show (xs.take 4 == markL) = false by simpa using h4)
      have h99' : ¬ ((n : Int) < 99) := by omega
      clear hxl h4
      go_enter Try.func25, Try.ntmps25
      go_wp2_with (first | ((with_reducible refine at_build (t := 41) rfl ?_); refine ev_build0 rfl 41 rfl (rec0_build _) ?_) | ((with_reducible refine at_slot (N := 2) rfl ?_); (with_reducible refine at_alloc rfl ?_); refine wpList_does rfl (kd_alloc (z := (.agg (recC rec0))) K _ rfl (by kernel_rfl)) ?_; clear K; rintro _ w1 ⟨go, rfl, K⟩; (try dsimp only [Value.cells] at K)) | ((with_reducible refine at_slice (l := none) (h := some _) rfl ?_); refine wpList_reads rfl (kr_cut rfl rfl (0) (91) (.inl ⟨by rfl, by omega⟩) (.inr ⟨_, _, by rfl, by rfl, by omega⟩) (by omega) (by omega) Try.underlying46 (by kernel_rfl)) ?_) | (go_at_call 43; (with_reducible refine (sum_any K (RC91.cov Cov.auto) (by omega) (by omega) HB91.out (by omega)).mono ?_); clear K; rintro e w1 ⟨rfl, K⟩) | ((with_reducible refine at_slot (N := 4) rfl ?_); (with_reducible refine at_alloc rfl ?_); refine wpList_does rfl (kd_alloc (z := (.agg (u8s (List.replicate 32 0)))) K _ rfl (by kernel_rfl)) ?_; clear K; rintro _ w1 ⟨gs, rfl, K⟩; (try dsimp only [Value.cells] at K)) | ((with_reducible refine at_store rfl ?_); refine wpList_does (by rfl) (kd_store_row K _ _ _ (by rfl) (by rfl) (by rfl) Repl.auto (by rw [u8s_size, shaL_len]; kernel_rfl) (by rw [u8s_size, u8s_size, shaL_len]; rfl) (u8s_one _)) ?_; clear K; intro _ w1 K; (try simp only [Act.put])) | ((with_reducible refine at_slice (l := none) (h := some _) rfl ?_); refine wpList_reads rfl (kr_cut rfl rfl (0) (4) (.inl ⟨by rfl, by omega⟩) (.inr ⟨_, _, by rfl, by rfl, by omega⟩) (by omega) (by omega) Try.underlying46 (by kernel_rfl)) ?_) | ((with_reducible refine at_convert (t := 46) (u := 9) rfl ?_); refine wpList_reads rfl (kr_string rfl rfl (RC4.at_ _ (K.cov Cov.auto)) Try.underlying46 Try.underlying5 Try.underlying9) ?_) | ((with_reducible refine at_bin (b := .neq) (t := 9) rfl ?_); refine wpList_reads rfl (kr_strneq (bs := markL) rfl rfl rfl (by rfl) HB4.out markL_byte) ?_; rw [HEQ4.out]) | ((with_reducible refine at_store rfl ?_); refine wpList_does (by rfl) (kd_store_row K _ _ _ (by rfl) (by rfl) (by rfl) Repl.auto (by rw [recC_size _ (by first | exact man0_len | assumption)]; kernel_rfl) (by first | (rw [recC_size _ man0_len, recC_size _ (by assumption)]; rfl) | (rw [recC_size _ man0_len]; rfl)) (recC_one _)) ?_; clear K; intro _ w1 K; (try simp only [Act.put])))
      exact bodyPost_cell2K K (by rfl) (by rfl) (by rfl) Has.auto (by kernel_rfl) (by rw [recC_size _ (by first | exact man0_len | assumption)]; kernel_rfl) rfl ⟨by rw [HRES.out]; rfl, K.cov Cov.auto⟩
end
end Go.Proofs.Ytfdddipmeadecaa

/-
  journal: the reference's record out of bytes (contract).
-/
set_option linter.unusedVariables false
set_option linter.unusedSimpArgs false
namespace Go.Proofs.Ytfdddipmeadecaa
open Go.RowKit
theorem recC_setman {a0 a1 a2 a3 a4 a5 : Int} {m : List Int} {a6 a7 a8 a9 a10 a11 : Int} (k : Nat) (v : Int) (h : m.length = 32) (hk : k < 32) : (recC ⟨a0, a1, a2, a3, a4, a5, m, a6, a7, a8, a9, a10, a11⟩).set! (6 + k) (.int .u8 v) = recC ⟨a0, a1, a2, a3, a4, a5, m.set k v, a6, a7, a8, a9, a10, a11⟩ := by
  simp only [Array.set!_eq_setIfInBounds, recC, List.setIfInBounds_toArray]
  rw [List.set_append_right _ _ (by simp), List.set_append_left _ _ (by simp [h]; omega)]
  congr 1
  simp [List.map_set]
theorem man_fill (ys : List Int) (k : Nat) (hk : k < 32) (hy : 32 ≤ ys.length) : (ys.take k ++ List.replicate (32 - k) (0 : Int)).set k (ys.getD k 0) = ys.take (k + 1) ++ List.replicate (32 - (k + 1)) 0 := by
  rw [take_snoc' ys k (by omega), List.set_append_right _ _ (by simp; omega), show 32 - k = (32 - (k + 1)) + 1 by omega, List.replicate_succ]
  simp [show min k ys.length = k by omega]
section
variable {w0 w : World} {L : List Ent} {r : Rec} {A : Option Addr} {n c : Nat} {xs : List Int}
theorem rget24_any (a k : Nat) (x y v : Int) (hv : numL ((xs.drop a).take k) = v) (K : Known w0 w L) (R : RdS w0 L .u8 A n xs) (hx : x = a) (hy : y = k) (h1 : 1 ≤ k) (h8 : k ≤ 8) (hak : a + k ≤ n) (hc : n ≤ c) (hm : c ≤ 9223372036854775807) (hb : ∀ b ∈ xs, 0 ≤ b ∧ b ≤ 255) :
    Calls Try.prog 54 #[.slice A n c, .int .i64 x, .int .i64 y] w fun e w' => e = .returned (.int .u64 v) ∧ w = w' := by
  have hk := rgetK a k x y v hv K R hx hy h1 h8 hak hc hm hb
  have HK := Lib.hid hk
  clear hk hx hy hv hb
  go_enter Try.func54, Try.ntmps54
  go_wp2_with (first | (go_at_call 67; (with_reducible refine (HK.out).mono ?_); rintro e w' ⟨rfl, rfl⟩))
  go_ret
  exact ⟨rfl, rfl⟩


set_option maxHeartbeats 3200000 in
set_option maxRecDepth 100000 in
theorem rjget_any (K : Known w0 w L) (R : RdS w0 L .u8 A n xs) (hc : n ≤ c) (hm : c ≤ 9223372036854775807) (hb : ∀ b ∈ xs, 0 ≤ b ∧ b ≤ 255) (hn9 : n ≤ 100000000) :
    Calls Try.prog 38 #[.slice A n c] w fun e w' => e = .returned (.tuple #[.agg (recC (resG xs).1), .int .i64 (resG xs).2]) ∧ Known w0 w' L := by
  have hxl := R.len
  by_cases h99 : n < 99
  · have HRES := Lib.hid (show resG xs = (rec0, 2) by rw [resG, if_pos (by omega)])
    have h99' : (n : Int) < 99 := by omega
    clear hxl
    go_enter Try.func38, Try.ntmps38
    go_wp2_with (first | ((with_reducible refine at_build (t := 41) rfl ?_); refine ev_build0 rfl 41 rfl (rec0_build _) ?_) | ((with_reducible refine at_slot (N := 2) rfl ?_); (with_reducible refine at_alloc rfl ?_); refine wpList_does rfl (kd_alloc (z := (.agg (recC rec0))) K _ rfl (by kernel_rfl)) ?_; clear K; rintro _ w1 ⟨go, rfl, K⟩; (try dsimp only [Value.cells] at K)) | ((with_reducible refine at_slot (N := 4) rfl ?_); (with_reducible refine at_alloc rfl ?_); refine wpList_does rfl (kd_alloc (z := (.agg (recC rec0))) K _ rfl (by kernel_rfl)) ?_; clear K; rintro _ w1 ⟨gn, rfl, K⟩; (try dsimp only [Value.cells] at K)) | ((with_reducible refine at_load (t := 41) rfl ?_); refine wpList_reads (by rfl) (kr_load_row K _ _ (by rfl) (by rfl) Has.auto (by kernel_rfl) (by rw [recC_size _ man0_len]; kernel_rfl)) ?_) | ((with_reducible refine at_store rfl ?_); refine wpList_does (by rfl) (kd_store_row K _ _ _ (by rfl) (by rfl) (by rfl) Repl.auto (by rw [recC_size _ (by first | exact man0_len | assumption)]; kernel_rfl) (by first | (rw [recC_size _ man0_len, recC_size _ (by assumption)]; rfl) | (rw [recC_size _ man0_len]; rfl)) (recC_one _)) ?_; clear K; intro _ w1 K; (try simp only [Act.put])))
    exact bodyPost_cell2K K (by rfl) (by rfl) (by rfl) Has.auto (by kernel_rfl) (by rw [recC_size _ (by first | exact man0_len | assumption)]; kernel_rfl) rfl ⟨by rw [HRES.out]; rfl, K.cov Cov.auto⟩
  · obtain ⟨b, off, rfl⟩ := R.form K (by omega)
    have RC4 := R.cut 0 4 (by omega) hc
    rw [List.drop_zero] at RC4
    have RC91 := R.cut 0 91 (by omega) hc
    rw [List.drop_zero] at RC91
    have RC8 := R.cut 91 8 (by omega) hc
    have HB8 := Lib.hid (show ∀ b ∈ (xs.drop 91).take 8, 0 ≤ b ∧ b ≤ 255 from fun b h => hb b (List.mem_of_mem_drop (List.mem_of_mem_take h)))
    have HBS := Lib.hid (show ∀ b ∈ (shaL (xs.take 91)).take 8, 0 ≤ b ∧ b ≤ 255 from fun b h => shaL_byte _ b (List.mem_of_mem_take h))
    have HB4 := Lib.hid (show ∀ b ∈ xs.take 4, 0 ≤ b ∧ b ≤ 255 from fun b h => hb b (List.mem_of_mem_take h))
    have HB91 := Lib.hid (show ∀ b ∈ xs.take 91, 0 ≤ b ∧ b ≤ 255 from fun b h => hb b (List.mem_of_mem_take h))
    by_cases h4 : xs.take 4 = markL
    · have HEQ4 := Lib.hid (show (xs.take 4 == markL) = true by rw [h4]; rfl)
      by_cases h8 : (shaL (xs.take 91)).take 8 = (xs.drop 91).take 8
      · have hee : ((shaL (xs.take 91)).take 8 == (xs.drop 91).take 8) = true := by rw [h8]; simp
        have h99' : ¬ ((n : Int) < 99) := by omega
        have HE8 := Lib.hid hee
        obtain ⟨r, hr⟩ : ∃ r, r = getRec xs := ⟨_, rfl⟩
        have HMN := Lib.hid (show r.man.length = 32 by rw [hr]; exact getRec_man xs (by omega))
        have HMV := Lib.hid (show (xs.drop 27).take 32 = r.man by rw [hr]; rfl)
        have HRG := Lib.hid (show resG xs = if mayR r then (r, 0) else (rec0, 3) by rw [resG, if_neg (by omega), if_neg (by rw [h4]; simp), if_neg (by rw [h8]; simp), hr])
        have HV_seq := Lib.hid (show numL ((xs.drop 4).take 8) = r.seq by rw [hr]; exact rfl)
        have HV_act := Lib.hid (show numL ((xs.drop 12).take 1) = r.act by rw [hr]; exact numL_one xs 12 (by omega))
        have HV_ver := Lib.hid (show numL ((xs.drop 13).take 8) = r.ver by rw [hr]; exact rfl)
        have HV_len := Lib.hid (show numL ((xs.drop 21).take 4) = r.len by rw [hr]; exact rfl)
        have HV_st := Lib.hid (show numL ((xs.drop 25).take 1) = r.st by rw [hr]; exact numL_one xs 25 (by omega))
        have HV_md := Lib.hid (show numL ((xs.drop 26).take 1) = r.md by rw [hr]; exact numL_one xs 26 (by omega))
        have HV_nver := Lib.hid (show numL ((xs.drop 59).take 8) = r.nver by rw [hr]; exact rfl)
        have HV_nlen := Lib.hid (show numL ((xs.drop 67).take 4) = r.nlen by rw [hr]; exact rfl)
        have HV_done := Lib.hid (show numL ((xs.drop 71).take 4) = r.done by rw [hr]; exact rfl)
        have HV_pos := Lib.hid (show numL ((xs.drop 75).take 8) = r.pos by rw [hr]; exact rfl)
        have HV_blk := Lib.hid (show numL ((xs.drop 83).take 4) = r.blk by rw [hr]; exact rfl)
        have HV_asz := Lib.hid (show numL ((xs.drop 87).take 4) = r.asz by rw [hr]; exact rfl)
        have i_act := IntWalk.u8_in r.act (by rw [← HV_act.out]; exact numL_range 1 _ (by simp; omega) (fun b h => hb b (List.mem_of_mem_drop (List.mem_of_mem_take h))))
        have i_len := i64_in4 r.len (by rw [← HV_len.out]; exact numL_range 4 _ (by simp; omega) (fun b h => hb b (List.mem_of_mem_drop (List.mem_of_mem_take h))))
        have i_st := IntWalk.u8_in r.st (by rw [← HV_st.out]; exact numL_range 1 _ (by simp; omega) (fun b h => hb b (List.mem_of_mem_drop (List.mem_of_mem_take h))))
        have i_md := IntWalk.u8_in r.md (by rw [← HV_md.out]; exact numL_range 1 _ (by simp; omega) (fun b h => hb b (List.mem_of_mem_drop (List.mem_of_mem_take h))))
        have i_nlen := i64_in4 r.nlen (by rw [← HV_nlen.out]; exact numL_range 4 _ (by simp; omega) (fun b h => hb b (List.mem_of_mem_drop (List.mem_of_mem_take h))))
        have i_done := i64_in4 r.done (by rw [← HV_done.out]; exact numL_range 4 _ (by simp; omega) (fun b h => hb b (List.mem_of_mem_drop (List.mem_of_mem_take h))))
        have i_blk := i64_in4 r.blk (by rw [← HV_blk.out]; exact numL_range 4 _ (by simp; omega) (fun b h => hb b (List.mem_of_mem_drop (List.mem_of_mem_take h))))
        have i_asz := i64_in4 r.asz (by rw [← HV_asz.out]; exact numL_range 4 _ (by simp; omega) (fun b h => hb b (List.mem_of_mem_drop (List.mem_of_mem_take h))))
        have HB := Lib.hid hb
        have q1 : (12 : Int) < (n : Int) := by omega
        have q2 : (25 : Int) < (n : Int) := by omega
        have q3 : (26 : Int) < (n : Int) := by omega
        have HC_act := Lib.hid (show xs.getD 12 0 = r.act by rw [hr]; rfl)
        have HC_st := Lib.hid (show xs.getD 25 0 = r.st by rw [hr]; rfl)
        have HC_md := Lib.hid (show xs.getD 26 0 = r.md by rw [hr]; rfl)
        clear hxl h4 h8 hee hr hb
        go_enter Try.func38, Try.ntmps38
        go_upto_region 7 with ((first | ((with_reducible refine at_build (t := 41) rfl ?_); refine ev_build0 rfl 41 rfl (rec0_build _) ?_) | ((with_reducible refine at_slot (N := 2) rfl ?_); (with_reducible refine at_alloc rfl ?_); refine wpList_does rfl (kd_alloc (z := (.agg (recC rec0))) K _ rfl (by kernel_rfl)) ?_; clear K; rintro _ w1 ⟨go, rfl, K⟩; (try dsimp only [Value.cells] at K)) | ((with_reducible refine at_slot (N := 4) rfl ?_); (with_reducible refine at_alloc rfl ?_); refine wpList_does rfl (kd_alloc (z := (.agg (recC rec0))) K _ rfl (by kernel_rfl)) ?_; clear K; rintro _ w1 ⟨gn, rfl, K⟩; (try dsimp only [Value.cells] at K)) | ((with_reducible refine at_slice (l := none) (h := some _) rfl ?_); refine wpList_reads rfl (kr_cut rfl rfl (0) (91) (.inl ⟨by rfl, by omega⟩) (.inr ⟨_, _, by rfl, by rfl, by omega⟩) (by omega) (by omega) Try.underlying46 (by kernel_rfl)) ?_) | (go_at_call 53; (with_reducible refine (rsum_any K (RC91.cov Cov.auto) (by omega) (by omega) HB91.out (by omega)).mono ?_); clear K; rintro e w1 ⟨rfl, K⟩) | ((with_reducible refine at_slot (N := 5) rfl ?_); (with_reducible refine at_alloc rfl ?_); refine wpList_does rfl (kd_alloc (z := (.agg (u8s (List.replicate 32 0)))) K _ rfl (by kernel_rfl)) ?_; clear K; rintro _ w1 ⟨gs, rfl, K⟩; (try dsimp only [Value.cells] at K)) | ((with_reducible refine at_store rfl ?_); refine wpList_does (by rfl) (kd_store_row K _ _ _ (by rfl) (by rfl) (by rfl) Repl.auto (by rw [u8s_size, shaL_len]; kernel_rfl) (by rw [u8s_size, u8s_size, shaL_len]; rfl) (u8s_one _)) ?_; clear K; intro _ w1 K; (try simp only [Act.put])) | ((with_reducible refine at_slice (l := none) (h := some _) rfl ?_); refine wpList_reads rfl (kr_cut rfl rfl (0) (4) (.inl ⟨by rfl, by omega⟩) (.inr ⟨_, _, by rfl, by rfl, by omega⟩) (by omega) (by omega) Try.underlying46 (by kernel_rfl)) ?_) | ((with_reducible refine at_convert (t := 46) (u := 9) rfl ?_); refine wpList_reads rfl (kr_string rfl rfl (RC4.at_ _ (K.cov Cov.auto)) Try.underlying46 Try.underlying5 Try.underlying9) ?_) | ((with_reducible refine at_bin (b := .neq) (t := 9) rfl ?_); refine wpList_reads rfl (kr_strneq (bs := markL) rfl rfl rfl (by rfl) HB4.out markL_byte) ?_; rw [HEQ4.out]) | ((with_reducible refine at_load (t := 41) rfl ?_); refine wpList_reads (by rfl) (kr_load_row K _ _ (by rfl) (by rfl) Has.auto (by kernel_rfl) (by rw [recC_size _ man0_len]; kernel_rfl)) ?_) | ((with_reducible refine at_store rfl ?_); refine wpList_does (by rfl) (kd_store_row K _ _ _ (by rfl) (by rfl) (by rfl) Repl.auto (by rw [recC_size _ (by first | exact man0_len | assumption)]; kernel_rfl) (by first | (rw [recC_size _ man0_len, recC_size _ (by assumption)]; rfl) | (rw [recC_size _ man0_len]; rfl)) (recC_one _)) ?_; clear K; intro _ w1 K; (try simp only [Act.put]))))
        refine wp_region_QLK K (by kernel_rfl) (by kernel_rfl) ?_
        clear K
        refine wpQL_A (k := 0) (v := .slice (some ⟨gs, 0, none⟩) 8 32) ?_ ?_
        · (intro w hS; exact kr_slice_arr_lt (N := 32) (by rfl) (by rfl) 0 8 (.inl ⟨rfl, rfl⟩) (.inr rfl) (by omega) (by omega) (by omega) Try.underlying38 (by kernel_rfl))
        try simp only [Act.put, List.setIfInBounds_toArray, List.set_cons_zero, List.set_cons_succ]
        refine wpQL_A (k := 1) (v := .string (strOfNums ((shaL (xs.take 91)).take 8))) ?_ ?_
        · (intro w hS; exact kr_string (by rfl) (by rfl) ((RdS.ofRow (w0 := w0) (L := (row gs (u8s (shaL (xs.take 91))) 38 :: row gn (recC rec0) 41 :: row go (recC rec0) 41 :: L)) (xs := (shaL (xs.take 91)).take 8) Has.auto (by simp [shaL_len]) (by simp [u8s])).at_ _ hS) Try.underlying46 Try.underlying5 Try.underlying9)
        try simp only [Act.put, List.setIfInBounds_toArray, List.set_cons_zero, List.set_cons_succ]
        refine wpQL_A (k := 2) (v := ?_) ?_ ?_
        rotate_left
        · (intro w hS; (clear hS; go_simp); try with_reducible rfl)
        try simp only [Act.put, List.setIfInBounds_toArray, List.set_cons_zero, List.set_cons_succ]
        refine wpQL_A (k := 3) (v := .slice (cutA (some ⟨b, off, none⟩) (c) (91)) (8) (c - (91))) ?_ ?_
        · (intro w hS; exact kr_cut (by rfl) (by rfl) (91) (8) (.inr ⟨_, _, by rfl, by rfl, by omega⟩) (.inr ⟨_, _, by rfl, by rfl, by omega⟩) (by omega) (by omega) Try.underlying46 (by kernel_rfl))
        try simp only [Act.put, List.setIfInBounds_toArray, List.set_cons_zero, List.set_cons_succ]
        refine wpQL_A (k := 4) (v := .string (strOfNums ((xs.drop 91).take 8))) ?_ ?_
        · (intro w hS; exact kr_string (by rfl) (by rfl) (RC8.at_ _ (hS.cov Cov.auto)) Try.underlying46 Try.underlying5 Try.underlying9)
        try simp only [Act.put, List.setIfInBounds_toArray, List.set_cons_zero, List.set_cons_succ]
        refine wpQL_endA (k := 5) (fun w1 K K9 hK => ?_)
        refine st_reads (by rfl) (kr_strneq (by rfl) (by rfl) (by rfl) (by rfl) HBS.out HB8.out) ?_
        refine hK.out _ _ ?_
        clear hK K9
        try simp only [Act.put, List.setIfInBounds_toArray, List.set_cons_zero, List.set_cons_succ]
        skip
        rw [HE8.out]
        have HXL := Lib.hid (show 32 ≤ (xs.drop 27).length by have := R.len; simp; omega)
        go_upto_region 9 with (fail)
        refine wp_region_GK K (Cov.all _) (by kernel_rfl) (by kernel_rfl) (by kernel_rfl) (fun K hHeld => ?_)
        refine wpG_takeA 0 (v := ?_) ?_ hHeld ?_
        rotate_left
        · (intro w hS; (clear hS; go_simp); try with_reducible rfl)
        try simp only [Act.put, List.setIfInBounds_toArray, List.set_cons_zero, List.set_cons_succ]
        refine wpG_takeC (i := 1) (x := { dst := some 29, op := Op.call { callee := Callee.value (Operand.func 54), args := #[Operand.tmp 28, Operand.const (Value.int IntKind.i64 4), Operand.const (Value.int IntKind.i64 8)], argTypes := #[46, 3, 3] }, type := 37, pos := "ref.go:61", after := #[{ on := 0, ground := Ground.data }], guard := none }) (v := .int .u64 r.seq) (f := 54) (args := ?_) rfl (by kernel_rfl) (fun _ _ _ h => h) (by rfl) ?_ ?_ hHeld ?_
        rotate_left
        · (intro w; go_simp; try with_reducible rfl)
        · (intro w hS; exact (rget24_any 4 8 4 8 r.seq HV_seq.out hS (R.cov Cov.auto) rfl rfl (by omega) (by omega) (by omega) hc hm HB.out))
        try simp only [Act.put, List.setIfInBounds_toArray, List.set_cons_zero, List.set_cons_succ]
        refine wpG_takeA 2 (v := ?_) ?_ hHeld ?_
        rotate_left
        · (intro w hS; (clear hS; go_simp); try with_reducible rfl)
        try simp only [Act.put, List.setIfInBounds_toArray, List.set_cons_zero, List.set_cons_succ]
        refine wpG_takeA 3 (v := ?_) ?_ hHeld ?_
        rotate_left
        · (intro w hS; (clear hS; go_simp); try with_reducible rfl)
        try simp only [Act.put, List.setIfInBounds_toArray, List.set_cons_zero, List.set_cons_succ]
        refine wpG_takeA 4 (v := .int .u8 r.act) ?_ hHeld ?_
        · (intro w hS; first | exact kr_load_fact _ _ (by rfl) (by rfl) (R.cell (hS.cov Cov.auto) (by omega) HC_act.out (by omega)) (by kernel_rfl))
        try simp only [Act.put, List.setIfInBounds_toArray, List.set_cons_zero, List.set_cons_succ]
        refine wpG_takeA 5 (v := ?_) ?_ hHeld ?_
        rotate_left
        · (intro w hS; (clear hS; go_simp); try with_reducible rfl)
        try simp only [Act.put, List.setIfInBounds_toArray, List.set_cons_zero, List.set_cons_succ]
        refine wpG_takeC (i := 6) (x := { dst := some 34, op := Op.call { callee := Callee.value (Operand.func 54), args := #[Operand.tmp 33, Operand.const (Value.int IntKind.i64 13), Operand.const (Value.int IntKind.i64 8)], argTypes := #[46, 3, 3] }, type := 37, pos := "ref.go:61", after := #[{ on := 5, ground := Ground.data }, { on := 1, ground := Ground.chain }], guard := none }) (v := .int .u64 r.ver) (f := 54) (args := ?_) rfl (by kernel_rfl) (fun _ _ _ h => h) (by rfl) ?_ ?_ hHeld ?_
        rotate_left
        · (intro w; go_simp; try with_reducible rfl)
        · (intro w hS; exact (rget24_any 13 8 13 8 r.ver HV_ver.out hS (R.cov Cov.auto) rfl rfl (by omega) (by omega) (by omega) hc hm HB.out))
        try simp only [Act.put, List.setIfInBounds_toArray, List.set_cons_zero, List.set_cons_succ]
        refine wpG_takeA 7 (v := ?_) ?_ hHeld ?_
        rotate_left
        · (intro w hS; (clear hS; go_simp); try with_reducible rfl)
        try simp only [Act.put, List.setIfInBounds_toArray, List.set_cons_zero, List.set_cons_succ]
        refine wpG_takeC (i := 8) (x := { dst := some 36, op := Op.call { callee := Callee.value (Operand.func 54), args := #[Operand.tmp 35, Operand.const (Value.int IntKind.i64 21), Operand.const (Value.int IntKind.i64 4)], argTypes := #[46, 3, 3] }, type := 37, pos := "ref.go:61", after := #[{ on := 7, ground := Ground.data }, { on := 6, ground := Ground.chain }], guard := none }) (v := .int .u64 r.len) (f := 54) (args := ?_) rfl (by kernel_rfl) (fun _ _ _ h => h) (by rfl) ?_ ?_ hHeld ?_
        rotate_left
        · (intro w; go_simp; try with_reducible rfl)
        · (intro w hS; exact (rget24_any 21 4 21 4 r.len HV_len.out hS (R.cov Cov.auto) rfl rfl (by omega) (by omega) (by omega) hc hm HB.out))
        try simp only [Act.put, List.setIfInBounds_toArray, List.set_cons_zero, List.set_cons_succ]
        refine wpG_takeA 9 (v := ?_) ?_ hHeld ?_
        rotate_left
        · (intro w hS; (clear hS; go_simp); try with_reducible rfl)
        try simp only [Act.put, List.setIfInBounds_toArray, List.set_cons_zero, List.set_cons_succ]
        refine wpG_takeA 10 (v := ?_) ?_ hHeld ?_
        rotate_left
        · (intro w hS; (clear hS; go_simp); try with_reducible rfl)
        try simp only [Act.put, List.setIfInBounds_toArray, List.set_cons_zero, List.set_cons_succ]
        refine wpG_takeA 11 (v := ?_) ?_ hHeld ?_
        rotate_left
        · (intro w hS; (clear hS; go_simp); try with_reducible rfl)
        try simp only [Act.put, List.setIfInBounds_toArray, List.set_cons_zero, List.set_cons_succ]
        refine wpG_takeA 12 (v := .int .u8 r.st) ?_ hHeld ?_
        · (intro w hS; first | exact kr_load_fact _ _ (by rfl) (by rfl) (R.cell (hS.cov Cov.auto) (by omega) HC_st.out (by omega)) (by kernel_rfl))
        try simp only [Act.put, List.setIfInBounds_toArray, List.set_cons_zero, List.set_cons_succ]
        refine wpG_takeA 13 (v := ?_) ?_ hHeld ?_
        rotate_left
        · (intro w hS; (clear hS; go_simp); try with_reducible rfl)
        try simp only [Act.put, List.setIfInBounds_toArray, List.set_cons_zero, List.set_cons_succ]
        refine wpG_takeA 14 (v := ?_) ?_ hHeld ?_
        rotate_left
        · (intro w hS; (clear hS; go_simp); try with_reducible rfl)
        try simp only [Act.put, List.setIfInBounds_toArray, List.set_cons_zero, List.set_cons_succ]
        refine wpG_takeA 15 (v := .int .u8 r.md) ?_ hHeld ?_
        · (intro w hS; first | exact kr_load_fact _ _ (by rfl) (by rfl) (R.cell (hS.cov Cov.auto) (by omega) HC_md.out (by omega)) (by kernel_rfl))
        try simp only [Act.put, List.setIfInBounds_toArray, List.set_cons_zero, List.set_cons_succ]
        refine wpG_takeA 16 (v := .agg (recC ⟨r.seq, r.act, r.ver, r.len, r.st, r.md, man0, 0, 0, 0, 0, 0, 0⟩)) ?_ hHeld ?_
        · (intro w hS; first | exact kr_build 41 (by rfl) (vals := #[(0, .int .u64 r.seq), (1, .int .u8 r.act), (2, .int .u64 r.ver), (3, .int .i64 r.len), (4, .int .u8 r.st), (5, .int .u8 r.md)]) (by first | rfl | (go_simp; done) | (go_simp; rfl)) (build_rec _ _ _ _ _ _ _))
        try simp only [Act.put, List.setIfInBounds_toArray, List.set_cons_zero, List.set_cons_succ]
        refine wpG_oneA 17 (fun K9 hK => ?_)
        refine st_does (by rfl) (kd_alloc K _ (by rfl) (z := .agg (recC rec0)) (by kernel_rfl)) ?_
        clear K; rintro _ w1 ⟨gm, rfl, K⟩; (try dsimp only [Value.cells] at K)
        refine hK.out _ _ (K.cov Cov.auto) (fun hHeld => ?_)
        clear hK K9
        try simp only [Act.put, List.setIfInBounds_toArray, List.set_cons_zero, List.set_cons_succ]
        refine wpG_lastA 18 (fun K9 hK => ?_)
        refine st_does (by rfl) (kd_store_row K _ _ _ (by rfl) (by rfl) (by rfl) Repl.auto (by rw [recC_size _ man0_len]; kernel_rfl) (by rw [recC_size _ man0_len, recC_size _ man0_len]; rfl) (recC_one _)) ?_
        clear K; intro _ w1 K
        refine hK.out _ _ ?_
        clear hK K9
        try simp only [Act.put, List.setIfInBounds_toArray, List.set_cons_zero, List.set_cons_succ]
        skip
        go_upto_region 11 with (fail)
        clear hHeld
        go_loopg [45] 32 (fun d i wr => ∃ k : Nat, i = .int .i64 k ∧ k + d = 32 ∧ Known w0 wr (row gm (recC ⟨r.seq, r.act, r.ver, r.len, r.st, r.md, (xs.drop 27).take k ++ List.replicate (32 - k) 0, 0, 0, 0, 0, 0, 0⟩) 41 :: row gs (u8s (shaL (xs.take 91))) 38 :: row gn (recC rec0) 41 :: row go (recC rec0) 41 :: L))
        case atStart => exact ⟨0, by go_num, by omega, K⟩
        case round =>
          clear K
          obtain ⟨k, rfl, hd, K⟩ := hrel
          by_cases hk : k < 32
          · have hk' : (k : Int) < 32 := by omega
            have hk2 : (0 : Int) ≤ (k : Int) ∧ (k : Int) < 32 := by omega
            have hk3 : (0 : Int) ≤ 27 + (k : Int) ∧ 27 + (k : Int) < (n : Int) := by omega
            have k1 := IntWalk.i64_in (27 + (k : Int)) (by omega)
            obtain ⟨v, hv⟩ : ∃ v, v = (xs.drop 27).getD k 0 := ⟨_, rfl⟩
            have HVV := Lib.hid (show xs.getD (27 + k) 0 = v by rw [hv]; simp [List.getD])
            have HF := Lib.hid (show ((xs.drop 27).take k ++ List.replicate (32 - k) (0 : Int)).set k v = (xs.drop 27).take (k + 1) ++ List.replicate (32 - (k + 1)) 0 by rw [hv]; exact man_fill _ k hk HXL.out)
            obtain ⟨mm, hmm⟩ : ∃ mm, mm = (xs.drop 27).take k ++ List.replicate (32 - k) (0 : Int) := ⟨_, rfl⟩
            rw [← hmm] at K HF
            have HMM := Lib.hid (show mm.length = 32 by rw [hmm]; have := HXL.out; have hl := R.len; rw [List.length_append, List.length_take, List.length_replicate]; omega)
            clear hv hmm
            go_wp2_with (first | ((with_reducible refine at_load rfl ?_); first | (refine wpList_reads (by rfl) (kr_load_cell K _ _ (by rfl) (by rfl) Has.auto (by decide +kernel) (by (try simp only [List.getElem?_toArray, List.getElem?_cons_succ, List.getElem?_cons_zero]); exact rfl)) ?_) | (refine wpList_reads (by rfl) (kr_load_row K _ _ (by rfl) (by rfl) Has.auto (by decide +kernel) (by kernel_rfl)) ?_) | (refine wpList_reads (by rfl) (kr_load_fact _ _ (by rfl) (by rfl) (R.cell (K.cov Cov.auto) (by omega) HVV.out (by omega)) (by decide +kernel)) ?_)) | ((with_reducible refine at_store rfl ?_); refine wpList_does rfl (kd_store_cell K _ _ _ rfl rfl (by conv => lhs; whnf) Repl.auto rfl rfl (by kernel_rfl) (recC_lt _ (by exact HMM.out) (by omega)) (recC_setman k v HMM.out hk)) ?_; clear K; intro _ w1 K; (try simp only [Act.put])))
            rw [HF.out] at K
            go_roundg (gk - 1)
            case measure => omega
            case rel => exact ⟨k + 1, by go_num, by omega, K⟩
          · obtain rfl : k = 32 := by omega
            rw [HMV.out, show r.man ++ List.replicate (32 - 32) (0 : Int) = r.man by simp] at K
            go_upto_region 21 with ((first | (go_at_call 54; (with_reducible refine (rget24_any 4 8 4 8 r.seq HV_seq.out K (R.cov Cov.auto) rfl rfl (by omega) (by omega) (by omega) hc hm HB.out).mono ?_); rintro e w' ⟨rfl, rfl⟩) | (go_at_call 54; (with_reducible refine (rget24_any 12 1 12 1 r.act HV_act.out K (R.cov Cov.auto) rfl rfl (by omega) (by omega) (by omega) hc hm HB.out).mono ?_); rintro e w' ⟨rfl, rfl⟩) | (go_at_call 54; (with_reducible refine (rget24_any 13 8 13 8 r.ver HV_ver.out K (R.cov Cov.auto) rfl rfl (by omega) (by omega) (by omega) hc hm HB.out).mono ?_); rintro e w' ⟨rfl, rfl⟩) | (go_at_call 54; (with_reducible refine (rget24_any 21 4 21 4 r.len HV_len.out K (R.cov Cov.auto) rfl rfl (by omega) (by omega) (by omega) hc hm HB.out).mono ?_); rintro e w' ⟨rfl, rfl⟩) | (go_at_call 54; (with_reducible refine (rget24_any 25 1 25 1 r.st HV_st.out K (R.cov Cov.auto) rfl rfl (by omega) (by omega) (by omega) hc hm HB.out).mono ?_); rintro e w' ⟨rfl, rfl⟩) | (go_at_call 54; (with_reducible refine (rget24_any 26 1 26 1 r.md HV_md.out K (R.cov Cov.auto) rfl rfl (by omega) (by omega) (by omega) hc hm HB.out).mono ?_); rintro e w' ⟨rfl, rfl⟩) | (go_at_call 54; (with_reducible refine (rget24_any 59 8 59 8 r.nver HV_nver.out K (R.cov Cov.auto) rfl rfl (by omega) (by omega) (by omega) hc hm HB.out).mono ?_); rintro e w' ⟨rfl, rfl⟩) | (go_at_call 54; (with_reducible refine (rget24_any 67 4 67 4 r.nlen HV_nlen.out K (R.cov Cov.auto) rfl rfl (by omega) (by omega) (by omega) hc hm HB.out).mono ?_); rintro e w' ⟨rfl, rfl⟩) | (go_at_call 54; (with_reducible refine (rget24_any 71 4 71 4 r.done HV_done.out K (R.cov Cov.auto) rfl rfl (by omega) (by omega) (by omega) hc hm HB.out).mono ?_); rintro e w' ⟨rfl, rfl⟩) | (go_at_call 54; (with_reducible refine (rget24_any 75 8 75 8 r.pos HV_pos.out K (R.cov Cov.auto) rfl rfl (by omega) (by omega) (by omega) hc hm HB.out).mono ?_); rintro e w' ⟨rfl, rfl⟩) | (go_at_call 54; (with_reducible refine (rget24_any 83 4 83 4 r.blk HV_blk.out K (R.cov Cov.auto) rfl rfl (by omega) (by omega) (by omega) hc hm HB.out).mono ?_); rintro e w' ⟨rfl, rfl⟩) | (go_at_call 54; (with_reducible refine (rget24_any 87 4 87 4 r.asz HV_asz.out K (R.cov Cov.auto) rfl rfl (by omega) (by omega) (by omega) hc hm HB.out).mono ?_); rintro e w' ⟨rfl, rfl⟩) | ((with_reducible refine at_store rfl ?_); refine wpList_does rfl (kd_store_cell K _ _ _ rfl rfl (by conv => lhs; whnf) Repl.auto rfl rfl (by kernel_rfl) (recC_lt _ (by exact HMN.out) (by decide)) (recC_set _ _ _ _ (by rfl) (by exact HMN.out))) ?_; clear K; intro _ w1 K; (try simp only [Act.put]); simp only [recSet_38, recSet_39, recSet_40, recSet_41, recSet_42, recSet_43] at K)))
            replace K : Known w0 _ (row gm (recC r) 41 :: _) := K
            cases hv : mayR r
            · have HRES := Lib.hid (show resG xs = (rec0, 3) by rw [HRG.out, hv]; rfl)
              have HMN2 := HMN.out
              have hmv := Lib.hid hv
              clear hv
              go_wp2_with (first | ((with_reducible refine at_load (t := 41) rfl ?_); refine wpList_reads (by rfl) (kr_load_row K _ _ (by rfl) (by rfl) (Has.hd _ _) (by kernel_rfl) (by rw [recC_size _ HMN2]; kernel_rfl)) ?_) | (go_at_call 12; (with_reducible refine (rjmay_any K false hmv.out HMN.out).mono ?_); clear K; rintro e w1 ⟨rfl, K⟩) | ((with_reducible refine at_build (t := 41) rfl ?_); refine ev_build0 rfl 41 rfl (rec0_build _) ?_) | ((with_reducible refine at_slot (N := 2) rfl ?_); (with_reducible refine at_alloc rfl ?_); refine wpList_does rfl (kd_alloc (z := (.agg (recC rec0))) K _ rfl (by kernel_rfl)) ?_; clear K; rintro _ w1 ⟨go, rfl, K⟩; (try dsimp only [Value.cells] at K)) | ((with_reducible refine at_slot (N := 4) rfl ?_); (with_reducible refine at_alloc rfl ?_); refine wpList_does rfl (kd_alloc (z := (.agg (recC rec0))) K _ rfl (by kernel_rfl)) ?_; clear K; rintro _ w1 ⟨gn, rfl, K⟩; (try dsimp only [Value.cells] at K)) | ((with_reducible refine at_slice (l := none) (h := some _) rfl ?_); refine wpList_reads rfl (kr_cut rfl rfl (0) (91) (.inl ⟨by rfl, by omega⟩) (.inr ⟨_, _, by rfl, by rfl, by omega⟩) (by omega) (by omega) Try.underlying46 (by kernel_rfl)) ?_) | (go_at_call 53; (with_reducible refine (rsum_any K (RC91.cov Cov.auto) (by omega) (by omega) HB91.out (by omega)).mono ?_); clear K; rintro e w1 ⟨rfl, K⟩) | ((with_reducible refine at_slot (N := 5) rfl ?_); (with_reducible refine at_alloc rfl ?_); refine wpList_does rfl (kd_alloc (z := (.agg (u8s (List.replicate 32 0)))) K _ rfl (by kernel_rfl)) ?_; clear K; rintro _ w1 ⟨gs, rfl, K⟩; (try dsimp only [Value.cells] at K)) | ((with_reducible refine at_store rfl ?_); refine wpList_does (by rfl) (kd_store_row K _ _ _ (by rfl) (by rfl) (by rfl) Repl.auto (by rw [u8s_size, shaL_len]; kernel_rfl) (by rw [u8s_size, u8s_size, shaL_len]; rfl) (u8s_one _)) ?_; clear K; intro _ w1 K; (try simp only [Act.put])) | ((with_reducible refine at_slice (l := none) (h := some _) rfl ?_); refine wpList_reads rfl (kr_cut rfl rfl (0) (4) (.inl ⟨by rfl, by omega⟩) (.inr ⟨_, _, by rfl, by rfl, by omega⟩) (by omega) (by omega) Try.underlying46 (by kernel_rfl)) ?_) | ((with_reducible refine at_convert (t := 46) (u := 9) rfl ?_); refine wpList_reads rfl (kr_string rfl rfl (RC4.at_ _ (K.cov Cov.auto)) Try.underlying46 Try.underlying5 Try.underlying9) ?_) | ((with_reducible refine at_bin (b := .neq) (t := 9) rfl ?_); refine wpList_reads rfl (kr_strneq (bs := markL) rfl rfl rfl (by rfl) HB4.out markL_byte) ?_; rw [HEQ4.out]) | ((with_reducible refine at_load (t := 41) rfl ?_); refine wpList_reads (by rfl) (kr_load_row K _ _ (by rfl) (by rfl) Has.auto (by kernel_rfl) (by rw [recC_size _ man0_len]; kernel_rfl)) ?_) | ((with_reducible refine at_store rfl ?_); refine wpList_does (by rfl) (kd_store_row K _ _ _ (by rfl) (by rfl) (by rfl) Repl.auto (by rw [recC_size _ (by first | exact man0_len | assumption)]; kernel_rfl) (by first | (rw [recC_size _ man0_len, recC_size _ (by assumption)]; rfl) | (rw [recC_size _ man0_len]; rfl)) (recC_one _)) ?_; clear K; intro _ w1 K; (try simp only [Act.put])))
              exact bodyPost_cell2K K (by rfl) (by rfl) (by rfl) Has.auto (by kernel_rfl) (by rw [recC_size _ (by first | exact man0_len | assumption)]; kernel_rfl) rfl ⟨by rw [HRES.out]; rfl, K.cov Cov.auto⟩
            · have HRES := Lib.hid (show resG xs = (r, 0) by rw [HRG.out, hv]; rfl)
              have HMN2 := HMN.out
              have hmv := Lib.hid hv
              clear hv
              go_wp2_with (first | ((with_reducible refine at_load (t := 41) rfl ?_); refine wpList_reads (by rfl) (kr_load_row K _ _ (by rfl) (by rfl) (Has.hd _ _) (by kernel_rfl) (by rw [recC_size _ HMN2]; kernel_rfl)) ?_) | (go_at_call 12; (with_reducible refine (rjmay_any K true hmv.out HMN.out).mono ?_); clear K; rintro e w1 ⟨rfl, K⟩) | ((with_reducible refine at_store rfl ?_); refine wpList_does (by rfl) (kd_store_row K _ _ _ (by rfl) (by rfl) (by rfl) Repl.auto (by rw [recC_size _ (by first | exact man0_len | assumption)]; kernel_rfl) (by first | (rw [recC_size _ man0_len, recC_size _ (by assumption)]; rfl) | (rw [recC_size _ man0_len]; rfl)) (recC_one _)) ?_; clear K; intro _ w1 K; (try simp only [Act.put])))
              exact bodyPost_cell2K K (by rfl) (by rfl) (by rfl) Has.auto (by kernel_rfl) (by rw [recC_size _ (by first | exact man0_len | assumption)]; kernel_rfl) rfl ⟨by rw [HRES.out]; rfl, K.cov Cov.auto⟩
      · have HRES := Lib.hid (show resG xs = (rec0, 10) by rw [resG, if_neg (by omega), if_neg (by rw [h4]; simp), if_pos h8])
        have h99' : ¬ ((n : Int) < 99) := by omega
        have hee : ((shaL (xs.take 91)).take 8 == (xs.drop 91).take 8) = false := by rw [beq_eq_false_iff_ne]; exact h8
        have HE8 := Lib.hid hee
        clear hxl h4 h8 hee
        go_enter Try.func38, Try.ntmps38
        go_upto_region 7 with ((first | ((with_reducible refine at_build (t := 41) rfl ?_); refine ev_build0 rfl 41 rfl (rec0_build _) ?_) | ((with_reducible refine at_slot (N := 2) rfl ?_); (with_reducible refine at_alloc rfl ?_); refine wpList_does rfl (kd_alloc (z := (.agg (recC rec0))) K _ rfl (by kernel_rfl)) ?_; clear K; rintro _ w1 ⟨go, rfl, K⟩; (try dsimp only [Value.cells] at K)) | ((with_reducible refine at_slot (N := 4) rfl ?_); (with_reducible refine at_alloc rfl ?_); refine wpList_does rfl (kd_alloc (z := (.agg (recC rec0))) K _ rfl (by kernel_rfl)) ?_; clear K; rintro _ w1 ⟨gn, rfl, K⟩; (try dsimp only [Value.cells] at K)) | ((with_reducible refine at_slice (l := none) (h := some _) rfl ?_); refine wpList_reads rfl (kr_cut rfl rfl (0) (91) (.inl ⟨by rfl, by omega⟩) (.inr ⟨_, _, by rfl, by rfl, by omega⟩) (by omega) (by omega) Try.underlying46 (by kernel_rfl)) ?_) | (go_at_call 53; (with_reducible refine (rsum_any K (RC91.cov Cov.auto) (by omega) (by omega) HB91.out (by omega)).mono ?_); clear K; rintro e w1 ⟨rfl, K⟩) | ((with_reducible refine at_slot (N := 5) rfl ?_); (with_reducible refine at_alloc rfl ?_); refine wpList_does rfl (kd_alloc (z := (.agg (u8s (List.replicate 32 0)))) K _ rfl (by kernel_rfl)) ?_; clear K; rintro _ w1 ⟨gs, rfl, K⟩; (try dsimp only [Value.cells] at K)) | ((with_reducible refine at_store rfl ?_); refine wpList_does (by rfl) (kd_store_row K _ _ _ (by rfl) (by rfl) (by rfl) Repl.auto (by rw [u8s_size, shaL_len]; kernel_rfl) (by rw [u8s_size, u8s_size, shaL_len]; rfl) (u8s_one _)) ?_; clear K; intro _ w1 K; (try simp only [Act.put])) | ((with_reducible refine at_slice (l := none) (h := some _) rfl ?_); refine wpList_reads rfl (kr_cut rfl rfl (0) (4) (.inl ⟨by rfl, by omega⟩) (.inr ⟨_, _, by rfl, by rfl, by omega⟩) (by omega) (by omega) Try.underlying46 (by kernel_rfl)) ?_) | ((with_reducible refine at_convert (t := 46) (u := 9) rfl ?_); refine wpList_reads rfl (kr_string rfl rfl (RC4.at_ _ (K.cov Cov.auto)) Try.underlying46 Try.underlying5 Try.underlying9) ?_) | ((with_reducible refine at_bin (b := .neq) (t := 9) rfl ?_); refine wpList_reads rfl (kr_strneq (bs := markL) rfl rfl rfl (by rfl) HB4.out markL_byte) ?_; rw [HEQ4.out]) | ((with_reducible refine at_load (t := 41) rfl ?_); refine wpList_reads (by rfl) (kr_load_row K _ _ (by rfl) (by rfl) Has.auto (by kernel_rfl) (by rw [recC_size _ man0_len]; kernel_rfl)) ?_) | ((with_reducible refine at_store rfl ?_); refine wpList_does (by rfl) (kd_store_row K _ _ _ (by rfl) (by rfl) (by rfl) Repl.auto (by rw [recC_size _ (by first | exact man0_len | assumption)]; kernel_rfl) (by first | (rw [recC_size _ man0_len, recC_size _ (by assumption)]; rfl) | (rw [recC_size _ man0_len]; rfl)) (recC_one _)) ?_; clear K; intro _ w1 K; (try simp only [Act.put]))))
        refine wp_region_QLK K (by kernel_rfl) (by kernel_rfl) ?_
        clear K
        refine wpQL_A (k := 0) (v := .slice (some ⟨gs, 0, none⟩) 8 32) ?_ ?_
        · (intro w hS; exact kr_slice_arr_lt (N := 32) (by rfl) (by rfl) 0 8 (.inl ⟨rfl, rfl⟩) (.inr rfl) (by omega) (by omega) (by omega) Try.underlying38 (by kernel_rfl))
        try simp only [Act.put, List.setIfInBounds_toArray, List.set_cons_zero, List.set_cons_succ]
        refine wpQL_A (k := 1) (v := .string (strOfNums ((shaL (xs.take 91)).take 8))) ?_ ?_
        · (intro w hS; exact kr_string (by rfl) (by rfl) ((RdS.ofRow (w0 := w0) (L := (row gs (u8s (shaL (xs.take 91))) 38 :: row gn (recC rec0) 41 :: row go (recC rec0) 41 :: L)) (xs := (shaL (xs.take 91)).take 8) Has.auto (by simp [shaL_len]) (by simp [u8s])).at_ _ hS) Try.underlying46 Try.underlying5 Try.underlying9)
        try simp only [Act.put, List.setIfInBounds_toArray, List.set_cons_zero, List.set_cons_succ]
        refine wpQL_A (k := 2) (v := ?_) ?_ ?_
        rotate_left
        · (intro w hS; (clear hS; go_simp); try with_reducible rfl)
        try simp only [Act.put, List.setIfInBounds_toArray, List.set_cons_zero, List.set_cons_succ]
        refine wpQL_A (k := 3) (v := .slice (cutA (some ⟨b, off, none⟩) (c) (91)) (8) (c - (91))) ?_ ?_
        · (intro w hS; exact kr_cut (by rfl) (by rfl) (91) (8) (.inr ⟨_, _, by rfl, by rfl, by omega⟩) (.inr ⟨_, _, by rfl, by rfl, by omega⟩) (by omega) (by omega) Try.underlying46 (by kernel_rfl))
        try simp only [Act.put, List.setIfInBounds_toArray, List.set_cons_zero, List.set_cons_succ]
        refine wpQL_A (k := 4) (v := .string (strOfNums ((xs.drop 91).take 8))) ?_ ?_
        · (intro w hS; exact kr_string (by rfl) (by rfl) (RC8.at_ _ (hS.cov Cov.auto)) Try.underlying46 Try.underlying5 Try.underlying9)
        try simp only [Act.put, List.setIfInBounds_toArray, List.set_cons_zero, List.set_cons_succ]
        refine wpQL_endA (k := 5) (fun w1 K K9 hK => ?_)
        refine st_reads (by rfl) (kr_strneq (by rfl) (by rfl) (by rfl) (by rfl) HBS.out HB8.out) ?_
        refine hK.out _ _ ?_
        clear hK K9
        try simp only [Act.put, List.setIfInBounds_toArray, List.set_cons_zero, List.set_cons_succ]
        skip
        rw [HE8.out]
        go_wp2_with (first | ((with_reducible refine at_build (t := 41) rfl ?_); refine ev_build0 rfl 41 rfl (rec0_build _) ?_) | ((with_reducible refine at_slot (N := 2) rfl ?_); (with_reducible refine at_alloc rfl ?_); refine wpList_does rfl (kd_alloc (z := (.agg (recC rec0))) K _ rfl (by kernel_rfl)) ?_; clear K; rintro _ w1 ⟨go, rfl, K⟩; (try dsimp only [Value.cells] at K)) | ((with_reducible refine at_slot (N := 4) rfl ?_); (with_reducible refine at_alloc rfl ?_); refine wpList_does rfl (kd_alloc (z := (.agg (recC rec0))) K _ rfl (by kernel_rfl)) ?_; clear K; rintro _ w1 ⟨gn, rfl, K⟩; (try dsimp only [Value.cells] at K)) | ((with_reducible refine at_slice (l := none) (h := some _) rfl ?_); refine wpList_reads rfl (kr_cut rfl rfl (0) (91) (.inl ⟨by rfl, by omega⟩) (.inr ⟨_, _, by rfl, by rfl, by omega⟩) (by omega) (by omega) Try.underlying46 (by kernel_rfl)) ?_) | (go_at_call 53; (with_reducible refine (rsum_any K (RC91.cov Cov.auto) (by omega) (by omega) HB91.out (by omega)).mono ?_); clear K; rintro e w1 ⟨rfl, K⟩) | ((with_reducible refine at_slot (N := 5) rfl ?_); (with_reducible refine at_alloc rfl ?_); refine wpList_does rfl (kd_alloc (z := (.agg (u8s (List.replicate 32 0)))) K _ rfl (by kernel_rfl)) ?_; clear K; rintro _ w1 ⟨gs, rfl, K⟩; (try dsimp only [Value.cells] at K)) | ((with_reducible refine at_store rfl ?_); refine wpList_does (by rfl) (kd_store_row K _ _ _ (by rfl) (by rfl) (by rfl) Repl.auto (by rw [u8s_size, shaL_len]; kernel_rfl) (by rw [u8s_size, u8s_size, shaL_len]; rfl) (u8s_one _)) ?_; clear K; intro _ w1 K; (try simp only [Act.put])) | ((with_reducible refine at_slice (l := none) (h := some _) rfl ?_); refine wpList_reads rfl (kr_cut rfl rfl (0) (4) (.inl ⟨by rfl, by omega⟩) (.inr ⟨_, _, by rfl, by rfl, by omega⟩) (by omega) (by omega) Try.underlying46 (by kernel_rfl)) ?_) | ((with_reducible refine at_convert (t := 46) (u := 9) rfl ?_); refine wpList_reads rfl (kr_string rfl rfl (RC4.at_ _ (K.cov Cov.auto)) Try.underlying46 Try.underlying5 Try.underlying9) ?_) | ((with_reducible refine at_bin (b := .neq) (t := 9) rfl ?_); refine wpList_reads rfl (kr_strneq (bs := markL) rfl rfl rfl (by rfl) HB4.out markL_byte) ?_; rw [HEQ4.out]) | ((with_reducible refine at_load (t := 41) rfl ?_); refine wpList_reads (by rfl) (kr_load_row K _ _ (by rfl) (by rfl) Has.auto (by kernel_rfl) (by rw [recC_size _ man0_len]; kernel_rfl)) ?_) | ((with_reducible refine at_store rfl ?_); refine wpList_does (by rfl) (kd_store_row K _ _ _ (by rfl) (by rfl) (by rfl) Repl.auto (by rw [recC_size _ (by first | exact man0_len | assumption)]; kernel_rfl) (by first | (rw [recC_size _ man0_len, recC_size _ (by assumption)]; rfl) | (rw [recC_size _ man0_len]; rfl)) (recC_one _)) ?_; clear K; intro _ w1 K; (try simp only [Act.put])))
        exact bodyPost_cell2K K (by rfl) (by rfl) (by rfl) Has.auto (by kernel_rfl) (by rw [recC_size _ (by first | exact man0_len | assumption)]; kernel_rfl) rfl ⟨by rw [HRES.out]; rfl, K.cov Cov.auto⟩
    · have HRES := Lib.hid (show resG xs = (rec0, 3) by rw [resG, if_neg (by omega), if_pos h4])
      have HEQ4 := Lib.hid (show (xs.take 4 == markL) = false by simpa using h4)
      have h99' : ¬ ((n : Int) < 99) := by omega
      clear hxl h4
      go_enter Try.func38, Try.ntmps38
      go_wp2_with (first | ((with_reducible refine at_build (t := 41) rfl ?_); refine ev_build0 rfl 41 rfl (rec0_build _) ?_) | ((with_reducible refine at_slot (N := 2) rfl ?_); (with_reducible refine at_alloc rfl ?_); refine wpList_does rfl (kd_alloc (z := (.agg (recC rec0))) K _ rfl (by kernel_rfl)) ?_; clear K; rintro _ w1 ⟨go, rfl, K⟩; (try dsimp only [Value.cells] at K)) | ((with_reducible refine at_slot (N := 4) rfl ?_); (with_reducible refine at_alloc rfl ?_); refine wpList_does rfl (kd_alloc (z := (.agg (recC rec0))) K _ rfl (by kernel_rfl)) ?_; clear K; rintro _ w1 ⟨gn, rfl, K⟩; (try dsimp only [Value.cells] at K)) | ((with_reducible refine at_slice (l := none) (h := some _) rfl ?_); refine wpList_reads rfl (kr_cut rfl rfl (0) (91) (.inl ⟨by rfl, by omega⟩) (.inr ⟨_, _, by rfl, by rfl, by omega⟩) (by omega) (by omega) Try.underlying46 (by kernel_rfl)) ?_) | (go_at_call 53; (with_reducible refine (rsum_any K (RC91.cov Cov.auto) (by omega) (by omega) HB91.out (by omega)).mono ?_); clear K; rintro e w1 ⟨rfl, K⟩) | ((with_reducible refine at_slot (N := 5) rfl ?_); (with_reducible refine at_alloc rfl ?_); refine wpList_does rfl (kd_alloc (z := (.agg (u8s (List.replicate 32 0)))) K _ rfl (by kernel_rfl)) ?_; clear K; rintro _ w1 ⟨gs, rfl, K⟩; (try dsimp only [Value.cells] at K)) | ((with_reducible refine at_store rfl ?_); refine wpList_does (by rfl) (kd_store_row K _ _ _ (by rfl) (by rfl) (by rfl) Repl.auto (by rw [u8s_size, shaL_len]; kernel_rfl) (by rw [u8s_size, u8s_size, shaL_len]; rfl) (u8s_one _)) ?_; clear K; intro _ w1 K; (try simp only [Act.put])) | ((with_reducible refine at_slice (l := none) (h := some _) rfl ?_); refine wpList_reads rfl (kr_cut rfl rfl (0) (4) (.inl ⟨by rfl, by omega⟩) (.inr ⟨_, _, by rfl, by rfl, by omega⟩) (by omega) (by omega) Try.underlying46 (by kernel_rfl)) ?_) | ((with_reducible refine at_convert (t := 46) (u := 9) rfl ?_); refine wpList_reads rfl (kr_string rfl rfl (RC4.at_ _ (K.cov Cov.auto)) Try.underlying46 Try.underlying5 Try.underlying9) ?_) | ((with_reducible refine at_bin (b := .neq) (t := 9) rfl ?_); refine wpList_reads rfl (kr_strneq (bs := markL) rfl rfl rfl (by rfl) HB4.out markL_byte) ?_; rw [HEQ4.out]) | ((with_reducible refine at_load (t := 41) rfl ?_); refine wpList_reads (by rfl) (kr_load_row K _ _ (by rfl) (by rfl) Has.auto (by kernel_rfl) (by rw [recC_size _ man0_len]; kernel_rfl)) ?_) | ((with_reducible refine at_store rfl ?_); refine wpList_does (by rfl) (kd_store_row K _ _ _ (by rfl) (by rfl) (by rfl) Repl.auto (by rw [recC_size _ (by first | exact man0_len | assumption)]; kernel_rfl) (by first | (rw [recC_size _ man0_len, recC_size _ (by assumption)]; rfl) | (rw [recC_size _ man0_len]; rfl)) (recC_one _)) ?_; clear K; intro _ w1 K; (try simp only [Act.put])))
      exact bodyPost_cell2K K (by rfl) (by rfl) (by rfl) Has.auto (by kernel_rfl) (by rw [recC_size _ (by first | exact man0_len | assumption)]; kernel_rfl) rfl ⟨by rw [HRES.out]; rfl, K.cov Cov.auto⟩
end
end Go.Proofs.Ytfdddipmeadecaa

/-
  journal: a writing and what it tells; equality of records; the statements' walks.
-/
set_option linter.unusedVariables false
set_option linter.unusedSimpArgs false
namespace Go.Proofs.Ytfdddipmeadecaa
open Go.RowKit
theorem beN_succ_last : ∀ (k : Nat) (x : Int), 0 ≤ x → beN (k + 1) x = beN k (x / 256) ++ [x % 256]
  | 0, x, h => by simp [beN]
  | k + 1, x, h => by
    have e : (2 : Int) ^ (8 * (k + 1)) = 256 * 2 ^ (8 * k) := by rw [Nat.mul_add, Int.pow_add, Int.mul_comm]; rfl
    have ih := beN_succ_last k x h
    rw [beN, ih, beN, e, ← Int.ediv_ediv_of_nonneg (by omega)]
    rfl
theorem numL_beN : ∀ (k : Nat) (x : Int), 0 ≤ x → x < 256 ^ k → numL (beN k x) = x
  | 0, x, h, h2 => by simp at h2; simp [beN, numL]; omega
  | k + 1, x, h, h2 => by
    rw [beN_succ_last k x h, numL_snoc, numL_beN k (x / 256) (by omega) (by rw [Int.pow_succ] at h2; omega)]
    omega
theorem beN_numLn : ∀ (n : Nat) (l : List Int), l.length = n → (∀ c ∈ l, 0 ≤ c ∧ c ≤ 255) → beN n (numL l) = l
  | 0, l, hn, _ => by rw [List.eq_nil_of_length_eq_zero hn]; rfl
  | n + 1, l, hn, h => by
    rcases List.eq_nil_or_concat l with rfl | ⟨l, c, rfl⟩
    · simp at hn
    · have hc := h c (by simp)
      have hl : ∀ x ∈ l, 0 ≤ x ∧ x ≤ 255 := fun x hx => h x (by simp [hx])
      have hb := numL_bound l.length l (Nat.le_refl _) hl
      simp only [List.concat_eq_append, List.length_append, List.length_singleton] at hn ⊢
      rw [numL_snoc, beN_succ_last _ _ (by omega), show (numL l * 256 + c) / 256 = numL l by omega, show (numL l * 256 + c) % 256 = c by omega, beN_numLn n l (by omega) hl]
theorem beN_numL (l : List Int) (h : ∀ c ∈ l, 0 ≤ c ∧ c ≤ 255) : beN l.length (numL l) = l := beN_numLn _ l rfl h


theorem recW_take91 (r : Rec) (hm : r.man.length = 32) : (recW r).take 91 = recB r := by
  unfold recW
  rw [List.take_left' (recB_len r hm)]
theorem recW_cut0 (r : Rec) (hm : r.man.length = 32) : ((recW r).drop 0).take 4 = markL := by
  have e : recW r = ([]) ++ (markL ++ (beN 8 r.seq ++ [r.act] ++ beN 8 r.ver ++ beN 4 r.len ++ [r.st] ++ [r.md] ++ r.man ++ beN 8 r.nver ++ beN 4 r.nlen ++ beN 4 r.done ++ beN 8 r.pos ++ beN 4 r.blk ++ beN 4 r.asz ++ (shaL (recB r)).take 8)) := by simp only [recW, recB, List.append_assoc, List.append_nil, List.nil_append]
  rw [e, List.drop_left' (by simp [markL, beN_length, hm]), List.take_left' (by simp [beN_length, hm, markL, shaL_len])]
theorem recW_cut1 (r : Rec) (hm : r.man.length = 32) : ((recW r).drop 4).take 8 = beN 8 r.seq := by
  have e : recW r = (markL) ++ (beN 8 r.seq ++ ([r.act] ++ beN 8 r.ver ++ beN 4 r.len ++ [r.st] ++ [r.md] ++ r.man ++ beN 8 r.nver ++ beN 4 r.nlen ++ beN 4 r.done ++ beN 8 r.pos ++ beN 4 r.blk ++ beN 4 r.asz ++ (shaL (recB r)).take 8)) := by simp only [recW, recB, List.append_assoc, List.append_nil, List.nil_append]
  rw [e, List.drop_left' (by simp [markL, beN_length, hm]), List.take_left' (by simp [beN_length, hm, markL, shaL_len])]
theorem recW_cut2 (r : Rec) (hm : r.man.length = 32) : ((recW r).drop 12).take 1 = [r.act] := by
  have e : recW r = (markL ++ beN 8 r.seq) ++ ([r.act] ++ (beN 8 r.ver ++ beN 4 r.len ++ [r.st] ++ [r.md] ++ r.man ++ beN 8 r.nver ++ beN 4 r.nlen ++ beN 4 r.done ++ beN 8 r.pos ++ beN 4 r.blk ++ beN 4 r.asz ++ (shaL (recB r)).take 8)) := by simp only [recW, recB, List.append_assoc, List.append_nil, List.nil_append]
  rw [e, List.drop_left' (by simp [markL, beN_length, hm]), List.take_left' (by simp [beN_length, hm, markL, shaL_len])]
theorem recW_cut3 (r : Rec) (hm : r.man.length = 32) : ((recW r).drop 13).take 8 = beN 8 r.ver := by
  have e : recW r = (markL ++ beN 8 r.seq ++ [r.act]) ++ (beN 8 r.ver ++ (beN 4 r.len ++ [r.st] ++ [r.md] ++ r.man ++ beN 8 r.nver ++ beN 4 r.nlen ++ beN 4 r.done ++ beN 8 r.pos ++ beN 4 r.blk ++ beN 4 r.asz ++ (shaL (recB r)).take 8)) := by simp only [recW, recB, List.append_assoc, List.append_nil, List.nil_append]
  rw [e, List.drop_left' (by simp [markL, beN_length, hm]), List.take_left' (by simp [beN_length, hm, markL, shaL_len])]
theorem recW_cut4 (r : Rec) (hm : r.man.length = 32) : ((recW r).drop 21).take 4 = beN 4 r.len := by
  have e : recW r = (markL ++ beN 8 r.seq ++ [r.act] ++ beN 8 r.ver) ++ (beN 4 r.len ++ ([r.st] ++ [r.md] ++ r.man ++ beN 8 r.nver ++ beN 4 r.nlen ++ beN 4 r.done ++ beN 8 r.pos ++ beN 4 r.blk ++ beN 4 r.asz ++ (shaL (recB r)).take 8)) := by simp only [recW, recB, List.append_assoc, List.append_nil, List.nil_append]
  rw [e, List.drop_left' (by simp [markL, beN_length, hm]), List.take_left' (by simp [beN_length, hm, markL, shaL_len])]
theorem recW_cut5 (r : Rec) (hm : r.man.length = 32) : ((recW r).drop 25).take 1 = [r.st] := by
  have e : recW r = (markL ++ beN 8 r.seq ++ [r.act] ++ beN 8 r.ver ++ beN 4 r.len) ++ ([r.st] ++ ([r.md] ++ r.man ++ beN 8 r.nver ++ beN 4 r.nlen ++ beN 4 r.done ++ beN 8 r.pos ++ beN 4 r.blk ++ beN 4 r.asz ++ (shaL (recB r)).take 8)) := by simp only [recW, recB, List.append_assoc, List.append_nil, List.nil_append]
  rw [e, List.drop_left' (by simp [markL, beN_length, hm]), List.take_left' (by simp [beN_length, hm, markL, shaL_len])]
theorem recW_cut6 (r : Rec) (hm : r.man.length = 32) : ((recW r).drop 26).take 1 = [r.md] := by
  have e : recW r = (markL ++ beN 8 r.seq ++ [r.act] ++ beN 8 r.ver ++ beN 4 r.len ++ [r.st]) ++ ([r.md] ++ (r.man ++ beN 8 r.nver ++ beN 4 r.nlen ++ beN 4 r.done ++ beN 8 r.pos ++ beN 4 r.blk ++ beN 4 r.asz ++ (shaL (recB r)).take 8)) := by simp only [recW, recB, List.append_assoc, List.append_nil, List.nil_append]
  rw [e, List.drop_left' (by simp [markL, beN_length, hm]), List.take_left' (by simp [beN_length, hm, markL, shaL_len])]
theorem recW_cut7 (r : Rec) (hm : r.man.length = 32) : ((recW r).drop 27).take 32 = r.man := by
  have e : recW r = (markL ++ beN 8 r.seq ++ [r.act] ++ beN 8 r.ver ++ beN 4 r.len ++ [r.st] ++ [r.md]) ++ (r.man ++ (beN 8 r.nver ++ beN 4 r.nlen ++ beN 4 r.done ++ beN 8 r.pos ++ beN 4 r.blk ++ beN 4 r.asz ++ (shaL (recB r)).take 8)) := by simp only [recW, recB, List.append_assoc, List.append_nil, List.nil_append]
  rw [e, List.drop_left' (by simp [markL, beN_length, hm]), List.take_left' (by simp [beN_length, hm, markL, shaL_len])]
theorem recW_cut8 (r : Rec) (hm : r.man.length = 32) : ((recW r).drop 59).take 8 = beN 8 r.nver := by
  have e : recW r = (markL ++ beN 8 r.seq ++ [r.act] ++ beN 8 r.ver ++ beN 4 r.len ++ [r.st] ++ [r.md] ++ r.man) ++ (beN 8 r.nver ++ (beN 4 r.nlen ++ beN 4 r.done ++ beN 8 r.pos ++ beN 4 r.blk ++ beN 4 r.asz ++ (shaL (recB r)).take 8)) := by simp only [recW, recB, List.append_assoc, List.append_nil, List.nil_append]
  rw [e, List.drop_left' (by simp [markL, beN_length, hm]), List.take_left' (by simp [beN_length, hm, markL, shaL_len])]
theorem recW_cut9 (r : Rec) (hm : r.man.length = 32) : ((recW r).drop 67).take 4 = beN 4 r.nlen := by
  have e : recW r = (markL ++ beN 8 r.seq ++ [r.act] ++ beN 8 r.ver ++ beN 4 r.len ++ [r.st] ++ [r.md] ++ r.man ++ beN 8 r.nver) ++ (beN 4 r.nlen ++ (beN 4 r.done ++ beN 8 r.pos ++ beN 4 r.blk ++ beN 4 r.asz ++ (shaL (recB r)).take 8)) := by simp only [recW, recB, List.append_assoc, List.append_nil, List.nil_append]
  rw [e, List.drop_left' (by simp [markL, beN_length, hm]), List.take_left' (by simp [beN_length, hm, markL, shaL_len])]
theorem recW_cut10 (r : Rec) (hm : r.man.length = 32) : ((recW r).drop 71).take 4 = beN 4 r.done := by
  have e : recW r = (markL ++ beN 8 r.seq ++ [r.act] ++ beN 8 r.ver ++ beN 4 r.len ++ [r.st] ++ [r.md] ++ r.man ++ beN 8 r.nver ++ beN 4 r.nlen) ++ (beN 4 r.done ++ (beN 8 r.pos ++ beN 4 r.blk ++ beN 4 r.asz ++ (shaL (recB r)).take 8)) := by simp only [recW, recB, List.append_assoc, List.append_nil, List.nil_append]
  rw [e, List.drop_left' (by simp [markL, beN_length, hm]), List.take_left' (by simp [beN_length, hm, markL, shaL_len])]
theorem recW_cut11 (r : Rec) (hm : r.man.length = 32) : ((recW r).drop 75).take 8 = beN 8 r.pos := by
  have e : recW r = (markL ++ beN 8 r.seq ++ [r.act] ++ beN 8 r.ver ++ beN 4 r.len ++ [r.st] ++ [r.md] ++ r.man ++ beN 8 r.nver ++ beN 4 r.nlen ++ beN 4 r.done) ++ (beN 8 r.pos ++ (beN 4 r.blk ++ beN 4 r.asz ++ (shaL (recB r)).take 8)) := by simp only [recW, recB, List.append_assoc, List.append_nil, List.nil_append]
  rw [e, List.drop_left' (by simp [markL, beN_length, hm]), List.take_left' (by simp [beN_length, hm, markL, shaL_len])]
theorem recW_cut12 (r : Rec) (hm : r.man.length = 32) : ((recW r).drop 83).take 4 = beN 4 r.blk := by
  have e : recW r = (markL ++ beN 8 r.seq ++ [r.act] ++ beN 8 r.ver ++ beN 4 r.len ++ [r.st] ++ [r.md] ++ r.man ++ beN 8 r.nver ++ beN 4 r.nlen ++ beN 4 r.done ++ beN 8 r.pos) ++ (beN 4 r.blk ++ (beN 4 r.asz ++ (shaL (recB r)).take 8)) := by simp only [recW, recB, List.append_assoc, List.append_nil, List.nil_append]
  rw [e, List.drop_left' (by simp [markL, beN_length, hm]), List.take_left' (by simp [beN_length, hm, markL, shaL_len])]
theorem recW_cut13 (r : Rec) (hm : r.man.length = 32) : ((recW r).drop 87).take 4 = beN 4 r.asz := by
  have e : recW r = (markL ++ beN 8 r.seq ++ [r.act] ++ beN 8 r.ver ++ beN 4 r.len ++ [r.st] ++ [r.md] ++ r.man ++ beN 8 r.nver ++ beN 4 r.nlen ++ beN 4 r.done ++ beN 8 r.pos ++ beN 4 r.blk) ++ (beN 4 r.asz ++ ((shaL (recB r)).take 8)) := by simp only [recW, recB, List.append_assoc, List.append_nil, List.nil_append]
  rw [e, List.drop_left' (by simp [markL, beN_length, hm]), List.take_left' (by simp [beN_length, hm, markL, shaL_len])]
theorem recW_cut14 (r : Rec) (hm : r.man.length = 32) : ((recW r).drop 91).take 8 = (shaL (recB r)).take 8 := by
  have e : recW r = (markL ++ beN 8 r.seq ++ [r.act] ++ beN 8 r.ver ++ beN 4 r.len ++ [r.st] ++ [r.md] ++ r.man ++ beN 8 r.nver ++ beN 4 r.nlen ++ beN 4 r.done ++ beN 8 r.pos ++ beN 4 r.blk ++ beN 4 r.asz) ++ ((shaL (recB r)).take 8 ++ ([])) := by simp only [recW, recB, List.append_assoc, List.append_nil, List.nil_append]
  rw [e, List.drop_left' (by simp [markL, beN_length, hm]), List.take_left' (by simp [beN_length, hm, markL, shaL_len])]

theorem getD_cut {xs : List Int} {i : Nat} {x : Int} (h : (xs.drop i).take 1 = [x]) : xs.getD i 0 = x := by
  have h2 : ((xs.drop i).take 1)[0]? = some x := by rw [h]; rfl
  rw [List.getElem?_take_of_lt (by omega), List.getElem?_drop] at h2
  simpa [List.getD] using congrArg (·.getD 0) h2
theorem getRec_recW (r : Rec) (h : RecOk r) (hv : mayR r = true) : getRec (recW r) = r := by
  have hm := h.man
  rw [mayR_lt] at hv
  simp only [Bool.and_eq_true] at hv
  obtain ⟨_, _, _, v1, v2, v3, v4, v5⟩ := hv
  have e8 : (256 : Int) ^ 8 = 18446744073709551616 := by decide
  have e4 : (256 : Int) ^ 4 = 4294967296 := by decide
  have n8 : ∀ x : Int, 0 ≤ x ∧ x ≤ 18446744073709551615 → numL (beN 8 x) = x := fun x hx => numL_beN 8 x hx.1 (by omega)
  have n4 : ∀ x : Int, inR x = true → numL (beN 4 x) = x := fun x hx => by
    simp only [inR, Bool.and_eq_true, decide_eq_true_eq] at hx
    exact numL_beN 4 x hx.1 (by omega)
  obtain ⟨u1, u2, u3, u4⟩ := h.u64
  unfold getRec
  rw [recW_cut1 r hm, getD_cut (recW_cut2 r hm), recW_cut3 r hm, recW_cut4 r hm, getD_cut (recW_cut5 r hm), getD_cut (recW_cut6 r hm), recW_cut7 r hm, recW_cut8 r hm, recW_cut9 r hm, recW_cut10 r hm, recW_cut11 r hm, recW_cut12 r hm, recW_cut13 r hm,
    n8 _ u1, n8 _ u2, n8 _ u3, n8 _ u4, n4 _ v1, n4 _ v2, n4 _ v3, n4 _ v4, n4 _ v5]
theorem resG_recW (r : Rec) (h : RecOk r) (hv : mayR r = true) : resG (recW r) = (r, 0) := by
  have hm := h.man
  have h4 : (recW r).take 4 = markL := by have := recW_cut0 r hm; rwa [List.drop_zero] at this
  rw [resG, if_neg (by rw [recW_len r hm]; omega), if_neg (by rw [h4]; simp), if_neg (by rw [recW_take91 r hm, recW_cut14 r hm]; simp), getRec_recW r h hv, if_pos hv]
theorem recC_ext_man (r : Rec) (h : r.man.length = 32) : (recC r).extract 6 (6 + 32) = u8s r.man := by
  apply Array.ext'
  rw [Array.toList_extract]
  simpa [u8s, List.extract_eq_take_drop] using recC_man r h
def recEq (r s : Rec) : Bool := r.seq == s.seq && (r.act == s.act && (r.ver == s.ver && (r.len == s.len && (r.st == s.st && (r.md == s.md && (r.man == s.man && (r.nver == s.nver && (r.nlen == s.nlen && (r.done == s.done && (r.pos == s.pos && (r.blk == s.blk && (r.asz == s.asz && true))))))))))))
theorem recEq_iff (r s : Rec) : recEq r s = true ↔ r = s := by
  obtain ⟨a0, a1, a2, a3, a4, a5, a6, a7, a8, a9, a10, a11, a12⟩ := r
  obtain ⟨b0, b1, b2, b3, b4, b5, b6, b7, b8, b9, b10, b11, b12⟩ := s
  simp [recEq]
theorem recEq_self (r : Rec) : recEq r r = true := (recEq_iff r r).2 rfl
theorem eql_rec (r s : Rec) (hr : r.man.length = 32) (hs : s.man.length = 32) (w : World) : (binOp .eql 41 (.agg (recC r)) (.agg (recC s))).run Try.prog w = .ok (.bool (recEq r s)) w := by
  rw [run_eql_struct, eq_struct w (d := 9999) Try.underlying41 (by kernel_rfl) (r := recEq r s)]
  · rfl
  · unfold recEq
    refine eq_fields_cons w rfl (part_cell w (by kernel_rfl) (recC_0 _)) (part_cell w (by kernel_rfl) (recC_0 _)) (eq_int w _ _ _ _ Try.underlying37) ?_
    refine eq_fields_cons w rfl (part_cell w (by kernel_rfl) (recC_1 _)) (part_cell w (by kernel_rfl) (recC_1 _)) (eq_int w _ _ _ _ Try.underlying5) ?_
    refine eq_fields_cons w rfl (part_cell w (by kernel_rfl) (recC_2 _)) (part_cell w (by kernel_rfl) (recC_2 _)) (eq_int w _ _ _ _ Try.underlying37) ?_
    refine eq_fields_cons w rfl (part_cell w (by kernel_rfl) (recC_3 _)) (part_cell w (by kernel_rfl) (recC_3 _)) (eq_int w _ _ _ _ Try.underlying3) ?_
    refine eq_fields_cons w rfl (part_cell w (by kernel_rfl) (recC_4 _)) (part_cell w (by kernel_rfl) (recC_4 _)) (eq_int w _ _ _ _ Try.underlying5) ?_
    refine eq_fields_cons w rfl (part_cell w (by kernel_rfl) (recC_5 _)) (part_cell w (by kernel_rfl) (recC_5 _)) (eq_int w _ _ _ _ Try.underlying5) ?_
    refine eq_fields_cons w rfl (part_agg (n := 32) w (by kernel_rfl) (by kernel_rfl) (recC_ext_man r hr)) (part_agg (n := 32) w (by kernel_rfl) (by kernel_rfl) (recC_ext_man s hs)) (eq_u8s w _ 32 Try.underlying39 Try.underlying5 (sizeIs_run (by kernel_rfl) w) _ _ hr hs) ?_
    refine eq_fields_cons w rfl (part_cell w (by kernel_rfl) (recC_38 _ hr)) (part_cell w (by kernel_rfl) (recC_38 _ hs)) (eq_int w _ _ _ _ Try.underlying37) ?_
    refine eq_fields_cons w rfl (part_cell w (by kernel_rfl) (recC_39 _ hr)) (part_cell w (by kernel_rfl) (recC_39 _ hs)) (eq_int w _ _ _ _ Try.underlying3) ?_
    refine eq_fields_cons w rfl (part_cell w (by kernel_rfl) (recC_40 _ hr)) (part_cell w (by kernel_rfl) (recC_40 _ hs)) (eq_int w _ _ _ _ Try.underlying3) ?_
    refine eq_fields_cons w rfl (part_cell w (by kernel_rfl) (recC_41 _ hr)) (part_cell w (by kernel_rfl) (recC_41 _ hs)) (eq_int w _ _ _ _ Try.underlying37) ?_
    refine eq_fields_cons w rfl (part_cell w (by kernel_rfl) (recC_42 _ hr)) (part_cell w (by kernel_rfl) (recC_42 _ hs)) (eq_int w _ _ _ _ Try.underlying3) ?_
    refine eq_fields_cons w rfl (part_cell w (by kernel_rfl) (recC_43 _ hr)) (part_cell w (by kernel_rfl) (recC_43 _ hs)) (eq_int w _ _ _ _ Try.underlying3) ?_

    exact eq_fields_nil w
end Go.Proofs.Ytfdddipmeadecaa

/-
  journal: the statements JournalWrites, JournalReads, JournalNil (walks).
-/
set_option linter.unusedVariables false
set_option linter.unusedSimpArgs false
namespace Go.Proofs.Ytfdddipmeadecaa
open Go.RowKit
theorem rec0_ok : RecOk rec0 := ⟨by decide, by decide, rfl, by decide⟩
theorem rec0_may : mayR rec0 = true := by decide


theorem resG_man (xs : List Int) : (resG xs).1.man.length = 32 := by
  unfold resG
  split
  · rfl
  · split
    · rfl
    · split
      · rfl
      · split
        · exact getRec_man xs (by omega)
        · rfl
section
variable {w0 w : World} {L : List Ent} {r : Rec} {A : Option Addr} {n c : Nat} {xs : List Int}
set_option maxRecDepth 100000 in
theorem awake24K (K : Known w0 w L) : Calls Try.prog 9 #[] w fun e w' => e = .returned (.bool true) ∧ Known w0 w' L := by
  go_enter Try.func9, Try.ntmps9
  go_wp2_with (first | ((with_reducible refine at_build (t := 41) rfl ?_); refine ev_build0 rfl 41 rfl (rec0_build _) ?_) | (go_at_call 26; (with_reducible refine (jput_yes K rec0_may rec0_ok).mono ?_); clear K; rintro e w1 ⟨A1, c1, X1, rfl, O, K⟩))
  go_ret
  exact ⟨rfl, K.cov Cov.auto⟩
theorem kr_strneq_ff {P : Program} {o : Oper} {a : Act} {W : World} {T U : TypeId} {x y : Operand} {us bs : List Int} {s : ByteArray} (ho : o.op = .binOp .neq T x y U) (hx : a.eval x = .string (strOfNums us)) (hy : a.eval y = .string s) (hs : s = strOfNums bs) (he : us = bs) (ha : ∀ v ∈ us, 0 ≤ v ∧ v ≤ 255) : (execOp a.eval o).run P W = .ok (.value (.bool false)) W := by
  subst he
  simpa using kr_strneq (P := P) (W := W) ho hx hy hs ha ha
set_option maxRecDepth 100000 in
theorem jlast_nil (K : Known w0 w L) : Calls Try.prog 10 #[.pointer none] w fun e w' => e = .returned (.agg (recC rec0)) ∧ Known w0 w' L := by
  go_enter Try.func10, Try.ntmps10
  go_wp2_with (first | ((with_reducible refine at_build (t := 41) rfl ?_); refine ev_build0 rfl 41 rfl (rec0_build _) ?_) | ((with_reducible refine at_slot (N := 2) rfl ?_); (with_reducible refine at_alloc rfl ?_); refine wpList_does rfl (kd_alloc (z := (.agg (recC rec0))) K _ rfl (by kernel_rfl)) ?_; clear K; rintro _ w1 ⟨gx, rfl, K⟩; (try dsimp only [Value.cells] at K)) | ((with_reducible refine at_store rfl ?_); refine wpList_does (by rfl) (kd_store_row K _ _ _ (by rfl) (by rfl) (by rfl) Repl.auto (by rw [recC_size _ (by first | exact man0_len | exact HMN.out | exact HMG.out)]; kernel_rfl) (by first | (rw [recC_size _ man0_len, recC_size _ (by first | exact HMN.out | exact HMG.out)]; rfl) | (rw [recC_size _ man0_len]; rfl)) (recC_one _)) ?_; clear K; intro _ w1 K; (try simp only [Act.put])))
  exact bodyPost_cellK K (by rfl) (by rfl) Has.auto (by kernel_rfl) (by rw [recC_size _ man0_len]; kernel_rfl) rfl ⟨rfl, K.cov Cov.auto⟩
set_option maxRecDepth 100000 in
theorem jwrite_nil (K : Known w0 w L) : Calls Try.prog 11 #[.pointer none, .agg (recC r)] w fun e w' => e = .returned (.int .i64 1) ∧ Known w0 w' L := by
  go_enter Try.func11, Try.ntmps11
  go_wp2_with (first | ((with_reducible refine at_box rfl ?_); refine wpList_does rfl (kd_box K _ _ rfl (by conv => lhs; whnf)) ?_; clear K; rintro _ w1 ⟨gx, rfl, K⟩; (try dsimp only [Value.cells] at K)))
  go_ret
  exact ⟨rfl, K.cov Cov.auto⟩
end
end Go.Proofs.Ytfdddipmeadecaa
