/-
  journal: records in memory; whether one may be (contracts).
-/
import Derived.Test.YtokbloddaoakgaaOctG
import Derived.Deep.Cut
set_option linter.unusedVariables false
set_option linter.unusedSimpArgs false
namespace Go.Proofs.Ytokbloddaoakgaa
open Go.RowKit

structure Rec where
  (seq act ver len st md : Int) (man : List Int) (nver nlen done pos blk asz : Int)
/-- a record's cells -/
def recC (r : Rec) : Array Value := ([Value.int .u64 r.seq, Value.int .u8 r.act, Value.int .u64 r.ver, Value.int .i64 r.len, Value.int .u8 r.st, Value.int .u8 r.md] ++ (r.man.map (Value.int .u8) ++ [Value.int .u64 r.nver, Value.int .i64 r.nlen, Value.int .i64 r.done, Value.int .u64 r.pos, Value.int .i64 r.blk, Value.int .i64 r.asz])).toArray
theorem recC_size (r : Rec) (h : r.man.length = 32) : (recC r).size = 44 := by simp [recC, h]
theorem recC_0 (r : Rec) : (recC r)[0]? = some (.int .u64 r.seq) := by simp [recC]
theorem recC_1 (r : Rec) : (recC r)[1]? = some (.int .u8 r.act) := by simp [recC]
theorem recC_2 (r : Rec) : (recC r)[2]? = some (.int .u64 r.ver) := by simp [recC]
theorem recC_3 (r : Rec) : (recC r)[3]? = some (.int .i64 r.len) := by simp [recC]
theorem recC_4 (r : Rec) : (recC r)[4]? = some (.int .u8 r.st) := by simp [recC]
theorem recC_5 (r : Rec) : (recC r)[5]? = some (.int .u8 r.md) := by simp [recC]

theorem recC_38 (r : Rec) (h : r.man.length = 32) : (recC r)[38]? = some (.int .u64 r.nver) := by
  rw [recC, List.getElem?_toArray, show (38 : Nat) = 32 + 1 + 1 + 1 + 1 + 1 + 1 from rfl]
  simp [List.getElem?_append_right, h]
theorem recC_39 (r : Rec) (h : r.man.length = 32) : (recC r)[39]? = some (.int .i64 r.nlen) := by
  rw [recC, List.getElem?_toArray, show (39 : Nat) = 33 + 1 + 1 + 1 + 1 + 1 + 1 from rfl]
  simp [List.getElem?_append_right, h]
theorem recC_40 (r : Rec) (h : r.man.length = 32) : (recC r)[40]? = some (.int .i64 r.done) := by
  rw [recC, List.getElem?_toArray, show (40 : Nat) = 34 + 1 + 1 + 1 + 1 + 1 + 1 from rfl]
  simp [List.getElem?_append_right, h]
theorem recC_41 (r : Rec) (h : r.man.length = 32) : (recC r)[41]? = some (.int .u64 r.pos) := by
  rw [recC, List.getElem?_toArray, show (41 : Nat) = 35 + 1 + 1 + 1 + 1 + 1 + 1 from rfl]
  simp [List.getElem?_append_right, h]
theorem recC_42 (r : Rec) (h : r.man.length = 32) : (recC r)[42]? = some (.int .i64 r.blk) := by
  rw [recC, List.getElem?_toArray, show (42 : Nat) = 36 + 1 + 1 + 1 + 1 + 1 + 1 from rfl]
  simp [List.getElem?_append_right, h]
theorem recC_43 (r : Rec) (h : r.man.length = 32) : (recC r)[43]? = some (.int .i64 r.asz) := by
  rw [recC, List.getElem?_toArray, show (43 : Nat) = 37 + 1 + 1 + 1 + 1 + 1 + 1 from rfl]
  simp [List.getElem?_append_right, h]

theorem recC_man (r : Rec) (h : r.man.length = 32) : ((recC r).toList.drop 6).take 32 = r.man.map (Value.int .u8) := by
  simp [recC, h]
theorem recC_one (r : Rec) : (recC r).all (·.oneCell') = true := by
  simp only [recC, List.all_toArray, List.all_append, List.all_map, List.all_cons, List.all_nil, Bool.and_eq_true, List.all_eq_true]
  refine ⟨⟨rfl, rfl, rfl, rfl, rfl, rfl, trivial⟩, fun x _ => rfl, rfl, rfl, rfl, rfl, rfl, rfl, trivial⟩
def inR (n : Int) : Bool := decide (0 ≤ n) && decide (n ≤ 2147483647)
def mayR (r : Rec) : Bool := decide (r.act ≤ 1) && (decide (r.st ≤ 3) && (decide (r.md ≤ 3) && [r.len, r.nlen, r.done, r.blk, r.asz].all inR))
theorem mayR_lt (r : Rec) : mayR r = (decide (r.act < 2) && (decide (r.st < 4) && (decide (r.md < 4) && (inR r.len && (inR r.nlen && (inR r.done && (inR r.blk && inR r.asz))))))) := by
  have e : ∀ x y : Int, decide (x ≤ y) = decide (x < y + 1) := fun x y => by simp [Int.lt_add_one_iff]
  simp [mayR, e]
theorem ret_bool {a b : Bool} (h : a = b) : Ending.returned (.bool a) = Ending.returned (.bool b) := by rw [h]
section
variable {w0 w : World} {L : List Ent} {A B : Option Addr} {n c m c2 : Nat} {xs ys : List Int}
theorem in1_any (x : Int) (w : World) : Calls Try.prog 89 #[.int .i64 x] w fun e w' => e = .returned (.bool (!inR x)) ∧ w = w' := by
  go_enter Try.func89, Try.ntmps89
  go_wp2
  all_goals
    go_ret
    refine ⟨ret_bool ?_, rfl⟩
    (try simp only [beq_iff_eq, beq_eq_false_iff_ne, bne_iff_ne, ne_eq, bne_eq_false_iff_eq] at *)
    by_cases h1 : 0 ≤ x <;> by_cases h2 : x ≤ 2147483647 <;> simp [inR, h1, h2] <;> omega
theorem rin_any (x : Int) (w : World) : Calls Try.prog 64 #[.int .i64 x] w fun e w' => e = .returned (.bool (inR x)) ∧ w = w' := by
  go_enter Try.func64, Try.ntmps64
  go_wp2
  all_goals
    go_ret
    refine ⟨ret_bool ?_, rfl⟩
    (try simp only [beq_iff_eq, beq_eq_false_iff_ne, bne_iff_ne, ne_eq, bne_eq_false_iff_eq] at *)
    by_cases h1 : 0 ≤ x <;> by_cases h2 : x ≤ 2147483647 <;> simp [inR, h1, h2] <;> omega
set_option maxRecDepth 100000 in
theorem equal_any (K : Known w0 w L) (R1 : RdS w0 L .u8 A n xs) (R2 : RdS w0 L .u8 B m ys) (hn9 : n ≤ 1000000000000) :
    Calls Try.prog 65 #[.slice A n c, .slice B m c2] w fun e w' => e = .returned (.bool (xs == ys)) ∧ Known w0 w' L := by
  have h1 := R1.len
  have h2 := R2.len
  by_cases hnm : n = m
  · subst hnm
    have H1 := Lib.hid h1
    have H2 := Lib.hid h2
    clear h1 h2
    go_enter Try.func65, Try.ntmps65
    go_wp2
    go_loopg [13] n (fun d i wr => ∃ k : Nat, i = .int .i64 k ∧ k + d = n ∧ Hid (∀ j, j < k → xs.getD j 0 = ys.getD j 0) ∧ Known w0 wr L)
    case atStart => exact ⟨0, by go_num, by omega, Lib.hid (fun j hj => by omega), K⟩
    case round =>
      clear K
      obtain ⟨k, rfl, hd, HE, K⟩ := hrel
      by_cases hk : k < n
      · have hk' : (k : Int) < (n : Int) := by omega
        have hk2 : (0 : Int) ≤ (k : Int) ∧ (k : Int) < (n : Int) := by omega
        obtain ⟨b, off, rfl⟩ := R1.form K (by omega)
        obtain ⟨b2, off2, rfl⟩ := R2.form K (by omega)
        obtain ⟨u, hu⟩ : ∃ u, xs.getD k 0 = u := ⟨_, rfl⟩
        obtain ⟨v, hv⟩ : ∃ v, ys.getD k 0 = v := ⟨_, rfl⟩
        have HU := Lib.hid hu
        have HV := Lib.hid hv
        clear hu hv
        go_upto_region 6 with (fail)
        refine wp_region_QLK K (by kernel_rfl) (by kernel_rfl) ?_
        clear K
        refine wpQL_step (k := 0) (x := { dst := some 16, op := Op.move (Operand.tmp 0), type := 24, pos := "slices.go:25", after := #[], guard := none }) (v := ?_) rfl (by kernel_rfl) (by rfl) ?_ ?_
        rotate_left
        · (intro w hS; refine quiet_value ?_; (clear hS; go_simp); try with_reducible rfl)
        try simp only [Act.put, List.setIfInBounds_toArray, List.set_cons_zero, List.set_cons_succ]
        refine wpQL_step (k := 1) (x := { dst := some 17, op := Op.move (Operand.tmp 5), type := 3, pos := "slices.go:25", after := #[], guard := none }) (v := ?_) rfl (by kernel_rfl) (by rfl) ?_ ?_
        rotate_left
        · (intro w hS; refine quiet_value ?_; (clear hS; go_simp); try with_reducible rfl)
        try simp only [Act.put, List.setIfInBounds_toArray, List.set_cons_zero, List.set_cons_succ]
        refine wpQL_step (k := 2) (x := { dst := some 18, op := Op.indexAddr 24 (Operand.tmp 16) (Operand.tmp 17), type := 0, pos := "slices.go:25", after := #[{ on := 0, ground := Ground.data }, { on := 1, ground := Ground.data }], guard := none }) (v := ?_) rfl (by kernel_rfl) (by rfl) ?_ ?_
        rotate_left
        · (intro w hS; refine quiet_value ?_; (clear hS; go_simp); try with_reducible rfl)
        try simp only [Act.put, List.setIfInBounds_toArray, List.set_cons_zero, List.set_cons_succ]
        refine wpQL_step (k := 3) (x := { dst := some 19, op := Op.load 5 (Operand.tmp 18), type := 5, pos := "slices.go:25", after := #[{ on := 2, ground := Ground.data }], guard := none }) (v := .int .u8 u) rfl (by kernel_rfl) (by rfl) ?_ ?_
        · (intro w hS; refine quiet_value ?_; first | exact kr_load_fact _ _ (by rfl) (by rfl) (R1.cell hS (by omega) HU.out rfl) (by kernel_rfl))
        try simp only [Act.put, List.setIfInBounds_toArray, List.set_cons_zero, List.set_cons_succ]
        refine wpQL_step (k := 4) (x := { dst := some 20, op := Op.move (Operand.tmp 1), type := 24, pos := "slices.go:25", after := #[], guard := none }) (v := ?_) rfl (by kernel_rfl) (by rfl) ?_ ?_
        rotate_left
        · (intro w hS; refine quiet_value ?_; (clear hS; go_simp); try with_reducible rfl)
        try simp only [Act.put, List.setIfInBounds_toArray, List.set_cons_zero, List.set_cons_succ]
        refine wpQL_step (k := 5) (x := { dst := some 21, op := Op.move (Operand.tmp 5), type := 3, pos := "slices.go:25", after := #[], guard := none }) (v := ?_) rfl (by kernel_rfl) (by rfl) ?_ ?_
        rotate_left
        · (intro w hS; refine quiet_value ?_; (clear hS; go_simp); try with_reducible rfl)
        try simp only [Act.put, List.setIfInBounds_toArray, List.set_cons_zero, List.set_cons_succ]
        refine wpQL_step (k := 6) (x := { dst := some 22, op := Op.indexAddr 24 (Operand.tmp 20) (Operand.tmp 21), type := 0, pos := "slices.go:25", after := #[{ on := 4, ground := Ground.data }, { on := 5, ground := Ground.data }], guard := none }) (v := ?_) rfl (by kernel_rfl) (by rfl) ?_ ?_
        rotate_left
        · (intro w hS; refine quiet_value ?_; (clear hS; go_simp); try with_reducible rfl)
        try simp only [Act.put, List.setIfInBounds_toArray, List.set_cons_zero, List.set_cons_succ]
        refine wpQL_step (k := 7) (x := { dst := some 23, op := Op.load 5 (Operand.tmp 22), type := 5, pos := "slices.go:25", after := #[{ on := 6, ground := Ground.data }], guard := none }) (v := .int .u8 v) rfl (by kernel_rfl) (by rfl) ?_ ?_
        · (intro w hS; refine quiet_value ?_; first | exact kr_load_fact _ _ (by rfl) (by rfl) (R2.cell hS (by omega) HV.out rfl) (by kernel_rfl))
        try simp only [Act.put, List.setIfInBounds_toArray, List.set_cons_zero, List.set_cons_succ]
        refine wpQL_end (k := 8) (x := { dst := some 24, op := Op.binOp BinOp.neq 5 (Operand.tmp 19) (Operand.tmp 23) 5, type := 4, pos := "slices.go:25", after := #[{ on := 3, ground := Ground.data }, { on := 7, ground := Ground.data }], guard := none }) rfl (by kernel_rfl) (fun w1 K K9 hK => ?_)
        refine st_reads (v := ?_) (by rfl) ?_ ?_
        rotate_left
        · (go_simp; try with_reducible rfl)
        refine hK.out _ _ ?_
        clear hK K9
        try simp only [Act.put, List.setIfInBounds_toArray, List.set_cons_zero, List.set_cons_succ]
        skip
        by_cases huv : u = v
        · have huv' : (u != v) = false := by simpa using huv
          go_wp2
          go_roundg (gk - 1)
          case measure => omega
          case rel => exact ⟨k + 1, by go_num, by omega, Lib.hid (fun j hj => by
            rcases Nat.lt_succ_iff_lt_or_eq.1 hj with h | rfl
            · exact HE.out j h
            · rw [HU.out, HV.out, huv]), K⟩
        · have huv' : (u != v) = true := by simpa using huv
          go_wp2
          go_ret
          refine ⟨ret_bool ?_, K⟩
          symm
          rw [beq_eq_false_iff_ne]
          intro e
          exact huv (by rw [← HU.out, ← HV.out, e])
      · obtain rfl : k = n := by omega
        go_wp2
        go_ret
        refine ⟨ret_bool ?_, K⟩
        symm
        rw [beq_iff_eq]
        apply List.ext_getElem (by rw [H1.out, H2.out])
        intro j hj1 hj2
        have := HE.out j (by rw [← H1.out]; exact hj1)
        simpa [List.getD, hj1, hj2] using this
  · have hne : ((n : Int) != (m : Int)) = true := by simp; omega
    have H1 := Lib.hid h1
    have H2 := Lib.hid h2
    clear h1 h2
    go_enter Try.func65, Try.ntmps65
    go_wp2
    go_ret
    refine ⟨ret_bool ?_, K⟩
    symm
    rw [beq_eq_false_iff_ne]
    intro e
    exact hnm (by rw [← H1.out, ← H2.out, e])
set_option maxRecDepth 100000 in
theorem index_in_any (K : Known w0 w L) (R : RdS w0 L .i64 A n xs) (hn9 : n ≤ 1000000000000) :
    Calls Try.prog 100 #[.slice A n c, .func (.func 89) #[] #[]] w fun e w' => ∃ k : Int, e = .returned (.int .i64 k) ∧ Hid ((decide (0 ≤ k)) = !(xs.all inR)) ∧ Known w0 w' L := by
  have h1 := R.len
  have H1 := Lib.hid h1
  clear h1
  go_enter Try.func100, Try.ntmps100
  go_wp2
  go_loopg [8] n (fun d i wr => ∃ k : Nat, i = .int .i64 k ∧ k + d = n ∧ Hid ((xs.take k).all inR = true) ∧ Known w0 wr L)
  case atStart => exact ⟨0, by go_num, by omega, Lib.hid (by simp), K⟩
  case round =>
    clear K
    obtain ⟨k, rfl, hd, HE, K⟩ := hrel
    by_cases hk : k < n
    · have hk' : (k : Int) < (n : Int) := by omega
      have hk2 : (0 : Int) ≤ (k : Int) ∧ (k : Int) < (n : Int) := by omega
      obtain ⟨b, off, rfl⟩ := R.form K (by omega)
      obtain ⟨u, hu⟩ : ∃ u, xs.getD k 0 = u := ⟨_, rfl⟩
      have HT := Lib.hid (show xs.take (k + 1) = xs.take k ++ [u] by rw [take_snoc' xs k (by rw [H1.out]; exact hk), hu])
      have HU := Lib.hid hu
      have HM := Lib.hid (show u ∈ xs by
        rw [← hu, List.getD_eq_getElem?_getD, List.getElem?_eq_getElem (by rw [H1.out]; exact hk)]
        exact List.getElem_mem _)
      clear hu
      cases hin : inR u
      · go_wp2_with (first | ((with_reducible refine at_load rfl ?_); first | (refine wpList_reads (by rfl) (kr_load_cell K _ _ (by rfl) (by rfl) (by repeat (first | with_reducible exact Has.hd _ _ | with_reducible refine Has.tl _ ?_ | with_reducible refine Has.ap _ ?_)) (by decide +kernel) (by (try simp only [List.getElem?_toArray, List.getElem?_cons_succ, List.getElem?_cons_zero]); exact rfl)) ?_) | (refine wpList_reads (by rfl) (kr_load_row K _ _ (by rfl) (by rfl) (by repeat (first | with_reducible exact Has.hd _ _ | with_reducible refine Has.tl _ ?_ | with_reducible refine Has.ap _ ?_)) (by decide +kernel) (by kernel_rfl)) ?_) | (refine wpList_reads (by rfl) (kr_load_fact _ _ (by rfl) (by rfl) (R.cell K (by omega) HU.out rfl) (by decide +kernel)) ?_)) | (go_at_call 89; (with_reducible refine (in1_any u _).mono ?_); rintro e w' ⟨rfl, rfl⟩; rw [hin]))
        go_ret
        refine ⟨_, rfl, Lib.hid ?_, K⟩
        have : xs.all inR = false := by
          rw [List.all_eq_false]
          exact ⟨u, HM.out, by simp [hin]⟩
        rw [this]
        simp
      · go_wp2_with (first | ((with_reducible refine at_load rfl ?_); first | (refine wpList_reads (by rfl) (kr_load_cell K _ _ (by rfl) (by rfl) (by repeat (first | with_reducible exact Has.hd _ _ | with_reducible refine Has.tl _ ?_ | with_reducible refine Has.ap _ ?_)) (by decide +kernel) (by (try simp only [List.getElem?_toArray, List.getElem?_cons_succ, List.getElem?_cons_zero]); exact rfl)) ?_) | (refine wpList_reads (by rfl) (kr_load_row K _ _ (by rfl) (by rfl) (by repeat (first | with_reducible exact Has.hd _ _ | with_reducible refine Has.tl _ ?_ | with_reducible refine Has.ap _ ?_)) (by decide +kernel) (by kernel_rfl)) ?_) | (refine wpList_reads (by rfl) (kr_load_fact _ _ (by rfl) (by rfl) (R.cell K (by omega) HU.out rfl) (by decide +kernel)) ?_)) | (go_at_call 89; (with_reducible refine (in1_any u _).mono ?_); rintro e w' ⟨rfl, rfl⟩; rw [hin]))
        go_roundg (gk - 1)
        case measure => omega
        case rel => exact ⟨k + 1, by go_num, by omega, Lib.hid (by rw [HT.out, List.all_append, HE.out]; simp [hin]), K⟩
    · obtain rfl : k = n := by omega
      go_wp2
      go_ret
      refine ⟨_, rfl, Lib.hid ?_, K⟩
      rw [List.take_of_length_le (by rw [H1.out]; omega)] at HE
      rw [HE.out]
      rfl
set_option maxRecDepth 100000 in
theorem contains_in_any (K : Known w0 w L) (R : RdS w0 L .i64 A n xs) (hn9 : n ≤ 1000000000000) :
    Calls Try.prog 88 #[.slice A n c, .func (.func 89) #[] #[]] w fun e w' => e = .returned (.bool (!xs.all inR)) ∧ Known w0 w' L := by
  go_enter Try.func88, Try.ntmps88
  go_wp2_with (first | (go_at_call 100; (with_reducible refine (index_in_any K R hn9).mono ?_); clear K; rintro e w1 ⟨k, rfl, HK, K⟩))
  go_ret
  exact ⟨ret_bool HK.out, K⟩
set_option maxRecDepth 100000 in
theorem in_any (K : Known w0 w L) (R : RdS w0 L .i64 A n xs) (hn9 : n ≤ 1000000000000) :
    Calls Try.prog 63 #[.slice A n c] w fun e w' => e = .returned (.bool (xs.all inR)) ∧ Known w0 w' L := by
  go_enter Try.func63, Try.ntmps63
  go_wp2_with (first | (go_at_call 88; (with_reducible refine (contains_in_any K R hn9).mono ?_); clear K; rintro e w1 ⟨rfl, K⟩))
  go_ret
  exact ⟨ret_bool (by simp), K⟩
variable {r : Rec}

set_option maxHeartbeats 800000 in
set_option maxRecDepth 100000 in
theorem jmay_any (K : Known w0 w L) (b : Bool) (hb : mayR r = b) (hm : r.man.length = 32) :
    Calls Try.prog 24 #[.agg (recC r)] w fun e w' => e = .returned (.bool b) ∧ Known w0 w' L := by
  have HMN := Lib.hid hm
  have HB := Lib.hid hb
  clear hm hb
  by_cases h1 : r.act ≤ 1
  · by_cases h2 : r.st ≤ 3
    · by_cases h3 : r.md ≤ 3
      · have HX := Lib.hid (show b = [r.len, r.nlen, r.done, r.blk, r.asz].all inR by rw [← HB.out]; simp [mayR, h1, h2, h3])
        go_enter Try.func24, Try.ntmps24
        go_wp2_with (first | ((with_reducible refine at_load rfl ?_); refine wpList_reads (by rfl) (kr_load_cell K _ _ (by rfl) (by rfl) (by repeat (first | with_reducible exact Has.hd _ _ | with_reducible refine Has.tl _ ?_ | with_reducible refine Has.ap _ ?_)) (by kernel_rfl) (recC_0 _)) ?_) | ((with_reducible refine at_load rfl ?_); refine wpList_reads (by rfl) (kr_load_cell K _ _ (by rfl) (by rfl) (by repeat (first | with_reducible exact Has.hd _ _ | with_reducible refine Has.tl _ ?_ | with_reducible refine Has.ap _ ?_)) (by kernel_rfl) (recC_1 _)) ?_) | ((with_reducible refine at_load rfl ?_); refine wpList_reads (by rfl) (kr_load_cell K _ _ (by rfl) (by rfl) (by repeat (first | with_reducible exact Has.hd _ _ | with_reducible refine Has.tl _ ?_ | with_reducible refine Has.ap _ ?_)) (by kernel_rfl) (recC_2 _)) ?_) | ((with_reducible refine at_load rfl ?_); refine wpList_reads (by rfl) (kr_load_cell K _ _ (by rfl) (by rfl) (by repeat (first | with_reducible exact Has.hd _ _ | with_reducible refine Has.tl _ ?_ | with_reducible refine Has.ap _ ?_)) (by kernel_rfl) (recC_3 _)) ?_) | ((with_reducible refine at_load rfl ?_); refine wpList_reads (by rfl) (kr_load_cell K _ _ (by rfl) (by rfl) (by repeat (first | with_reducible exact Has.hd _ _ | with_reducible refine Has.tl _ ?_ | with_reducible refine Has.ap _ ?_)) (by kernel_rfl) (recC_4 _)) ?_) | ((with_reducible refine at_load rfl ?_); refine wpList_reads (by rfl) (kr_load_cell K _ _ (by rfl) (by rfl) (by repeat (first | with_reducible exact Has.hd _ _ | with_reducible refine Has.tl _ ?_ | with_reducible refine Has.ap _ ?_)) (by kernel_rfl) (recC_5 _)) ?_) | ((with_reducible refine at_load rfl ?_); refine wpList_reads (by rfl) (kr_load_cell K _ _ (by rfl) (by rfl) (by repeat (first | with_reducible exact Has.hd _ _ | with_reducible refine Has.tl _ ?_ | with_reducible refine Has.ap _ ?_)) (by kernel_rfl) (recC_38 _ HMN.out)) ?_) | ((with_reducible refine at_load rfl ?_); refine wpList_reads (by rfl) (kr_load_cell K _ _ (by rfl) (by rfl) (by repeat (first | with_reducible exact Has.hd _ _ | with_reducible refine Has.tl _ ?_ | with_reducible refine Has.ap _ ?_)) (by kernel_rfl) (recC_39 _ HMN.out)) ?_) | ((with_reducible refine at_load rfl ?_); refine wpList_reads (by rfl) (kr_load_cell K _ _ (by rfl) (by rfl) (by repeat (first | with_reducible exact Has.hd _ _ | with_reducible refine Has.tl _ ?_ | with_reducible refine Has.ap _ ?_)) (by kernel_rfl) (recC_40 _ HMN.out)) ?_) | ((with_reducible refine at_load rfl ?_); refine wpList_reads (by rfl) (kr_load_cell K _ _ (by rfl) (by rfl) (by repeat (first | with_reducible exact Has.hd _ _ | with_reducible refine Has.tl _ ?_ | with_reducible refine Has.ap _ ?_)) (by kernel_rfl) (recC_41 _ HMN.out)) ?_) | ((with_reducible refine at_load rfl ?_); refine wpList_reads (by rfl) (kr_load_cell K _ _ (by rfl) (by rfl) (by repeat (first | with_reducible exact Has.hd _ _ | with_reducible refine Has.tl _ ?_ | with_reducible refine Has.ap _ ?_)) (by kernel_rfl) (recC_42 _ HMN.out)) ?_) | ((with_reducible refine at_load rfl ?_); refine wpList_reads (by rfl) (kr_load_cell K _ _ (by rfl) (by rfl) (by repeat (first | with_reducible exact Has.hd _ _ | with_reducible refine Has.tl _ ?_ | with_reducible refine Has.ap _ ?_)) (by kernel_rfl) (recC_43 _ HMN.out)) ?_) | ((with_reducible refine at_box rfl ?_); refine wpList_does rfl (kd_box K _ _ rfl (by conv => lhs; whnf)) ?_; clear K; rintro _ w1 ⟨g, rfl, K⟩; (try dsimp only [Value.cells] at K)) | ((with_reducible refine at_buildSlice (n := 5) rfl ?_); refine wpList_does rfl (kd_litsN K _ _ _ rfl (by first | rfl | (go_simp; done) | (go_simp; rfl)) (by first | rfl | (go_simp; done) | (go_simp; rfl)) (xs := [_, _, _, _, _]) (by rfl) (by rfl) (by kernel_rfl)) ?_; clear K; rintro _ w1 ⟨g, rfl, K, O⟩) | (go_at_call 63; (with_reducible refine (in_any K (RdS.own O (by repeat (first | with_reducible exact Seg.nil _ | with_reducible exact Seg.all _ | with_reducible exact Seg.ap _ _ | with_reducible exact Seg.hd _ _ | with_reducible apply Seg.tl | with_reducible apply Seg.sk))) (by omega)).mono ?_); clear K; rintro e w1 ⟨rfl, K⟩))
        go_ret
        exact ⟨ret_bool (by rw [HX.out]; simp), K.cov (by repeat (first | with_reducible exact Cov.all _ | with_reducible exact Cov.left _ _ | with_reducible exact Cov.nil _ | (with_reducible apply Cov.app; (· repeat (first | with_reducible exact Sel.nil _ | with_reducible exact Sel.ap _ _ | with_reducible exact Sel.hd _ _ | with_reducible exact Sel.all _ | with_reducible apply Sel.tl | with_reducible apply Sel.sk))) | (with_reducible apply Cov.cons; (· repeat (first | with_reducible exact Sel.nil _ | with_reducible exact Sel.ap _ _ | with_reducible exact Sel.hd _ _ | with_reducible exact Sel.all _ | with_reducible apply Sel.tl | with_reducible apply Sel.sk))) | with_reducible refine Cov.drop _ ?_ | with_reducible refine Cov.skip _ ?_))⟩
      · have HX := Lib.hid (show b = false by rw [← HB.out]; simp [mayR, h1, h2, h3])
        go_enter Try.func24, Try.ntmps24
        go_wp2_with (first | ((with_reducible refine at_load rfl ?_); refine wpList_reads (by rfl) (kr_load_cell K _ _ (by rfl) (by rfl) (by repeat (first | with_reducible exact Has.hd _ _ | with_reducible refine Has.tl _ ?_ | with_reducible refine Has.ap _ ?_)) (by kernel_rfl) (recC_0 _)) ?_) | ((with_reducible refine at_load rfl ?_); refine wpList_reads (by rfl) (kr_load_cell K _ _ (by rfl) (by rfl) (by repeat (first | with_reducible exact Has.hd _ _ | with_reducible refine Has.tl _ ?_ | with_reducible refine Has.ap _ ?_)) (by kernel_rfl) (recC_1 _)) ?_) | ((with_reducible refine at_load rfl ?_); refine wpList_reads (by rfl) (kr_load_cell K _ _ (by rfl) (by rfl) (by repeat (first | with_reducible exact Has.hd _ _ | with_reducible refine Has.tl _ ?_ | with_reducible refine Has.ap _ ?_)) (by kernel_rfl) (recC_2 _)) ?_) | ((with_reducible refine at_load rfl ?_); refine wpList_reads (by rfl) (kr_load_cell K _ _ (by rfl) (by rfl) (by repeat (first | with_reducible exact Has.hd _ _ | with_reducible refine Has.tl _ ?_ | with_reducible refine Has.ap _ ?_)) (by kernel_rfl) (recC_3 _)) ?_) | ((with_reducible refine at_load rfl ?_); refine wpList_reads (by rfl) (kr_load_cell K _ _ (by rfl) (by rfl) (by repeat (first | with_reducible exact Has.hd _ _ | with_reducible refine Has.tl _ ?_ | with_reducible refine Has.ap _ ?_)) (by kernel_rfl) (recC_4 _)) ?_) | ((with_reducible refine at_load rfl ?_); refine wpList_reads (by rfl) (kr_load_cell K _ _ (by rfl) (by rfl) (by repeat (first | with_reducible exact Has.hd _ _ | with_reducible refine Has.tl _ ?_ | with_reducible refine Has.ap _ ?_)) (by kernel_rfl) (recC_5 _)) ?_) | ((with_reducible refine at_load rfl ?_); refine wpList_reads (by rfl) (kr_load_cell K _ _ (by rfl) (by rfl) (by repeat (first | with_reducible exact Has.hd _ _ | with_reducible refine Has.tl _ ?_ | with_reducible refine Has.ap _ ?_)) (by kernel_rfl) (recC_38 _ HMN.out)) ?_) | ((with_reducible refine at_load rfl ?_); refine wpList_reads (by rfl) (kr_load_cell K _ _ (by rfl) (by rfl) (by repeat (first | with_reducible exact Has.hd _ _ | with_reducible refine Has.tl _ ?_ | with_reducible refine Has.ap _ ?_)) (by kernel_rfl) (recC_39 _ HMN.out)) ?_) | ((with_reducible refine at_load rfl ?_); refine wpList_reads (by rfl) (kr_load_cell K _ _ (by rfl) (by rfl) (by repeat (first | with_reducible exact Has.hd _ _ | with_reducible refine Has.tl _ ?_ | with_reducible refine Has.ap _ ?_)) (by kernel_rfl) (recC_40 _ HMN.out)) ?_) | ((with_reducible refine at_load rfl ?_); refine wpList_reads (by rfl) (kr_load_cell K _ _ (by rfl) (by rfl) (by repeat (first | with_reducible exact Has.hd _ _ | with_reducible refine Has.tl _ ?_ | with_reducible refine Has.ap _ ?_)) (by kernel_rfl) (recC_41 _ HMN.out)) ?_) | ((with_reducible refine at_load rfl ?_); refine wpList_reads (by rfl) (kr_load_cell K _ _ (by rfl) (by rfl) (by repeat (first | with_reducible exact Has.hd _ _ | with_reducible refine Has.tl _ ?_ | with_reducible refine Has.ap _ ?_)) (by kernel_rfl) (recC_42 _ HMN.out)) ?_) | ((with_reducible refine at_load rfl ?_); refine wpList_reads (by rfl) (kr_load_cell K _ _ (by rfl) (by rfl) (by repeat (first | with_reducible exact Has.hd _ _ | with_reducible refine Has.tl _ ?_ | with_reducible refine Has.ap _ ?_)) (by kernel_rfl) (recC_43 _ HMN.out)) ?_) | ((with_reducible refine at_box rfl ?_); refine wpList_does rfl (kd_box K _ _ rfl (by conv => lhs; whnf)) ?_; clear K; rintro _ w1 ⟨g, rfl, K⟩; (try dsimp only [Value.cells] at K)))
        go_ret
        exact ⟨ret_bool HX.out.symm, K.cov (by repeat (first | with_reducible exact Cov.all _ | with_reducible exact Cov.left _ _ | with_reducible exact Cov.nil _ | (with_reducible apply Cov.app; (· repeat (first | with_reducible exact Sel.nil _ | with_reducible exact Sel.ap _ _ | with_reducible exact Sel.hd _ _ | with_reducible exact Sel.all _ | with_reducible apply Sel.tl | with_reducible apply Sel.sk))) | (with_reducible apply Cov.cons; (· repeat (first | with_reducible exact Sel.nil _ | with_reducible exact Sel.ap _ _ | with_reducible exact Sel.hd _ _ | with_reducible exact Sel.all _ | with_reducible apply Sel.tl | with_reducible apply Sel.sk))) | with_reducible refine Cov.drop _ ?_ | with_reducible refine Cov.skip _ ?_))⟩
    · have HX := Lib.hid (show b = false by rw [← HB.out]; simp [mayR, h1, h2])
      go_enter Try.func24, Try.ntmps24
      go_wp2_with (first | ((with_reducible refine at_load rfl ?_); refine wpList_reads (by rfl) (kr_load_cell K _ _ (by rfl) (by rfl) (by repeat (first | with_reducible exact Has.hd _ _ | with_reducible refine Has.tl _ ?_ | with_reducible refine Has.ap _ ?_)) (by kernel_rfl) (recC_0 _)) ?_) | ((with_reducible refine at_load rfl ?_); refine wpList_reads (by rfl) (kr_load_cell K _ _ (by rfl) (by rfl) (by repeat (first | with_reducible exact Has.hd _ _ | with_reducible refine Has.tl _ ?_ | with_reducible refine Has.ap _ ?_)) (by kernel_rfl) (recC_1 _)) ?_) | ((with_reducible refine at_load rfl ?_); refine wpList_reads (by rfl) (kr_load_cell K _ _ (by rfl) (by rfl) (by repeat (first | with_reducible exact Has.hd _ _ | with_reducible refine Has.tl _ ?_ | with_reducible refine Has.ap _ ?_)) (by kernel_rfl) (recC_2 _)) ?_) | ((with_reducible refine at_load rfl ?_); refine wpList_reads (by rfl) (kr_load_cell K _ _ (by rfl) (by rfl) (by repeat (first | with_reducible exact Has.hd _ _ | with_reducible refine Has.tl _ ?_ | with_reducible refine Has.ap _ ?_)) (by kernel_rfl) (recC_3 _)) ?_) | ((with_reducible refine at_load rfl ?_); refine wpList_reads (by rfl) (kr_load_cell K _ _ (by rfl) (by rfl) (by repeat (first | with_reducible exact Has.hd _ _ | with_reducible refine Has.tl _ ?_ | with_reducible refine Has.ap _ ?_)) (by kernel_rfl) (recC_4 _)) ?_) | ((with_reducible refine at_load rfl ?_); refine wpList_reads (by rfl) (kr_load_cell K _ _ (by rfl) (by rfl) (by repeat (first | with_reducible exact Has.hd _ _ | with_reducible refine Has.tl _ ?_ | with_reducible refine Has.ap _ ?_)) (by kernel_rfl) (recC_5 _)) ?_) | ((with_reducible refine at_load rfl ?_); refine wpList_reads (by rfl) (kr_load_cell K _ _ (by rfl) (by rfl) (by repeat (first | with_reducible exact Has.hd _ _ | with_reducible refine Has.tl _ ?_ | with_reducible refine Has.ap _ ?_)) (by kernel_rfl) (recC_38 _ HMN.out)) ?_) | ((with_reducible refine at_load rfl ?_); refine wpList_reads (by rfl) (kr_load_cell K _ _ (by rfl) (by rfl) (by repeat (first | with_reducible exact Has.hd _ _ | with_reducible refine Has.tl _ ?_ | with_reducible refine Has.ap _ ?_)) (by kernel_rfl) (recC_39 _ HMN.out)) ?_) | ((with_reducible refine at_load rfl ?_); refine wpList_reads (by rfl) (kr_load_cell K _ _ (by rfl) (by rfl) (by repeat (first | with_reducible exact Has.hd _ _ | with_reducible refine Has.tl _ ?_ | with_reducible refine Has.ap _ ?_)) (by kernel_rfl) (recC_40 _ HMN.out)) ?_) | ((with_reducible refine at_load rfl ?_); refine wpList_reads (by rfl) (kr_load_cell K _ _ (by rfl) (by rfl) (by repeat (first | with_reducible exact Has.hd _ _ | with_reducible refine Has.tl _ ?_ | with_reducible refine Has.ap _ ?_)) (by kernel_rfl) (recC_41 _ HMN.out)) ?_) | ((with_reducible refine at_load rfl ?_); refine wpList_reads (by rfl) (kr_load_cell K _ _ (by rfl) (by rfl) (by repeat (first | with_reducible exact Has.hd _ _ | with_reducible refine Has.tl _ ?_ | with_reducible refine Has.ap _ ?_)) (by kernel_rfl) (recC_42 _ HMN.out)) ?_) | ((with_reducible refine at_load rfl ?_); refine wpList_reads (by rfl) (kr_load_cell K _ _ (by rfl) (by rfl) (by repeat (first | with_reducible exact Has.hd _ _ | with_reducible refine Has.tl _ ?_ | with_reducible refine Has.ap _ ?_)) (by kernel_rfl) (recC_43 _ HMN.out)) ?_) | ((with_reducible refine at_box rfl ?_); refine wpList_does rfl (kd_box K _ _ rfl (by conv => lhs; whnf)) ?_; clear K; rintro _ w1 ⟨g, rfl, K⟩; (try dsimp only [Value.cells] at K)))
      go_ret
      exact ⟨ret_bool HX.out.symm, K.cov (by repeat (first | with_reducible exact Cov.all _ | with_reducible exact Cov.left _ _ | with_reducible exact Cov.nil _ | (with_reducible apply Cov.app; (· repeat (first | with_reducible exact Sel.nil _ | with_reducible exact Sel.ap _ _ | with_reducible exact Sel.hd _ _ | with_reducible exact Sel.all _ | with_reducible apply Sel.tl | with_reducible apply Sel.sk))) | (with_reducible apply Cov.cons; (· repeat (first | with_reducible exact Sel.nil _ | with_reducible exact Sel.ap _ _ | with_reducible exact Sel.hd _ _ | with_reducible exact Sel.all _ | with_reducible apply Sel.tl | with_reducible apply Sel.sk))) | with_reducible refine Cov.drop _ ?_ | with_reducible refine Cov.skip _ ?_))⟩
  · have HX := Lib.hid (show b = false by rw [← HB.out]; simp [mayR, h1])
    go_enter Try.func24, Try.ntmps24
    go_wp2_with (first | ((with_reducible refine at_load rfl ?_); refine wpList_reads (by rfl) (kr_load_cell K _ _ (by rfl) (by rfl) (by repeat (first | with_reducible exact Has.hd _ _ | with_reducible refine Has.tl _ ?_ | with_reducible refine Has.ap _ ?_)) (by kernel_rfl) (recC_0 _)) ?_) | ((with_reducible refine at_load rfl ?_); refine wpList_reads (by rfl) (kr_load_cell K _ _ (by rfl) (by rfl) (by repeat (first | with_reducible exact Has.hd _ _ | with_reducible refine Has.tl _ ?_ | with_reducible refine Has.ap _ ?_)) (by kernel_rfl) (recC_1 _)) ?_) | ((with_reducible refine at_load rfl ?_); refine wpList_reads (by rfl) (kr_load_cell K _ _ (by rfl) (by rfl) (by repeat (first | with_reducible exact Has.hd _ _ | with_reducible refine Has.tl _ ?_ | with_reducible refine Has.ap _ ?_)) (by kernel_rfl) (recC_2 _)) ?_) | ((with_reducible refine at_load rfl ?_); refine wpList_reads (by rfl) (kr_load_cell K _ _ (by rfl) (by rfl) (by repeat (first | with_reducible exact Has.hd _ _ | with_reducible refine Has.tl _ ?_ | with_reducible refine Has.ap _ ?_)) (by kernel_rfl) (recC_3 _)) ?_) | ((with_reducible refine at_load rfl ?_); refine wpList_reads (by rfl) (kr_load_cell K _ _ (by rfl) (by rfl) (by repeat (first | with_reducible exact Has.hd _ _ | with_reducible refine Has.tl _ ?_ | with_reducible refine Has.ap _ ?_)) (by kernel_rfl) (recC_4 _)) ?_) | ((with_reducible refine at_load rfl ?_); refine wpList_reads (by rfl) (kr_load_cell K _ _ (by rfl) (by rfl) (by repeat (first | with_reducible exact Has.hd _ _ | with_reducible refine Has.tl _ ?_ | with_reducible refine Has.ap _ ?_)) (by kernel_rfl) (recC_5 _)) ?_) | ((with_reducible refine at_load rfl ?_); refine wpList_reads (by rfl) (kr_load_cell K _ _ (by rfl) (by rfl) (by repeat (first | with_reducible exact Has.hd _ _ | with_reducible refine Has.tl _ ?_ | with_reducible refine Has.ap _ ?_)) (by kernel_rfl) (recC_38 _ HMN.out)) ?_) | ((with_reducible refine at_load rfl ?_); refine wpList_reads (by rfl) (kr_load_cell K _ _ (by rfl) (by rfl) (by repeat (first | with_reducible exact Has.hd _ _ | with_reducible refine Has.tl _ ?_ | with_reducible refine Has.ap _ ?_)) (by kernel_rfl) (recC_39 _ HMN.out)) ?_) | ((with_reducible refine at_load rfl ?_); refine wpList_reads (by rfl) (kr_load_cell K _ _ (by rfl) (by rfl) (by repeat (first | with_reducible exact Has.hd _ _ | with_reducible refine Has.tl _ ?_ | with_reducible refine Has.ap _ ?_)) (by kernel_rfl) (recC_40 _ HMN.out)) ?_) | ((with_reducible refine at_load rfl ?_); refine wpList_reads (by rfl) (kr_load_cell K _ _ (by rfl) (by rfl) (by repeat (first | with_reducible exact Has.hd _ _ | with_reducible refine Has.tl _ ?_ | with_reducible refine Has.ap _ ?_)) (by kernel_rfl) (recC_41 _ HMN.out)) ?_) | ((with_reducible refine at_load rfl ?_); refine wpList_reads (by rfl) (kr_load_cell K _ _ (by rfl) (by rfl) (by repeat (first | with_reducible exact Has.hd _ _ | with_reducible refine Has.tl _ ?_ | with_reducible refine Has.ap _ ?_)) (by kernel_rfl) (recC_42 _ HMN.out)) ?_) | ((with_reducible refine at_load rfl ?_); refine wpList_reads (by rfl) (kr_load_cell K _ _ (by rfl) (by rfl) (by repeat (first | with_reducible exact Has.hd _ _ | with_reducible refine Has.tl _ ?_ | with_reducible refine Has.ap _ ?_)) (by kernel_rfl) (recC_43 _ HMN.out)) ?_) | ((with_reducible refine at_box rfl ?_); refine wpList_does rfl (kd_box K _ _ rfl (by conv => lhs; whnf)) ?_; clear K; rintro _ w1 ⟨g, rfl, K⟩; (try dsimp only [Value.cells] at K)))
    go_ret
    exact ⟨ret_bool HX.out.symm, K.cov (by repeat (first | with_reducible exact Cov.all _ | with_reducible exact Cov.left _ _ | with_reducible exact Cov.nil _ | (with_reducible apply Cov.app; (· repeat (first | with_reducible exact Sel.nil _ | with_reducible exact Sel.ap _ _ | with_reducible exact Sel.hd _ _ | with_reducible exact Sel.all _ | with_reducible apply Sel.tl | with_reducible apply Sel.sk))) | (with_reducible apply Cov.cons; (· repeat (first | with_reducible exact Sel.nil _ | with_reducible exact Sel.ap _ _ | with_reducible exact Sel.hd _ _ | with_reducible exact Sel.all _ | with_reducible apply Sel.tl | with_reducible apply Sel.sk))) | with_reducible refine Cov.drop _ ?_ | with_reducible refine Cov.skip _ ?_))⟩
set_option maxHeartbeats 800000 in
set_option maxRecDepth 100000 in
theorem rjmay_any (K : Known w0 w L) (b : Bool) (hb : mayR r = b) (hm : r.man.length = 32) :
    Calls Try.prog 25 #[.agg (recC r)] w fun e w' => e = .returned (.bool b) ∧ Known w0 w' L := by
  have HMN := Lib.hid hm
  have HB := Lib.hid hb
  clear hm hb
  go_enter Try.func25, Try.ntmps25
  go_wp2_with (first | ((with_reducible refine at_load rfl ?_); refine wpList_reads (by rfl) (kr_load_cell K _ _ (by rfl) (by rfl) (by repeat (first | with_reducible exact Has.hd _ _ | with_reducible refine Has.tl _ ?_ | with_reducible refine Has.ap _ ?_)) (by kernel_rfl) (recC_0 _)) ?_) | ((with_reducible refine at_load rfl ?_); refine wpList_reads (by rfl) (kr_load_cell K _ _ (by rfl) (by rfl) (by repeat (first | with_reducible exact Has.hd _ _ | with_reducible refine Has.tl _ ?_ | with_reducible refine Has.ap _ ?_)) (by kernel_rfl) (recC_1 _)) ?_) | ((with_reducible refine at_load rfl ?_); refine wpList_reads (by rfl) (kr_load_cell K _ _ (by rfl) (by rfl) (by repeat (first | with_reducible exact Has.hd _ _ | with_reducible refine Has.tl _ ?_ | with_reducible refine Has.ap _ ?_)) (by kernel_rfl) (recC_2 _)) ?_) | ((with_reducible refine at_load rfl ?_); refine wpList_reads (by rfl) (kr_load_cell K _ _ (by rfl) (by rfl) (by repeat (first | with_reducible exact Has.hd _ _ | with_reducible refine Has.tl _ ?_ | with_reducible refine Has.ap _ ?_)) (by kernel_rfl) (recC_3 _)) ?_) | ((with_reducible refine at_load rfl ?_); refine wpList_reads (by rfl) (kr_load_cell K _ _ (by rfl) (by rfl) (by repeat (first | with_reducible exact Has.hd _ _ | with_reducible refine Has.tl _ ?_ | with_reducible refine Has.ap _ ?_)) (by kernel_rfl) (recC_4 _)) ?_) | ((with_reducible refine at_load rfl ?_); refine wpList_reads (by rfl) (kr_load_cell K _ _ (by rfl) (by rfl) (by repeat (first | with_reducible exact Has.hd _ _ | with_reducible refine Has.tl _ ?_ | with_reducible refine Has.ap _ ?_)) (by kernel_rfl) (recC_5 _)) ?_) | ((with_reducible refine at_load rfl ?_); refine wpList_reads (by rfl) (kr_load_cell K _ _ (by rfl) (by rfl) (by repeat (first | with_reducible exact Has.hd _ _ | with_reducible refine Has.tl _ ?_ | with_reducible refine Has.ap _ ?_)) (by kernel_rfl) (recC_38 _ HMN.out)) ?_) | ((with_reducible refine at_load rfl ?_); refine wpList_reads (by rfl) (kr_load_cell K _ _ (by rfl) (by rfl) (by repeat (first | with_reducible exact Has.hd _ _ | with_reducible refine Has.tl _ ?_ | with_reducible refine Has.ap _ ?_)) (by kernel_rfl) (recC_39 _ HMN.out)) ?_) | ((with_reducible refine at_load rfl ?_); refine wpList_reads (by rfl) (kr_load_cell K _ _ (by rfl) (by rfl) (by repeat (first | with_reducible exact Has.hd _ _ | with_reducible refine Has.tl _ ?_ | with_reducible refine Has.ap _ ?_)) (by kernel_rfl) (recC_40 _ HMN.out)) ?_) | ((with_reducible refine at_load rfl ?_); refine wpList_reads (by rfl) (kr_load_cell K _ _ (by rfl) (by rfl) (by repeat (first | with_reducible exact Has.hd _ _ | with_reducible refine Has.tl _ ?_ | with_reducible refine Has.ap _ ?_)) (by kernel_rfl) (recC_41 _ HMN.out)) ?_) | ((with_reducible refine at_load rfl ?_); refine wpList_reads (by rfl) (kr_load_cell K _ _ (by rfl) (by rfl) (by repeat (first | with_reducible exact Has.hd _ _ | with_reducible refine Has.tl _ ?_ | with_reducible refine Has.ap _ ?_)) (by kernel_rfl) (recC_42 _ HMN.out)) ?_) | ((with_reducible refine at_load rfl ?_); refine wpList_reads (by rfl) (kr_load_cell K _ _ (by rfl) (by rfl) (by repeat (first | with_reducible exact Has.hd _ _ | with_reducible refine Has.tl _ ?_ | with_reducible refine Has.ap _ ?_)) (by kernel_rfl) (recC_43 _ HMN.out)) ?_) | ((with_reducible refine at_box rfl ?_); refine wpList_does rfl (kd_box K _ _ rfl (by conv => lhs; whnf)) ?_; clear K; rintro _ w1 ⟨g, rfl, K⟩; (try dsimp only [Value.cells] at K)) | (go_at_call 64; (with_reducible refine (rin_any _ _).mono ?_); rintro e w' ⟨rfl, rfl⟩))
  all_goals
    go_ret
    refine ⟨ret_bool ?_, K.cov (by repeat (first | with_reducible exact Cov.all _ | with_reducible exact Cov.left _ _ | with_reducible exact Cov.nil _ | (with_reducible apply Cov.app; (· repeat (first | with_reducible exact Sel.nil _ | with_reducible exact Sel.ap _ _ | with_reducible exact Sel.hd _ _ | with_reducible exact Sel.all _ | with_reducible apply Sel.tl | with_reducible apply Sel.sk))) | (with_reducible apply Cov.cons; (· repeat (first | with_reducible exact Sel.nil _ | with_reducible exact Sel.ap _ _ | with_reducible exact Sel.hd _ _ | with_reducible exact Sel.all _ | with_reducible apply Sel.tl | with_reducible apply Sel.sk))) | with_reducible refine Cov.drop _ ?_ | with_reducible refine Cov.skip _ ?_))⟩
    rw [← HB.out, mayR_lt]
    first | (simp [*]; done) | (simp [*]; intros; exfalso; omega)
end
end Go.Proofs.Ytokbloddaoakgaa
