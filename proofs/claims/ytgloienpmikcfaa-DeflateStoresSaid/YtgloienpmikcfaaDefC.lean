/-
  The reference's symbols; how long a packed text is at most (contracts).
-/
import Derived.Test.YtgloienpmikcfaaDefB
set_option linter.unusedVariables false
set_option linter.unusedSimpArgs false
namespace Go.Proofs.Ytgloienpmikcfaa
open Go.RowKit
theorem ret_int {k : IntKind} {a b : Int} (h : a = b) : Ending.returned (.int k a) = Ending.returned (.int k b) := by rw [h]
theorem ret_int2 {k k' : IntKind} {a b c d : Int} (h : a = b) (h' : c = d) : Ending.returned (.tuple #[.int k a, .int k' c]) = Ending.returned (.tuple #[.int k b, .int k' d]) := by rw [h, h']
def mostN (n : Int) : Int := min (max n 0) 2147483647 + 5 * max 1 ((min (max n 0) 2147483647 + 65534) / 65535)
section
variable {w0 w : World} {L : List Ent}
theorem most_any (n m : Int) (h : mostN n = m) (w : World) : Calls Try.prog 26 #[.int .i64 n] w fun e w' => e = .returned (.int .i64 m) ∧ w = w' := by
  subst h
  obtain ⟨k, hk, hk2, hk3⟩ : ∃ k : Int, min (max n 0) 2147483647 = k ∧ 0 ≤ k ∧ k ≤ 2147483647 := ⟨_, rfl, by omega, by omega⟩
  have HK := Lib.hid hk
  go_enter Try.func26, Try.ntmps26
  go_wp2
  go_ret
  refine ⟨ret_int ?_, rfl⟩
  rw [mostN, HK.out]
  show k + 5 * max 1 ((k + 65535 - 1) / 65535) = _
  omega
theorem rmost_any (n m : Int) (h : mostN n = m) (w : World) : Calls Try.prog 27 #[.int .i64 n] w fun e w' => e = .returned (.int .i64 m) ∧ w = w' := by
  subst h
  go_enter Try.func27, Try.ntmps27
  go_wp2
  all_goals
    go_ret
    refine ⟨ret_int ?_, rfl⟩
    (try simp only [beq_iff_eq, beq_eq_false_iff_ne, bne_iff_ne, ne_eq, bne_eq_false_iff_eq] at *)
    unfold mostN
    omega
theorem more_any (i m : Int) (h0 : 0 ≤ i) (h1 : i < 29) (h : (ent tblL i.toNat).2 = m) (w : World) : Calls Try.prog 51 #[.int .i64 i] w fun e w' => e = .returned (.int .i64 m) ∧ w = w' := by
  have hm : m = if i < 8 ∨ i = 28 then 0 else i / 4 - 1 := by
    obtain ⟨k, rfl⟩ := Int.eq_ofNat_of_zero_le h0
    have : ∀ k : Fin 29, (ent tblL k.val).2 = if ((k.val : Nat) : Int) < 8 ∨ ((k.val : Nat) : Int) = 28 then 0 else ((k.val : Nat) : Int) / 4 - 1 := by decide
    rw [← h]
    exact this ⟨k, by omega⟩
  have HM := Lib.hid hm
  clear hm h
  go_enter Try.func51, Try.ntmps51
  go_wp2
  all_goals
    go_ret
    refine ⟨ret_int ?_, rfl⟩
    rw [HM.out]
    (try simp only [beq_iff_eq, beq_eq_false_iff_ne, bne_iff_ne, ne_eq, bne_eq_false_iff_eq] at *)
    first | (rw [if_pos (by omega)]) | (rw [if_neg (by omega)])
set_option maxRecDepth 100000 in
theorem leastd_any (i a b : Int) (h0 : 0 ≤ i) (h1 : i < 30) (h : ent tblD i.toNat = (a, b)) (w : World) : Calls Try.prog 53 #[.int .i64 i] w fun e w' => e = .returned (.tuple #[.int .i64 a, .int .i64 b]) ∧ w = w' := by
  obtain ⟨k, rfl⟩ := Int.eq_ofNat_of_zero_le h0
  rw [Int.toNat_natCast] at h
  have hk : k < 30 := by omega
  by_cases h4 : k < 4
  · have e : ∀ k : Fin 4, ent tblD k.val = (((k.val : Nat) : Int) + 1, 0) := by decide
    have he := e ⟨k, h4⟩
    rw [h] at he
    injection he with e1 e2
    have E1 := Lib.hid e1; have E2 := Lib.hid e2
    have h4' : (k : Int) < 4 := by omega
    clear e e1 e2 h
    go_enter Try.func53, Try.ntmps53
    go_wp2
    go_ret2
    exact ⟨ret_int2 E1.out.symm E2.out.symm, rfl⟩
  · have e : ∀ k : Fin 30, 4 ≤ k.val → ent tblD k.val = ((2 + ((k.val : Nat) : Int) % 2) * 2 ^ (k.val / 2 - 1) + 1, ((k.val : Nat) : Int) / 2 - 1) := by decide
    have he := e ⟨k, hk⟩ (by simpa using h4)
    rw [h] at he
    injection he with e1 e2
    have E1 := Lib.hid e1; have E2 := Lib.hid e2
    have h4' : ¬ ((k : Int) < 4) := by omega
    clear e e1 e2 h h4
    go_enter Try.func53, Try.ntmps53
    go_wp2
    go_loopg [5, 6] 15 (fun d n i wr => ∃ j : Nat, i = .int .i64 j ∧ n = .int .i64 ((2 + (k : Int) % 2) * 2 ^ j) ∧ j ≤ k / 2 - 1 ∧ j + d = 15 ∧ wr = w)
    case atStart => exact ⟨0, rfl, by simp, by omega, by omega, rfl⟩
    case round =>
      obtain ⟨j, rfl, rfl, hj, hd, rfl⟩ := hrel
      obtain ⟨q, hq⟩ : ∃ q : Int, (2 + (k : Int) % 2) * 2 ^ j = q := ⟨_, rfl⟩
      have hq2 : 0 ≤ q ∧ q ≤ 3 * 2 ^ 14 := by
        rw [← hq]
        have h1 : (2 : Int) ^ j ≤ 2 ^ 14 := by
          have := Nat.pow_le_pow_right (show 0 < 2 by omega) (show j ≤ 14 by omega)
          exact_mod_cast this
        have h2 : (0 : Int) ≤ 2 ^ j := Int.pow_nonneg (by omega)
        have h3 : 2 + (k : Int) % 2 ≤ 3 := by omega
        have h5 : 0 ≤ 2 + (k : Int) % 2 := by omega
        exact ⟨Int.mul_nonneg h5 h2, Int.mul_le_mul h3 h1 h2 (by omega)⟩
      have HQ := Lib.hid hq
      have HQ2 := Lib.hid (show (2 + (k : Int) % 2) * 2 ^ (j + 1) = 2 * q by rw [Int.pow_succ, ← hq, ← Int.mul_assoc, Int.mul_comm]; )
      rw [hq]
      clear hq
      by_cases hlt : j < k / 2 - 1
      · have hlt' : (j : Int) < (k : Int) / 2 - 1 := by omega
        go_wp2
        go_roundg (gk - 1)
        case measure => omega
        case rel => exact ⟨j + 1, by go_num, by rw [HQ2.out], by omega, by omega, rfl⟩
      · have hlt' : ¬ ((j : Int) < (k : Int) / 2 - 1) := by omega
        go_wp2
        go_ret2
        have hjk : j = k / 2 - 1 := by omega
        refine ⟨ret_int2 ?_ E2.out.symm, rfl⟩
        rw [E1.out, ← hjk, HQ.out]
end
def leastCells : Array Value := ((List.range 29).map fun j => Value.int .i64 (ent tblL j).1).toArray
theorem leastCells_get {k : Nat} (h : k < 29) {v : Int} (hv : (ent tblL k).1 = v) : leastCells[k]? = some (.int .i64 v) := by simp [leastCells, h, hv]

theorem lits_least (w : World) : (Instr.buildSlice 39 29 #[(0, .int .i64 3), (1, .int .i64 4), (2, .int .i64 5), (3, .int .i64 6), (4, .int .i64 7), (5, .int .i64 8), (6, .int .i64 9), (7, .int .i64 10), (8, .int .i64 11), (9, .int .i64 13), (10, .int .i64 15), (11, .int .i64 17), (12, .int .i64 19), (13, .int .i64 23), (14, .int .i64 27), (15, .int .i64 31), (16, .int .i64 35), (17, .int .i64 43), (18, .int .i64 51), (19, .int .i64 59), (20, .int .i64 67), (21, .int .i64 83), (22, .int .i64 99), (23, .int .i64 115), (24, .int .i64 131), (25, .int .i64 163), (26, .int .i64 195), (27, .int .i64 227), (28, .int .i64 258)]).run Try.prog w = .ok (.slice (some ⟨w.heap.size, 0, none⟩) 29 29) (w.alloc (.cells leastCells 3 (0, 0))) := by kernel_rfl
section
variable {w0 w : World} {L : List Ent}
set_option maxRecDepth 100000 in
theorem least_any (K : Known w0 w L) : Calls Try.prog 50 #[] w fun e w' => ∃ g, e = .returned (.slice (some ⟨g, 0, none⟩) 29 29) ∧ Known w0 w' (row g leastCells 3 :: L) := by
  go_enter Try.func50, Try.ntmps50
  go_wp2_with (first | ((with_reducible refine at_buildSlice rfl ?_); go_loud (refine wpList_does rfl (kd_lits (cs := _) K _ _ _ rfl (by kernel_rfl) (lits_least _)) ?_; clear K; rintro _ w1 ⟨g, rfl, K⟩)))
  go_ret
  exact ⟨_, rfl, K⟩
set_option maxHeartbeats 1000000 in
set_option maxRecDepth 100000 in
theorem rlen_any (n a b c : Int) (K : Known w0 w L) (h : lenSym n = (a, b, c)) : Calls Try.prog 23 #[.int .i64 n] w fun e w' => e = .returned (.tuple #[.int .i64 a, .int .i64 b, .int .u32 c]) ∧ Known w0 w' L := by
  by_cases hn : n < 3 ∨ 258 < n
  · rw [lenSym, if_pos hn] at h
    cases h
    by_cases h1 : n < 3
    · go_enter Try.func23, Try.ntmps23
      go_wp2
      go_ret3
      exact ⟨rfl, K⟩
    · have h2 : 258 < n := by omega
      have d1 : decide (n < 3) = false := decide_eq_false h1
      have d2 : decide (258 < n) = true := decide_eq_true h2
      go_enter Try.func23, Try.ntmps23
      go_wp2
      go_ret3
      exact ⟨rfl, K⟩
  · rw [lenSym, if_neg hn] at h
    have d1 : decide (n < 3) = false := decide_eq_false (by omega)
    have d2 : decide (258 < n) = false := decide_eq_false (by omega)
    obtain ⟨i, hi⟩ : ∃ i, lastK (fun j => (ent tblL j).1) n 29 = i := ⟨_, rfl⟩
    have hi2 := lastK_le (fun j => (ent tblL j).1) n (by show (3 : Int) ≤ n; omega) 29 (by omega)
    rw [hi] at hi2
    have h' : (257 + (i : Int), (ent tblL i).2, n - (ent tblL i).1) = (a, b, c) := by
      rw [← h, ← hi]; rfl
    injection h' with e1 h'
    injection h' with e2 e3
    obtain ⟨l, hl⟩ : ∃ l, (ent tblL i).1 = l := ⟨_, rfl⟩
    rw [hl] at hi2 e3
    have hl0 := tblL_pos i
    rw [hl] at hl0
    have HC := Lib.hid (leastCells_get hi2.2 hl)
    subst e1; subst e3
    have H1 := Lib.hid hi; have H2 := Lib.hid e2
    obtain ⟨hle, hi29⟩ := hi2
    clear hi e2 hl h
    go_enter Try.func23, Try.ntmps23
    go_wp2_with (first | (go_at_call 50; go_loud ((with_reducible refine (least_any K).mono ?_); clear K; rintro e w1 ⟨g, rfl, K⟩)))
    go_loopg [6, 17] 30 (fun d at_ x wr => ∃ k : Nat, x = .int .i64 k ∧ at_ = .int .i64 (lastK (fun j => (ent tblL j).1) n k : Nat) ∧ k ≤ 29 ∧ k + d = 30 ∧ Known w0 wr (row g leastCells 3 :: L))
    case atStart => exact ⟨0, rfl, rfl, by omega, by omega, K⟩
    case round =>
      clear K
      obtain ⟨k, rfl, rfl, hk9, hd, K⟩ := hrel
      by_cases hk : k < 29
      · obtain ⟨x, hx⟩ : ∃ x, (ent tblL k).1 = x := ⟨_, rfl⟩
        have HX := Lib.hid (leastCells_get hk hx)
        have HS := Lib.hid (show lastK (fun j => (ent tblL j).1) n (k + 1) = if x ≤ n then k else lastK (fun j => (ent tblL j).1) n k by rw [lastK, hx])
        obtain ⟨q, hq⟩ : ∃ q, lastK (fun j => (ent tblL j).1) n k = q := ⟨_, rfl⟩
        rw [hq] at HS ⊢
        have hk' : (k : Int) < 29 := by omega
        clear hx hq
        by_cases hxn : x ≤ n
        · rw [if_pos hxn] at HS
          go_wp2_with (first | ((with_reducible refine at_load rfl ?_); go_loud (refine wpList_reads (by rfl) (kr_load_cell K _ _ (by rfl) (by rfl) (by repeat (first | with_reducible exact Has.hd _ _ | with_reducible refine Has.tl _ ?_ | with_reducible refine Has.ap _ ?_)) (by kernel_rfl) (HX.out)) ?_)))
          go_roundg (gk - 1)
          case measure => omega
          case rel => exact ⟨k + 1, by go_num, by rw [HS.out], by omega, by omega, K⟩
        · rw [if_neg hxn] at HS
          go_wp2_with (first | ((with_reducible refine at_load rfl ?_); go_loud (refine wpList_reads (by rfl) (kr_load_cell K _ _ (by rfl) (by rfl) (by repeat (first | with_reducible exact Has.hd _ _ | with_reducible refine Has.tl _ ?_ | with_reducible refine Has.ap _ ?_)) (by kernel_rfl) (HX.out)) ?_)))
          go_roundg (gk - 1)
          case measure => omega
          case rel => exact ⟨k + 1, by go_num, by rw [HS.out], by omega, by omega, K⟩
      · obtain rfl : k = 29 := by omega
        rw [H1.out]
        have kw := IntWalk.i64_in (n - l) (by omega)
        have ku : IntKind.u32.wrap (n - l) = n - l := by obtain ⟨d, hd⟩ := Int.eq_ofNat_of_zero_le (show 0 ≤ n - l by omega); rw [hd]; exact u32_nat (by omega)
        have kv := IntWalk.i64_in (257 + (i : Int)) (by omega)
        have hi' : (i : Int) < 29 := by omega
        have hi0 : (0 : Int) ≤ (i : Int) := by omega
        go_wp2
        refine wp_region_GK K (Cov.all _) (by kernel_rfl) (by kernel_rfl) (by kernel_rfl) (fun K hHeld => ?_)
        refine wpG_take (i := 0) (x := { dst := some 28, op := Op.move (Operand.tmp 6), type := 3, pos := "ref.go:42", after := #[], guard := none }) (v := ?_) rfl (by kernel_rfl) (fun _ _ _ h => h) (Or.inl ⟨by rfl, ?_⟩) hHeld ?_
        rotate_left
        · (intro w hS; (clear hS; go_simp); try with_reducible rfl)
        try simp only [Act.put, List.setIfInBounds_toArray, List.set_cons_zero, List.set_cons_succ]
        refine wpG_take (i := 1) (x := { dst := some 29, op := Op.binOp BinOp.add 3 (Operand.const (Value.int IntKind.i64 257)) (Operand.tmp 28) 3, type := 3, pos := "ref.go:42", after := #[{ on := 0, ground := Ground.data }], guard := none }) (v := ?_) rfl (by kernel_rfl) (fun _ _ _ h => h) (Or.inl ⟨by rfl, ?_⟩) hHeld ?_
        rotate_left
        · (intro w hS; (clear hS; go_simp); try with_reducible rfl)
        try simp only [Act.put, List.setIfInBounds_toArray, List.set_cons_zero, List.set_cons_succ]
        refine wpG_take (i := 2) (x := { dst := some 30, op := Op.move (Operand.tmp 6), type := 3, pos := "ref.go:42", after := #[], guard := none }) (v := ?_) rfl (by kernel_rfl) (fun _ _ _ h => h) (Or.inl ⟨by rfl, ?_⟩) hHeld ?_
        rotate_left
        · (intro w hS; (clear hS; go_simp); try with_reducible rfl)
        try simp only [Act.put, List.setIfInBounds_toArray, List.set_cons_zero, List.set_cons_succ]
        refine wpG_takeC (i := 3) (x := { dst := some 31, op := Op.call { callee := Callee.value (Operand.func 51), args := #[Operand.tmp 30], argTypes := #[3] }, type := 3, pos := "ref.go:42", after := #[{ on := 2, ground := Ground.data }], guard := none }) (v := .int .i64 b) (f := 51) (args := ?_) rfl (by kernel_rfl) (fun _ _ _ h => h) (by rfl) ?_ ?_ hHeld ?_
        rotate_left
        · (intro w; go_simp; try with_reducible rfl)
        · (intro w hS; exact (more_any (i : Int) b hi0 hi' (by rw [Int.toNat_natCast]; exact H2.out) _))
        try simp only [Act.put, List.setIfInBounds_toArray, List.set_cons_zero, List.set_cons_succ]
        refine wpG_take (i := 4) (x := { dst := some 32, op := Op.move (Operand.tmp 0), type := 3, pos := "ref.go:42", after := #[{ on := 12, ground := Ground.gcOnly Departure.lateStores }], guard := none }) (v := ?_) rfl (by kernel_rfl) (fun _ _ _ h => h) (Or.inl ⟨by rfl, ?_⟩) hHeld ?_
        rotate_left
        · (intro w hS; (clear hS; go_simp); try with_reducible rfl)
        try simp only [Act.put, List.setIfInBounds_toArray, List.set_cons_zero, List.set_cons_succ]
        refine wpG_take (i := 5) (x := { dst := some 33, op := Op.move (Operand.tmp 5), type := 39, pos := "ref.go:42", after := #[{ on := 12, ground := Ground.gcOnly Departure.lateStores }], guard := none }) (v := ?_) rfl (by kernel_rfl) (fun _ _ _ h => h) (Or.inl ⟨by rfl, ?_⟩) hHeld ?_
        rotate_left
        · (intro w hS; (clear hS; go_simp); try with_reducible rfl)
        try simp only [Act.put, List.setIfInBounds_toArray, List.set_cons_zero, List.set_cons_succ]
        refine wpG_take (i := 6) (x := { dst := some 34, op := Op.move (Operand.tmp 6), type := 3, pos := "ref.go:42", after := #[{ on := 12, ground := Ground.gcOnly Departure.lateStores }], guard := none }) (v := ?_) rfl (by kernel_rfl) (fun _ _ _ h => h) (Or.inl ⟨by rfl, ?_⟩) hHeld ?_
        rotate_left
        · (intro w hS; (clear hS; go_simp); try with_reducible rfl)
        try simp only [Act.put, List.setIfInBounds_toArray, List.set_cons_zero, List.set_cons_succ]
        refine wpG_take (i := 7) (x := { dst := some 35, op := Op.indexAddr 39 (Operand.tmp 33) (Operand.tmp 34), type := 0, pos := "ref.go:42", after := #[{ on := 5, ground := Ground.data }, { on := 6, ground := Ground.data }, { on := 12, ground := Ground.gcOnly Departure.lateStores }], guard := none }) (v := ?_) rfl (by kernel_rfl) (fun _ _ _ h => h) (Or.inl ⟨by rfl, ?_⟩) hHeld ?_
        rotate_left
        · (intro w hS; (clear hS; go_simp); try with_reducible rfl)
        try simp only [Act.put, List.setIfInBounds_toArray, List.set_cons_zero, List.set_cons_succ]
        refine wpG_take (i := 8) (x := { dst := some 36, op := Op.load 3 (Operand.tmp 35), type := 3, pos := "ref.go:42", after := #[{ on := 7, ground := Ground.data }, { on := 12, ground := Ground.gcOnly Departure.lateStores }], guard := none }) (v := .int .i64 l) rfl (by kernel_rfl) (fun _ _ _ h => h) (Or.inl ⟨by rfl, ?_⟩) hHeld ?_
        · (intro w hS; first | exact kr_load_cell hS _ _ (by rfl) (by rfl) (by repeat (first | with_reducible exact Has.hd _ _ | with_reducible refine Has.tl _ ?_ | with_reducible refine Has.ap _ ?_)) (by kernel_rfl) HC.out)
        try simp only [Act.put, List.setIfInBounds_toArray, List.set_cons_zero, List.set_cons_succ]
        refine wpG_take (i := 9) (x := { dst := some 37, op := Op.binOp BinOp.sub 3 (Operand.tmp 32) (Operand.tmp 36) 3, type := 3, pos := "ref.go:42", after := #[{ on := 4, ground := Ground.data }, { on := 8, ground := Ground.data }, { on := 12, ground := Ground.gcOnly Departure.lateStores }], guard := none }) (v := ?_) rfl (by kernel_rfl) (fun _ _ _ h => h) (Or.inl ⟨by rfl, ?_⟩) hHeld ?_
        rotate_left
        · (intro w hS; (clear hS; go_simp); try with_reducible rfl)
        try simp only [Act.put, List.setIfInBounds_toArray, List.set_cons_zero, List.set_cons_succ]
        refine wpG_take (i := 10) (x := { dst := some 38, op := Op.convert 3 47 (Operand.tmp 37), type := 47, pos := "ref.go:42", after := #[{ on := 9, ground := Ground.data }, { on := 12, ground := Ground.gcOnly Departure.lateStores }], guard := none }) (v := ?_) rfl (by kernel_rfl) (fun _ _ _ h => h) (Or.inl ⟨by rfl, ?_⟩) hHeld ?_
        rotate_left
        · (intro w hS; (clear hS; go_simp); try with_reducible rfl)
        try simp only [Act.put, List.setIfInBounds_toArray, List.set_cons_zero, List.set_cons_succ]
        refine wpG_take (i := 11) (x := { dst := some 2, op := Op.assign (Operand.tmp 29), type := 3, pos := "ref.go:42", after := #[{ on := 1, ground := Ground.data }, { on := 3, ground := Ground.chain }, { on := 0, ground := Ground.phase }, { on := 1, ground := Ground.phase }, { on := 2, ground := Ground.textOnly Departure.lateStores }, { on := 3, ground := Ground.textOnly Departure.lateStoresUnsure }, { on := 4, ground := Ground.textOnly Departure.lateStores }, { on := 5, ground := Ground.textOnly Departure.lateStores }, { on := 6, ground := Ground.textOnly Departure.lateStores }, { on := 7, ground := Ground.textOnly Departure.lateStores }, { on := 8, ground := Ground.textOnly Departure.lateStores }, { on := 9, ground := Ground.textOnly Departure.lateStores }, { on := 10, ground := Ground.textOnly Departure.lateStores }], guard := none }) (v := ?_) rfl (by kernel_rfl) (fun _ _ _ h => h) (Or.inl ⟨by rfl, ?_⟩) hHeld ?_
        rotate_left
        · (intro w hS; (clear hS; go_simp); try with_reducible rfl)
        try simp only [Act.put, List.setIfInBounds_toArray, List.set_cons_zero, List.set_cons_succ]
        refine wpG_take (i := 12) (x := { dst := some 3, op := Op.assign (Operand.tmp 31), type := 3, pos := "ref.go:42", after := #[{ on := 3, ground := Ground.data }, { on := 11, ground := Ground.chain }, { on := 0, ground := Ground.phase }, { on := 1, ground := Ground.phase }, { on := 2, ground := Ground.phase }, { on := 3, ground := Ground.phase }, { on := 4, ground := Ground.textOnly Departure.lateStores }, { on := 5, ground := Ground.textOnly Departure.lateStores }, { on := 6, ground := Ground.textOnly Departure.lateStores }, { on := 7, ground := Ground.textOnly Departure.lateStores }, { on := 8, ground := Ground.textOnly Departure.lateStores }, { on := 9, ground := Ground.textOnly Departure.lateStores }, { on := 10, ground := Ground.textOnly Departure.lateStores }, { on := 11, ground := Ground.phase }], guard := none }) (v := ?_) rfl (by kernel_rfl) (fun _ _ _ h => h) (Or.inl ⟨by rfl, ?_⟩) hHeld ?_
        rotate_left
        · (intro w hS; (clear hS; go_simp); try with_reducible rfl)
        try simp only [Act.put, List.setIfInBounds_toArray, List.set_cons_zero, List.set_cons_succ]
        refine wpG_take (i := 13) (x := { dst := some 4, op := Op.assign (Operand.tmp 38), type := 47, pos := "ref.go:42", after := #[{ on := 10, ground := Ground.data }, { on := 12, ground := Ground.chain }, { on := 0, ground := Ground.phase }, { on := 1, ground := Ground.phase }, { on := 2, ground := Ground.phase }, { on := 3, ground := Ground.phase }, { on := 4, ground := Ground.phase }, { on := 5, ground := Ground.phase }, { on := 6, ground := Ground.phase }, { on := 7, ground := Ground.phase }, { on := 8, ground := Ground.phase }, { on := 9, ground := Ground.phase }, { on := 10, ground := Ground.phase }, { on := 11, ground := Ground.phase }, { on := 12, ground := Ground.phase }], guard := none }) (v := ?_) rfl (by kernel_rfl) (fun _ _ _ h => h) (Or.inl ⟨by rfl, ?_⟩) hHeld ?_
        rotate_left
        · (intro w hS; (clear hS; go_simp); try with_reducible rfl)
        try simp only [Act.put, List.setIfInBounds_toArray, List.set_cons_zero, List.set_cons_succ]
        refine wpG_done (by kernel_rfl) ?_
        skip
        go_wp2
        go_ret3
        exact ⟨rfl, K.cov (by repeat (first | with_reducible exact Cov.all _ | with_reducible exact Cov.left _ _ | with_reducible exact Cov.nil _ | with_reducible refine Cov.app (by repeat (first | with_reducible exact Sel.ap _ _ | with_reducible exact Sel.hd _ _ | with_reducible exact Sel.all _ | with_reducible apply Sel.tl | with_reducible apply Sel.sk)) ?_ | with_reducible refine Cov.cons (by repeat (first | with_reducible exact Sel.ap _ _ | with_reducible exact Sel.hd _ _ | with_reducible exact Sel.all _ | with_reducible apply Sel.tl | with_reducible apply Sel.sk)) ?_ | with_reducible refine Cov.drop _ ?_ | with_reducible refine Cov.skip _ ?_))⟩
set_option maxHeartbeats 1000000 in
set_option maxRecDepth 100000 in
theorem rdist_any (n a b c : Int) (K : Known w0 w L) (h : distSym n = (a, b, c)) : Calls Try.prog 25 #[.int .i64 n] w fun e w' => e = .returned (.tuple #[.int .i64 a, .int .i64 b, .int .u32 c]) ∧ Known w0 w' L := by
  by_cases hn : n < 1 ∨ 32768 < n
  · rw [distSym, if_pos hn] at h
    cases h
    by_cases h1 : n < 1
    · go_enter Try.func25, Try.ntmps25
      go_wp2
      go_ret3
      exact ⟨rfl, K⟩
    · have d1 : decide (n < 1) = false := decide_eq_false h1
      have d2 : decide (32768 < n) = true := decide_eq_true (by omega)
      go_enter Try.func25, Try.ntmps25
      go_wp2
      go_ret3
      exact ⟨rfl, K⟩
  · rw [distSym, if_neg hn] at h
    have d1 : decide (n < 1) = false := decide_eq_false (by omega)
    have d2 : decide (32768 < n) = false := decide_eq_false (by omega)
    obtain ⟨i, hi⟩ : ∃ i, lastK (fun j => (ent tblD j).1) n 30 = i := ⟨_, rfl⟩
    have hi2 := lastK_le (fun j => (ent tblD j).1) n (by show (1 : Int) ≤ n; omega) 30 (by omega)
    rw [hi] at hi2
    have h' : ((i : Int), (ent tblD i).2, n - (ent tblD i).1) = (a, b, c) := by
      rw [← h, ← hi]; rfl
    injection h' with e1 h'
    injection h' with e2 e3
    obtain ⟨l, hl⟩ : ∃ l, ent tblD i = l := ⟨_, rfl⟩
    obtain ⟨l, r⟩ := l
    rw [hl] at hi2 e3 e2
    have hl0 := tblD_pos i
    rw [hl] at hl0
    simp only at hi2 e3 e2 hl0
    subst e1; subst e3; subst e2
    have H1 := Lib.hid hi; have H2 := Lib.hid hl
    obtain ⟨hle, hi30⟩ := hi2
    clear hi hl h
    go_enter Try.func25, Try.ntmps25
    go_wp2
    go_loopg [5, 6] 31 (fun d at_ x wr => ∃ k : Nat, x = .int .i64 k ∧ at_ = .int .i64 (lastK (fun j => (ent tblD j).1) n k : Nat) ∧ k ≤ 30 ∧ k + d = 31 ∧ Known w0 wr L)
    case atStart => exact ⟨0, rfl, rfl, by omega, by omega, K⟩
    case round =>
      clear K
      obtain ⟨k, rfl, rfl, hk9, hd, K⟩ := hrel
      by_cases hk : k < 30
      · obtain ⟨⟨x, y⟩, hx⟩ : ∃ x, ent tblD k = x := ⟨_, rfl⟩
        have HX := Lib.hid hx
        have HS := Lib.hid (show lastK (fun j => (ent tblD j).1) n (k + 1) = if x ≤ n then k else lastK (fun j => (ent tblD j).1) n k by rw [lastK, hx])
        obtain ⟨q, hq⟩ : ∃ q, lastK (fun j => (ent tblD j).1) n k = q := ⟨_, rfl⟩
        rw [hq] at HS ⊢
        have hk' : (k : Int) < 30 := by omega
        clear hx hq
        by_cases hxn : x ≤ n
        · rw [if_pos hxn] at HS
          go_wp2_with (first | (go_at_call 53; go_loud ((with_reducible refine (leastd_any (k : Int) x y (by omega) (by omega) (by rw [Int.toNat_natCast]; exact HX.out) _).mono ?_); rintro e w' ⟨rfl, rfl⟩)))
          go_roundg (gk - 1)
          case measure => omega
          case rel => exact ⟨k + 1, by go_num, by rw [HS.out], by omega, by omega, K⟩
        · rw [if_neg hxn] at HS
          go_wp2_with (first | (go_at_call 53; go_loud ((with_reducible refine (leastd_any (k : Int) x y (by omega) (by omega) (by rw [Int.toNat_natCast]; exact HX.out) _).mono ?_); rintro e w' ⟨rfl, rfl⟩)))
          go_roundg (gk - 1)
          case measure => omega
          case rel => exact ⟨k + 1, by go_num, by rw [HS.out], by omega, by omega, K⟩
      · obtain rfl : k = 30 := by omega
        rw [H1.out]
        have ku : IntKind.u32.wrap (n - l) = n - l := by obtain ⟨d, hd⟩ := Int.eq_ofNat_of_zero_le (show 0 ≤ n - l by omega); rw [hd]; exact u32_nat (by omega)
        go_wp2_with (first | (go_at_call 53; go_loud ((with_reducible refine (leastd_any (i : Int) l r (by omega) (by omega) (by rw [Int.toNat_natCast]; exact H2.out) _).mono ?_); rintro e w' ⟨rfl, rfl⟩)))
        go_ret3
        exact ⟨rfl, K⟩
end
end Go.Proofs.Ytgloienpmikcfaa
