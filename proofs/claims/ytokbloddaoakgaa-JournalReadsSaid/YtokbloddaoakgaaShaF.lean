/-
  sha: the reference's sum (contracts).
-/
import Derived.Test.YtokbloddaoakgaaShaE
import Derived.Test.YtokbloddaoakgaaQ
set_option linter.unusedVariables false
set_option linter.unusedSimpArgs false
namespace Go.Proofs.Ytokbloddaoakgaa
open Go.RowKit
section
variable {w0 w : World} {L : List Ent}
theorem rturn_any (K : Known w0 w L) (p : U) (n : Nat) (hn : n ≤ 32) : Calls Try.prog 99 #[wv p, .int .i64 (n : Int)] w fun e w' => e = .returned (wv (rotr n p)) ∧ Known w0 w' L := by
  have i1 := IntWalk.i64_in ((32 - n : Nat) : Int) (by omega)
  have e1 : (32 - (n : Int)) = ((32 - n : Nat) : Int) := by omega
  go_enter Try.func99, Try.ntmps99
  go_upto_region 1 with (fail)
  refine wp_region_QLK K (by kernel_rfl) (by kernel_rfl) ?_
  clear K
  refine wpQL_step (k := 0) (x := { dst := some 5, op := Op.move (Operand.tmp 0), type := 147, pos := "ref.go:11", after := #[], guard := none }) (v := ?_) rfl (by kernel_rfl) (by rfl) ?_ ?_
  rotate_left
  · (intro w hS; refine quiet_value ?_; (clear hS; go_simp); try with_reducible rfl)
  try simp only [Act.put, List.setIfInBounds_toArray, List.set_cons_zero, List.set_cons_succ]
  refine wpQL_step (k := 1) (x := { dst := some 6, op := Op.move (Operand.tmp 1), type := 3, pos := "ref.go:11", after := #[], guard := none }) (v := ?_) rfl (by kernel_rfl) (by rfl) ?_ ?_
  rotate_left
  · (intro w hS; refine quiet_value ?_; (clear hS; go_simp); try with_reducible rfl)
  try simp only [Act.put, List.setIfInBounds_toArray, List.set_cons_zero, List.set_cons_succ]
  refine wpQL_step (k := 2) (x := { dst := some 7, op := Op.binOp BinOp.shr 147 (Operand.tmp 5) (Operand.tmp 6) 3, type := 147, pos := "ref.go:11", after := #[{ on := 0, ground := Ground.data }, { on := 1, ground := Ground.data }], guard := none }) (v := wv (p >>> n)) rfl (by kernel_rfl) (by rfl) ?_ ?_
  · (intro w hS; refine quiet_value ?_; first | exact kr_shr32 n (by omega) (by rfl) (by rfl) (by rfl))
  try simp only [Act.put, List.setIfInBounds_toArray, List.set_cons_zero, List.set_cons_succ]
  refine wpQL_step (k := 3) (x := { dst := some 8, op := Op.move (Operand.tmp 0), type := 147, pos := "ref.go:11", after := #[], guard := none }) (v := ?_) rfl (by kernel_rfl) (by rfl) ?_ ?_
  rotate_left
  · (intro w hS; refine quiet_value ?_; (clear hS; go_simp); try with_reducible rfl)
  try simp only [Act.put, List.setIfInBounds_toArray, List.set_cons_zero, List.set_cons_succ]
  refine wpQL_step (k := 4) (x := { dst := some 9, op := Op.move (Operand.tmp 1), type := 3, pos := "ref.go:11", after := #[], guard := none }) (v := ?_) rfl (by kernel_rfl) (by rfl) ?_ ?_
  rotate_left
  · (intro w hS; refine quiet_value ?_; (clear hS; go_simp); try with_reducible rfl)
  try simp only [Act.put, List.setIfInBounds_toArray, List.set_cons_zero, List.set_cons_succ]
  refine wpQL_step (k := 5) (x := { dst := some 10, op := Op.binOp BinOp.sub 3 (Operand.const (Value.int IntKind.i64 32)) (Operand.tmp 9) 3, type := 3, pos := "ref.go:11", after := #[{ on := 4, ground := Ground.data }], guard := none }) (v := ?_) rfl (by kernel_rfl) (by rfl) ?_ ?_
  rotate_left
  · (intro w hS; refine quiet_value ?_; (clear hS; go_simp); try with_reducible rfl)
  try simp only [Act.put, List.setIfInBounds_toArray, List.set_cons_zero, List.set_cons_succ]
  refine wpQL_step (k := 6) (x := { dst := some 11, op := Op.binOp BinOp.shl 147 (Operand.tmp 8) (Operand.tmp 10) 3, type := 147, pos := "ref.go:11", after := #[{ on := 3, ground := Ground.data }, { on := 5, ground := Ground.data }], guard := none }) (v := wv (p <<< (32 - n))) rfl (by kernel_rfl) (by rfl) ?_ ?_
  · (intro w hS; refine quiet_value ?_; first | exact kr_shl32 (32 - n) (by omega) (by rfl) (by rfl) (by rfl))
  try simp only [Act.put, List.setIfInBounds_toArray, List.set_cons_zero, List.set_cons_succ]
  refine wpQL_step (k := 7) (x := { dst := some 12, op := Op.binOp BinOp.or 147 (Operand.tmp 7) (Operand.tmp 11) 147, type := 147, pos := "ref.go:11", after := #[{ on := 2, ground := Ground.data }, { on := 6, ground := Ground.data }], guard := none }) (v := ?_) rfl (by kernel_rfl) (by rfl) ?_ ?_
  rotate_left
  · (intro w hS; refine quiet_value ?_; (clear hS; go_simp); try with_reducible rfl)
  try simp only [Act.put, List.setIfInBounds_toArray, List.set_cons_zero, List.set_cons_succ]
  refine wpQL_end (k := 8) (x := { dst := some 4, op := Op.assign (Operand.tmp 12), type := 147, pos := "ref.go:11", after := #[{ on := 7, ground := Ground.data }, { on := 0, ground := Ground.phase }, { on := 1, ground := Ground.phase }, { on := 2, ground := Ground.phase }, { on := 3, ground := Ground.phase }, { on := 4, ground := Ground.phase }, { on := 5, ground := Ground.phase }, { on := 6, ground := Ground.phase }, { on := 7, ground := Ground.phase }], guard := none }) rfl (by kernel_rfl) (fun w1 K K9 hK => ?_)
  refine st_reads (v := ?_) (by rfl) ?_ ?_
  rotate_left
  · (go_simp; try with_reducible rfl)
  refine hK.out _ _ ?_
  clear hK K9
  try simp only [Act.put, List.setIfInBounds_toArray, List.set_cons_zero, List.set_cons_succ]
  skip
  go_wp2
  go_ret
  exact ⟨rfl, K⟩

theorem build_w64 (w : World) : (Instr.build 149 #[]).run Try.prog w = .ok (.agg (wcells (fun _ => 0#32) 64)) w := by kernel_rfl
theorem rnd_cells (t : S8) (x y : U) : wcells (t.rnd x y).get 8 = #[wv (t.get 7 + (rotr 6 (t.get 4) ^^^ rotr 11 (t.get 4) ^^^ rotr 25 (t.get 4)) + (t.get 4 &&& t.get 5 ||| ~~~t.get 4 &&& t.get 6) + x + y + ((rotr 2 (t.get 0) ^^^ rotr 13 (t.get 0) ^^^ rotr 22 (t.get 0)) + (t.get 0 &&& t.get 1 ||| t.get 0 &&& t.get 2 ||| t.get 1 &&& t.get 2))), wv (t.get 0), wv (t.get 1), wv (t.get 2), wv (t.get 3 + (t.get 7 + (rotr 6 (t.get 4) ^^^ rotr 11 (t.get 4) ^^^ rotr 25 (t.get 4)) + (t.get 4 &&& t.get 5 ||| ~~~t.get 4 &&& t.get 6) + x + y)), wv (t.get 4), wv (t.get 5), wv (t.get 6)] := by
  rw [ch_or, maj_or]
  rfl
def addR (s t : S8) (k : Nat) (i : Nat) : U := if i < k then t.get i + s.get i else t.get i
theorem addR_at (s t : S8) (k : Nat) : addR s t k k = t.get k := by simp [addR]
theorem addR_zero (s t : S8) : t.get = addR s t 0 := by funext i; simp [addR]
theorem addR_succ (s t : S8) (k : Nat) : upd (addR s t k) k (t.get k + s.get k) = addR s t (k + 1) := by
  funext i
  unfold upd addR
  by_cases e : i = k
  · subst e; simp
  · by_cases h : i < k
    · simp [e, h, show i < k + 1 by omega]
    · simp [e, h, show ¬ i < k + 1 by omega]
theorem addR_full (s t : S8) : wcells (addR s t 8) 8 = wcells (S8.add t s).get 8 := by
  apply fcells_congr
  intro i hi
  rw [addR, if_pos hi, get_add s t i hi]
set_option maxHeartbeats 3200000 in
set_option maxRecDepth 100000 in
theorem rone_any {A : Option Addr} {n c : Nat} {xs : List Int} {s : S8} {bf : Nat → Int} (hbf : bf = fun i => xs.getD i 0) (K : Known w0 w L) (R : RdS w0 L .u8 A n xs) (hn : 64 ≤ n) (hc : n ≤ c) (hb : ∀ b ∈ xs, 0 ≤ b ∧ b ≤ 255) :
    Calls Try.prog 87 #[.agg (wcells s.get 8), .slice A n c, .agg (wcells rootK 64)] w fun e w' => e = .returned (.agg (wcells (s.block bf).get 8)) ∧ Known w0 w' L := by
  obtain ⟨b, off, rfl⟩ := R.form K (by omega)
  have HB : ∀ j, j < n → 0 ≤ xs.getD j 0 ∧ xs.getD j 0 ≤ 255 := fun j hj => by
    have : j < xs.length := by rw [R.len]; exact hj
    rw [List.getD_eq_getElem?_getD, List.getElem?_eq_getElem this]
    exact hb _ (List.getElem_mem this)
  replace HB := Lib.hid HB
  have HBF := Lib.hid hbf
  have HSB := Lib.hid (show s.block bf = (s.rnds rootK (wrow bf 64) 64).add s from rfl)
  clear hb hbf
  go_enter Try.func87, Try.ntmps87
  go_upto_region 3 with ((first | ((with_reducible refine at_slot (N := 3) rfl ?_); (with_reducible refine at_box rfl ?_); refine wpList_does rfl (kd_box K _ _ rfl (by conv => lhs; whnf)) ?_; clear K; rintro _ w1 ⟨gs, rfl, K⟩; (try dsimp only [Value.cells] at K)) | ((with_reducible refine at_slot (N := 5) rfl ?_); (with_reducible refine at_box rfl ?_); refine wpList_does rfl (kd_box K _ _ rfl (by conv => lhs; whnf)) ?_; clear K; rintro _ w1 ⟨gq, rfl, K⟩; (try dsimp only [Value.cells] at K)) | ((with_reducible refine at_slot (N := 6) rfl ?_); (with_reducible refine at_alloc rfl ?_); refine wpList_does rfl (kd_alloc (z := (.agg (wcells (fun _ => 0#32) 8))) K _ rfl (by kernel_rfl)) ?_; clear K; rintro _ w1 ⟨gr, rfl, K⟩; (try dsimp only [Value.cells] at K)) | ((with_reducible refine at_build (t := 149) rfl ?_); refine ev_build0 rfl 149 rfl (build_w64 _) ?_) | ((with_reducible refine at_slot (N := 7) rfl ?_); (with_reducible refine at_alloc rfl ?_); refine wpList_does rfl (kd_alloc (z := (.agg (wcells (fun _ => 0#32) 64))) K _ rfl (by kernel_rfl)) ?_; clear K; rintro _ w1 ⟨gw, rfl, K⟩; (try dsimp only [Value.cells] at K)) | ((with_reducible refine at_store rfl ?_); refine wpList_does (by rfl) (kd_store_row K _ _ _ (by rfl) (by rfl) (by rfl) (by repeat (first | with_reducible exact Repl.hd _ _ _ | with_reducible apply Repl.tl | with_reducible apply Repl.ap)) (by rw [fcells_size]; kernel_rfl) (by first | (rw [fcells_size, fcells_size]; rfl) | (rw [fcells_size]; rfl) | (simp only [fcells_size, u8s_size]; done) | (simp only [fcells_size, u8s_size]; rfl)) (wcells_one _ _)) ?_; clear K; intro _ w1 K; (try simp only [Act.put]))))
  go_loopg [8] 64 (fun d i wr => ∃ k : Nat, i = .int .i64 k ∧ k + d = 64 ∧ Known w0 wr (row gw (wcells (wrow bf k) 64) 149 :: row gr (wcells (fun _ => 0#32) 8) 148 :: row gq (wcells rootK 64) 149 :: row gs (wcells s.get 8) 148 :: L))
  case atStart => exact ⟨0, by go_num, by omega, K⟩
  case round =>
    clear K
    obtain ⟨k, rfl, hd, K⟩ := hrel
    by_cases hk : k < 64
    · have x4 : (0 : Int) ≤ (k : Int) ∧ (k : Int) < 64 := by omega
      by_cases hk16 : k < 16
      · have hk16' : (k : Int) < 16 := by omega
        obtain ⟨q0, h0⟩ : ∃ q, q = byteW (xs.getD (4 * k) 0) := ⟨_, rfl⟩
        obtain ⟨q1, h1⟩ : ∃ q, q = byteW (xs.getD (4 * k + 1) 0) := ⟨_, rfl⟩
        obtain ⟨q2, h2⟩ : ∃ q, q = byteW (xs.getD (4 * k + 2) 0) := ⟨_, rfl⟩
        obtain ⟨q3, h3⟩ : ∃ q, q = byteW (xs.getD (4 * k + 3) 0) := ⟨_, rfl⟩
        have H0 := Lib.hid (h0 ▸ un_byteW (HB.out (4 * k) (by omega)) : xs.getD (4 * k) 0 = un q0)
        have H1 := Lib.hid (h1 ▸ un_byteW (HB.out (4 * k + 1) (by omega)) : xs.getD (4 * k + 1) 0 = un q1)
        have H2 := Lib.hid (h2 ▸ un_byteW (HB.out (4 * k + 2) (by omega)) : xs.getD (4 * k + 2) 0 = un q2)
        have H3 := Lib.hid (h3 ▸ un_byteW (HB.out (4 * k + 3) (by omega)) : xs.getD (4 * k + 3) 0 = un q3)
        have HN := Lib.hid (show wrow bf (k + 1) = upd (wrow bf k) k (q0 <<< 24 ||| q1 <<< 16 ||| q2 <<< 8 ||| q3) by
          rw [wrow_succ, wnext, if_pos hk16, word4, h0, h1, h2, h3, HBF.out])
        clear h0 h1 h2 h3
        have x0 : (0 : Int) ≤ 4 * (k : Int) ∧ 4 * (k : Int) < (n : Int) := by omega
        have x1 : (0 : Int) ≤ 4 * (k : Int) + 1 ∧ 4 * (k : Int) + 1 < (n : Int) := by omega
        have x2 : (0 : Int) ≤ 4 * (k : Int) + 2 ∧ 4 * (k : Int) + 2 < (n : Int) := by omega
        have x3 : (0 : Int) ≤ 4 * (k : Int) + 3 ∧ 4 * (k : Int) + 3 < (n : Int) := by omega
        have k4 := IntWalk.i64_in (4 * (k : Int)) (by omega)
        have k41 := IntWalk.i64_in (4 * (k : Int) + 1) (by omega)
        have k42 := IntWalk.i64_in (4 * (k : Int) + 2) (by omega)
        have k43 := IntWalk.i64_in (4 * (k : Int) + 3) (by omega)
        go_upto_region 6 with (fail)
        refine wp_region_QLK K (by kernel_rfl) (by kernel_rfl) ?_
        clear K
        refine wpQL_step (k := 0) (x := { dst := some 25, op := Op.move (Operand.tmp 8), type := 3, pos := "ref.go:34", after := #[], guard := none }) (v := ?_) rfl (by kernel_rfl) (by rfl) ?_ ?_
        rotate_left
        · (intro w hS; refine quiet_value ?_; (clear hS; go_simp); try with_reducible rfl)
        try simp only [Act.put, List.setIfInBounds_toArray, List.set_cons_zero, List.set_cons_succ]
        refine wpQL_step (k := 1) (x := { dst := some 26, op := Op.move (Operand.tmp 1), type := 24, pos := "ref.go:34", after := #[], guard := none }) (v := ?_) rfl (by kernel_rfl) (by rfl) ?_ ?_
        rotate_left
        · (intro w hS; refine quiet_value ?_; (clear hS; go_simp); try with_reducible rfl)
        try simp only [Act.put, List.setIfInBounds_toArray, List.set_cons_zero, List.set_cons_succ]
        refine wpQL_step (k := 2) (x := { dst := some 27, op := Op.move (Operand.tmp 8), type := 3, pos := "ref.go:34", after := #[], guard := none }) (v := ?_) rfl (by kernel_rfl) (by rfl) ?_ ?_
        rotate_left
        · (intro w hS; refine quiet_value ?_; (clear hS; go_simp); try with_reducible rfl)
        try simp only [Act.put, List.setIfInBounds_toArray, List.set_cons_zero, List.set_cons_succ]
        refine wpQL_step (k := 3) (x := { dst := some 28, op := Op.binOp BinOp.mul 3 (Operand.const (Value.int IntKind.i64 4)) (Operand.tmp 27) 3, type := 3, pos := "ref.go:34", after := #[{ on := 2, ground := Ground.data }], guard := none }) (v := ?_) rfl (by kernel_rfl) (by rfl) ?_ ?_
        rotate_left
        · (intro w hS; refine quiet_value ?_; (clear hS; go_simp); try with_reducible rfl)
        try simp only [Act.put, List.setIfInBounds_toArray, List.set_cons_zero, List.set_cons_succ]
        refine wpQL_step (k := 4) (x := { dst := some 29, op := Op.indexAddr 24 (Operand.tmp 26) (Operand.tmp 28), type := 0, pos := "ref.go:34", after := #[{ on := 1, ground := Ground.data }, { on := 3, ground := Ground.data }], guard := none }) (v := ?_) rfl (by kernel_rfl) (by rfl) ?_ ?_
        rotate_left
        · (intro w hS; refine quiet_value ?_; (clear hS; go_simp); try with_reducible rfl)
        try simp only [Act.put, List.setIfInBounds_toArray, List.set_cons_zero, List.set_cons_succ]
        refine wpQL_step (k := 5) (x := { dst := some 30, op := Op.load 5 (Operand.tmp 29), type := 5, pos := "ref.go:34", after := #[{ on := 4, ground := Ground.data }], guard := none }) (v := .int .u8 (un q0)) rfl (by kernel_rfl) (by rfl) ?_ ?_
        · (intro w hS; refine quiet_value ?_; first | exact kr_load_fact _ _ (by rfl) (by rfl) (R.cell (hS.cov (by repeat (first | with_reducible exact Cov.all _ | with_reducible exact Cov.left _ _ | with_reducible exact Cov.nil _ | (with_reducible apply Cov.app; (· repeat (first | with_reducible exact Sel.nil _ | with_reducible exact Sel.ap _ _ | with_reducible exact Sel.hd _ _ | with_reducible exact Sel.all _ | with_reducible apply Sel.tl | with_reducible apply Sel.sk))) | (with_reducible apply Cov.cons; (· repeat (first | with_reducible exact Sel.nil _ | with_reducible exact Sel.ap _ _ | with_reducible exact Sel.hd _ _ | with_reducible exact Sel.all _ | with_reducible apply Sel.tl | with_reducible apply Sel.sk))) | with_reducible refine Cov.drop _ ?_ | with_reducible refine Cov.skip _ ?_))) (by omega) H0.out (by omega)) (by kernel_rfl))
        try simp only [Act.put, List.setIfInBounds_toArray, List.set_cons_zero, List.set_cons_succ]
        refine wpQL_step (k := 6) (x := { dst := some 31, op := Op.convert 5 147 (Operand.tmp 30), type := 147, pos := "ref.go:34", after := #[{ on := 5, ground := Ground.data }], guard := none }) (v := ?_) rfl (by kernel_rfl) (by rfl) ?_ ?_
        rotate_left
        · (intro w hS; refine quiet_value ?_; (clear hS; go_simp); try with_reducible rfl)
        try simp only [Act.put, List.setIfInBounds_toArray, List.set_cons_zero, List.set_cons_succ]
        refine wpQL_step (k := 7) (x := { dst := some 32, op := Op.binOp BinOp.shl 147 (Operand.tmp 31) (Operand.const (Value.int IntKind.u64 24)) 166, type := 147, pos := "ref.go:34", after := #[{ on := 6, ground := Ground.data }], guard := none }) (v := ?_) rfl (by kernel_rfl) (by rfl) ?_ ?_
        rotate_left
        · (intro w hS; refine quiet_value ?_; (clear hS; go_simp); try with_reducible rfl)
        try simp only [Act.put, List.setIfInBounds_toArray, List.set_cons_zero, List.set_cons_succ]
        refine wpQL_step (k := 8) (x := { dst := some 33, op := Op.move (Operand.tmp 1), type := 24, pos := "ref.go:34", after := #[], guard := none }) (v := ?_) rfl (by kernel_rfl) (by rfl) ?_ ?_
        rotate_left
        · (intro w hS; refine quiet_value ?_; (clear hS; go_simp); try with_reducible rfl)
        try simp only [Act.put, List.setIfInBounds_toArray, List.set_cons_zero, List.set_cons_succ]
        refine wpQL_step (k := 9) (x := { dst := some 34, op := Op.move (Operand.tmp 8), type := 3, pos := "ref.go:34", after := #[], guard := none }) (v := ?_) rfl (by kernel_rfl) (by rfl) ?_ ?_
        rotate_left
        · (intro w hS; refine quiet_value ?_; (clear hS; go_simp); try with_reducible rfl)
        try simp only [Act.put, List.setIfInBounds_toArray, List.set_cons_zero, List.set_cons_succ]
        refine wpQL_step (k := 10) (x := { dst := some 35, op := Op.binOp BinOp.mul 3 (Operand.const (Value.int IntKind.i64 4)) (Operand.tmp 34) 3, type := 3, pos := "ref.go:34", after := #[{ on := 9, ground := Ground.data }], guard := none }) (v := ?_) rfl (by kernel_rfl) (by rfl) ?_ ?_
        rotate_left
        · (intro w hS; refine quiet_value ?_; (clear hS; go_simp); try with_reducible rfl)
        try simp only [Act.put, List.setIfInBounds_toArray, List.set_cons_zero, List.set_cons_succ]
        refine wpQL_step (k := 11) (x := { dst := some 36, op := Op.binOp BinOp.add 3 (Operand.tmp 35) (Operand.const (Value.int IntKind.i64 1)) 3, type := 3, pos := "ref.go:34", after := #[{ on := 10, ground := Ground.data }], guard := none }) (v := ?_) rfl (by kernel_rfl) (by rfl) ?_ ?_
        rotate_left
        · (intro w hS; refine quiet_value ?_; (clear hS; go_simp); try with_reducible rfl)
        try simp only [Act.put, List.setIfInBounds_toArray, List.set_cons_zero, List.set_cons_succ]
        refine wpQL_step (k := 12) (x := { dst := some 37, op := Op.indexAddr 24 (Operand.tmp 33) (Operand.tmp 36), type := 0, pos := "ref.go:34", after := #[{ on := 8, ground := Ground.data }, { on := 11, ground := Ground.data }], guard := none }) (v := ?_) rfl (by kernel_rfl) (by rfl) ?_ ?_
        rotate_left
        · (intro w hS; refine quiet_value ?_; (clear hS; go_simp); try with_reducible rfl)
        try simp only [Act.put, List.setIfInBounds_toArray, List.set_cons_zero, List.set_cons_succ]
        refine wpQL_step (k := 13) (x := { dst := some 38, op := Op.load 5 (Operand.tmp 37), type := 5, pos := "ref.go:34", after := #[{ on := 12, ground := Ground.data }], guard := none }) (v := .int .u8 (un q1)) rfl (by kernel_rfl) (by rfl) ?_ ?_
        · (intro w hS; refine quiet_value ?_; first | exact kr_load_fact _ _ (by rfl) (by rfl) (R.cell (hS.cov (by repeat (first | with_reducible exact Cov.all _ | with_reducible exact Cov.left _ _ | with_reducible exact Cov.nil _ | (with_reducible apply Cov.app; (· repeat (first | with_reducible exact Sel.nil _ | with_reducible exact Sel.ap _ _ | with_reducible exact Sel.hd _ _ | with_reducible exact Sel.all _ | with_reducible apply Sel.tl | with_reducible apply Sel.sk))) | (with_reducible apply Cov.cons; (· repeat (first | with_reducible exact Sel.nil _ | with_reducible exact Sel.ap _ _ | with_reducible exact Sel.hd _ _ | with_reducible exact Sel.all _ | with_reducible apply Sel.tl | with_reducible apply Sel.sk))) | with_reducible refine Cov.drop _ ?_ | with_reducible refine Cov.skip _ ?_))) (by omega) H1.out (by omega)) (by kernel_rfl))
        try simp only [Act.put, List.setIfInBounds_toArray, List.set_cons_zero, List.set_cons_succ]
        refine wpQL_step (k := 14) (x := { dst := some 39, op := Op.convert 5 147 (Operand.tmp 38), type := 147, pos := "ref.go:34", after := #[{ on := 13, ground := Ground.data }], guard := none }) (v := ?_) rfl (by kernel_rfl) (by rfl) ?_ ?_
        rotate_left
        · (intro w hS; refine quiet_value ?_; (clear hS; go_simp); try with_reducible rfl)
        try simp only [Act.put, List.setIfInBounds_toArray, List.set_cons_zero, List.set_cons_succ]
        refine wpQL_step (k := 15) (x := { dst := some 40, op := Op.binOp BinOp.shl 147 (Operand.tmp 39) (Operand.const (Value.int IntKind.u64 16)) 166, type := 147, pos := "ref.go:34", after := #[{ on := 14, ground := Ground.data }], guard := none }) (v := ?_) rfl (by kernel_rfl) (by rfl) ?_ ?_
        rotate_left
        · (intro w hS; refine quiet_value ?_; (clear hS; go_simp); try with_reducible rfl)
        try simp only [Act.put, List.setIfInBounds_toArray, List.set_cons_zero, List.set_cons_succ]
        refine wpQL_step (k := 16) (x := { dst := some 41, op := Op.binOp BinOp.or 147 (Operand.tmp 32) (Operand.tmp 40) 147, type := 147, pos := "ref.go:34", after := #[{ on := 7, ground := Ground.data }, { on := 15, ground := Ground.data }], guard := none }) (v := ?_) rfl (by kernel_rfl) (by rfl) ?_ ?_
        rotate_left
        · (intro w hS; refine quiet_value ?_; (clear hS; go_simp); try with_reducible rfl)
        try simp only [Act.put, List.setIfInBounds_toArray, List.set_cons_zero, List.set_cons_succ]
        refine wpQL_step (k := 17) (x := { dst := some 42, op := Op.move (Operand.tmp 1), type := 24, pos := "ref.go:34", after := #[], guard := none }) (v := ?_) rfl (by kernel_rfl) (by rfl) ?_ ?_
        rotate_left
        · (intro w hS; refine quiet_value ?_; (clear hS; go_simp); try with_reducible rfl)
        try simp only [Act.put, List.setIfInBounds_toArray, List.set_cons_zero, List.set_cons_succ]
        refine wpQL_step (k := 18) (x := { dst := some 43, op := Op.move (Operand.tmp 8), type := 3, pos := "ref.go:34", after := #[], guard := none }) (v := ?_) rfl (by kernel_rfl) (by rfl) ?_ ?_
        rotate_left
        · (intro w hS; refine quiet_value ?_; (clear hS; go_simp); try with_reducible rfl)
        try simp only [Act.put, List.setIfInBounds_toArray, List.set_cons_zero, List.set_cons_succ]
        refine wpQL_step (k := 19) (x := { dst := some 44, op := Op.binOp BinOp.mul 3 (Operand.const (Value.int IntKind.i64 4)) (Operand.tmp 43) 3, type := 3, pos := "ref.go:34", after := #[{ on := 18, ground := Ground.data }], guard := none }) (v := ?_) rfl (by kernel_rfl) (by rfl) ?_ ?_
        rotate_left
        · (intro w hS; refine quiet_value ?_; (clear hS; go_simp); try with_reducible rfl)
        try simp only [Act.put, List.setIfInBounds_toArray, List.set_cons_zero, List.set_cons_succ]
        refine wpQL_step (k := 20) (x := { dst := some 45, op := Op.binOp BinOp.add 3 (Operand.tmp 44) (Operand.const (Value.int IntKind.i64 2)) 3, type := 3, pos := "ref.go:34", after := #[{ on := 19, ground := Ground.data }], guard := none }) (v := ?_) rfl (by kernel_rfl) (by rfl) ?_ ?_
        rotate_left
        · (intro w hS; refine quiet_value ?_; (clear hS; go_simp); try with_reducible rfl)
        try simp only [Act.put, List.setIfInBounds_toArray, List.set_cons_zero, List.set_cons_succ]
        refine wpQL_step (k := 21) (x := { dst := some 46, op := Op.indexAddr 24 (Operand.tmp 42) (Operand.tmp 45), type := 0, pos := "ref.go:34", after := #[{ on := 17, ground := Ground.data }, { on := 20, ground := Ground.data }], guard := none }) (v := ?_) rfl (by kernel_rfl) (by rfl) ?_ ?_
        rotate_left
        · (intro w hS; refine quiet_value ?_; (clear hS; go_simp); try with_reducible rfl)
        try simp only [Act.put, List.setIfInBounds_toArray, List.set_cons_zero, List.set_cons_succ]
        refine wpQL_step (k := 22) (x := { dst := some 47, op := Op.load 5 (Operand.tmp 46), type := 5, pos := "ref.go:34", after := #[{ on := 21, ground := Ground.data }], guard := none }) (v := .int .u8 (un q2)) rfl (by kernel_rfl) (by rfl) ?_ ?_
        · (intro w hS; refine quiet_value ?_; first | exact kr_load_fact _ _ (by rfl) (by rfl) (R.cell (hS.cov (by repeat (first | with_reducible exact Cov.all _ | with_reducible exact Cov.left _ _ | with_reducible exact Cov.nil _ | (with_reducible apply Cov.app; (· repeat (first | with_reducible exact Sel.nil _ | with_reducible exact Sel.ap _ _ | with_reducible exact Sel.hd _ _ | with_reducible exact Sel.all _ | with_reducible apply Sel.tl | with_reducible apply Sel.sk))) | (with_reducible apply Cov.cons; (· repeat (first | with_reducible exact Sel.nil _ | with_reducible exact Sel.ap _ _ | with_reducible exact Sel.hd _ _ | with_reducible exact Sel.all _ | with_reducible apply Sel.tl | with_reducible apply Sel.sk))) | with_reducible refine Cov.drop _ ?_ | with_reducible refine Cov.skip _ ?_))) (by omega) H2.out (by omega)) (by kernel_rfl))
        try simp only [Act.put, List.setIfInBounds_toArray, List.set_cons_zero, List.set_cons_succ]
        refine wpQL_step (k := 23) (x := { dst := some 48, op := Op.convert 5 147 (Operand.tmp 47), type := 147, pos := "ref.go:34", after := #[{ on := 22, ground := Ground.data }], guard := none }) (v := ?_) rfl (by kernel_rfl) (by rfl) ?_ ?_
        rotate_left
        · (intro w hS; refine quiet_value ?_; (clear hS; go_simp); try with_reducible rfl)
        try simp only [Act.put, List.setIfInBounds_toArray, List.set_cons_zero, List.set_cons_succ]
        refine wpQL_step (k := 24) (x := { dst := some 49, op := Op.binOp BinOp.shl 147 (Operand.tmp 48) (Operand.const (Value.int IntKind.u64 8)) 166, type := 147, pos := "ref.go:34", after := #[{ on := 23, ground := Ground.data }], guard := none }) (v := ?_) rfl (by kernel_rfl) (by rfl) ?_ ?_
        rotate_left
        · (intro w hS; refine quiet_value ?_; (clear hS; go_simp); try with_reducible rfl)
        try simp only [Act.put, List.setIfInBounds_toArray, List.set_cons_zero, List.set_cons_succ]
        refine wpQL_step (k := 25) (x := { dst := some 50, op := Op.binOp BinOp.or 147 (Operand.tmp 41) (Operand.tmp 49) 147, type := 147, pos := "ref.go:34", after := #[{ on := 16, ground := Ground.data }, { on := 24, ground := Ground.data }], guard := none }) (v := ?_) rfl (by kernel_rfl) (by rfl) ?_ ?_
        rotate_left
        · (intro w hS; refine quiet_value ?_; (clear hS; go_simp); try with_reducible rfl)
        try simp only [Act.put, List.setIfInBounds_toArray, List.set_cons_zero, List.set_cons_succ]
        refine wpQL_step (k := 26) (x := { dst := some 51, op := Op.move (Operand.tmp 1), type := 24, pos := "ref.go:34", after := #[], guard := none }) (v := ?_) rfl (by kernel_rfl) (by rfl) ?_ ?_
        rotate_left
        · (intro w hS; refine quiet_value ?_; (clear hS; go_simp); try with_reducible rfl)
        try simp only [Act.put, List.setIfInBounds_toArray, List.set_cons_zero, List.set_cons_succ]
        refine wpQL_step (k := 27) (x := { dst := some 52, op := Op.move (Operand.tmp 8), type := 3, pos := "ref.go:34", after := #[], guard := none }) (v := ?_) rfl (by kernel_rfl) (by rfl) ?_ ?_
        rotate_left
        · (intro w hS; refine quiet_value ?_; (clear hS; go_simp); try with_reducible rfl)
        try simp only [Act.put, List.setIfInBounds_toArray, List.set_cons_zero, List.set_cons_succ]
        refine wpQL_step (k := 28) (x := { dst := some 53, op := Op.binOp BinOp.mul 3 (Operand.const (Value.int IntKind.i64 4)) (Operand.tmp 52) 3, type := 3, pos := "ref.go:34", after := #[{ on := 27, ground := Ground.data }], guard := none }) (v := ?_) rfl (by kernel_rfl) (by rfl) ?_ ?_
        rotate_left
        · (intro w hS; refine quiet_value ?_; (clear hS; go_simp); try with_reducible rfl)
        try simp only [Act.put, List.setIfInBounds_toArray, List.set_cons_zero, List.set_cons_succ]
        refine wpQL_step (k := 29) (x := { dst := some 54, op := Op.binOp BinOp.add 3 (Operand.tmp 53) (Operand.const (Value.int IntKind.i64 3)) 3, type := 3, pos := "ref.go:34", after := #[{ on := 28, ground := Ground.data }], guard := none }) (v := ?_) rfl (by kernel_rfl) (by rfl) ?_ ?_
        rotate_left
        · (intro w hS; refine quiet_value ?_; (clear hS; go_simp); try with_reducible rfl)
        try simp only [Act.put, List.setIfInBounds_toArray, List.set_cons_zero, List.set_cons_succ]
        refine wpQL_step (k := 30) (x := { dst := some 55, op := Op.indexAddr 24 (Operand.tmp 51) (Operand.tmp 54), type := 0, pos := "ref.go:34", after := #[{ on := 26, ground := Ground.data }, { on := 29, ground := Ground.data }], guard := none }) (v := ?_) rfl (by kernel_rfl) (by rfl) ?_ ?_
        rotate_left
        · (intro w hS; refine quiet_value ?_; (clear hS; go_simp); try with_reducible rfl)
        try simp only [Act.put, List.setIfInBounds_toArray, List.set_cons_zero, List.set_cons_succ]
        refine wpQL_step (k := 31) (x := { dst := some 56, op := Op.load 5 (Operand.tmp 55), type := 5, pos := "ref.go:34", after := #[{ on := 30, ground := Ground.data }], guard := none }) (v := .int .u8 (un q3)) rfl (by kernel_rfl) (by rfl) ?_ ?_
        · (intro w hS; refine quiet_value ?_; first | exact kr_load_fact _ _ (by rfl) (by rfl) (R.cell (hS.cov (by repeat (first | with_reducible exact Cov.all _ | with_reducible exact Cov.left _ _ | with_reducible exact Cov.nil _ | (with_reducible apply Cov.app; (· repeat (first | with_reducible exact Sel.nil _ | with_reducible exact Sel.ap _ _ | with_reducible exact Sel.hd _ _ | with_reducible exact Sel.all _ | with_reducible apply Sel.tl | with_reducible apply Sel.sk))) | (with_reducible apply Cov.cons; (· repeat (first | with_reducible exact Sel.nil _ | with_reducible exact Sel.ap _ _ | with_reducible exact Sel.hd _ _ | with_reducible exact Sel.all _ | with_reducible apply Sel.tl | with_reducible apply Sel.sk))) | with_reducible refine Cov.drop _ ?_ | with_reducible refine Cov.skip _ ?_))) (by omega) H3.out (by omega)) (by kernel_rfl))
        try simp only [Act.put, List.setIfInBounds_toArray, List.set_cons_zero, List.set_cons_succ]
        refine wpQL_step (k := 32) (x := { dst := some 57, op := Op.convert 5 147 (Operand.tmp 56), type := 147, pos := "ref.go:34", after := #[{ on := 31, ground := Ground.data }], guard := none }) (v := ?_) rfl (by kernel_rfl) (by rfl) ?_ ?_
        rotate_left
        · (intro w hS; refine quiet_value ?_; (clear hS; go_simp); try with_reducible rfl)
        try simp only [Act.put, List.setIfInBounds_toArray, List.set_cons_zero, List.set_cons_succ]
        refine wpQL_step (k := 33) (x := { dst := some 58, op := Op.binOp BinOp.or 147 (Operand.tmp 50) (Operand.tmp 57) 147, type := 147, pos := "ref.go:34", after := #[{ on := 25, ground := Ground.data }, { on := 32, ground := Ground.data }], guard := none }) (v := ?_) rfl (by kernel_rfl) (by rfl) ?_ ?_
        rotate_left
        · (intro w hS; refine quiet_value ?_; (clear hS; go_simp); try with_reducible rfl)
        try simp only [Act.put, List.setIfInBounds_toArray, List.set_cons_zero, List.set_cons_succ]
        refine wpQL_step (k := 34) (x := { dst := some 59, op := Op.indexAddr 149 (Operand.tmp 7) (Operand.tmp 25), type := 0, pos := "ref.go:34", after := #[{ on := 0, ground := Ground.data }, { on := 0, ground := Ground.phase }, { on := 1, ground := Ground.phase }, { on := 2, ground := Ground.phase }, { on := 3, ground := Ground.phase }, { on := 4, ground := Ground.phase }, { on := 5, ground := Ground.phase }, { on := 6, ground := Ground.phase }, { on := 7, ground := Ground.phase }, { on := 8, ground := Ground.phase }, { on := 9, ground := Ground.phase }, { on := 10, ground := Ground.phase }, { on := 11, ground := Ground.phase }, { on := 12, ground := Ground.phase }, { on := 13, ground := Ground.phase }, { on := 14, ground := Ground.phase }, { on := 15, ground := Ground.phase }, { on := 16, ground := Ground.phase }, { on := 17, ground := Ground.phase }, { on := 18, ground := Ground.phase }, { on := 19, ground := Ground.phase }, { on := 20, ground := Ground.phase }, { on := 21, ground := Ground.phase }, { on := 22, ground := Ground.phase }, { on := 23, ground := Ground.phase }, { on := 24, ground := Ground.phase }, { on := 25, ground := Ground.phase }, { on := 26, ground := Ground.phase }, { on := 27, ground := Ground.phase }, { on := 28, ground := Ground.phase }, { on := 29, ground := Ground.phase }, { on := 30, ground := Ground.phase }, { on := 31, ground := Ground.phase }, { on := 32, ground := Ground.phase }, { on := 33, ground := Ground.phase }], guard := none }) (v := ?_) rfl (by kernel_rfl) (by rfl) ?_ ?_
        rotate_left
        · (intro w hS; refine quiet_value ?_; (clear hS; go_simp); try with_reducible rfl)
        try simp only [Act.put, List.setIfInBounds_toArray, List.set_cons_zero, List.set_cons_succ]
        refine wpQL_end (k := 35) (x := { dst := none, op := Op.store 147 (Operand.tmp 59) (Operand.tmp 58), type := 0, pos := "ref.go:34", after := #[{ on := 34, ground := Ground.data }, { on := 33, ground := Ground.data }, { on := 0, ground := Ground.phase }, { on := 1, ground := Ground.phase }, { on := 2, ground := Ground.phase }, { on := 3, ground := Ground.phase }, { on := 4, ground := Ground.phase }, { on := 5, ground := Ground.phase }, { on := 6, ground := Ground.phase }, { on := 7, ground := Ground.phase }, { on := 8, ground := Ground.phase }, { on := 9, ground := Ground.phase }, { on := 10, ground := Ground.phase }, { on := 11, ground := Ground.phase }, { on := 12, ground := Ground.phase }, { on := 13, ground := Ground.phase }, { on := 14, ground := Ground.phase }, { on := 15, ground := Ground.phase }, { on := 16, ground := Ground.phase }, { on := 17, ground := Ground.phase }, { on := 18, ground := Ground.phase }, { on := 19, ground := Ground.phase }, { on := 20, ground := Ground.phase }, { on := 21, ground := Ground.phase }, { on := 22, ground := Ground.phase }, { on := 23, ground := Ground.phase }, { on := 24, ground := Ground.phase }, { on := 25, ground := Ground.phase }, { on := 26, ground := Ground.phase }, { on := 27, ground := Ground.phase }, { on := 28, ground := Ground.phase }, { on := 29, ground := Ground.phase }, { on := 30, ground := Ground.phase }, { on := 31, ground := Ground.phase }, { on := 32, ground := Ground.phase }, { on := 33, ground := Ground.phase }], guard := none }) rfl (by kernel_rfl) (fun w1 K K9 hK => ?_)
        refine st_does (by rfl) (kd_store_cell K _ _ _ (by rfl) (by rfl) (by conv => lhs; whnf) (by repeat (first | with_reducible exact Repl.hd _ _ _ | with_reducible apply Repl.tl | with_reducible apply Repl.ap)) (by rfl) (by rfl) (by kernel_rfl) (by simp only [fcells_size, decide_eq_true_eq]; omega) (wcells_set _ (by omega))) ?_
        clear K; intro _ w1 K
        refine hK.out _ _ ?_
        clear hK K9
        try simp only [Act.put, List.setIfInBounds_toArray, List.set_cons_zero, List.set_cons_succ]
        skip
        go_wp2
        go_roundg (gk - 1)
        case measure => omega
        case rel => exact ⟨k + 1, by go_num, by omega, by rw [HN.out]; exact K⟩
      · have hk16' : ¬ ((k : Int) < 16) := by omega
        obtain ⟨f, hf⟩ : ∃ f, f = wrow bf k := ⟨_, rfl⟩
        have HN := Lib.hid (show wrow bf (k + 1) = upd f k (f (k - 16) + sig0 (f (k - 15)) + f (k - 7) + sig1 (f (k - 2))) by
          rw [wrow_succ, ← hf, wnext, if_neg (by omega)])
        rw [← hf] at K
        clear hf
        have x0 : (0 : Int) ≤ (k : Int) - 15 ∧ (k : Int) - 15 < 64 := by omega
        have x1 : (0 : Int) ≤ (k : Int) - 2 ∧ (k : Int) - 2 < 64 := by omega
        have x2 : (0 : Int) ≤ (k : Int) - 16 ∧ (k : Int) - 16 < 64 := by omega
        have x3 : (0 : Int) ≤ (k : Int) - 7 ∧ (k : Int) - 7 < 64 := by omega
        have y15 : (15 : Int) ≤ (k : Int) := by omega
        have y2 : (2 : Int) ≤ (k : Int) := by omega
        have y16 : (16 : Int) ≤ (k : Int) := by omega
        have y7 : (7 : Int) ≤ (k : Int) := by omega
        have k1 := IntWalk.i64_in ((k : Int) - 15) (by omega)
        have k2 := IntWalk.i64_in ((k : Int) - 2) (by omega)
        have k3 := IntWalk.i64_in ((k : Int) - 16) (by omega)
        have k4 := IntWalk.i64_in ((k : Int) - 7) (by omega)
        go_upto_region 9 with ((first | ((with_reducible refine at_load rfl ?_); refine wpList_reads (by rfl) (kr_load_cell K _ _ (by rfl) (by rfl) (by repeat (first | with_reducible exact Has.hd _ _ | with_reducible refine Has.tl _ ?_ | with_reducible refine Has.ap _ ?_)) (by kernel_rfl) (wcells_at (k - 15) (by omega) (by omega))) ?_) | ((with_reducible refine at_load rfl ?_); refine wpList_reads (by rfl) (kr_load_cell K _ _ (by rfl) (by rfl) (by repeat (first | with_reducible exact Has.hd _ _ | with_reducible refine Has.tl _ ?_ | with_reducible refine Has.ap _ ?_)) (by kernel_rfl) (wcells_at (k - 2) (by omega) (by omega))) ?_)))
        refine wp_region_QLK K (by kernel_rfl) (by kernel_rfl) ?_
        clear K
        refine wpQL_step (k := 0) (x := { dst := some 68, op := Op.move (Operand.tmp 8), type := 3, pos := "ref.go:39", after := #[], guard := none }) (v := ?_) rfl (by kernel_rfl) (by rfl) ?_ ?_
        rotate_left
        · (intro w hS; refine quiet_value ?_; (clear hS; go_simp); try with_reducible rfl)
        try simp only [Act.put, List.setIfInBounds_toArray, List.set_cons_zero, List.set_cons_succ]
        refine wpQL_step (k := 1) (x := { dst := some 69, op := Op.move (Operand.tmp 8), type := 3, pos := "ref.go:39", after := #[], guard := none }) (v := ?_) rfl (by kernel_rfl) (by rfl) ?_ ?_
        rotate_left
        · (intro w hS; refine quiet_value ?_; (clear hS; go_simp); try with_reducible rfl)
        try simp only [Act.put, List.setIfInBounds_toArray, List.set_cons_zero, List.set_cons_succ]
        refine wpQL_step (k := 2) (x := { dst := some 70, op := Op.binOp BinOp.sub 3 (Operand.tmp 69) (Operand.const (Value.int IntKind.i64 16)) 3, type := 3, pos := "ref.go:39", after := #[{ on := 1, ground := Ground.data }], guard := none }) (v := ?_) rfl (by kernel_rfl) (by rfl) ?_ ?_
        rotate_left
        · (intro w hS; refine quiet_value ?_; (clear hS; go_simp); try with_reducible rfl)
        try simp only [Act.put, List.setIfInBounds_toArray, List.set_cons_zero, List.set_cons_succ]
        refine wpQL_step (k := 3) (x := { dst := some 71, op := Op.indexAddr 149 (Operand.tmp 7) (Operand.tmp 70), type := 0, pos := "ref.go:39", after := #[{ on := 2, ground := Ground.data }], guard := none }) (v := ?_) rfl (by kernel_rfl) (by rfl) ?_ ?_
        rotate_left
        · (intro w hS; refine quiet_value ?_; (clear hS; go_simp); try with_reducible rfl)
        try simp only [Act.put, List.setIfInBounds_toArray, List.set_cons_zero, List.set_cons_succ]
        refine wpQL_step (k := 4) (x := { dst := some 72, op := Op.load 147 (Operand.tmp 71), type := 147, pos := "ref.go:39", after := #[{ on := 3, ground := Ground.data }], guard := none }) (v := wv (f (k - 16))) rfl (by kernel_rfl) (by rfl) ?_ ?_
        · (intro w hS; refine quiet_value ?_; first | exact kr_load_cell hS _ _ (by rfl) (by rfl) (by repeat (first | with_reducible exact Has.hd _ _ | with_reducible refine Has.tl _ ?_ | with_reducible refine Has.ap _ ?_)) (by kernel_rfl) (wcells_at (k - 16) (by omega) (by omega)))
        try simp only [Act.put, List.setIfInBounds_toArray, List.set_cons_zero, List.set_cons_succ]
        refine wpQL_step (k := 5) (x := { dst := some 73, op := Op.move (Operand.tmp 9), type := 147, pos := "ref.go:39", after := #[], guard := none }) (v := ?_) rfl (by kernel_rfl) (by rfl) ?_ ?_
        rotate_left
        · (intro w hS; refine quiet_value ?_; (clear hS; go_simp); try with_reducible rfl)
        try simp only [Act.put, List.setIfInBounds_toArray, List.set_cons_zero, List.set_cons_succ]
        refine wpQL_step (k := 6) (x := { dst := some 74, op := Op.call { callee := Callee.value (Operand.func 99), args := #[Operand.tmp 73, Operand.const (Value.int IntKind.i64 7)], argTypes := #[147, 3] }, type := 147, pos := "ref.go:39", after := #[{ on := 5, ground := Ground.data }], guard := none }) (v := wv (rotr 7 (f (k - 15)))) rfl (by kernel_rfl) (by rfl) ?_ ?_
        · intro w hS
          refine quiet_call (f := 99) (args := ?_) ?_ ?_
          rotate_left
          · (go_simp; try with_reducible rfl)
          · exact (rturn_any hS _ 7 (by omega))
        try simp only [Act.put, List.setIfInBounds_toArray, List.set_cons_zero, List.set_cons_succ]
        refine wpQL_step (k := 7) (x := { dst := some 75, op := Op.move (Operand.tmp 9), type := 147, pos := "ref.go:39", after := #[], guard := none }) (v := ?_) rfl (by kernel_rfl) (by rfl) ?_ ?_
        rotate_left
        · (intro w hS; refine quiet_value ?_; (clear hS; go_simp); try with_reducible rfl)
        try simp only [Act.put, List.setIfInBounds_toArray, List.set_cons_zero, List.set_cons_succ]
        refine wpQL_step (k := 8) (x := { dst := some 76, op := Op.call { callee := Callee.value (Operand.func 99), args := #[Operand.tmp 75, Operand.const (Value.int IntKind.i64 18)], argTypes := #[147, 3] }, type := 147, pos := "ref.go:39", after := #[{ on := 7, ground := Ground.data }, { on := 6, ground := Ground.chain }], guard := none }) (v := wv (rotr 18 (f (k - 15)))) rfl (by kernel_rfl) (by rfl) ?_ ?_
        · intro w hS
          refine quiet_call (f := 99) (args := ?_) ?_ ?_
          rotate_left
          · (go_simp; try with_reducible rfl)
          · exact (rturn_any hS _ 18 (by omega))
        try simp only [Act.put, List.setIfInBounds_toArray, List.set_cons_zero, List.set_cons_succ]
        refine wpQL_step (k := 9) (x := { dst := some 77, op := Op.binOp BinOp.xor 147 (Operand.tmp 74) (Operand.tmp 76) 147, type := 147, pos := "ref.go:39", after := #[{ on := 6, ground := Ground.data }, { on := 8, ground := Ground.data }], guard := none }) (v := ?_) rfl (by kernel_rfl) (by rfl) ?_ ?_
        rotate_left
        · (intro w hS; refine quiet_value ?_; (clear hS; go_simp); try with_reducible rfl)
        try simp only [Act.put, List.setIfInBounds_toArray, List.set_cons_zero, List.set_cons_succ]
        refine wpQL_step (k := 10) (x := { dst := some 78, op := Op.move (Operand.tmp 9), type := 147, pos := "ref.go:39", after := #[], guard := none }) (v := ?_) rfl (by kernel_rfl) (by rfl) ?_ ?_
        rotate_left
        · (intro w hS; refine quiet_value ?_; (clear hS; go_simp); try with_reducible rfl)
        try simp only [Act.put, List.setIfInBounds_toArray, List.set_cons_zero, List.set_cons_succ]
        refine wpQL_step (k := 11) (x := { dst := some 79, op := Op.binOp BinOp.shr 147 (Operand.tmp 78) (Operand.const (Value.int IntKind.u64 3)) 166, type := 147, pos := "ref.go:39", after := #[{ on := 10, ground := Ground.data }], guard := none }) (v := ?_) rfl (by kernel_rfl) (by rfl) ?_ ?_
        rotate_left
        · (intro w hS; refine quiet_value ?_; (clear hS; go_simp); try with_reducible rfl)
        try simp only [Act.put, List.setIfInBounds_toArray, List.set_cons_zero, List.set_cons_succ]
        refine wpQL_step (k := 12) (x := { dst := some 80, op := Op.binOp BinOp.xor 147 (Operand.tmp 77) (Operand.tmp 79) 147, type := 147, pos := "ref.go:39", after := #[{ on := 9, ground := Ground.data }, { on := 11, ground := Ground.data }], guard := none }) (v := ?_) rfl (by kernel_rfl) (by rfl) ?_ ?_
        rotate_left
        · (intro w hS; refine quiet_value ?_; (clear hS; go_simp); try with_reducible rfl)
        try simp only [Act.put, List.setIfInBounds_toArray, List.set_cons_zero, List.set_cons_succ]
        refine wpQL_step (k := 13) (x := { dst := some 81, op := Op.binOp BinOp.add 147 (Operand.tmp 72) (Operand.tmp 80) 147, type := 147, pos := "ref.go:39", after := #[{ on := 4, ground := Ground.data }, { on := 12, ground := Ground.data }], guard := none }) (v := ?_) rfl (by kernel_rfl) (by rfl) ?_ ?_
        rotate_left
        · (intro w hS; refine quiet_value ?_; (clear hS; go_simp); try with_reducible rfl)
        try simp only [Act.put, List.setIfInBounds_toArray, List.set_cons_zero, List.set_cons_succ]
        refine wpQL_step (k := 14) (x := { dst := some 82, op := Op.move (Operand.tmp 8), type := 3, pos := "ref.go:39", after := #[], guard := none }) (v := ?_) rfl (by kernel_rfl) (by rfl) ?_ ?_
        rotate_left
        · (intro w hS; refine quiet_value ?_; (clear hS; go_simp); try with_reducible rfl)
        try simp only [Act.put, List.setIfInBounds_toArray, List.set_cons_zero, List.set_cons_succ]
        refine wpQL_step (k := 15) (x := { dst := some 83, op := Op.binOp BinOp.sub 3 (Operand.tmp 82) (Operand.const (Value.int IntKind.i64 7)) 3, type := 3, pos := "ref.go:39", after := #[{ on := 14, ground := Ground.data }], guard := none }) (v := ?_) rfl (by kernel_rfl) (by rfl) ?_ ?_
        rotate_left
        · (intro w hS; refine quiet_value ?_; (clear hS; go_simp); try with_reducible rfl)
        try simp only [Act.put, List.setIfInBounds_toArray, List.set_cons_zero, List.set_cons_succ]
        refine wpQL_step (k := 16) (x := { dst := some 84, op := Op.indexAddr 149 (Operand.tmp 7) (Operand.tmp 83), type := 0, pos := "ref.go:39", after := #[{ on := 15, ground := Ground.data }], guard := none }) (v := ?_) rfl (by kernel_rfl) (by rfl) ?_ ?_
        rotate_left
        · (intro w hS; refine quiet_value ?_; (clear hS; go_simp); try with_reducible rfl)
        try simp only [Act.put, List.setIfInBounds_toArray, List.set_cons_zero, List.set_cons_succ]
        refine wpQL_step (k := 17) (x := { dst := some 85, op := Op.load 147 (Operand.tmp 84), type := 147, pos := "ref.go:39", after := #[{ on := 16, ground := Ground.data }], guard := none }) (v := wv (f (k - 7))) rfl (by kernel_rfl) (by rfl) ?_ ?_
        · (intro w hS; refine quiet_value ?_; first | exact kr_load_cell hS _ _ (by rfl) (by rfl) (by repeat (first | with_reducible exact Has.hd _ _ | with_reducible refine Has.tl _ ?_ | with_reducible refine Has.ap _ ?_)) (by kernel_rfl) (wcells_at (k - 7) (by omega) (by omega)))
        try simp only [Act.put, List.setIfInBounds_toArray, List.set_cons_zero, List.set_cons_succ]
        refine wpQL_step (k := 18) (x := { dst := some 86, op := Op.binOp BinOp.add 147 (Operand.tmp 81) (Operand.tmp 85) 147, type := 147, pos := "ref.go:39", after := #[{ on := 13, ground := Ground.data }, { on := 17, ground := Ground.data }], guard := none }) (v := ?_) rfl (by kernel_rfl) (by rfl) ?_ ?_
        rotate_left
        · (intro w hS; refine quiet_value ?_; (clear hS; go_simp); try with_reducible rfl)
        try simp only [Act.put, List.setIfInBounds_toArray, List.set_cons_zero, List.set_cons_succ]
        refine wpQL_step (k := 19) (x := { dst := some 87, op := Op.move (Operand.tmp 10), type := 147, pos := "ref.go:39", after := #[], guard := none }) (v := ?_) rfl (by kernel_rfl) (by rfl) ?_ ?_
        rotate_left
        · (intro w hS; refine quiet_value ?_; (clear hS; go_simp); try with_reducible rfl)
        try simp only [Act.put, List.setIfInBounds_toArray, List.set_cons_zero, List.set_cons_succ]
        refine wpQL_step (k := 20) (x := { dst := some 88, op := Op.call { callee := Callee.value (Operand.func 99), args := #[Operand.tmp 87, Operand.const (Value.int IntKind.i64 17)], argTypes := #[147, 3] }, type := 147, pos := "ref.go:39", after := #[{ on := 19, ground := Ground.data }, { on := 8, ground := Ground.chain }], guard := none }) (v := wv (rotr 17 (f (k - 2)))) rfl (by kernel_rfl) (by rfl) ?_ ?_
        · intro w hS
          refine quiet_call (f := 99) (args := ?_) ?_ ?_
          rotate_left
          · (go_simp; try with_reducible rfl)
          · exact (rturn_any hS _ 17 (by omega))
        try simp only [Act.put, List.setIfInBounds_toArray, List.set_cons_zero, List.set_cons_succ]
        refine wpQL_step (k := 21) (x := { dst := some 89, op := Op.move (Operand.tmp 10), type := 147, pos := "ref.go:39", after := #[], guard := none }) (v := ?_) rfl (by kernel_rfl) (by rfl) ?_ ?_
        rotate_left
        · (intro w hS; refine quiet_value ?_; (clear hS; go_simp); try with_reducible rfl)
        try simp only [Act.put, List.setIfInBounds_toArray, List.set_cons_zero, List.set_cons_succ]
        refine wpQL_step (k := 22) (x := { dst := some 90, op := Op.call { callee := Callee.value (Operand.func 99), args := #[Operand.tmp 89, Operand.const (Value.int IntKind.i64 19)], argTypes := #[147, 3] }, type := 147, pos := "ref.go:39", after := #[{ on := 21, ground := Ground.data }, { on := 20, ground := Ground.chain }], guard := none }) (v := wv (rotr 19 (f (k - 2)))) rfl (by kernel_rfl) (by rfl) ?_ ?_
        · intro w hS
          refine quiet_call (f := 99) (args := ?_) ?_ ?_
          rotate_left
          · (go_simp; try with_reducible rfl)
          · exact (rturn_any hS _ 19 (by omega))
        try simp only [Act.put, List.setIfInBounds_toArray, List.set_cons_zero, List.set_cons_succ]
        refine wpQL_step (k := 23) (x := { dst := some 91, op := Op.binOp BinOp.xor 147 (Operand.tmp 88) (Operand.tmp 90) 147, type := 147, pos := "ref.go:39", after := #[{ on := 20, ground := Ground.data }, { on := 22, ground := Ground.data }], guard := none }) (v := ?_) rfl (by kernel_rfl) (by rfl) ?_ ?_
        rotate_left
        · (intro w hS; refine quiet_value ?_; (clear hS; go_simp); try with_reducible rfl)
        try simp only [Act.put, List.setIfInBounds_toArray, List.set_cons_zero, List.set_cons_succ]
        refine wpQL_step (k := 24) (x := { dst := some 92, op := Op.move (Operand.tmp 10), type := 147, pos := "ref.go:39", after := #[], guard := none }) (v := ?_) rfl (by kernel_rfl) (by rfl) ?_ ?_
        rotate_left
        · (intro w hS; refine quiet_value ?_; (clear hS; go_simp); try with_reducible rfl)
        try simp only [Act.put, List.setIfInBounds_toArray, List.set_cons_zero, List.set_cons_succ]
        refine wpQL_step (k := 25) (x := { dst := some 93, op := Op.binOp BinOp.shr 147 (Operand.tmp 92) (Operand.const (Value.int IntKind.u64 10)) 166, type := 147, pos := "ref.go:39", after := #[{ on := 24, ground := Ground.data }], guard := none }) (v := ?_) rfl (by kernel_rfl) (by rfl) ?_ ?_
        rotate_left
        · (intro w hS; refine quiet_value ?_; (clear hS; go_simp); try with_reducible rfl)
        try simp only [Act.put, List.setIfInBounds_toArray, List.set_cons_zero, List.set_cons_succ]
        refine wpQL_step (k := 26) (x := { dst := some 94, op := Op.binOp BinOp.xor 147 (Operand.tmp 91) (Operand.tmp 93) 147, type := 147, pos := "ref.go:39", after := #[{ on := 23, ground := Ground.data }, { on := 25, ground := Ground.data }], guard := none }) (v := ?_) rfl (by kernel_rfl) (by rfl) ?_ ?_
        rotate_left
        · (intro w hS; refine quiet_value ?_; (clear hS; go_simp); try with_reducible rfl)
        try simp only [Act.put, List.setIfInBounds_toArray, List.set_cons_zero, List.set_cons_succ]
        refine wpQL_step (k := 27) (x := { dst := some 95, op := Op.binOp BinOp.add 147 (Operand.tmp 86) (Operand.tmp 94) 147, type := 147, pos := "ref.go:39", after := #[{ on := 18, ground := Ground.data }, { on := 26, ground := Ground.data }], guard := none }) (v := ?_) rfl (by kernel_rfl) (by rfl) ?_ ?_
        rotate_left
        · (intro w hS; refine quiet_value ?_; (clear hS; go_simp); try with_reducible rfl)
        try simp only [Act.put, List.setIfInBounds_toArray, List.set_cons_zero, List.set_cons_succ]
        refine wpQL_step (k := 28) (x := { dst := some 96, op := Op.indexAddr 149 (Operand.tmp 7) (Operand.tmp 68), type := 0, pos := "ref.go:39", after := #[{ on := 0, ground := Ground.data }, { on := 0, ground := Ground.phase }, { on := 1, ground := Ground.phase }, { on := 2, ground := Ground.phase }, { on := 3, ground := Ground.phase }, { on := 4, ground := Ground.phase }, { on := 5, ground := Ground.phase }, { on := 6, ground := Ground.phase }, { on := 7, ground := Ground.phase }, { on := 8, ground := Ground.phase }, { on := 9, ground := Ground.phase }, { on := 10, ground := Ground.phase }, { on := 11, ground := Ground.phase }, { on := 12, ground := Ground.phase }, { on := 13, ground := Ground.phase }, { on := 14, ground := Ground.phase }, { on := 15, ground := Ground.phase }, { on := 16, ground := Ground.phase }, { on := 17, ground := Ground.phase }, { on := 18, ground := Ground.phase }, { on := 19, ground := Ground.phase }, { on := 20, ground := Ground.phase }, { on := 21, ground := Ground.phase }, { on := 22, ground := Ground.phase }, { on := 23, ground := Ground.phase }, { on := 24, ground := Ground.phase }, { on := 25, ground := Ground.phase }, { on := 26, ground := Ground.phase }, { on := 27, ground := Ground.phase }], guard := none }) (v := ?_) rfl (by kernel_rfl) (by rfl) ?_ ?_
        rotate_left
        · (intro w hS; refine quiet_value ?_; (clear hS; go_simp); try with_reducible rfl)
        try simp only [Act.put, List.setIfInBounds_toArray, List.set_cons_zero, List.set_cons_succ]
        refine wpQL_end (k := 29) (x := { dst := none, op := Op.store 147 (Operand.tmp 96) (Operand.tmp 95), type := 0, pos := "ref.go:39", after := #[{ on := 28, ground := Ground.data }, { on := 27, ground := Ground.data }, { on := 22, ground := Ground.chain }, { on := 0, ground := Ground.phase }, { on := 1, ground := Ground.phase }, { on := 2, ground := Ground.phase }, { on := 3, ground := Ground.phase }, { on := 4, ground := Ground.phase }, { on := 5, ground := Ground.phase }, { on := 6, ground := Ground.phase }, { on := 7, ground := Ground.phase }, { on := 8, ground := Ground.phase }, { on := 9, ground := Ground.phase }, { on := 10, ground := Ground.phase }, { on := 11, ground := Ground.phase }, { on := 12, ground := Ground.phase }, { on := 13, ground := Ground.phase }, { on := 14, ground := Ground.phase }, { on := 15, ground := Ground.phase }, { on := 16, ground := Ground.phase }, { on := 17, ground := Ground.phase }, { on := 18, ground := Ground.phase }, { on := 19, ground := Ground.phase }, { on := 20, ground := Ground.phase }, { on := 21, ground := Ground.phase }, { on := 22, ground := Ground.phase }, { on := 23, ground := Ground.phase }, { on := 24, ground := Ground.phase }, { on := 25, ground := Ground.phase }, { on := 26, ground := Ground.phase }, { on := 27, ground := Ground.phase }], guard := none }) rfl (by kernel_rfl) (fun w1 K K9 hK => ?_)
        refine st_does (by rfl) (kd_store_cell K _ _ _ (by rfl) (by rfl) (by conv => lhs; whnf) (by repeat (first | with_reducible exact Repl.hd _ _ _ | with_reducible apply Repl.tl | with_reducible apply Repl.ap)) (by rfl) (by rfl) (by kernel_rfl) (by simp only [fcells_size, decide_eq_true_eq]; omega) (wcells_set _ (by omega))) ?_
        clear K; intro _ w1 K
        refine hK.out _ _ ?_
        clear hK K9
        try simp only [Act.put, List.setIfInBounds_toArray, List.set_cons_zero, List.set_cons_succ]
        skip
        go_wp2
        go_roundg (gk - 1)
        case measure => omega
        case rel => exact ⟨k + 1, by go_num, by omega, by rw [HN.out]; exact K⟩
    · obtain rfl : k = 64 := by omega
      obtain ⟨wf, hwf⟩ : ∃ wf, wf = wrow bf 64 := ⟨_, rfl⟩
      rw [← hwf] at K HSB
      clear hwf HB
      go_upto_region 12 with ((first | ((with_reducible refine at_load rfl ?_); refine wpList_reads (by rfl) (kr_load_row K _ _ (by rfl) (by rfl) (by repeat (first | with_reducible exact Has.hd _ _ | with_reducible refine Has.tl _ ?_ | with_reducible refine Has.ap _ ?_)) (by kernel_rfl) (by rw [fcells_size]; kernel_rfl)) ?_) | ((with_reducible refine at_slot (N := 11) rfl ?_); (with_reducible refine at_alloc rfl ?_); refine wpList_does rfl (kd_alloc (z := (.agg (wcells (fun _ => 0#32) 8))) K _ rfl (by kernel_rfl)) ?_; clear K; rintro _ w1 ⟨gv, rfl, K⟩; (try dsimp only [Value.cells] at K)) | ((with_reducible refine at_store rfl ?_); refine wpList_does (by rfl) (kd_store_row K _ _ _ (by rfl) (by rfl) (by rfl) (by repeat (first | with_reducible exact Repl.hd _ _ _ | with_reducible apply Repl.tl | with_reducible apply Repl.ap)) (by rw [fcells_size]; kernel_rfl) (by first | (rw [fcells_size, fcells_size]; rfl) | (rw [fcells_size]; rfl) | (simp only [fcells_size, u8s_size]; done) | (simp only [fcells_size, u8s_size]; rfl)) (wcells_one _ _)) ?_; clear K; intro _ w1 K; (try simp only [Act.put]))))
      go_loopg [12] 64 (fun d i wr => ∃ (k : Nat) (t : S8), i = .int .i64 k ∧ k + d = 64 ∧ Hid (t = s.rnds rootK wf k) ∧ Known w0 wr (row gv (wcells t.get 8) 148 :: row gw (wcells wf 64) 149 :: row gr (wcells (fun _ => 0#32) 8) 148 :: row gq (wcells rootK 64) 149 :: row gs (wcells s.get 8) 148 :: L))
      case atStart => exact ⟨0, s, by go_num, by omega, Lib.hid rfl, K⟩
      case round =>
        clear K
        obtain ⟨k, t, rfl, hd, HT, K⟩ := hrel
        by_cases hk : k < 64
        · have HT2 := Lib.hid (show t.rnd (rootK k) (wf k) = s.rnds rootK wf (k + 1) by rw [HT.out]; rfl)
          clear HT
          have x4 : (0 : Int) ≤ (k : Int) ∧ (k : Int) < 64 := by omega
          have hk' : (k : Int) < 64 := by omega
          go_upto_region 16 with ((first | ((with_reducible refine at_load rfl ?_); refine wpList_reads (by rfl) (kr_load_cell K _ _ (by rfl) (by rfl) (by repeat (first | with_reducible exact Has.hd _ _ | with_reducible refine Has.tl _ ?_ | with_reducible refine Has.ap _ ?_)) (by kernel_rfl) (wcells_at 0 rfl (by omega))) ?_) | ((with_reducible refine at_load rfl ?_); refine wpList_reads (by rfl) (kr_load_cell K _ _ (by rfl) (by rfl) (by repeat (first | with_reducible exact Has.hd _ _ | with_reducible refine Has.tl _ ?_ | with_reducible refine Has.ap _ ?_)) (by kernel_rfl) (wcells_at 4 rfl (by omega))) ?_)))
          refine wp_region_QLK K (by kernel_rfl) (by kernel_rfl) ?_
          clear K
          refine wpQL_step (k := 0) (x := { dst := some 106, op := Op.indexAddr 148 (Operand.tmp 11) (Operand.const (Value.int IntKind.i64 7)), type := 0, pos := "ref.go:45", after := #[], guard := none }) (v := ?_) rfl (by kernel_rfl) (by rfl) ?_ ?_
          rotate_left
          · (intro w hS; refine quiet_value ?_; (clear hS; go_simp); try with_reducible rfl)
          try simp only [Act.put, List.setIfInBounds_toArray, List.set_cons_zero, List.set_cons_succ]
          refine wpQL_step (k := 1) (x := { dst := some 107, op := Op.load 147 (Operand.tmp 106), type := 147, pos := "ref.go:45", after := #[{ on := 0, ground := Ground.data }], guard := none }) (v := wv (t.get 7)) rfl (by kernel_rfl) (by rfl) ?_ ?_
          · (intro w hS; refine quiet_value ?_; first | exact kr_load_cell hS _ _ (by rfl) (by rfl) (by repeat (first | with_reducible exact Has.hd _ _ | with_reducible refine Has.tl _ ?_ | with_reducible refine Has.ap _ ?_)) (by kernel_rfl) (wcells_at 7 rfl (by omega)))
          try simp only [Act.put, List.setIfInBounds_toArray, List.set_cons_zero, List.set_cons_succ]
          refine wpQL_step (k := 2) (x := { dst := some 108, op := Op.move (Operand.tmp 14), type := 147, pos := "ref.go:45", after := #[], guard := none }) (v := ?_) rfl (by kernel_rfl) (by rfl) ?_ ?_
          rotate_left
          · (intro w hS; refine quiet_value ?_; (clear hS; go_simp); try with_reducible rfl)
          try simp only [Act.put, List.setIfInBounds_toArray, List.set_cons_zero, List.set_cons_succ]
          refine wpQL_step (k := 3) (x := { dst := some 109, op := Op.call { callee := Callee.value (Operand.func 99), args := #[Operand.tmp 108, Operand.const (Value.int IntKind.i64 6)], argTypes := #[147, 3] }, type := 147, pos := "ref.go:45", after := #[{ on := 2, ground := Ground.data }], guard := none }) (v := wv (rotr 6 (t.get 4))) rfl (by kernel_rfl) (by rfl) ?_ ?_
          · intro w hS
            refine quiet_call (f := 99) (args := ?_) ?_ ?_
            rotate_left
            · (go_simp; try with_reducible rfl)
            · exact (rturn_any hS _ 6 (by omega))
          try simp only [Act.put, List.setIfInBounds_toArray, List.set_cons_zero, List.set_cons_succ]
          refine wpQL_step (k := 4) (x := { dst := some 110, op := Op.move (Operand.tmp 14), type := 147, pos := "ref.go:45", after := #[], guard := none }) (v := ?_) rfl (by kernel_rfl) (by rfl) ?_ ?_
          rotate_left
          · (intro w hS; refine quiet_value ?_; (clear hS; go_simp); try with_reducible rfl)
          try simp only [Act.put, List.setIfInBounds_toArray, List.set_cons_zero, List.set_cons_succ]
          refine wpQL_step (k := 5) (x := { dst := some 111, op := Op.call { callee := Callee.value (Operand.func 99), args := #[Operand.tmp 110, Operand.const (Value.int IntKind.i64 11)], argTypes := #[147, 3] }, type := 147, pos := "ref.go:45", after := #[{ on := 4, ground := Ground.data }, { on := 3, ground := Ground.chain }], guard := none }) (v := wv (rotr 11 (t.get 4))) rfl (by kernel_rfl) (by rfl) ?_ ?_
          · intro w hS
            refine quiet_call (f := 99) (args := ?_) ?_ ?_
            rotate_left
            · (go_simp; try with_reducible rfl)
            · exact (rturn_any hS _ 11 (by omega))
          try simp only [Act.put, List.setIfInBounds_toArray, List.set_cons_zero, List.set_cons_succ]
          refine wpQL_step (k := 6) (x := { dst := some 112, op := Op.binOp BinOp.xor 147 (Operand.tmp 109) (Operand.tmp 111) 147, type := 147, pos := "ref.go:45", after := #[{ on := 3, ground := Ground.data }, { on := 5, ground := Ground.data }], guard := none }) (v := ?_) rfl (by kernel_rfl) (by rfl) ?_ ?_
          rotate_left
          · (intro w hS; refine quiet_value ?_; (clear hS; go_simp); try with_reducible rfl)
          try simp only [Act.put, List.setIfInBounds_toArray, List.set_cons_zero, List.set_cons_succ]
          refine wpQL_step (k := 7) (x := { dst := some 113, op := Op.move (Operand.tmp 14), type := 147, pos := "ref.go:45", after := #[], guard := none }) (v := ?_) rfl (by kernel_rfl) (by rfl) ?_ ?_
          rotate_left
          · (intro w hS; refine quiet_value ?_; (clear hS; go_simp); try with_reducible rfl)
          try simp only [Act.put, List.setIfInBounds_toArray, List.set_cons_zero, List.set_cons_succ]
          refine wpQL_step (k := 8) (x := { dst := some 114, op := Op.call { callee := Callee.value (Operand.func 99), args := #[Operand.tmp 113, Operand.const (Value.int IntKind.i64 25)], argTypes := #[147, 3] }, type := 147, pos := "ref.go:45", after := #[{ on := 7, ground := Ground.data }, { on := 5, ground := Ground.chain }], guard := none }) (v := wv (rotr 25 (t.get 4))) rfl (by kernel_rfl) (by rfl) ?_ ?_
          · intro w hS
            refine quiet_call (f := 99) (args := ?_) ?_ ?_
            rotate_left
            · (go_simp; try with_reducible rfl)
            · exact (rturn_any hS _ 25 (by omega))
          try simp only [Act.put, List.setIfInBounds_toArray, List.set_cons_zero, List.set_cons_succ]
          refine wpQL_step (k := 9) (x := { dst := some 115, op := Op.binOp BinOp.xor 147 (Operand.tmp 112) (Operand.tmp 114) 147, type := 147, pos := "ref.go:45", after := #[{ on := 6, ground := Ground.data }, { on := 8, ground := Ground.data }], guard := none }) (v := ?_) rfl (by kernel_rfl) (by rfl) ?_ ?_
          rotate_left
          · (intro w hS; refine quiet_value ?_; (clear hS; go_simp); try with_reducible rfl)
          try simp only [Act.put, List.setIfInBounds_toArray, List.set_cons_zero, List.set_cons_succ]
          refine wpQL_step (k := 10) (x := { dst := some 116, op := Op.binOp BinOp.add 147 (Operand.tmp 107) (Operand.tmp 115) 147, type := 147, pos := "ref.go:45", after := #[{ on := 1, ground := Ground.data }, { on := 9, ground := Ground.data }], guard := none }) (v := ?_) rfl (by kernel_rfl) (by rfl) ?_ ?_
          rotate_left
          · (intro w hS; refine quiet_value ?_; (clear hS; go_simp); try with_reducible rfl)
          try simp only [Act.put, List.setIfInBounds_toArray, List.set_cons_zero, List.set_cons_succ]
          refine wpQL_step (k := 11) (x := { dst := some 117, op := Op.move (Operand.tmp 14), type := 147, pos := "ref.go:45", after := #[], guard := none }) (v := ?_) rfl (by kernel_rfl) (by rfl) ?_ ?_
          rotate_left
          · (intro w hS; refine quiet_value ?_; (clear hS; go_simp); try with_reducible rfl)
          try simp only [Act.put, List.setIfInBounds_toArray, List.set_cons_zero, List.set_cons_succ]
          refine wpQL_step (k := 12) (x := { dst := some 118, op := Op.indexAddr 148 (Operand.tmp 11) (Operand.const (Value.int IntKind.i64 5)), type := 0, pos := "ref.go:45", after := #[], guard := none }) (v := ?_) rfl (by kernel_rfl) (by rfl) ?_ ?_
          rotate_left
          · (intro w hS; refine quiet_value ?_; (clear hS; go_simp); try with_reducible rfl)
          try simp only [Act.put, List.setIfInBounds_toArray, List.set_cons_zero, List.set_cons_succ]
          refine wpQL_step (k := 13) (x := { dst := some 119, op := Op.load 147 (Operand.tmp 118), type := 147, pos := "ref.go:45", after := #[{ on := 12, ground := Ground.data }], guard := none }) (v := wv (t.get 5)) rfl (by kernel_rfl) (by rfl) ?_ ?_
          · (intro w hS; refine quiet_value ?_; first | exact kr_load_cell hS _ _ (by rfl) (by rfl) (by repeat (first | with_reducible exact Has.hd _ _ | with_reducible refine Has.tl _ ?_ | with_reducible refine Has.ap _ ?_)) (by kernel_rfl) (wcells_at 5 rfl (by omega)))
          try simp only [Act.put, List.setIfInBounds_toArray, List.set_cons_zero, List.set_cons_succ]
          refine wpQL_step (k := 14) (x := { dst := some 120, op := Op.binOp BinOp.and 147 (Operand.tmp 117) (Operand.tmp 119) 147, type := 147, pos := "ref.go:45", after := #[{ on := 11, ground := Ground.data }, { on := 13, ground := Ground.data }], guard := none }) (v := ?_) rfl (by kernel_rfl) (by rfl) ?_ ?_
          rotate_left
          · (intro w hS; refine quiet_value ?_; (clear hS; go_simp); try with_reducible rfl)
          try simp only [Act.put, List.setIfInBounds_toArray, List.set_cons_zero, List.set_cons_succ]
          refine wpQL_step (k := 15) (x := { dst := some 121, op := Op.move (Operand.tmp 14), type := 147, pos := "ref.go:45", after := #[], guard := none }) (v := ?_) rfl (by kernel_rfl) (by rfl) ?_ ?_
          rotate_left
          · (intro w hS; refine quiet_value ?_; (clear hS; go_simp); try with_reducible rfl)
          try simp only [Act.put, List.setIfInBounds_toArray, List.set_cons_zero, List.set_cons_succ]
          refine wpQL_step (k := 16) (x := { dst := some 122, op := Op.unOp UnOp.xor 147 (Operand.tmp 121), type := 147, pos := "ref.go:45", after := #[{ on := 15, ground := Ground.data }], guard := none }) (v := wv (~~~t.get 4)) rfl (by kernel_rfl) (by rfl) ?_ ?_
          · (intro w hS; refine quiet_value ?_; first | exact kr_not32 (by rfl) (by rfl))
          try simp only [Act.put, List.setIfInBounds_toArray, List.set_cons_zero, List.set_cons_succ]
          refine wpQL_step (k := 17) (x := { dst := some 123, op := Op.indexAddr 148 (Operand.tmp 11) (Operand.const (Value.int IntKind.i64 6)), type := 0, pos := "ref.go:45", after := #[], guard := none }) (v := ?_) rfl (by kernel_rfl) (by rfl) ?_ ?_
          rotate_left
          · (intro w hS; refine quiet_value ?_; (clear hS; go_simp); try with_reducible rfl)
          try simp only [Act.put, List.setIfInBounds_toArray, List.set_cons_zero, List.set_cons_succ]
          refine wpQL_step (k := 18) (x := { dst := some 124, op := Op.load 147 (Operand.tmp 123), type := 147, pos := "ref.go:45", after := #[{ on := 17, ground := Ground.data }], guard := none }) (v := wv (t.get 6)) rfl (by kernel_rfl) (by rfl) ?_ ?_
          · (intro w hS; refine quiet_value ?_; first | exact kr_load_cell hS _ _ (by rfl) (by rfl) (by repeat (first | with_reducible exact Has.hd _ _ | with_reducible refine Has.tl _ ?_ | with_reducible refine Has.ap _ ?_)) (by kernel_rfl) (wcells_at 6 rfl (by omega)))
          try simp only [Act.put, List.setIfInBounds_toArray, List.set_cons_zero, List.set_cons_succ]
          refine wpQL_step (k := 19) (x := { dst := some 125, op := Op.binOp BinOp.and 147 (Operand.tmp 122) (Operand.tmp 124) 147, type := 147, pos := "ref.go:45", after := #[{ on := 16, ground := Ground.data }, { on := 18, ground := Ground.data }], guard := none }) (v := ?_) rfl (by kernel_rfl) (by rfl) ?_ ?_
          rotate_left
          · (intro w hS; refine quiet_value ?_; (clear hS; go_simp); try with_reducible rfl)
          try simp only [Act.put, List.setIfInBounds_toArray, List.set_cons_zero, List.set_cons_succ]
          refine wpQL_step (k := 20) (x := { dst := some 126, op := Op.binOp BinOp.or 147 (Operand.tmp 120) (Operand.tmp 125) 147, type := 147, pos := "ref.go:45", after := #[{ on := 14, ground := Ground.data }, { on := 19, ground := Ground.data }], guard := none }) (v := ?_) rfl (by kernel_rfl) (by rfl) ?_ ?_
          rotate_left
          · (intro w hS; refine quiet_value ?_; (clear hS; go_simp); try with_reducible rfl)
          try simp only [Act.put, List.setIfInBounds_toArray, List.set_cons_zero, List.set_cons_succ]
          refine wpQL_step (k := 21) (x := { dst := some 127, op := Op.binOp BinOp.add 147 (Operand.tmp 116) (Operand.tmp 126) 147, type := 147, pos := "ref.go:45", after := #[{ on := 10, ground := Ground.data }, { on := 20, ground := Ground.data }], guard := none }) (v := ?_) rfl (by kernel_rfl) (by rfl) ?_ ?_
          rotate_left
          · (intro w hS; refine quiet_value ?_; (clear hS; go_simp); try with_reducible rfl)
          try simp only [Act.put, List.setIfInBounds_toArray, List.set_cons_zero, List.set_cons_succ]
          refine wpQL_step (k := 22) (x := { dst := some 128, op := Op.move (Operand.tmp 12), type := 3, pos := "ref.go:45", after := #[], guard := none }) (v := ?_) rfl (by kernel_rfl) (by rfl) ?_ ?_
          rotate_left
          · (intro w hS; refine quiet_value ?_; (clear hS; go_simp); try with_reducible rfl)
          try simp only [Act.put, List.setIfInBounds_toArray, List.set_cons_zero, List.set_cons_succ]
          refine wpQL_step (k := 23) (x := { dst := some 129, op := Op.indexAddr 149 (Operand.tmp 5) (Operand.tmp 128), type := 0, pos := "ref.go:45", after := #[{ on := 22, ground := Ground.data }], guard := none }) (v := ?_) rfl (by kernel_rfl) (by rfl) ?_ ?_
          rotate_left
          · (intro w hS; refine quiet_value ?_; (clear hS; go_simp); try with_reducible rfl)
          try simp only [Act.put, List.setIfInBounds_toArray, List.set_cons_zero, List.set_cons_succ]
          refine wpQL_step (k := 24) (x := { dst := some 130, op := Op.load 147 (Operand.tmp 129), type := 147, pos := "ref.go:45", after := #[{ on := 23, ground := Ground.data }], guard := none }) (v := wv (rootK k)) rfl (by kernel_rfl) (by rfl) ?_ ?_
          · (intro w hS; refine quiet_value ?_; first | exact kr_load_cell hS _ _ (by rfl) (by rfl) (by repeat (first | with_reducible exact Has.hd _ _ | with_reducible refine Has.tl _ ?_ | with_reducible refine Has.ap _ ?_)) (by kernel_rfl) (wcells_at (k) (by omega) (by omega)))
          try simp only [Act.put, List.setIfInBounds_toArray, List.set_cons_zero, List.set_cons_succ]
          refine wpQL_step (k := 25) (x := { dst := some 131, op := Op.binOp BinOp.add 147 (Operand.tmp 127) (Operand.tmp 130) 147, type := 147, pos := "ref.go:45", after := #[{ on := 21, ground := Ground.data }, { on := 24, ground := Ground.data }], guard := none }) (v := ?_) rfl (by kernel_rfl) (by rfl) ?_ ?_
          rotate_left
          · (intro w hS; refine quiet_value ?_; (clear hS; go_simp); try with_reducible rfl)
          try simp only [Act.put, List.setIfInBounds_toArray, List.set_cons_zero, List.set_cons_succ]
          refine wpQL_step (k := 26) (x := { dst := some 132, op := Op.move (Operand.tmp 12), type := 3, pos := "ref.go:45", after := #[], guard := none }) (v := ?_) rfl (by kernel_rfl) (by rfl) ?_ ?_
          rotate_left
          · (intro w hS; refine quiet_value ?_; (clear hS; go_simp); try with_reducible rfl)
          try simp only [Act.put, List.setIfInBounds_toArray, List.set_cons_zero, List.set_cons_succ]
          refine wpQL_step (k := 27) (x := { dst := some 133, op := Op.indexAddr 149 (Operand.tmp 7) (Operand.tmp 132), type := 0, pos := "ref.go:45", after := #[{ on := 26, ground := Ground.data }], guard := none }) (v := ?_) rfl (by kernel_rfl) (by rfl) ?_ ?_
          rotate_left
          · (intro w hS; refine quiet_value ?_; (clear hS; go_simp); try with_reducible rfl)
          try simp only [Act.put, List.setIfInBounds_toArray, List.set_cons_zero, List.set_cons_succ]
          refine wpQL_step (k := 28) (x := { dst := some 134, op := Op.load 147 (Operand.tmp 133), type := 147, pos := "ref.go:45", after := #[{ on := 27, ground := Ground.data }], guard := none }) (v := wv (wf k)) rfl (by kernel_rfl) (by rfl) ?_ ?_
          · (intro w hS; refine quiet_value ?_; first | exact kr_load_cell hS _ _ (by rfl) (by rfl) (by repeat (first | with_reducible exact Has.hd _ _ | with_reducible refine Has.tl _ ?_ | with_reducible refine Has.ap _ ?_)) (by kernel_rfl) (wcells_at (k) (by omega) (by omega)))
          try simp only [Act.put, List.setIfInBounds_toArray, List.set_cons_zero, List.set_cons_succ]
          refine wpQL_step (k := 29) (x := { dst := some 135, op := Op.binOp BinOp.add 147 (Operand.tmp 131) (Operand.tmp 134) 147, type := 147, pos := "ref.go:45", after := #[{ on := 25, ground := Ground.data }, { on := 28, ground := Ground.data }], guard := none }) (v := ?_) rfl (by kernel_rfl) (by rfl) ?_ ?_
          rotate_left
          · (intro w hS; refine quiet_value ?_; (clear hS; go_simp); try with_reducible rfl)
          try simp only [Act.put, List.setIfInBounds_toArray, List.set_cons_zero, List.set_cons_succ]
          refine wpQL_end (k := 30) (x := { dst := some 15, op := Op.assign (Operand.tmp 135), type := 147, pos := "ref.go:45", after := #[{ on := 29, ground := Ground.data }, { on := 8, ground := Ground.chain }, { on := 0, ground := Ground.phase }, { on := 1, ground := Ground.phase }, { on := 2, ground := Ground.phase }, { on := 3, ground := Ground.phase }, { on := 4, ground := Ground.phase }, { on := 5, ground := Ground.phase }, { on := 6, ground := Ground.phase }, { on := 7, ground := Ground.phase }, { on := 8, ground := Ground.phase }, { on := 9, ground := Ground.phase }, { on := 10, ground := Ground.phase }, { on := 11, ground := Ground.phase }, { on := 12, ground := Ground.phase }, { on := 13, ground := Ground.phase }, { on := 14, ground := Ground.phase }, { on := 15, ground := Ground.phase }, { on := 16, ground := Ground.phase }, { on := 17, ground := Ground.phase }, { on := 18, ground := Ground.phase }, { on := 19, ground := Ground.phase }, { on := 20, ground := Ground.phase }, { on := 21, ground := Ground.phase }, { on := 22, ground := Ground.phase }, { on := 23, ground := Ground.phase }, { on := 24, ground := Ground.phase }, { on := 25, ground := Ground.phase }, { on := 26, ground := Ground.phase }, { on := 27, ground := Ground.phase }, { on := 28, ground := Ground.phase }, { on := 29, ground := Ground.phase }], guard := none }) rfl (by kernel_rfl) (fun w1 K K9 hK => ?_)
          refine st_reads (v := ?_) (by rfl) ?_ ?_
          rotate_left
          · (go_simp; try with_reducible rfl)
          refine hK.out _ _ ?_
          clear hK K9
          try simp only [Act.put, List.setIfInBounds_toArray, List.set_cons_zero, List.set_cons_succ]
          skip
          go_upto_region 17 with (fail)
          refine wp_region_QLK K (by kernel_rfl) (by kernel_rfl) ?_
          clear K
          refine wpQL_step (k := 0) (x := { dst := some 136, op := Op.move (Operand.tmp 13), type := 147, pos := "ref.go:46", after := #[], guard := none }) (v := ?_) rfl (by kernel_rfl) (by rfl) ?_ ?_
          rotate_left
          · (intro w hS; refine quiet_value ?_; (clear hS; go_simp); try with_reducible rfl)
          try simp only [Act.put, List.setIfInBounds_toArray, List.set_cons_zero, List.set_cons_succ]
          refine wpQL_step (k := 1) (x := { dst := some 137, op := Op.call { callee := Callee.value (Operand.func 99), args := #[Operand.tmp 136, Operand.const (Value.int IntKind.i64 2)], argTypes := #[147, 3] }, type := 147, pos := "ref.go:46", after := #[{ on := 0, ground := Ground.data }], guard := none }) (v := wv (rotr 2 (t.get 0))) rfl (by kernel_rfl) (by rfl) ?_ ?_
          · intro w hS
            refine quiet_call (f := 99) (args := ?_) ?_ ?_
            rotate_left
            · (go_simp; try with_reducible rfl)
            · exact (rturn_any hS _ 2 (by omega))
          try simp only [Act.put, List.setIfInBounds_toArray, List.set_cons_zero, List.set_cons_succ]
          refine wpQL_step (k := 2) (x := { dst := some 138, op := Op.move (Operand.tmp 13), type := 147, pos := "ref.go:46", after := #[], guard := none }) (v := ?_) rfl (by kernel_rfl) (by rfl) ?_ ?_
          rotate_left
          · (intro w hS; refine quiet_value ?_; (clear hS; go_simp); try with_reducible rfl)
          try simp only [Act.put, List.setIfInBounds_toArray, List.set_cons_zero, List.set_cons_succ]
          refine wpQL_step (k := 3) (x := { dst := some 139, op := Op.call { callee := Callee.value (Operand.func 99), args := #[Operand.tmp 138, Operand.const (Value.int IntKind.i64 13)], argTypes := #[147, 3] }, type := 147, pos := "ref.go:46", after := #[{ on := 2, ground := Ground.data }, { on := 1, ground := Ground.chain }], guard := none }) (v := wv (rotr 13 (t.get 0))) rfl (by kernel_rfl) (by rfl) ?_ ?_
          · intro w hS
            refine quiet_call (f := 99) (args := ?_) ?_ ?_
            rotate_left
            · (go_simp; try with_reducible rfl)
            · exact (rturn_any hS _ 13 (by omega))
          try simp only [Act.put, List.setIfInBounds_toArray, List.set_cons_zero, List.set_cons_succ]
          refine wpQL_step (k := 4) (x := { dst := some 140, op := Op.binOp BinOp.xor 147 (Operand.tmp 137) (Operand.tmp 139) 147, type := 147, pos := "ref.go:46", after := #[{ on := 1, ground := Ground.data }, { on := 3, ground := Ground.data }], guard := none }) (v := ?_) rfl (by kernel_rfl) (by rfl) ?_ ?_
          rotate_left
          · (intro w hS; refine quiet_value ?_; (clear hS; go_simp); try with_reducible rfl)
          try simp only [Act.put, List.setIfInBounds_toArray, List.set_cons_zero, List.set_cons_succ]
          refine wpQL_step (k := 5) (x := { dst := some 141, op := Op.move (Operand.tmp 13), type := 147, pos := "ref.go:46", after := #[], guard := none }) (v := ?_) rfl (by kernel_rfl) (by rfl) ?_ ?_
          rotate_left
          · (intro w hS; refine quiet_value ?_; (clear hS; go_simp); try with_reducible rfl)
          try simp only [Act.put, List.setIfInBounds_toArray, List.set_cons_zero, List.set_cons_succ]
          refine wpQL_step (k := 6) (x := { dst := some 142, op := Op.call { callee := Callee.value (Operand.func 99), args := #[Operand.tmp 141, Operand.const (Value.int IntKind.i64 22)], argTypes := #[147, 3] }, type := 147, pos := "ref.go:46", after := #[{ on := 5, ground := Ground.data }, { on := 3, ground := Ground.chain }], guard := none }) (v := wv (rotr 22 (t.get 0))) rfl (by kernel_rfl) (by rfl) ?_ ?_
          · intro w hS
            refine quiet_call (f := 99) (args := ?_) ?_ ?_
            rotate_left
            · (go_simp; try with_reducible rfl)
            · exact (rturn_any hS _ 22 (by omega))
          try simp only [Act.put, List.setIfInBounds_toArray, List.set_cons_zero, List.set_cons_succ]
          refine wpQL_step (k := 7) (x := { dst := some 143, op := Op.binOp BinOp.xor 147 (Operand.tmp 140) (Operand.tmp 142) 147, type := 147, pos := "ref.go:46", after := #[{ on := 4, ground := Ground.data }, { on := 6, ground := Ground.data }], guard := none }) (v := ?_) rfl (by kernel_rfl) (by rfl) ?_ ?_
          rotate_left
          · (intro w hS; refine quiet_value ?_; (clear hS; go_simp); try with_reducible rfl)
          try simp only [Act.put, List.setIfInBounds_toArray, List.set_cons_zero, List.set_cons_succ]
          refine wpQL_step (k := 8) (x := { dst := some 144, op := Op.move (Operand.tmp 13), type := 147, pos := "ref.go:46", after := #[], guard := none }) (v := ?_) rfl (by kernel_rfl) (by rfl) ?_ ?_
          rotate_left
          · (intro w hS; refine quiet_value ?_; (clear hS; go_simp); try with_reducible rfl)
          try simp only [Act.put, List.setIfInBounds_toArray, List.set_cons_zero, List.set_cons_succ]
          refine wpQL_step (k := 9) (x := { dst := some 145, op := Op.indexAddr 148 (Operand.tmp 11) (Operand.const (Value.int IntKind.i64 1)), type := 0, pos := "ref.go:46", after := #[], guard := none }) (v := ?_) rfl (by kernel_rfl) (by rfl) ?_ ?_
          rotate_left
          · (intro w hS; refine quiet_value ?_; (clear hS; go_simp); try with_reducible rfl)
          try simp only [Act.put, List.setIfInBounds_toArray, List.set_cons_zero, List.set_cons_succ]
          refine wpQL_step (k := 10) (x := { dst := some 146, op := Op.load 147 (Operand.tmp 145), type := 147, pos := "ref.go:46", after := #[{ on := 9, ground := Ground.data }], guard := none }) (v := wv (t.get 1)) rfl (by kernel_rfl) (by rfl) ?_ ?_
          · (intro w hS; refine quiet_value ?_; first | exact kr_load_cell hS _ _ (by rfl) (by rfl) (by repeat (first | with_reducible exact Has.hd _ _ | with_reducible refine Has.tl _ ?_ | with_reducible refine Has.ap _ ?_)) (by kernel_rfl) (wcells_at 1 rfl (by omega)))
          try simp only [Act.put, List.setIfInBounds_toArray, List.set_cons_zero, List.set_cons_succ]
          refine wpQL_step (k := 11) (x := { dst := some 147, op := Op.binOp BinOp.and 147 (Operand.tmp 144) (Operand.tmp 146) 147, type := 147, pos := "ref.go:46", after := #[{ on := 8, ground := Ground.data }, { on := 10, ground := Ground.data }], guard := none }) (v := ?_) rfl (by kernel_rfl) (by rfl) ?_ ?_
          rotate_left
          · (intro w hS; refine quiet_value ?_; (clear hS; go_simp); try with_reducible rfl)
          try simp only [Act.put, List.setIfInBounds_toArray, List.set_cons_zero, List.set_cons_succ]
          refine wpQL_step (k := 12) (x := { dst := some 148, op := Op.move (Operand.tmp 13), type := 147, pos := "ref.go:46", after := #[], guard := none }) (v := ?_) rfl (by kernel_rfl) (by rfl) ?_ ?_
          rotate_left
          · (intro w hS; refine quiet_value ?_; (clear hS; go_simp); try with_reducible rfl)
          try simp only [Act.put, List.setIfInBounds_toArray, List.set_cons_zero, List.set_cons_succ]
          refine wpQL_step (k := 13) (x := { dst := some 149, op := Op.indexAddr 148 (Operand.tmp 11) (Operand.const (Value.int IntKind.i64 2)), type := 0, pos := "ref.go:46", after := #[], guard := none }) (v := ?_) rfl (by kernel_rfl) (by rfl) ?_ ?_
          rotate_left
          · (intro w hS; refine quiet_value ?_; (clear hS; go_simp); try with_reducible rfl)
          try simp only [Act.put, List.setIfInBounds_toArray, List.set_cons_zero, List.set_cons_succ]
          refine wpQL_step (k := 14) (x := { dst := some 150, op := Op.load 147 (Operand.tmp 149), type := 147, pos := "ref.go:46", after := #[{ on := 13, ground := Ground.data }], guard := none }) (v := wv (t.get 2)) rfl (by kernel_rfl) (by rfl) ?_ ?_
          · (intro w hS; refine quiet_value ?_; first | exact kr_load_cell hS _ _ (by rfl) (by rfl) (by repeat (first | with_reducible exact Has.hd _ _ | with_reducible refine Has.tl _ ?_ | with_reducible refine Has.ap _ ?_)) (by kernel_rfl) (wcells_at 2 rfl (by omega)))
          try simp only [Act.put, List.setIfInBounds_toArray, List.set_cons_zero, List.set_cons_succ]
          refine wpQL_step (k := 15) (x := { dst := some 151, op := Op.binOp BinOp.and 147 (Operand.tmp 148) (Operand.tmp 150) 147, type := 147, pos := "ref.go:46", after := #[{ on := 12, ground := Ground.data }, { on := 14, ground := Ground.data }], guard := none }) (v := ?_) rfl (by kernel_rfl) (by rfl) ?_ ?_
          rotate_left
          · (intro w hS; refine quiet_value ?_; (clear hS; go_simp); try with_reducible rfl)
          try simp only [Act.put, List.setIfInBounds_toArray, List.set_cons_zero, List.set_cons_succ]
          refine wpQL_step (k := 16) (x := { dst := some 152, op := Op.binOp BinOp.or 147 (Operand.tmp 147) (Operand.tmp 151) 147, type := 147, pos := "ref.go:46", after := #[{ on := 11, ground := Ground.data }, { on := 15, ground := Ground.data }], guard := none }) (v := ?_) rfl (by kernel_rfl) (by rfl) ?_ ?_
          rotate_left
          · (intro w hS; refine quiet_value ?_; (clear hS; go_simp); try with_reducible rfl)
          try simp only [Act.put, List.setIfInBounds_toArray, List.set_cons_zero, List.set_cons_succ]
          refine wpQL_step (k := 17) (x := { dst := some 153, op := Op.indexAddr 148 (Operand.tmp 11) (Operand.const (Value.int IntKind.i64 1)), type := 0, pos := "ref.go:46", after := #[], guard := none }) (v := ?_) rfl (by kernel_rfl) (by rfl) ?_ ?_
          rotate_left
          · (intro w hS; refine quiet_value ?_; (clear hS; go_simp); try with_reducible rfl)
          try simp only [Act.put, List.setIfInBounds_toArray, List.set_cons_zero, List.set_cons_succ]
          refine wpQL_step (k := 18) (x := { dst := some 154, op := Op.load 147 (Operand.tmp 153), type := 147, pos := "ref.go:46", after := #[{ on := 17, ground := Ground.data }], guard := none }) (v := wv (t.get 1)) rfl (by kernel_rfl) (by rfl) ?_ ?_
          · (intro w hS; refine quiet_value ?_; first | exact kr_load_cell hS _ _ (by rfl) (by rfl) (by repeat (first | with_reducible exact Has.hd _ _ | with_reducible refine Has.tl _ ?_ | with_reducible refine Has.ap _ ?_)) (by kernel_rfl) (wcells_at 1 rfl (by omega)))
          try simp only [Act.put, List.setIfInBounds_toArray, List.set_cons_zero, List.set_cons_succ]
          refine wpQL_step (k := 19) (x := { dst := some 155, op := Op.indexAddr 148 (Operand.tmp 11) (Operand.const (Value.int IntKind.i64 2)), type := 0, pos := "ref.go:46", after := #[], guard := none }) (v := ?_) rfl (by kernel_rfl) (by rfl) ?_ ?_
          rotate_left
          · (intro w hS; refine quiet_value ?_; (clear hS; go_simp); try with_reducible rfl)
          try simp only [Act.put, List.setIfInBounds_toArray, List.set_cons_zero, List.set_cons_succ]
          refine wpQL_step (k := 20) (x := { dst := some 156, op := Op.load 147 (Operand.tmp 155), type := 147, pos := "ref.go:46", after := #[{ on := 19, ground := Ground.data }], guard := none }) (v := wv (t.get 2)) rfl (by kernel_rfl) (by rfl) ?_ ?_
          · (intro w hS; refine quiet_value ?_; first | exact kr_load_cell hS _ _ (by rfl) (by rfl) (by repeat (first | with_reducible exact Has.hd _ _ | with_reducible refine Has.tl _ ?_ | with_reducible refine Has.ap _ ?_)) (by kernel_rfl) (wcells_at 2 rfl (by omega)))
          try simp only [Act.put, List.setIfInBounds_toArray, List.set_cons_zero, List.set_cons_succ]
          refine wpQL_step (k := 21) (x := { dst := some 157, op := Op.binOp BinOp.and 147 (Operand.tmp 154) (Operand.tmp 156) 147, type := 147, pos := "ref.go:46", after := #[{ on := 18, ground := Ground.data }, { on := 20, ground := Ground.data }], guard := none }) (v := ?_) rfl (by kernel_rfl) (by rfl) ?_ ?_
          rotate_left
          · (intro w hS; refine quiet_value ?_; (clear hS; go_simp); try with_reducible rfl)
          try simp only [Act.put, List.setIfInBounds_toArray, List.set_cons_zero, List.set_cons_succ]
          refine wpQL_step (k := 22) (x := { dst := some 158, op := Op.binOp BinOp.or 147 (Operand.tmp 152) (Operand.tmp 157) 147, type := 147, pos := "ref.go:46", after := #[{ on := 16, ground := Ground.data }, { on := 21, ground := Ground.data }], guard := none }) (v := ?_) rfl (by kernel_rfl) (by rfl) ?_ ?_
          rotate_left
          · (intro w hS; refine quiet_value ?_; (clear hS; go_simp); try with_reducible rfl)
          try simp only [Act.put, List.setIfInBounds_toArray, List.set_cons_zero, List.set_cons_succ]
          refine wpQL_step (k := 23) (x := { dst := some 159, op := Op.binOp BinOp.add 147 (Operand.tmp 143) (Operand.tmp 158) 147, type := 147, pos := "ref.go:46", after := #[{ on := 7, ground := Ground.data }, { on := 22, ground := Ground.data }], guard := none }) (v := ?_) rfl (by kernel_rfl) (by rfl) ?_ ?_
          rotate_left
          · (intro w hS; refine quiet_value ?_; (clear hS; go_simp); try with_reducible rfl)
          try simp only [Act.put, List.setIfInBounds_toArray, List.set_cons_zero, List.set_cons_succ]
          refine wpQL_end (k := 24) (x := { dst := some 16, op := Op.assign (Operand.tmp 159), type := 147, pos := "ref.go:46", after := #[{ on := 23, ground := Ground.data }, { on := 6, ground := Ground.chain }, { on := 0, ground := Ground.phase }, { on := 1, ground := Ground.phase }, { on := 2, ground := Ground.phase }, { on := 3, ground := Ground.phase }, { on := 4, ground := Ground.phase }, { on := 5, ground := Ground.phase }, { on := 6, ground := Ground.phase }, { on := 7, ground := Ground.phase }, { on := 8, ground := Ground.phase }, { on := 9, ground := Ground.phase }, { on := 10, ground := Ground.phase }, { on := 11, ground := Ground.phase }, { on := 12, ground := Ground.phase }, { on := 13, ground := Ground.phase }, { on := 14, ground := Ground.phase }, { on := 15, ground := Ground.phase }, { on := 16, ground := Ground.phase }, { on := 17, ground := Ground.phase }, { on := 18, ground := Ground.phase }, { on := 19, ground := Ground.phase }, { on := 20, ground := Ground.phase }, { on := 21, ground := Ground.phase }, { on := 22, ground := Ground.phase }, { on := 23, ground := Ground.phase }], guard := none }) rfl (by kernel_rfl) (fun w1 K K9 hK => ?_)
          refine st_reads (v := ?_) (by rfl) ?_ ?_
          rotate_left
          · (go_simp; try with_reducible rfl)
          refine hK.out _ _ ?_
          clear hK K9
          try simp only [Act.put, List.setIfInBounds_toArray, List.set_cons_zero, List.set_cons_succ]
          skip
          go_wp2_with (first | ((with_reducible refine at_load rfl ?_); refine wpList_reads (by rfl) (kr_load_cell K _ _ (by rfl) (by rfl) (by repeat (first | with_reducible exact Has.hd _ _ | with_reducible refine Has.tl _ ?_ | with_reducible refine Has.ap _ ?_)) (by kernel_rfl) (wcells_at 0 rfl (by omega))) ?_) | ((with_reducible refine at_load rfl ?_); refine wpList_reads (by rfl) (kr_load_cell K _ _ (by rfl) (by rfl) (by repeat (first | with_reducible exact Has.hd _ _ | with_reducible refine Has.tl _ ?_ | with_reducible refine Has.ap _ ?_)) (by kernel_rfl) (wcells_at 1 rfl (by omega))) ?_) | ((with_reducible refine at_load rfl ?_); refine wpList_reads (by rfl) (kr_load_cell K _ _ (by rfl) (by rfl) (by repeat (first | with_reducible exact Has.hd _ _ | with_reducible refine Has.tl _ ?_ | with_reducible refine Has.ap _ ?_)) (by kernel_rfl) (wcells_at 2 rfl (by omega))) ?_) | ((with_reducible refine at_load rfl ?_); refine wpList_reads (by rfl) (kr_load_cell K _ _ (by rfl) (by rfl) (by repeat (first | with_reducible exact Has.hd _ _ | with_reducible refine Has.tl _ ?_ | with_reducible refine Has.ap _ ?_)) (by kernel_rfl) (wcells_at 3 rfl (by omega))) ?_) | ((with_reducible refine at_load rfl ?_); refine wpList_reads (by rfl) (kr_load_cell K _ _ (by rfl) (by rfl) (by repeat (first | with_reducible exact Has.hd _ _ | with_reducible refine Has.tl _ ?_ | with_reducible refine Has.ap _ ?_)) (by kernel_rfl) (wcells_at 4 rfl (by omega))) ?_) | ((with_reducible refine at_load rfl ?_); refine wpList_reads (by rfl) (kr_load_cell K _ _ (by rfl) (by rfl) (by repeat (first | with_reducible exact Has.hd _ _ | with_reducible refine Has.tl _ ?_ | with_reducible refine Has.ap _ ?_)) (by kernel_rfl) (wcells_at 5 rfl (by omega))) ?_) | ((with_reducible refine at_load rfl ?_); refine wpList_reads (by rfl) (kr_load_cell K _ _ (by rfl) (by rfl) (by repeat (first | with_reducible exact Has.hd _ _ | with_reducible refine Has.tl _ ?_ | with_reducible refine Has.ap _ ?_)) (by kernel_rfl) (wcells_at 6 rfl (by omega))) ?_) | ((with_reducible refine at_store rfl ?_); refine wpList_does (by rfl) (kd_store_row K _ _ _ (by rfl) (by rfl) (by rfl) (by repeat (first | with_reducible exact Repl.hd _ _ _ | with_reducible apply Repl.tl | with_reducible apply Repl.ap)) (by kernel_rfl) (by rw [fcells_size]; rfl) (by kernel_rfl)) ?_; clear K; intro _ w1 K; (try simp only [Act.put])))
          rw [← rnd_cells] at K
          go_roundg (gk - 1)
          case measure => omega
          case rel => exact ⟨k + 1, _, by go_num, by omega, HT2, K⟩
        · obtain rfl : k = 64 := by omega
          have HSB := Lib.hid (show s.block bf = t.add s by rw [HSB.out, HT.out])
          rw [addR_zero s t] at K
          clear HT
          go_upto_region 20 with (fail)
          go_loopg [17] 8 (fun d i wr => ∃ (k : Nat), i = .int .i64 k ∧ k + d = 8 ∧ Known w0 wr (row gv (wcells (addR s t k) 8) 148 :: row gw (wcells wf 64) 149 :: row gr (wcells (fun _ => 0#32) 8) 148 :: row gq (wcells rootK 64) 149 :: row gs (wcells s.get 8) 148 :: L))
          case atStart => exact ⟨0, by go_num, by omega, K⟩
          case round =>
            clear K
            obtain ⟨k, rfl, hd, K⟩ := hrel
            by_cases hk : k < 8
            · have x4 : (0 : Int) ≤ (k : Int) ∧ (k : Int) < 8 := by omega
              have hk' : (k : Int) < 8 := by omega
              go_upto_region 22 with (fail)
              refine wp_region_QLK K (by kernel_rfl) (by kernel_rfl) ?_
              clear K
              refine wpQL_step (k := 0) (x := { dst := some 184, op := Op.move (Operand.tmp 17), type := 3, pos := "ref.go:50", after := #[], guard := none }) (v := ?_) rfl (by kernel_rfl) (by rfl) ?_ ?_
              rotate_left
              · (intro w hS; refine quiet_value ?_; (clear hS; go_simp); try with_reducible rfl)
              try simp only [Act.put, List.setIfInBounds_toArray, List.set_cons_zero, List.set_cons_succ]
              refine wpQL_step (k := 1) (x := { dst := some 185, op := Op.move (Operand.tmp 17), type := 3, pos := "ref.go:50", after := #[], guard := none }) (v := ?_) rfl (by kernel_rfl) (by rfl) ?_ ?_
              rotate_left
              · (intro w hS; refine quiet_value ?_; (clear hS; go_simp); try with_reducible rfl)
              try simp only [Act.put, List.setIfInBounds_toArray, List.set_cons_zero, List.set_cons_succ]
              refine wpQL_step (k := 2) (x := { dst := some 186, op := Op.indexAddr 148 (Operand.tmp 11) (Operand.tmp 185), type := 0, pos := "ref.go:50", after := #[{ on := 1, ground := Ground.data }], guard := none }) (v := ?_) rfl (by kernel_rfl) (by rfl) ?_ ?_
              rotate_left
              · (intro w hS; refine quiet_value ?_; (clear hS; go_simp); try with_reducible rfl)
              try simp only [Act.put, List.setIfInBounds_toArray, List.set_cons_zero, List.set_cons_succ]
              refine wpQL_step (k := 3) (x := { dst := some 187, op := Op.load 147 (Operand.tmp 186), type := 147, pos := "ref.go:50", after := #[{ on := 2, ground := Ground.data }], guard := none }) (v := wv (addR s t k k)) rfl (by kernel_rfl) (by rfl) ?_ ?_
              · (intro w hS; refine quiet_value ?_; first | exact kr_load_cell hS _ _ (by rfl) (by rfl) (by repeat (first | with_reducible exact Has.hd _ _ | with_reducible refine Has.tl _ ?_ | with_reducible refine Has.ap _ ?_)) (by kernel_rfl) (wcells_at (k) (by omega) (by omega)))
              try simp only [Act.put, List.setIfInBounds_toArray, List.set_cons_zero, List.set_cons_succ]
              refine wpQL_step (k := 4) (x := { dst := some 188, op := Op.move (Operand.tmp 17), type := 3, pos := "ref.go:50", after := #[], guard := none }) (v := ?_) rfl (by kernel_rfl) (by rfl) ?_ ?_
              rotate_left
              · (intro w hS; refine quiet_value ?_; (clear hS; go_simp); try with_reducible rfl)
              try simp only [Act.put, List.setIfInBounds_toArray, List.set_cons_zero, List.set_cons_succ]
              refine wpQL_step (k := 5) (x := { dst := some 189, op := Op.indexAddr 148 (Operand.tmp 3) (Operand.tmp 188), type := 0, pos := "ref.go:50", after := #[{ on := 4, ground := Ground.data }], guard := none }) (v := ?_) rfl (by kernel_rfl) (by rfl) ?_ ?_
              rotate_left
              · (intro w hS; refine quiet_value ?_; (clear hS; go_simp); try with_reducible rfl)
              try simp only [Act.put, List.setIfInBounds_toArray, List.set_cons_zero, List.set_cons_succ]
              refine wpQL_step (k := 6) (x := { dst := some 190, op := Op.load 147 (Operand.tmp 189), type := 147, pos := "ref.go:50", after := #[{ on := 5, ground := Ground.data }], guard := none }) (v := wv (s.get k)) rfl (by kernel_rfl) (by rfl) ?_ ?_
              · (intro w hS; refine quiet_value ?_; first | exact kr_load_cell hS _ _ (by rfl) (by rfl) (by repeat (first | with_reducible exact Has.hd _ _ | with_reducible refine Has.tl _ ?_ | with_reducible refine Has.ap _ ?_)) (by kernel_rfl) (wcells_at (k) (by omega) (by omega)))
              try simp only [Act.put, List.setIfInBounds_toArray, List.set_cons_zero, List.set_cons_succ]
              refine wpQL_step (k := 7) (x := { dst := some 191, op := Op.binOp BinOp.add 147 (Operand.tmp 187) (Operand.tmp 190) 147, type := 147, pos := "ref.go:50", after := #[{ on := 3, ground := Ground.data }, { on := 6, ground := Ground.data }], guard := none }) (v := ?_) rfl (by kernel_rfl) (by rfl) ?_ ?_
              rotate_left
              · (intro w hS; refine quiet_value ?_; (clear hS; go_simp); try with_reducible rfl)
              try simp only [Act.put, List.setIfInBounds_toArray, List.set_cons_zero, List.set_cons_succ]
              refine wpQL_step (k := 8) (x := { dst := some 192, op := Op.indexAddr 148 (Operand.tmp 11) (Operand.tmp 184), type := 0, pos := "ref.go:50", after := #[{ on := 0, ground := Ground.data }, { on := 0, ground := Ground.phase }, { on := 1, ground := Ground.phase }, { on := 2, ground := Ground.phase }, { on := 3, ground := Ground.phase }, { on := 4, ground := Ground.phase }, { on := 5, ground := Ground.phase }, { on := 6, ground := Ground.phase }, { on := 7, ground := Ground.phase }], guard := none }) (v := ?_) rfl (by kernel_rfl) (by rfl) ?_ ?_
              rotate_left
              · (intro w hS; refine quiet_value ?_; (clear hS; go_simp); try with_reducible rfl)
              try simp only [Act.put, List.setIfInBounds_toArray, List.set_cons_zero, List.set_cons_succ]
              refine wpQL_end (k := 9) (x := { dst := none, op := Op.store 147 (Operand.tmp 192) (Operand.tmp 191), type := 0, pos := "ref.go:50", after := #[{ on := 8, ground := Ground.data }, { on := 7, ground := Ground.data }, { on := 0, ground := Ground.phase }, { on := 1, ground := Ground.phase }, { on := 2, ground := Ground.phase }, { on := 3, ground := Ground.phase }, { on := 4, ground := Ground.phase }, { on := 5, ground := Ground.phase }, { on := 6, ground := Ground.phase }, { on := 7, ground := Ground.phase }], guard := none }) rfl (by kernel_rfl) (fun w1 K K9 hK => ?_)
              refine st_does (by rfl) (kd_store_cell K _ _ _ (by rfl) (by rfl) (by conv => lhs; whnf) (by repeat (first | with_reducible exact Repl.hd _ _ _ | with_reducible apply Repl.tl | with_reducible apply Repl.ap)) (by rfl) (by rfl) (by kernel_rfl) (by simp only [fcells_size, decide_eq_true_eq]; omega) (wcells_set _ (by omega))) ?_
              clear K; intro _ w1 K
              refine hK.out _ _ ?_
              clear hK K9
              try simp only [Act.put, List.setIfInBounds_toArray, List.set_cons_zero, List.set_cons_succ]
              skip
              rw [addR_at, addR_succ] at K
              go_wp2
              go_roundg (gk - 1)
              case measure => omega
              case rel => exact ⟨k + 1, by go_num, by omega, K⟩
            · obtain rfl : k = 8 := by omega
              rw [addR_full, ← HSB.out] at K
              go_wp2_with (first | ((with_reducible refine at_load rfl ?_); refine wpList_reads (by rfl) (kr_load_row K _ _ (by rfl) (by rfl) (by repeat (first | with_reducible exact Has.hd _ _ | with_reducible refine Has.tl _ ?_ | with_reducible refine Has.ap _ ?_)) (by kernel_rfl) (by rw [fcells_size]; kernel_rfl)) ?_) | ((with_reducible refine at_store rfl ?_); refine wpList_does (by rfl) (kd_store_row K _ _ _ (by rfl) (by rfl) (by rfl) (by repeat (first | with_reducible exact Repl.hd _ _ _ | with_reducible apply Repl.tl | with_reducible apply Repl.ap)) (by rw [fcells_size]; kernel_rfl) (by first | (rw [fcells_size, fcells_size]; rfl) | (rw [fcells_size]; rfl) | (simp only [fcells_size, u8s_size]; done) | (simp only [fcells_size, u8s_size]; rfl)) (wcells_one _ _)) ?_; clear K; intro _ w1 K; (try simp only [Act.put])))
              exact bodyPost_cellK K (by rfl) (by rfl) (by repeat (first | with_reducible exact Has.hd _ _ | with_reducible refine Has.tl _ ?_ | with_reducible refine Has.ap _ ?_)) (by kernel_rfl) (by rw [fcells_size]; kernel_rfl) rfl ⟨rfl, K.cov (by repeat (first | with_reducible exact Cov.all _ | with_reducible exact Cov.left _ _ | with_reducible exact Cov.nil _ | (with_reducible apply Cov.app; (· repeat (first | with_reducible exact Sel.nil _ | with_reducible exact Sel.ap _ _ | with_reducible exact Sel.hd _ _ | with_reducible exact Sel.all _ | with_reducible apply Sel.tl | with_reducible apply Sel.sk))) | (with_reducible apply Cov.cons; (· repeat (first | with_reducible exact Sel.nil _ | with_reducible exact Sel.ap _ _ | with_reducible exact Sel.hd _ _ | with_reducible exact Sel.all _ | with_reducible apply Sel.tl | with_reducible apply Sel.sk))) | with_reducible refine Cov.drop _ ?_ | with_reducible refine Cov.skip _ ?_))⟩
end
end Go.Proofs.Ytokbloddaoakgaa
