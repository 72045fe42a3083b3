/-
  part: Write on a device (contract).
-/
import Derived.Test.YtokbloddaoakgaaPrtA
set_option linter.unusedVariables false
set_option linter.unusedSimpArgs false
namespace Go.Proofs.Ytokbloddaoakgaa
open Go.RowKit
/-- a sector's bytes: zeros behind -/
def zpad (n : Nat) (bs : List Int) : List Int := bs.take n ++ List.replicate (n - bs.length) 0
theorem zpad_len (n : Nat) (bs : List Int) : (zpad n bs).length = n := by
  unfold zpad
  rw [List.length_append, List.length_take, List.length_replicate]
  omega
theorem zpad_byte {n : Nat} {bs : List Int} (h : ∀ v ∈ bs, 0 ≤ v ∧ v ≤ 255) : ∀ v ∈ zpad n bs, 0 ≤ v ∧ v ≤ 255 := by
  intro v hv
  rcases List.mem_append.1 hv with hv | hv
  · exact h v (List.mem_of_mem_take hv)
  · rw [(List.mem_replicate.1 hv).2]; decide
theorem zpad_copy (size : Nat) (bs : List Int) : splice (fcells size (fun _ => Value.int .u8 0)) 0 ((bs.take size).map (Value.int .u8)) = u8s (zpad size bs) := by
  rw [← fcells_repl]
  unfold splice u8s zpad
  congr 1
  simp only [List.take_zero, List.nil_append, List.map_append, List.map_replicate, Array.toList_replicate, List.drop_replicate, List.length_map, List.length_take]
  congr 2
  omega
theorem RdS.ofU8s {w0 : World} {L : List Ent} {g n : Nat} {xs : List Int} {t : TypeId} (h : Has (row g (u8s xs) t) L) (hl : xs.length = n) : RdS w0 L .u8 (some ⟨g, 0, none⟩) n xs :=
  RdS.ofRow h hl (by rw [List.drop_zero, List.take_of_length_le (by simp [u8s, hl])]; simp [u8s])
def pwl : Nat → Dev → Int → List Int → Int × Dev
  | 0, D, _, _ => (0, D)
  | k + 1, D, i, bs => if bs = [] then (0, D) else if (dwrite D i (zpad D.size bs)).1 ≠ 0 then dwrite D i (zpad D.size bs) else pwl k (dwrite D i (zpad D.size bs)).2 (i + 1) (bs.drop D.size)
theorem pwl_nil (k : Nat) (D : Dev) (i : Int) : pwl k D i [] = (0, D) := by cases k <;> simp [pwl]
def pwrite (D : Dev) (first count at_ : Int) (bs : List Int) : Int × Dev :=
  if Int.tmod at_ D.size ≠ 0 then (1, D) else if fitsB (count * D.size) at_ bs.length = false then (5, D) else pwl bs.length D (first + at_ / D.size) bs
theorem dwrite_same (D : Dev) (i : Int) (b : List Int) : (dwrite D i b).2.size = D.size ∧ (dwrite D i b).2.count = D.count := by
  unfold dwrite dfall dput
  repeat' split
  all_goals exact ⟨rfl, rfl⟩
theorem dwrite_zero {D : Dev} {i : Int} {b : List Int} (h : (dwrite D i b).1 = 0) : (dwrite D i b).2.offs = D.offs ∧ (dwrite D i b).2.writes = D.writes + 1 := by
  unfold dwrite at h ⊢
  split at h
  · next hc => exact absurd h hc
  · next hc =>
    rw [if_neg hc]
    split at h
    · cases h
    · next hd =>
      rw [if_neg hd]
      split at h
      · cases h
      · next he => rw [if_neg he]; exact ⟨rfl, rfl⟩

section
variable {w0 w : World} {L X : List Ent} {g gp : Nat} {D : Dev} {first count : Int} {A : Option Addr} {n c : Nat} {bs : List Int}
set_option maxHeartbeats 1600000 in
set_option maxRecDepth 100000 in
theorem pwrite_any (K : Known w0 w (X ++ L)) (hD : DevIs w0 g D X) (hp : Has (prow gp g first count) L) (hcb : 0 ≤ count ∧ count ≤ 1048576) (hfb : 0 ≤ first ∧ first ≤ 1048576) (at_ : Int) (hat : -9223372036854775808 ≤ at_ ∧ at_ ≤ 9223372036854775807) (R : RdS w0 L .u8 A n bs) (hc : n ≤ c) (hb : ∀ v ∈ bs, 0 ≤ v ∧ v ≤ 255) (hn9 : n ≤ 1000000000) (ho : D.offs < 1000000000000) (hw : D.writes + n < 1000000000000) :
    Calls Try.prog 18 #[.pointer (some ⟨gp, 0, none⟩), .int .i64 at_, .slice A n c] w fun e w' => e = .returned (.int .i64 (pwrite D first count at_ bs).1) ∧ ∃ X', DevIs w0 g (pwrite D first count at_ bs).2 X' ∧ Known w0 w' (X' ++ L) := by
  have hs := hD.ok.size
  have hxl := R.len
  have hne : ((D.size : Int)) ≠ 0 := by omega
  have hnn : D.size ≠ 0 := by omega
  by_cases h1 : Int.tmod at_ D.size = 0
  · by_cases h2 : fitsB (count * D.size) at_ n = true
    · have hm : (Int.tmod at_ D.size != 0) = false := by simp [h1]
      have h3 := h2
      simp only [fitsB, Bool.and_eq_true, decide_eq_true_eq] at h3
      obtain ⟨f1, f2, f3, f4⟩ := h3
      have hq : 0 ≤ at_ / (D.size : Int) ∧ at_ / (D.size : Int) ≤ 4294967296 := by
        have g1 : count * (D.size : Int) ≤ 1048576 * 4096 := Int.mul_le_mul hcb.2 (by omega) (by omega) (by omega)
        exact ⟨Int.ediv_nonneg f1 (by omega), Int.le_trans (Int.ediv_le_self _ f1) (by omega)⟩
      obtain ⟨q, hqe⟩ : ∃ q, at_ / (D.size : Int) = q := ⟨_, rfl⟩
      rw [hqe] at hq
      have htd : Int.tdiv at_ (D.size : Int) = q := by rw [Int.tdiv_eq_ediv_of_nonneg f1, hqe]
      have HR := Lib.hid (show pwrite D first count at_ bs = pwl n D (first + q) bs by rw [pwrite, if_neg (by simp [h1]), hxl, h2, hqe]; rfl)
      have i1 := IntWalk.i64_in q (by omega)
      have i2 := IntWalk.i64_in (first + q) (by omega)
      have hi0 : 0 ≤ first + q ∧ first + q ≤ 5000000000 := by omega
      have HB := Lib.hid hb
      clear h1 hqe f1 f2 f3 f4 hxl hb hq
      go_enter Try.func18, Try.ntmps18
      go_upto_region 6 with ((first | ((with_reducible refine at_load rfl ?_); refine wpList_reads (by rfl) (kr_load_cell K _ _ (by rfl) (by rfl) (by repeat (first | with_reducible assumption | with_reducible exact Has.hd _ _ | with_reducible refine Has.tl _ ?_ | with_reducible refine Has.ap _ ?_)) (by kernel_rfl) (by rfl)) ?_) | (go_at_call 42; (with_reducible refine (ssizeK K hD).mono ?_); clear K; rintro e w1 ⟨rfl, K⟩) | (go_at_call 58; (with_reducible refine (pfits_any K hD hp hcb _ _ _ rfl hat).mono ?_); clear K; rintro e w1 ⟨rfl, K⟩)))
      have hp2 := Has.ap X hp
      refine wp_region_QLK K (by kernel_rfl) (by kernel_rfl) ?_
      clear K
      refine wpQL_step (k := 0) (x := { dst := some 37, op := Op.move (Operand.tmp 0), type := 26, pos := "part.go:100", after := #[], guard := none }) (v := ?_) rfl (by kernel_rfl) (by rfl) ?_ ?_
      rotate_left
      · (intro w hS; refine quiet_value ?_; (clear hS; go_simp); try with_reducible rfl)
      try simp only [Act.put, List.setIfInBounds_toArray, List.set_cons_zero, List.set_cons_succ]
      refine wpQL_step (k := 1) (x := { dst := some 38, op := Op.nilCheck (Operand.tmp 37), type := 0, pos := "part.go:100", after := #[{ on := 0, ground := Ground.data }], guard := none }) (v := ?_) rfl (by kernel_rfl) (by rfl) ?_ ?_
      rotate_left
      · (intro w hS; refine quiet_value ?_; (clear hS; go_simp); try with_reducible rfl)
      try simp only [Act.put, List.setIfInBounds_toArray, List.set_cons_zero, List.set_cons_succ]
      refine wpQL_step (k := 2) (x := { dst := some 39, op := Op.fieldAddr 104 (Operand.tmp 38) 1, type := 0, pos := "part.go:100", after := #[{ on := 1, ground := Ground.data }], guard := none }) (v := ?_) rfl (by kernel_rfl) (by rfl) ?_ ?_
      rotate_left
      · (intro w hS; refine quiet_value ?_; (clear hS; go_simp); try with_reducible rfl)
      try simp only [Act.put, List.setIfInBounds_toArray, List.set_cons_zero, List.set_cons_succ]
      refine wpQL_step (k := 3) (x := { dst := some 40, op := Op.fieldAddr 23 (Operand.tmp 39) 0, type := 0, pos := "part.go:100", after := #[{ on := 2, ground := Ground.data }], guard := none }) (v := ?_) rfl (by kernel_rfl) (by rfl) ?_ ?_
      rotate_left
      · (intro w hS; refine quiet_value ?_; (clear hS; go_simp); try with_reducible rfl)
      try simp only [Act.put, List.setIfInBounds_toArray, List.set_cons_zero, List.set_cons_succ]
      refine wpQL_step (k := 4) (x := { dst := some 41, op := Op.load 3 (Operand.tmp 40), type := 3, pos := "part.go:100", after := #[{ on := 3, ground := Ground.data }], guard := none }) (v := .int .i64 first) rfl (by kernel_rfl) (by rfl) ?_ ?_
      · (intro w hS; refine quiet_value ?_; first | exact kr_load_cell hS _ _ (by rfl) (by rfl) hp2 (by kernel_rfl) (by rfl))
      try simp only [Act.put, List.setIfInBounds_toArray, List.set_cons_zero, List.set_cons_succ]
      refine wpQL_step (k := 5) (x := { dst := some 42, op := Op.move (Operand.tmp 1), type := 3, pos := "part.go:100", after := #[], guard := none }) (v := ?_) rfl (by kernel_rfl) (by rfl) ?_ ?_
      rotate_left
      · (intro w hS; refine quiet_value ?_; (clear hS; go_simp); try with_reducible rfl)
      try simp only [Act.put, List.setIfInBounds_toArray, List.set_cons_zero, List.set_cons_succ]
      refine wpQL_step (k := 6) (x := { dst := some 43, op := Op.move (Operand.tmp 7), type := 3, pos := "part.go:100", after := #[], guard := none }) (v := ?_) rfl (by kernel_rfl) (by rfl) ?_ ?_
      rotate_left
      · (intro w hS; refine quiet_value ?_; (clear hS; go_simp); try with_reducible rfl)
      try simp only [Act.put, List.setIfInBounds_toArray, List.set_cons_zero, List.set_cons_succ]
      refine wpQL_step (k := 7) (x := { dst := some 44, op := Op.binOp BinOp.quo 3 (Operand.tmp 42) (Operand.tmp 43) 3, type := 3, pos := "part.go:100", after := #[{ on := 5, ground := Ground.data }, { on := 6, ground := Ground.data }], guard := none }) (v := ?_) rfl (by kernel_rfl) (by rfl) ?_ ?_
      rotate_left
      · (intro w hS; refine quiet_value ?_; (clear hS; go_simp); try with_reducible rfl)
      try simp only [Act.put, List.setIfInBounds_toArray, List.set_cons_zero, List.set_cons_succ]
      refine wpQL_step (k := 8) (x := { dst := some 45, op := Op.binOp BinOp.add 3 (Operand.tmp 41) (Operand.tmp 44) 3, type := 3, pos := "part.go:100", after := #[{ on := 4, ground := Ground.data }, { on := 7, ground := Ground.data }], guard := none }) (v := ?_) rfl (by kernel_rfl) (by rfl) ?_ ?_
      rotate_left
      · (intro w hS; refine quiet_value ?_; (clear hS; go_simp); try with_reducible rfl)
      try simp only [Act.put, List.setIfInBounds_toArray, List.set_cons_zero, List.set_cons_succ]
      refine wpQL_end (k := 9) (x := { dst := some 8, op := Op.assign (Operand.tmp 45), type := 3, pos := "part.go:100", after := #[{ on := 8, ground := Ground.data }, { on := 0, ground := Ground.phase }, { on := 1, ground := Ground.phase }, { on := 2, ground := Ground.phase }, { on := 3, ground := Ground.phase }, { on := 4, ground := Ground.phase }, { on := 5, ground := Ground.phase }, { on := 6, ground := Ground.phase }, { on := 7, ground := Ground.phase }, { on := 8, ground := Ground.phase }], guard := none }) rfl (by kernel_rfl) (fun w1 K K9 hK => ?_)
      refine st_reads (v := ?_) (by rfl) ?_ ?_
      rotate_left
      · (go_simp; try with_reducible rfl)
      refine hK.out _ _ ?_
      clear hK K9
      try simp only [Act.put, List.setIfInBounds_toArray, List.set_cons_zero, List.set_cons_succ]
      skip
      go_upto_region 7 with fail
      go_loopg [2, 8] n (fun d v iv wr => ∃ (D1 : Dev) (X1 : List Ent) (b1 : List Int) (A1 : Option Addr) (n1 c1 : Nat) (i : Int), v = .slice A1 n1 c1 ∧ iv = .int .i64 i ∧ RdS w0 L .u8 A1 n1 b1 ∧ n1 ≤ c1 ∧ Hid (∀ v ∈ b1, 0 ≤ v ∧ v ≤ 255) ∧ n1 ≤ d ∧ (0 ≤ i ∧ i + n1 ≤ 6000000000) ∧ DevIs w0 g D1 X1 ∧ D1.size = D.size ∧ D1.offs < 1000000000000 ∧ D1.writes + n1 < 1000000000000 ∧ Hid (pwl n D (first + q) bs = pwl d D1 i b1) ∧ Known w0 wr (X1 ++ L))
      case atStart => exact ⟨D, X, bs, A, n, c, first + q, rfl, by go_num, R, hc, HB, by omega, by omega, hD, rfl, ho, hw, Lib.hid rfl, K⟩
      case round =>
        clear K R hc hD ho hw hp2 HB
        obtain ⟨D1, X1, b1, A1, n1, c1, i, rfl, rfl, R, hc, HB, hd, hi, hD, hsz, ho, hw, HP, K⟩ := hrel
        have hxl := R.len
        by_cases h0 : n1 = 0
        · subst h0
          have hb1 : b1 = [] := List.eq_nil_of_length_eq_zero hxl
          have HR2 := Lib.hid (show pwrite D first count at_ bs = (0, D1) by rw [HR.out, HP.out, hb1, pwl_nil])
          clear hb1 hxl
          go_wp2
          go_ret
          exact ⟨by rw [HR2.out]; rfl, X1, by rw [HR2.out]; exact hD, K⟩
        · obtain ⟨d, rfl⟩ : ∃ d, gk = d + 1 := ⟨gk - 1, by omega⟩
          have hn0 : (0 : Int) < (n1 : Int) := by omega
          have hb1 : b1 ≠ [] := by intro e; rw [e] at hxl; simp at hxl; omega
          have i3 := IntWalk.i64_in (i + 1) (by omega)
          obtain ⟨m, hm1⟩ : ∃ m, m = min D.size n1 := ⟨_, rfl⟩
          have hmin : ((min D.size n1 : Nat) : Int) = (m : Int) := by rw [hm1]
          have RC := R.cutE m (n1 - m) (by omega) hc
          have hdr : b1.drop m = b1.drop D.size := by
            rw [hm1]
            rcases Nat.le_total D.size n1 with h | h
            · rw [Nat.min_eq_left h]
            · rw [Nat.min_eq_right h, List.drop_eq_nil_of_le (by omega), List.drop_eq_nil_of_le (by omega)]
          rw [hdr] at RC
          have hm2 : m ≤ n1 ∧ 1 ≤ m ∧ m ≤ D.size := by omega
          clear hm1
          have HB2 := Lib.hid (show ∀ v ∈ zpad D.size b1, 0 ≤ v ∧ v ≤ 255 from zpad_byte HB.out)
          have HB3 := Lib.hid (show ∀ v ∈ b1.drop D.size, 0 ≤ v ∧ v ≤ 255 from fun v h => HB.out v (List.mem_of_mem_drop h))
          have hds := hs
          have hsame := Lib.hid (dwrite_same D1 i (zpad D.size b1))
          obtain ⟨res, hres⟩ : ∃ res, res = dwrite D1 i (zpad D.size b1) := ⟨_, rfl⟩
          have HRES := Lib.hid hres
          by_cases he : res.1 = 0
          · have HP2 := Lib.hid (show pwl n D (first + q) bs = pwl d res.2 (i + 1) (b1.drop D.size) by rw [HP.out, pwl, hsz, if_neg hb1, if_neg (by rw [← hres, he]; simp), ← hres])
            have hz := dwrite_zero (D := D1) (i := i) (b := zpad D.size b1) (by rw [← hres]; exact he)
            rw [← hres] at hz
            rw [← hres] at hsame
            have he2 : (res.1 != 0) = false := by simp [he]
            clear hres hb1 hxl hdr h0
            go_wp2_with (first | ((with_reducible refine at_load rfl ?_); refine wpList_reads (by rfl) (kr_load_cell K _ _ (by rfl) (by rfl) (by repeat (first | with_reducible assumption | with_reducible exact Has.hd _ _ | with_reducible refine Has.tl _ ?_ | with_reducible refine Has.ap _ ?_)) (by kernel_rfl) (by rfl)) ?_) | ((with_reducible refine at_makeSlice rfl ?_); refine wpList_does rfl (kd_make (z := .int .u8 0) (bytes := 1) K 24 5 rfl Try.underlying24 (by kernel_rfl) rfl (D.size) (D.size) rfl rfl (by omega) (by omega) (by omega)) ?_; clear K; rintro _ w1 ⟨gb, rfl, K⟩; rw [fcells_repl] at K) | (go_at_call 36; (with_reducible refine (swrite_any K hD i (RdS.ofU8s (Has.hd _ _) (zpad_len _ _)) HB2.out (by omega) ho (by omega)).mono ?_); clear K; rintro e w1 ⟨rfl, X2, hD2, K⟩; rw [← HRES.out]; rw [← HRES.out] at hD2) | ((with_reducible refine at_slice (l := some _) (h := none) rfl ?_); refine wpList_reads rfl (kr_cut rfl rfl (m) (n1 - m) (.inr ⟨_, _, by rfl, by rfl, by omega⟩) (.inl ⟨by rfl, by omega⟩) (by omega) (by omega) Try.underlying24 (by kernel_rfl)) ?_) | ((with_reducible refine at_copy rfl ?_); refine wpList_does rfl (kd_copy K rfl rfl rfl (R.at_ _ (K.cov (by repeat (first | with_reducible exact Cov.all _ | with_reducible exact Cov.left _ _ | with_reducible exact Cov.nil _ | (with_reducible apply Cov.app; (· repeat (first | with_reducible exact Sel.nil _ | with_reducible exact Sel.ap _ _ | with_reducible exact Sel.hd _ _ | with_reducible exact Sel.all _ | with_reducible apply Sel.tl | with_reducible apply Sel.sk))) | (with_reducible apply Cov.cons; (· repeat (first | with_reducible exact Sel.nil _ | with_reducible exact Sel.ap _ _ | with_reducible exact Sel.hd _ _ | with_reducible exact Sel.all _ | with_reducible apply Sel.tl | with_reducible apply Sel.sk))) | with_reducible refine Cov.drop _ ?_ | with_reducible refine Cov.skip _ ?_)))) Try.underlying24 (by kernel_rfl) (by repeat (first | with_reducible exact Repl.hd _ _ _ | with_reducible apply Repl.tl | with_reducible apply Repl.ap)) (by simp only [fcells_size]; omega)) ?_; clear K; rintro _ w1 ⟨rfl, K⟩; rw [zpad_copy] at K; rw [hmin]; replace K : Known w0 _ (X1 ++ (row gb (u8s (zpad D.size b1)) 5 :: L)) := K.cov (by repeat (first | with_reducible exact Cov.all _ | with_reducible exact Cov.left _ _ | with_reducible exact Cov.nil _ | (with_reducible apply Cov.app; (· repeat (first | with_reducible exact Sel.nil _ | with_reducible exact Sel.ap _ _ | with_reducible exact Sel.hd _ _ | with_reducible exact Sel.all _ | with_reducible apply Sel.tl | with_reducible apply Sel.sk))) | (with_reducible apply Cov.cons; (· repeat (first | with_reducible exact Sel.nil _ | with_reducible exact Sel.ap _ _ | with_reducible exact Sel.hd _ _ | with_reducible exact Sel.all _ | with_reducible apply Sel.tl | with_reducible apply Sel.sk))) | with_reducible refine Cov.drop _ ?_ | with_reducible refine Cov.skip _ ?_))))
            go_roundg d
            case measure => omega
            case rel => exact ⟨res.2, X2, b1.drop D.size, _, _, _, _, rfl, by go_num, RC, by omega, HB3, by omega, by omega, hD2, by rw [hsame.out.1, hsz], by rw [hz.1]; exact ho, by rw [hz.2]; omega, HP2, K.cov (by repeat (first | with_reducible exact Cov.all _ | with_reducible exact Cov.left _ _ | with_reducible exact Cov.nil _ | (with_reducible apply Cov.app; (· repeat (first | with_reducible exact Sel.nil _ | with_reducible exact Sel.ap _ _ | with_reducible exact Sel.hd _ _ | with_reducible exact Sel.all _ | with_reducible apply Sel.tl | with_reducible apply Sel.sk))) | (with_reducible apply Cov.cons; (· repeat (first | with_reducible exact Sel.nil _ | with_reducible exact Sel.ap _ _ | with_reducible exact Sel.hd _ _ | with_reducible exact Sel.all _ | with_reducible apply Sel.tl | with_reducible apply Sel.sk))) | with_reducible refine Cov.drop _ ?_ | with_reducible refine Cov.skip _ ?_))⟩
          · have HP2 := Lib.hid (show pwrite D first count at_ bs = res by rw [HR.out, HP.out, pwl, hsz, if_neg hb1, if_pos (by rw [← hres]; exact he), ← hres])
            have he2 : (res.1 != 0) = true := by simpa using he
            clear hres hb1 hxl hdr h0 he
            go_wp2_with (first | ((with_reducible refine at_load rfl ?_); refine wpList_reads (by rfl) (kr_load_cell K _ _ (by rfl) (by rfl) (by repeat (first | with_reducible assumption | with_reducible exact Has.hd _ _ | with_reducible refine Has.tl _ ?_ | with_reducible refine Has.ap _ ?_)) (by kernel_rfl) (by rfl)) ?_) | ((with_reducible refine at_makeSlice rfl ?_); refine wpList_does rfl (kd_make (z := .int .u8 0) (bytes := 1) K 24 5 rfl Try.underlying24 (by kernel_rfl) rfl (D.size) (D.size) rfl rfl (by omega) (by omega) (by omega)) ?_; clear K; rintro _ w1 ⟨gb, rfl, K⟩; rw [fcells_repl] at K) | (go_at_call 36; (with_reducible refine (swrite_any K hD i (RdS.ofU8s (Has.hd _ _) (zpad_len _ _)) HB2.out (by omega) ho (by omega)).mono ?_); clear K; rintro e w1 ⟨rfl, X2, hD2, K⟩; rw [← HRES.out]; rw [← HRES.out] at hD2) | ((with_reducible refine at_slice (l := some _) (h := none) rfl ?_); refine wpList_reads rfl (kr_cut rfl rfl (m) (n1 - m) (.inr ⟨_, _, by rfl, by rfl, by omega⟩) (.inl ⟨by rfl, by omega⟩) (by omega) (by omega) Try.underlying24 (by kernel_rfl)) ?_) | ((with_reducible refine at_copy rfl ?_); refine wpList_does rfl (kd_copy K rfl rfl rfl (R.at_ _ (K.cov (by repeat (first | with_reducible exact Cov.all _ | with_reducible exact Cov.left _ _ | with_reducible exact Cov.nil _ | (with_reducible apply Cov.app; (· repeat (first | with_reducible exact Sel.nil _ | with_reducible exact Sel.ap _ _ | with_reducible exact Sel.hd _ _ | with_reducible exact Sel.all _ | with_reducible apply Sel.tl | with_reducible apply Sel.sk))) | (with_reducible apply Cov.cons; (· repeat (first | with_reducible exact Sel.nil _ | with_reducible exact Sel.ap _ _ | with_reducible exact Sel.hd _ _ | with_reducible exact Sel.all _ | with_reducible apply Sel.tl | with_reducible apply Sel.sk))) | with_reducible refine Cov.drop _ ?_ | with_reducible refine Cov.skip _ ?_)))) Try.underlying24 (by kernel_rfl) (by repeat (first | with_reducible exact Repl.hd _ _ _ | with_reducible apply Repl.tl | with_reducible apply Repl.ap)) (by simp only [fcells_size]; omega)) ?_; clear K; rintro _ w1 ⟨rfl, K⟩; rw [zpad_copy] at K; rw [hmin]; replace K : Known w0 _ (X1 ++ (row gb (u8s (zpad D.size b1)) 5 :: L)) := K.cov (by repeat (first | with_reducible exact Cov.all _ | with_reducible exact Cov.left _ _ | with_reducible exact Cov.nil _ | (with_reducible apply Cov.app; (· repeat (first | with_reducible exact Sel.nil _ | with_reducible exact Sel.ap _ _ | with_reducible exact Sel.hd _ _ | with_reducible exact Sel.all _ | with_reducible apply Sel.tl | with_reducible apply Sel.sk))) | (with_reducible apply Cov.cons; (· repeat (first | with_reducible exact Sel.nil _ | with_reducible exact Sel.ap _ _ | with_reducible exact Sel.hd _ _ | with_reducible exact Sel.all _ | with_reducible apply Sel.tl | with_reducible apply Sel.sk))) | with_reducible refine Cov.drop _ ?_ | with_reducible refine Cov.skip _ ?_))))
            go_ret
            exact ⟨by rw [HP2.out]; rfl, X2, by rw [HP2.out]; exact hD2, K.cov (by repeat (first | with_reducible exact Cov.all _ | with_reducible exact Cov.left _ _ | with_reducible exact Cov.nil _ | (with_reducible apply Cov.app; (· repeat (first | with_reducible exact Sel.nil _ | with_reducible exact Sel.ap _ _ | with_reducible exact Sel.hd _ _ | with_reducible exact Sel.all _ | with_reducible apply Sel.tl | with_reducible apply Sel.sk))) | (with_reducible apply Cov.cons; (· repeat (first | with_reducible exact Sel.nil _ | with_reducible exact Sel.ap _ _ | with_reducible exact Sel.hd _ _ | with_reducible exact Sel.all _ | with_reducible apply Sel.tl | with_reducible apply Sel.sk))) | with_reducible refine Cov.drop _ ?_ | with_reducible refine Cov.skip _ ?_))⟩
    · have h2' : fitsB (count * D.size) at_ n = false := by simpa using h2
      have hm : (Int.tmod at_ D.size != 0) = false := by simp [h1]
      have HR := Lib.hid (show pwrite D first count at_ bs = (5, D) by rw [pwrite, if_neg (by simp [h1]), hxl, if_pos h2'])
      clear h1 h2
      go_enter Try.func18, Try.ntmps18
      go_wp2_with (first | ((with_reducible refine at_load rfl ?_); refine wpList_reads (by rfl) (kr_load_cell K _ _ (by rfl) (by rfl) (by repeat (first | with_reducible assumption | with_reducible exact Has.hd _ _ | with_reducible refine Has.tl _ ?_ | with_reducible refine Has.ap _ ?_)) (by kernel_rfl) (by rfl)) ?_) | (go_at_call 42; (with_reducible refine (ssizeK K hD).mono ?_); clear K; rintro e w1 ⟨rfl, K⟩) | (go_at_call 58; (with_reducible refine (pfits_any K hD hp hcb _ _ _ rfl hat).mono ?_); clear K; rintro e w1 ⟨rfl, K⟩))
      go_ret
      exact ⟨by rw [HR.out]; rfl, X, by rw [HR.out]; exact hD, K⟩
  · have HR := Lib.hid (show pwrite D first count at_ bs = (1, D) by rw [pwrite, if_pos h1])
    have hm : (Int.tmod at_ D.size != 0) = true := by simpa using h1
    clear h1
    go_enter Try.func18, Try.ntmps18
    go_wp2_with (first | ((with_reducible refine at_load rfl ?_); refine wpList_reads (by rfl) (kr_load_cell K _ _ (by rfl) (by rfl) (by repeat (first | with_reducible assumption | with_reducible exact Has.hd _ _ | with_reducible refine Has.tl _ ?_ | with_reducible refine Has.ap _ ?_)) (by kernel_rfl) (by rfl)) ?_) | (go_at_call 42; (with_reducible refine (ssizeK K hD).mono ?_); clear K; rintro e w1 ⟨rfl, K⟩))
    go_ret
    exact ⟨by rw [HR.out]; rfl, X, by rw [HR.out]; exact hD, K⟩
end
end Go.Proofs.Ytokbloddaoakgaa
