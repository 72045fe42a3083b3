/-
  part: Read on a device (contract).
-/
import Derived.Test.YtokbloddaoakgaaPrtB
set_option linter.unusedVariables false
set_option linter.unusedSimpArgs false
namespace Go.Proofs.Ytokbloddaoakgaa
open Go.RowKit
def prl : Nat → Dev → Int → Int → Nat → List Int → List Int × Int
  | 0, _, _, _, _, acc => (acc, 0)
  | k + 1, D, f, a, need, acc => if need = 0 then (acc, 0) else if (dread D (f + a / D.size)).2 ≠ 0 then ([], (dread D (f + a / D.size)).2) else
      prl k D f (a + (((dread D (f + a / D.size)).1.drop (a % D.size).toNat).take need).length) (need - (((dread D (f + a / D.size)).1.drop (a % D.size).toNat).take need).length) (acc ++ ((dread D (f + a / D.size)).1.drop (a % D.size).toNat).take need)
def pread (D : Dev) (first count at_ : Int) (n : Int) : List Int × Int :=
  if fitsB (count * D.size) at_ n = false then ([], 5) else prl n.toNat D first at_ n.toNat []
theorem dread_full {D : Dev} (h : DevOk D) {i : Int} (h0 : (dread D i).2 = 0) : (dread D i).1.length = D.size := by
  unfold dread at h0 ⊢
  split at h0
  · next hc => exact absurd h0 hc
  · next hc =>
    rw [if_neg hc]
    unfold dface at h0 ⊢
    cases hw : afind D.waits i with
    | some f =>
      simp only [hw] at h0 ⊢
      have := (h.fw _ (afind_mem hw)).1
      cases ht : f.torn
      · simp [this.1 ht]
      · simp [ht] at h0
    | none =>
      simp only [hw] at h0 ⊢
      cases hk : afind D.kept i with
      | none => simp
      | some f =>
        simp only [hk] at h0 ⊢
        have := (h.fk _ (afind_mem hk)).1
        cases ht : f.torn
        · simp [this.1 ht]
        · simp [ht] at h0

section
variable {w0 w : World} {L X : List Ent} {g gp : Nat} {D : Dev} {first count : Int} {n : Nat}
set_option maxHeartbeats 1600000 in
set_option maxRecDepth 100000 in
theorem pread_any (K : Known w0 w (X ++ L)) (hD : DevIs w0 g D X) (hp : Has (prow gp g first count) L) (hcb : 0 ≤ count ∧ count ≤ 1048576) (hfb : 0 ≤ first ∧ first ≤ 1048576) (at_ : Int) (hat : -9223372036854775808 ≤ at_ ∧ at_ ≤ 9223372036854775807) (m : Int) :
    Calls Try.prog 17 #[.pointer (some ⟨gp, 0, none⟩), .int .i64 at_, .int .i64 m] w fun e w' => ∃ A n c, e = .returned (.tuple #[.slice A n c, .int .i64 (pread D first count at_ m).2]) ∧ ∃ Z, OwnL 5 1 A n c ((pread D first count at_ m).1.map (Value.int .u8)) Z ∧ n = (pread D first count at_ m).1.length ∧ Known w0 w' (X ++ (Z ++ L)) := by
  have hs := hD.ok.size
  have hok := hD.ok
  have hnn : D.size ≠ 0 := by omega
  by_cases h2 : fitsB (count * D.size) at_ m = true
  · have h3 := h2
    simp only [fitsB, Bool.and_eq_true, decide_eq_true_eq] at h3
    obtain ⟨f1, f2, f3, f4⟩ := h3
    have g1 : count * (D.size : Int) ≤ 1048576 * 4096 := Int.mul_le_mul hcb.2 (by omega) (by omega) (by omega)
    obtain ⟨n, rfl⟩ := Int.eq_ofNat_of_zero_le f2
    have HR := Lib.hid (show pread D first count at_ n = prl n D first at_ n [] by rw [pread, h2]; rfl)
    have hn9 : at_ + n ≤ 4294967296 := by omega
    have hnb : n ≤ 4294967296 := by omega
    clear f2 f3 f4 g1
    go_enter Try.func17, Try.ntmps17
    go_upto_region 7 with ((first | ((with_reducible refine at_load rfl ?_); refine wpList_reads (by rfl) (kr_load_cell K _ _ (by rfl) (by rfl) (by repeat (first | with_reducible assumption | with_reducible exact Has.hd _ _ | with_reducible refine Has.tl _ ?_ | with_reducible refine Has.ap _ ?_)) (by kernel_rfl) (by rfl)) ?_) | (go_at_call 42; (with_reducible refine (ssizeK K hD).mono ?_); clear K; rintro e w1 ⟨rfl, K⟩) | (go_at_call 58; (with_reducible refine (pfits_any K hD hp hcb _ _ _ rfl hat).mono ?_); clear K; rintro e w1 ⟨rfl, K⟩) | ((with_reducible refine at_makeSlice rfl ?_); refine wpList_does rfl (kd_make (z := .int .u8 0) (bytes := 1) K 24 5 rfl Try.underlying24 (by kernel_rfl) rfl 0 n rfl rfl (by omega) (by omega) (by omega)) ?_; clear K; rintro _ w1 ⟨gb, rfl, K⟩)))
    have O0 : OwnL 5 1 (some ⟨gb, 0, none⟩) 0 n (([] : List Int).map (Value.int .u8)) [row gb (Array.replicate n (.int .u8 0)) 5] := OwnL.made (Nat.zero_le _) (by omega)
    go_loopg [1, 9] n (fun d va v wr => ∃ (a : Int) (acc : List Int) (A1 : Option Addr) (l1 c1 need : Nat) (Z : List Ent), va = .int .i64 a ∧ v = .slice A1 l1 c1 ∧ OwnL 5 1 A1 l1 c1 (acc.map (Value.int .u8)) Z ∧ l1 + need = n ∧ need ≤ d ∧ 0 ≤ a ∧ a + need ≤ 4294967296 ∧ Hid (l1 = acc.length) ∧ Hid (prl n D first at_ n [] = prl d D first a need acc) ∧ Known w0 wr (X ++ (Z ++ L)))
    case atStart => exact ⟨at_, [], _, 0, n, n, _, rfl, rfl, O0, by omega, by omega, f1, by omega, Lib.hid rfl, Lib.hid rfl, K.cov (by repeat (first | with_reducible exact Cov.all _ | with_reducible exact Cov.left _ _ | with_reducible exact Cov.nil _ | (with_reducible apply Cov.app; (· repeat (first | with_reducible exact Sel.nil _ | with_reducible exact Sel.ap _ _ | with_reducible exact Sel.hd _ _ | with_reducible exact Sel.all _ | with_reducible apply Sel.tl | with_reducible apply Sel.sk))) | (with_reducible apply Cov.cons; (· repeat (first | with_reducible exact Sel.nil _ | with_reducible exact Sel.ap _ _ | with_reducible exact Sel.hd _ _ | with_reducible exact Sel.all _ | with_reducible apply Sel.tl | with_reducible apply Sel.sk))) | with_reducible refine Cov.drop _ ?_ | with_reducible refine Cov.skip _ ?_))⟩
    case round =>
      clear K O0 hn9
      obtain ⟨a, acc, A1, l1, c1, need, Z, rfl, rfl, O, hl, hd, ha, han, HL, HP, K⟩ := hrel
      by_cases h0 : need = 0
      · subst h0
        have e1 : l1 = n := by omega
        have HR2 := Lib.hid (show pread D first count at_ n = (acc, 0) by rw [HR.out, HP.out]; cases gk <;> simp [prl])
        have hlt : ¬ ((l1 : Int) < (n : Int)) := by omega
        clear e1
        go_wp2
        go_ret2
        exact ⟨_, _, _, by rw [HR2.out]; rfl, Z, by rw [HR2.out]; exact O, by rw [HR2.out]; exact HL.out, K⟩
      · obtain ⟨d, rfl⟩ : ∃ d, gk = d + 1 := ⟨gk - 1, by omega⟩
        have hlt : (l1 : Int) < (n : Int) := by omega
        obtain ⟨q, hq⟩ : ∃ q, a / (D.size : Int) = q := ⟨_, rfl⟩
        have hqb : 0 ≤ q ∧ q ≤ 4294967296 := by
          rw [← hq]
          exact ⟨Int.ediv_nonneg ha (by omega), Int.le_trans (Int.ediv_le_self _ ha) (by omega)⟩
        have htd : Int.tdiv a (D.size : Int) = q := by rw [Int.tdiv_eq_ediv_of_nonneg ha, hq]
        obtain ⟨ra, hra⟩ : ∃ ra : Nat, a % (D.size : Int) = ra := ⟨(a % (D.size : Int)).toNat, by have := Int.emod_nonneg a (b := (D.size : Int)) (by omega); omega⟩
        have hrb : ra < D.size := by have := Int.emod_lt_of_pos a (b := (D.size : Int)) (by omega); omega
        have htm : Int.tmod a (D.size : Int) = ra := by rw [Int.tmod_eq_emod_of_nonneg ha, hra]
        have i1 := IntWalk.i64_in q (by omega)
        have i2 := IntWalk.i64_in (first + q) (by omega)
        have i3 := IntWalk.i64_in ((n : Int) - (l1 : Int)) (by omega)
        obtain ⟨res, hres⟩ : ∃ res, res = dread D (first + q) := ⟨_, rfl⟩
        have HRES := Lib.hid hres
        have HP1 := Lib.hid (show prl n D first at_ n [] = if res.2 ≠ 0 then ([], res.2) else prl d D first (a + ((res.1.drop ra).take need).length) (need - ((res.1.drop ra).take need).length) (acc ++ (res.1.drop ra).take need) by
          rw [HP.out, prl, if_neg h0, hq, ← hres, hra]; rfl)
        have hp2 := Has.ap X (Has.ap Z hp)
        by_cases he : res.2 = 0
        · have he2 : (res.2 != 0) = false := by simp [he]
          have hfull : res.1.length = D.size := by rw [hres]; exact dread_full hok (by rw [← hres]; exact he)
          obtain ⟨mm, hmm⟩ : ∃ mm, mm = min (D.size - ra) need := ⟨_, rfl⟩
          have hml : ((res.1.drop ra).take need).length = mm := by rw [List.length_take, List.length_drop, hfull, hmm, Nat.min_comm]
          have hmin : min (((D.size - ra : Nat) : Int)) ((n : Int) - (l1 : Int)) = (mm : Int) := by omega
          have HP2 := Lib.hid (show prl n D first at_ n [] = prl d D first (a + mm) (need - mm) (acc ++ (res.1.drop ra).take need) by rw [HP1.out, if_neg (by simp [he]), hml])
          have hm2 : mm ≤ need ∧ 1 ≤ mm ∧ mm ≤ D.size - ra := by omega
          have i4 := IntWalk.i64_in (a + (mm : Int)) (by omega)
          have HMT := Lib.hid (show (res.1.drop ra).take mm = (res.1.drop ra).take need by
            rw [hmm, Nat.min_comm]
            rcases Nat.le_total need (D.size - ra) with h | h
            · rw [Nat.min_eq_left h]
            · rw [Nat.min_eq_right h, List.take_of_length_le (by simp; omega), List.take_of_length_le (by simp; omega)])
          have HML := Lib.hid hml
          have HFL := Lib.hid hfull
          clear hq hra hres hmm hml hfull h0
          go_upto_region 8 with (fail)
          refine wp_region_GK (X := (X ++ (Z ++ L))) K (by repeat (first | with_reducible exact Cov.all _ | with_reducible exact Cov.left _ _ | with_reducible exact Cov.nil _ | (with_reducible apply Cov.app; (· repeat (first | with_reducible exact Sel.nil _ | with_reducible exact Sel.ap _ _ | with_reducible exact Sel.hd _ _ | with_reducible exact Sel.all _ | with_reducible apply Sel.tl | with_reducible apply Sel.sk))) | (with_reducible apply Cov.cons; (· repeat (first | with_reducible exact Sel.nil _ | with_reducible exact Sel.ap _ _ | with_reducible exact Sel.hd _ _ | with_reducible exact Sel.all _ | with_reducible apply Sel.tl | with_reducible apply Sel.sk))) | with_reducible refine Cov.drop _ ?_ | with_reducible refine Cov.skip _ ?_)) (by kernel_rfl) (by kernel_rfl) (by kernel_rfl) (fun K hHeld => ?_)
          refine wpG_take (i := 0) (x := { dst := some 33, op := Op.move (Operand.tmp 0), type := 26, pos := "part.go:79", after := #[], guard := none }) (v := ?_) rfl (by kernel_rfl) (fun _ _ _ h => h) (Or.inl ⟨by rfl, ?_⟩) hHeld ?_
          rotate_left
          · (intro w hS; (clear hS; go_simp); try with_reducible rfl)
          try simp only [Act.put, List.setIfInBounds_toArray, List.set_cons_zero, List.set_cons_succ]
          refine wpG_take (i := 1) (x := { dst := some 34, op := Op.nilCheck (Operand.tmp 33), type := 0, pos := "part.go:79", after := #[{ on := 0, ground := Ground.data }], guard := none }) (v := ?_) rfl (by kernel_rfl) (fun _ _ _ h => h) (Or.inl ⟨by rfl, ?_⟩) hHeld ?_
          rotate_left
          · (intro w hS; (clear hS; go_simp); try with_reducible rfl)
          try simp only [Act.put, List.setIfInBounds_toArray, List.set_cons_zero, List.set_cons_succ]
          refine wpG_take (i := 2) (x := { dst := some 35, op := Op.fieldAddr 104 (Operand.tmp 34) 0, type := 0, pos := "part.go:79", after := #[{ on := 1, ground := Ground.data }], guard := none }) (v := ?_) rfl (by kernel_rfl) (fun _ _ _ h => h) (Or.inl ⟨by rfl, ?_⟩) hHeld ?_
          rotate_left
          · (intro w hS; (clear hS; go_simp); try with_reducible rfl)
          try simp only [Act.put, List.setIfInBounds_toArray, List.set_cons_zero, List.set_cons_succ]
          refine wpG_take (i := 3) (x := { dst := some 36, op := Op.load 36 (Operand.tmp 35), type := 36, pos := "part.go:79", after := #[{ on := 2, ground := Ground.data }], guard := none }) (v := .pointer (some ⟨g, 0, none⟩)) rfl (by kernel_rfl) (fun _ _ _ h => h) (Or.inl ⟨by rfl, ?_⟩) hHeld ?_
          · (intro w hS; first | exact kr_load_cell hS _ _ (by rfl) (by rfl) hp2 (by kernel_rfl) (by rfl))
          try simp only [Act.put, List.setIfInBounds_toArray, List.set_cons_zero, List.set_cons_succ]
          refine wpG_take (i := 4) (x := { dst := some 37, op := Op.move (Operand.tmp 0), type := 26, pos := "part.go:79", after := #[], guard := none }) (v := ?_) rfl (by kernel_rfl) (fun _ _ _ h => h) (Or.inl ⟨by rfl, ?_⟩) hHeld ?_
          rotate_left
          · (intro w hS; (clear hS; go_simp); try with_reducible rfl)
          try simp only [Act.put, List.setIfInBounds_toArray, List.set_cons_zero, List.set_cons_succ]
          refine wpG_take (i := 5) (x := { dst := some 38, op := Op.nilCheck (Operand.tmp 37), type := 0, pos := "part.go:79", after := #[{ on := 4, ground := Ground.data }], guard := none }) (v := ?_) rfl (by kernel_rfl) (fun _ _ _ h => h) (Or.inl ⟨by rfl, ?_⟩) hHeld ?_
          rotate_left
          · (intro w hS; (clear hS; go_simp); try with_reducible rfl)
          try simp only [Act.put, List.setIfInBounds_toArray, List.set_cons_zero, List.set_cons_succ]
          refine wpG_take (i := 6) (x := { dst := some 39, op := Op.fieldAddr 104 (Operand.tmp 38) 1, type := 0, pos := "part.go:79", after := #[{ on := 5, ground := Ground.data }], guard := none }) (v := ?_) rfl (by kernel_rfl) (fun _ _ _ h => h) (Or.inl ⟨by rfl, ?_⟩) hHeld ?_
          rotate_left
          · (intro w hS; (clear hS; go_simp); try with_reducible rfl)
          try simp only [Act.put, List.setIfInBounds_toArray, List.set_cons_zero, List.set_cons_succ]
          refine wpG_take (i := 7) (x := { dst := some 40, op := Op.fieldAddr 23 (Operand.tmp 39) 0, type := 0, pos := "part.go:79", after := #[{ on := 6, ground := Ground.data }], guard := none }) (v := ?_) rfl (by kernel_rfl) (fun _ _ _ h => h) (Or.inl ⟨by rfl, ?_⟩) hHeld ?_
          rotate_left
          · (intro w hS; (clear hS; go_simp); try with_reducible rfl)
          try simp only [Act.put, List.setIfInBounds_toArray, List.set_cons_zero, List.set_cons_succ]
          refine wpG_take (i := 8) (x := { dst := some 41, op := Op.load 3 (Operand.tmp 40), type := 3, pos := "part.go:79", after := #[{ on := 7, ground := Ground.data }], guard := none }) (v := .int .i64 first) rfl (by kernel_rfl) (fun _ _ _ h => h) (Or.inl ⟨by rfl, ?_⟩) hHeld ?_
          · (intro w hS; first | exact kr_load_cell hS _ _ (by rfl) (by rfl) hp2 (by kernel_rfl) (by rfl))
          try simp only [Act.put, List.setIfInBounds_toArray, List.set_cons_zero, List.set_cons_succ]
          refine wpG_take (i := 9) (x := { dst := some 42, op := Op.move (Operand.tmp 1), type := 3, pos := "part.go:79", after := #[], guard := none }) (v := ?_) rfl (by kernel_rfl) (fun _ _ _ h => h) (Or.inl ⟨by rfl, ?_⟩) hHeld ?_
          rotate_left
          · (intro w hS; (clear hS; go_simp); try with_reducible rfl)
          try simp only [Act.put, List.setIfInBounds_toArray, List.set_cons_zero, List.set_cons_succ]
          refine wpG_take (i := 10) (x := { dst := some 43, op := Op.move (Operand.tmp 8), type := 3, pos := "part.go:79", after := #[], guard := none }) (v := ?_) rfl (by kernel_rfl) (fun _ _ _ h => h) (Or.inl ⟨by rfl, ?_⟩) hHeld ?_
          rotate_left
          · (intro w hS; (clear hS; go_simp); try with_reducible rfl)
          try simp only [Act.put, List.setIfInBounds_toArray, List.set_cons_zero, List.set_cons_succ]
          refine wpG_take (i := 11) (x := { dst := some 44, op := Op.binOp BinOp.quo 3 (Operand.tmp 42) (Operand.tmp 43) 3, type := 3, pos := "part.go:79", after := #[{ on := 9, ground := Ground.data }, { on := 10, ground := Ground.data }], guard := none }) (v := ?_) rfl (by kernel_rfl) (fun _ _ _ h => h) (Or.inl ⟨by rfl, ?_⟩) hHeld ?_
          rotate_left
          · (intro w hS; (clear hS; go_simp); try with_reducible rfl)
          try simp only [Act.put, List.setIfInBounds_toArray, List.set_cons_zero, List.set_cons_succ]
          refine wpG_take (i := 12) (x := { dst := some 45, op := Op.binOp BinOp.add 3 (Operand.tmp 41) (Operand.tmp 44) 3, type := 3, pos := "part.go:79", after := #[{ on := 8, ground := Ground.data }, { on := 11, ground := Ground.data }], guard := none }) (v := ?_) rfl (by kernel_rfl) (fun _ _ _ h => h) (Or.inl ⟨by rfl, ?_⟩) hHeld ?_
          rotate_left
          · (intro w hS; (clear hS; go_simp); try with_reducible rfl)
          try simp only [Act.put, List.setIfInBounds_toArray, List.set_cons_zero, List.set_cons_succ]
          refine wpG_one (i := 13) (o := { dst := some 46, op := Op.call { callee := Callee.value (Operand.func 35), args := #[Operand.tmp 36, Operand.tmp 45], argTypes := #[36, 3] }, type := 30, pos := "part.go:79", after := #[{ on := 3, ground := Ground.data }, { on := 12, ground := Ground.data }], guard := none }) rfl (by kernel_rfl) (fun K9 hK => ?_)
          go_simp
          (go_at_call 35; (with_reducible refine (sread_any K hD (first + q)).mono ?_); clear K; rintro e w1 ⟨A2, n2, c2, rfl, Z2, O2, hn2, K⟩)
          refine hK.out _ _ (K.cov (by repeat (first | with_reducible exact Cov.all _ | with_reducible exact Cov.left _ _ | with_reducible exact Cov.nil _ | (with_reducible apply Cov.app; (· repeat (first | with_reducible exact Sel.nil _ | with_reducible exact Sel.ap _ _ | with_reducible exact Sel.hd _ _ | with_reducible exact Sel.all _ | with_reducible apply Sel.tl | with_reducible apply Sel.sk))) | (with_reducible apply Cov.cons; (· repeat (first | with_reducible exact Sel.nil _ | with_reducible exact Sel.ap _ _ | with_reducible exact Sel.hd _ _ | with_reducible exact Sel.all _ | with_reducible apply Sel.tl | with_reducible apply Sel.sk))) | with_reducible refine Cov.drop _ ?_ | with_reducible refine Cov.skip _ ?_))) (fun hHeld => ?_)
          clear hK K9
          try simp only [Act.put, List.setIfInBounds_toArray, List.set_cons_zero, List.set_cons_succ]
          refine wpG_take (i := 14) (x := { dst := some 32, op := Op.move (Operand.tmp 46), type := 30, pos := "part.go:79", after := #[{ on := 13, ground := Ground.data }], guard := none }) (v := ?_) rfl (by kernel_rfl) (fun _ _ _ h => h) (Or.inl ⟨by rfl, ?_⟩) hHeld ?_
          rotate_left
          · (intro w hS; (clear hS; go_simp); try with_reducible rfl)
          try simp only [Act.put, List.setIfInBounds_toArray, List.set_cons_zero, List.set_cons_succ]
          refine wpG_take (i := 15) (x := { dst := some 47, op := Op.extract (Operand.tmp 32) 0, type := 24, pos := "part.go:79", after := #[{ on := 14, ground := Ground.data }], guard := none }) (v := ?_) rfl (by kernel_rfl) (fun _ _ _ h => h) (Or.inl ⟨by rfl, ?_⟩) hHeld ?_
          rotate_left
          · (intro w hS; (clear hS; go_simp); try with_reducible rfl)
          try simp only [Act.put, List.setIfInBounds_toArray, List.set_cons_zero, List.set_cons_succ]
          refine wpG_take (i := 16) (x := { dst := some 48, op := Op.extract (Operand.tmp 32) 1, type := 27, pos := "part.go:79", after := #[{ on := 14, ground := Ground.data }, { on := 17, ground := Ground.gcOnly Departure.lateStores }], guard := none }) (v := ?_) rfl (by kernel_rfl) (fun _ _ _ h => h) (Or.inl ⟨by rfl, ?_⟩) hHeld ?_
          rotate_left
          · (intro w hS; (clear hS; go_simp); try with_reducible rfl)
          try simp only [Act.put, List.setIfInBounds_toArray, List.set_cons_zero, List.set_cons_succ]
          refine wpG_take (i := 17) (x := { dst := some 10, op := Op.assign (Operand.tmp 47), type := 24, pos := "part.go:79", after := #[{ on := 15, ground := Ground.data }, { on := 13, ground := Ground.chain }, { on := 0, ground := Ground.phase }, { on := 1, ground := Ground.phase }, { on := 2, ground := Ground.phase }, { on := 3, ground := Ground.phase }, { on := 4, ground := Ground.phase }, { on := 5, ground := Ground.phase }, { on := 6, ground := Ground.phase }, { on := 7, ground := Ground.phase }, { on := 8, ground := Ground.phase }, { on := 9, ground := Ground.phase }, { on := 10, ground := Ground.phase }, { on := 11, ground := Ground.phase }, { on := 12, ground := Ground.phase }, { on := 13, ground := Ground.phase }, { on := 14, ground := Ground.phase }, { on := 15, ground := Ground.phase }, { on := 16, ground := Ground.textOnly Departure.lateStores }], guard := none }) (v := ?_) rfl (by kernel_rfl) (fun _ _ _ h => h) (Or.inl ⟨by rfl, ?_⟩) hHeld ?_
          rotate_left
          · (intro w hS; (clear hS; go_simp); try with_reducible rfl)
          try simp only [Act.put, List.setIfInBounds_toArray, List.set_cons_zero, List.set_cons_succ]
          refine wpG_take (i := 18) (x := { dst := some 11, op := Op.assign (Operand.tmp 48), type := 27, pos := "part.go:79", after := #[{ on := 16, ground := Ground.data }, { on := 17, ground := Ground.chain }, { on := 0, ground := Ground.phase }, { on := 1, ground := Ground.phase }, { on := 2, ground := Ground.phase }, { on := 3, ground := Ground.phase }, { on := 4, ground := Ground.phase }, { on := 5, ground := Ground.phase }, { on := 6, ground := Ground.phase }, { on := 7, ground := Ground.phase }, { on := 8, ground := Ground.phase }, { on := 9, ground := Ground.phase }, { on := 10, ground := Ground.phase }, { on := 11, ground := Ground.phase }, { on := 12, ground := Ground.phase }, { on := 13, ground := Ground.phase }, { on := 14, ground := Ground.phase }, { on := 15, ground := Ground.phase }, { on := 16, ground := Ground.phase }, { on := 17, ground := Ground.phase }], guard := none }) (v := ?_) rfl (by kernel_rfl) (fun _ _ _ h => h) (Or.inl ⟨by rfl, ?_⟩) hHeld ?_
          rotate_left
          · (intro w hS; (clear hS; go_simp); try with_reducible rfl)
          try simp only [Act.put, List.setIfInBounds_toArray, List.set_cons_zero, List.set_cons_succ]
          refine wpG_done (by kernel_rfl) ?_
          skip
          rw [← HRES.out] at O2 hn2 ⊢
          rw [HFL.out] at hn2 ⊢
          subst hn2
          have hc2 := O2.le
          have RC := ((RdS.own (w0 := w0) (L := Z2 ++ (X ++ (Z ++ L))) O2 (Seg.ap Z2 _)).cutE ra (D.size - ra) (by omega) hc2).cut 0 mm (by omega) (c := c2 - ra) (by omega)
          rw [List.drop_zero, HMT.out] at RC
          clear HP1 HP HMT htd i1
          go_wp2_with (first | ((with_reducible refine at_slice (l := some _) (h := none) rfl ?_); refine wpList_reads rfl (kr_cut rfl rfl (ra) (D.size - ra) (.inr ⟨_, _, by rfl, by rfl, by omega⟩) (.inl ⟨by rfl, by omega⟩) (by omega) (by omega) Try.underlying24 (by kernel_rfl)) ?_) | ((with_reducible refine at_slice (l := none) (h := some _) rfl ?_); refine wpList_reads rfl (kr_cut rfl rfl (0) (mm) (.inl ⟨by rfl, by omega⟩) (.inr ⟨_, _, by rfl, by rfl, by omega⟩) (by omega) (by omega) Try.underlying24 (by kernel_rfl)) ?_) | (at_builtin; refine wpList_does rfl (kd_appendN K _ _ rfl rfl rfl (by with_reducible assumption) (by repeat (first | with_reducible exact Seg.nil _ | with_reducible exact Seg.all _ | with_reducible exact Seg.ap _ _ | with_reducible exact Seg.hd _ _ | with_reducible apply Seg.tl | with_reducible apply Seg.sk)) (RC.at_ _ (K.cov (by repeat (first | with_reducible exact Cov.all _ | with_reducible exact Cov.left _ _ | with_reducible exact Cov.nil _ | (with_reducible apply Cov.app; (· repeat (first | with_reducible exact Sel.nil _ | with_reducible exact Sel.ap _ _ | with_reducible exact Sel.hd _ _ | with_reducible exact Sel.all _ | with_reducible apply Sel.tl | with_reducible apply Sel.sk))) | (with_reducible apply Cov.cons; (· repeat (first | with_reducible exact Sel.nil _ | with_reducible exact Sel.ap _ _ | with_reducible exact Sel.hd _ _ | with_reducible exact Sel.all _ | with_reducible apply Sel.tl | with_reducible apply Sel.sk))) | with_reducible refine Cov.drop _ ?_ | with_reducible refine Cov.skip _ ?_)))) (by kernel_rfl) (by kernel_rfl) (by omega)) ?_; clear K; rintro _ w1 ⟨A3, c3, Z3, rfl, O3, K⟩; (try simp only [Nat.zero_add, List.nil_append] at O3)))
          go_roundg d
          case measure => omega
          case rel => exact ⟨a + mm, _, A3, l1 + mm, c3, need - mm, Z3, by go_num, rfl, O3, by omega, by omega, by omega, by omega, Lib.hid (by rw [List.length_append, HML.out, HL.out]), HP2, K.cov (by repeat (first | with_reducible exact Cov.all _ | with_reducible exact Cov.left _ _ | with_reducible exact Cov.nil _ | (with_reducible apply Cov.app; (· repeat (first | with_reducible exact Sel.nil _ | with_reducible exact Sel.ap _ _ | with_reducible exact Sel.hd _ _ | with_reducible exact Sel.all _ | with_reducible apply Sel.tl | with_reducible apply Sel.sk))) | (with_reducible apply Cov.cons; (· repeat (first | with_reducible exact Sel.nil _ | with_reducible exact Sel.ap _ _ | with_reducible exact Sel.hd _ _ | with_reducible exact Sel.all _ | with_reducible apply Sel.tl | with_reducible apply Sel.sk))) | with_reducible refine Cov.drop _ ?_ | with_reducible refine Cov.skip _ ?_))⟩
        · have he2 : (res.2 != 0) = true := by simpa using he
          have HR2 := Lib.hid (show pread D first count at_ n = ([], res.2) by rw [HR.out, HP1.out, if_pos he])
          clear hq hra hres h0 HP1 HP he
          go_upto_region 8 with (fail)
          refine wp_region_GK (X := (X ++ (Z ++ L))) K (by repeat (first | with_reducible exact Cov.all _ | with_reducible exact Cov.left _ _ | with_reducible exact Cov.nil _ | (with_reducible apply Cov.app; (· repeat (first | with_reducible exact Sel.nil _ | with_reducible exact Sel.ap _ _ | with_reducible exact Sel.hd _ _ | with_reducible exact Sel.all _ | with_reducible apply Sel.tl | with_reducible apply Sel.sk))) | (with_reducible apply Cov.cons; (· repeat (first | with_reducible exact Sel.nil _ | with_reducible exact Sel.ap _ _ | with_reducible exact Sel.hd _ _ | with_reducible exact Sel.all _ | with_reducible apply Sel.tl | with_reducible apply Sel.sk))) | with_reducible refine Cov.drop _ ?_ | with_reducible refine Cov.skip _ ?_)) (by kernel_rfl) (by kernel_rfl) (by kernel_rfl) (fun K hHeld => ?_)
          refine wpG_take (i := 0) (x := { dst := some 33, op := Op.move (Operand.tmp 0), type := 26, pos := "part.go:79", after := #[], guard := none }) (v := ?_) rfl (by kernel_rfl) (fun _ _ _ h => h) (Or.inl ⟨by rfl, ?_⟩) hHeld ?_
          rotate_left
          · (intro w hS; (clear hS; go_simp); try with_reducible rfl)
          try simp only [Act.put, List.setIfInBounds_toArray, List.set_cons_zero, List.set_cons_succ]
          refine wpG_take (i := 1) (x := { dst := some 34, op := Op.nilCheck (Operand.tmp 33), type := 0, pos := "part.go:79", after := #[{ on := 0, ground := Ground.data }], guard := none }) (v := ?_) rfl (by kernel_rfl) (fun _ _ _ h => h) (Or.inl ⟨by rfl, ?_⟩) hHeld ?_
          rotate_left
          · (intro w hS; (clear hS; go_simp); try with_reducible rfl)
          try simp only [Act.put, List.setIfInBounds_toArray, List.set_cons_zero, List.set_cons_succ]
          refine wpG_take (i := 2) (x := { dst := some 35, op := Op.fieldAddr 104 (Operand.tmp 34) 0, type := 0, pos := "part.go:79", after := #[{ on := 1, ground := Ground.data }], guard := none }) (v := ?_) rfl (by kernel_rfl) (fun _ _ _ h => h) (Or.inl ⟨by rfl, ?_⟩) hHeld ?_
          rotate_left
          · (intro w hS; (clear hS; go_simp); try with_reducible rfl)
          try simp only [Act.put, List.setIfInBounds_toArray, List.set_cons_zero, List.set_cons_succ]
          refine wpG_take (i := 3) (x := { dst := some 36, op := Op.load 36 (Operand.tmp 35), type := 36, pos := "part.go:79", after := #[{ on := 2, ground := Ground.data }], guard := none }) (v := .pointer (some ⟨g, 0, none⟩)) rfl (by kernel_rfl) (fun _ _ _ h => h) (Or.inl ⟨by rfl, ?_⟩) hHeld ?_
          · (intro w hS; first | exact kr_load_cell hS _ _ (by rfl) (by rfl) hp2 (by kernel_rfl) (by rfl))
          try simp only [Act.put, List.setIfInBounds_toArray, List.set_cons_zero, List.set_cons_succ]
          refine wpG_take (i := 4) (x := { dst := some 37, op := Op.move (Operand.tmp 0), type := 26, pos := "part.go:79", after := #[], guard := none }) (v := ?_) rfl (by kernel_rfl) (fun _ _ _ h => h) (Or.inl ⟨by rfl, ?_⟩) hHeld ?_
          rotate_left
          · (intro w hS; (clear hS; go_simp); try with_reducible rfl)
          try simp only [Act.put, List.setIfInBounds_toArray, List.set_cons_zero, List.set_cons_succ]
          refine wpG_take (i := 5) (x := { dst := some 38, op := Op.nilCheck (Operand.tmp 37), type := 0, pos := "part.go:79", after := #[{ on := 4, ground := Ground.data }], guard := none }) (v := ?_) rfl (by kernel_rfl) (fun _ _ _ h => h) (Or.inl ⟨by rfl, ?_⟩) hHeld ?_
          rotate_left
          · (intro w hS; (clear hS; go_simp); try with_reducible rfl)
          try simp only [Act.put, List.setIfInBounds_toArray, List.set_cons_zero, List.set_cons_succ]
          refine wpG_take (i := 6) (x := { dst := some 39, op := Op.fieldAddr 104 (Operand.tmp 38) 1, type := 0, pos := "part.go:79", after := #[{ on := 5, ground := Ground.data }], guard := none }) (v := ?_) rfl (by kernel_rfl) (fun _ _ _ h => h) (Or.inl ⟨by rfl, ?_⟩) hHeld ?_
          rotate_left
          · (intro w hS; (clear hS; go_simp); try with_reducible rfl)
          try simp only [Act.put, List.setIfInBounds_toArray, List.set_cons_zero, List.set_cons_succ]
          refine wpG_take (i := 7) (x := { dst := some 40, op := Op.fieldAddr 23 (Operand.tmp 39) 0, type := 0, pos := "part.go:79", after := #[{ on := 6, ground := Ground.data }], guard := none }) (v := ?_) rfl (by kernel_rfl) (fun _ _ _ h => h) (Or.inl ⟨by rfl, ?_⟩) hHeld ?_
          rotate_left
          · (intro w hS; (clear hS; go_simp); try with_reducible rfl)
          try simp only [Act.put, List.setIfInBounds_toArray, List.set_cons_zero, List.set_cons_succ]
          refine wpG_take (i := 8) (x := { dst := some 41, op := Op.load 3 (Operand.tmp 40), type := 3, pos := "part.go:79", after := #[{ on := 7, ground := Ground.data }], guard := none }) (v := .int .i64 first) rfl (by kernel_rfl) (fun _ _ _ h => h) (Or.inl ⟨by rfl, ?_⟩) hHeld ?_
          · (intro w hS; first | exact kr_load_cell hS _ _ (by rfl) (by rfl) hp2 (by kernel_rfl) (by rfl))
          try simp only [Act.put, List.setIfInBounds_toArray, List.set_cons_zero, List.set_cons_succ]
          refine wpG_take (i := 9) (x := { dst := some 42, op := Op.move (Operand.tmp 1), type := 3, pos := "part.go:79", after := #[], guard := none }) (v := ?_) rfl (by kernel_rfl) (fun _ _ _ h => h) (Or.inl ⟨by rfl, ?_⟩) hHeld ?_
          rotate_left
          · (intro w hS; (clear hS; go_simp); try with_reducible rfl)
          try simp only [Act.put, List.setIfInBounds_toArray, List.set_cons_zero, List.set_cons_succ]
          refine wpG_take (i := 10) (x := { dst := some 43, op := Op.move (Operand.tmp 8), type := 3, pos := "part.go:79", after := #[], guard := none }) (v := ?_) rfl (by kernel_rfl) (fun _ _ _ h => h) (Or.inl ⟨by rfl, ?_⟩) hHeld ?_
          rotate_left
          · (intro w hS; (clear hS; go_simp); try with_reducible rfl)
          try simp only [Act.put, List.setIfInBounds_toArray, List.set_cons_zero, List.set_cons_succ]
          refine wpG_take (i := 11) (x := { dst := some 44, op := Op.binOp BinOp.quo 3 (Operand.tmp 42) (Operand.tmp 43) 3, type := 3, pos := "part.go:79", after := #[{ on := 9, ground := Ground.data }, { on := 10, ground := Ground.data }], guard := none }) (v := ?_) rfl (by kernel_rfl) (fun _ _ _ h => h) (Or.inl ⟨by rfl, ?_⟩) hHeld ?_
          rotate_left
          · (intro w hS; (clear hS; go_simp); try with_reducible rfl)
          try simp only [Act.put, List.setIfInBounds_toArray, List.set_cons_zero, List.set_cons_succ]
          refine wpG_take (i := 12) (x := { dst := some 45, op := Op.binOp BinOp.add 3 (Operand.tmp 41) (Operand.tmp 44) 3, type := 3, pos := "part.go:79", after := #[{ on := 8, ground := Ground.data }, { on := 11, ground := Ground.data }], guard := none }) (v := ?_) rfl (by kernel_rfl) (fun _ _ _ h => h) (Or.inl ⟨by rfl, ?_⟩) hHeld ?_
          rotate_left
          · (intro w hS; (clear hS; go_simp); try with_reducible rfl)
          try simp only [Act.put, List.setIfInBounds_toArray, List.set_cons_zero, List.set_cons_succ]
          refine wpG_one (i := 13) (o := { dst := some 46, op := Op.call { callee := Callee.value (Operand.func 35), args := #[Operand.tmp 36, Operand.tmp 45], argTypes := #[36, 3] }, type := 30, pos := "part.go:79", after := #[{ on := 3, ground := Ground.data }, { on := 12, ground := Ground.data }], guard := none }) rfl (by kernel_rfl) (fun K9 hK => ?_)
          go_simp
          (go_at_call 35; (with_reducible refine (sread_any K hD (first + q)).mono ?_); clear K; rintro e w1 ⟨A2, n2, c2, rfl, Z2, O2, hn2, K⟩)
          refine hK.out _ _ (K.cov (by repeat (first | with_reducible exact Cov.all _ | with_reducible exact Cov.left _ _ | with_reducible exact Cov.nil _ | (with_reducible apply Cov.app; (· repeat (first | with_reducible exact Sel.nil _ | with_reducible exact Sel.ap _ _ | with_reducible exact Sel.hd _ _ | with_reducible exact Sel.all _ | with_reducible apply Sel.tl | with_reducible apply Sel.sk))) | (with_reducible apply Cov.cons; (· repeat (first | with_reducible exact Sel.nil _ | with_reducible exact Sel.ap _ _ | with_reducible exact Sel.hd _ _ | with_reducible exact Sel.all _ | with_reducible apply Sel.tl | with_reducible apply Sel.sk))) | with_reducible refine Cov.drop _ ?_ | with_reducible refine Cov.skip _ ?_))) (fun hHeld => ?_)
          clear hK K9
          try simp only [Act.put, List.setIfInBounds_toArray, List.set_cons_zero, List.set_cons_succ]
          refine wpG_take (i := 14) (x := { dst := some 32, op := Op.move (Operand.tmp 46), type := 30, pos := "part.go:79", after := #[{ on := 13, ground := Ground.data }], guard := none }) (v := ?_) rfl (by kernel_rfl) (fun _ _ _ h => h) (Or.inl ⟨by rfl, ?_⟩) hHeld ?_
          rotate_left
          · (intro w hS; (clear hS; go_simp); try with_reducible rfl)
          try simp only [Act.put, List.setIfInBounds_toArray, List.set_cons_zero, List.set_cons_succ]
          refine wpG_take (i := 15) (x := { dst := some 47, op := Op.extract (Operand.tmp 32) 0, type := 24, pos := "part.go:79", after := #[{ on := 14, ground := Ground.data }], guard := none }) (v := ?_) rfl (by kernel_rfl) (fun _ _ _ h => h) (Or.inl ⟨by rfl, ?_⟩) hHeld ?_
          rotate_left
          · (intro w hS; (clear hS; go_simp); try with_reducible rfl)
          try simp only [Act.put, List.setIfInBounds_toArray, List.set_cons_zero, List.set_cons_succ]
          refine wpG_take (i := 16) (x := { dst := some 48, op := Op.extract (Operand.tmp 32) 1, type := 27, pos := "part.go:79", after := #[{ on := 14, ground := Ground.data }, { on := 17, ground := Ground.gcOnly Departure.lateStores }], guard := none }) (v := ?_) rfl (by kernel_rfl) (fun _ _ _ h => h) (Or.inl ⟨by rfl, ?_⟩) hHeld ?_
          rotate_left
          · (intro w hS; (clear hS; go_simp); try with_reducible rfl)
          try simp only [Act.put, List.setIfInBounds_toArray, List.set_cons_zero, List.set_cons_succ]
          refine wpG_take (i := 17) (x := { dst := some 10, op := Op.assign (Operand.tmp 47), type := 24, pos := "part.go:79", after := #[{ on := 15, ground := Ground.data }, { on := 13, ground := Ground.chain }, { on := 0, ground := Ground.phase }, { on := 1, ground := Ground.phase }, { on := 2, ground := Ground.phase }, { on := 3, ground := Ground.phase }, { on := 4, ground := Ground.phase }, { on := 5, ground := Ground.phase }, { on := 6, ground := Ground.phase }, { on := 7, ground := Ground.phase }, { on := 8, ground := Ground.phase }, { on := 9, ground := Ground.phase }, { on := 10, ground := Ground.phase }, { on := 11, ground := Ground.phase }, { on := 12, ground := Ground.phase }, { on := 13, ground := Ground.phase }, { on := 14, ground := Ground.phase }, { on := 15, ground := Ground.phase }, { on := 16, ground := Ground.textOnly Departure.lateStores }], guard := none }) (v := ?_) rfl (by kernel_rfl) (fun _ _ _ h => h) (Or.inl ⟨by rfl, ?_⟩) hHeld ?_
          rotate_left
          · (intro w hS; (clear hS; go_simp); try with_reducible rfl)
          try simp only [Act.put, List.setIfInBounds_toArray, List.set_cons_zero, List.set_cons_succ]
          refine wpG_take (i := 18) (x := { dst := some 11, op := Op.assign (Operand.tmp 48), type := 27, pos := "part.go:79", after := #[{ on := 16, ground := Ground.data }, { on := 17, ground := Ground.chain }, { on := 0, ground := Ground.phase }, { on := 1, ground := Ground.phase }, { on := 2, ground := Ground.phase }, { on := 3, ground := Ground.phase }, { on := 4, ground := Ground.phase }, { on := 5, ground := Ground.phase }, { on := 6, ground := Ground.phase }, { on := 7, ground := Ground.phase }, { on := 8, ground := Ground.phase }, { on := 9, ground := Ground.phase }, { on := 10, ground := Ground.phase }, { on := 11, ground := Ground.phase }, { on := 12, ground := Ground.phase }, { on := 13, ground := Ground.phase }, { on := 14, ground := Ground.phase }, { on := 15, ground := Ground.phase }, { on := 16, ground := Ground.phase }, { on := 17, ground := Ground.phase }], guard := none }) (v := ?_) rfl (by kernel_rfl) (fun _ _ _ h => h) (Or.inl ⟨by rfl, ?_⟩) hHeld ?_
          rotate_left
          · (intro w hS; (clear hS; go_simp); try with_reducible rfl)
          try simp only [Act.put, List.setIfInBounds_toArray, List.set_cons_zero, List.set_cons_succ]
          refine wpG_done (by kernel_rfl) ?_
          skip
          rw [← HRES.out] at O2 hn2 ⊢
          go_wp2
          go_ret2
          exact ⟨_, _, _, by rw [HR2.out]; rfl, [], by rw [HR2.out]; exact OwnL.nil _ _, by rw [HR2.out]; rfl, K.cov (by repeat (first | with_reducible exact Cov.all _ | with_reducible exact Cov.left _ _ | with_reducible exact Cov.nil _ | (with_reducible apply Cov.app; (· repeat (first | with_reducible exact Sel.nil _ | with_reducible exact Sel.ap _ _ | with_reducible exact Sel.hd _ _ | with_reducible exact Sel.all _ | with_reducible apply Sel.tl | with_reducible apply Sel.sk))) | (with_reducible apply Cov.cons; (· repeat (first | with_reducible exact Sel.nil _ | with_reducible exact Sel.ap _ _ | with_reducible exact Sel.hd _ _ | with_reducible exact Sel.all _ | with_reducible apply Sel.tl | with_reducible apply Sel.sk))) | with_reducible refine Cov.drop _ ?_ | with_reducible refine Cov.skip _ ?_))⟩
  · have h2' : fitsB (count * D.size) at_ m = false := by simpa using h2
    have HR := Lib.hid (show pread D first count at_ m = ([], 5) by rw [pread, if_pos h2'])
    clear h2
    go_enter Try.func17, Try.ntmps17
    go_wp2_with (first | ((with_reducible refine at_load rfl ?_); refine wpList_reads (by rfl) (kr_load_cell K _ _ (by rfl) (by rfl) (by repeat (first | with_reducible assumption | with_reducible exact Has.hd _ _ | with_reducible refine Has.tl _ ?_ | with_reducible refine Has.ap _ ?_)) (by kernel_rfl) (by rfl)) ?_) | (go_at_call 42; (with_reducible refine (ssizeK K hD).mono ?_); clear K; rintro e w1 ⟨rfl, K⟩) | (go_at_call 58; (with_reducible refine (pfits_any K hD hp hcb _ _ _ rfl hat).mono ?_); clear K; rintro e w1 ⟨rfl, K⟩))
    go_ret2
    exact ⟨_, _, _, by rw [HR.out]; rfl, [], by rw [HR.out]; exact OwnL.nil _ _, by rw [HR.out]; rfl, K⟩
end
end Go.Proofs.Ytokbloddaoakgaa
