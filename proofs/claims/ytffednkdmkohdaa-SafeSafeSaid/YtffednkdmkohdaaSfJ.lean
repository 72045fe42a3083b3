/-
  The document's Check; drogherlaw20: awake, SafeChecks (walks).
-/
import Derived.Test.YtffednkdmkohdaaSfI
set_option linter.unusedVariables false
set_option linter.unusedSimpArgs false
namespace Go.Proofs.Ytffednkdmkohdaa
open Go.RowKit
theorem RdM.ofLit2 {α : Type} {enc : α → List Value} {s : Nat} {w0 : World} {L : List Ent} {g : Nat} {cs : Array Value} {te : TypeId} {m : List α} (h : Has (row g cs te) L) (hc : cs.toList = m.flatMap enc) (hl : ∀ a, (enc a).length = s) : RdM w0 L enc s (some ⟨g, 0, none⟩) m.length m :=
  ⟨RdE.ofRow h fun j hj i v hv => by
    have := flatMap_get hl hv
    rw [← hc, Array.getElem?_toList] at this
    rw [Nat.zero_add]
    exact this, rfl⟩
theorem RdM.rebase {α : Type} {enc : α → List Value} {s : Nat} {w0 w1 : World} {L : List Ent} {A : Option Addr} {n : Nat} {m : List α} (K : Known w0 w1 L) (R : RdM w0 L enc s A n m) : RdM w1 [] enc s A n m := ⟨⟨fun w K1 => R.rd.at_ w (K.below K1.fr)⟩, R.len⟩
theorem RdS.rebase {k : IntKind} {w0 w1 : World} {L : List Ent} {A : Option Addr} {n : Nat} {xs : List Int} (K : Known w0 w1 L) (R : RdS w0 L k A n xs) : RdS w1 [] k A n xs := ⟨fun w K1 => R.at_ w (K.below K1.fr), R.len⟩
theorem RdS.cut0 {k : IntKind} {w0 : World} {L : List Ent} {A : Option Addr} {n c : Nat} {xs : List Int} (hR : RdS w0 L k A n xs) (m : Nat) (h : m ≤ n) (hc : n ≤ c) : RdS w0 L k (cutA A c 0) m (xs.take m) := by
  have := hR.cut 0 m (by omega) hc
  rwa [List.drop_zero] at this

section
variable {w0 w : World} {L : List Ent} {A B : Option Addr} {n c m d : Nat} {rows : List (Arow Ast)} {os : List Int} {block old new : Int}
set_option maxHeartbeats 1600000 in
set_option maxRecDepth 100000 in
theorem rcheck_any (K : Known w0 w L) (G : Plans w0 [] A n rows) (hc : n ≤ c) (R : RdS w0 [] .i64 B m os) (hd : m ≤ d) (hm : m ≤ 1000) (hn : n ≤ 4096) (h6 : ∀ r ∈ rows, r.n ≤ 60) (hd9 : d ≤ 9223372036854775807) :
    Calls Try.prog 29 #[.slice A n c, .slice B m d, .int .i64 block, .int .i64 old, .int .i64 new] w fun e w' => e = .returned (.int .i64 (checkE (rows.map (·.l)) os block old new)) ∧ Known w0 w' L := by
  have hl := G.R.len
  have hol := R.len
  have hpl : (rows.map (·.l)).length = n := by rw [List.length_map, hl]
  obtain ⟨ae, hae⟩ : ∃ ae, aheadE n os block old new = ae := ⟨_, rfl⟩
  have HAE := Lib.hid hae
  by_cases h0 : ae = 0
  · subst h0
    obtain ⟨hmy, -, hon⟩ := aheadE_zero hae
    obtain ⟨hb, ho, hnw⟩ := mayS_yes hmy
    have hmn : m = n := by rw [← hol]; exact once_len hon
    subst hmn
    have HCE := Lib.hid (checkE_eq (ps := rows.map (·.l)) (by rw [hpl]; exact hae))
    have HON := Lib.hid hon
    have HOL := Lib.hid hol
    have HL := Lib.hid hl
    clear hmy hae hon hol hpl hl
    go_enter Try.func29, Try.ntmps29
    go_upto_region 5 with ((first | (go_at_call 58; go_loud ((with_reducible refine (rahead_any K (R.cov (Cov.nil _)) hd (by omega) A hc).mono ?_); clear K; rintro e w1 ⟨rfl, K⟩; rw [HAE.out])) | ((with_reducible refine at_eqnil rfl ?_); go_loud (refine wpList_reads rfl (kr_eqnil rfl rfl (by kernel_rfl)) ?_)) | ((with_reducible refine at_box rfl ?_); go_loud (refine wpList_does rfl (kd_box K _ _ rfl (by conv => lhs; whnf)) ?_; clear K; rintro _ w1 ⟨g, rfl, K⟩; (try dsimp only [Value.cells] at K))) | ((with_reducible refine at_alloc rfl ?_); go_loud (refine wpList_does rfl (kd_alloc K _ rfl rfl) ?_; clear K; rintro _ w1 ⟨g, rfl, K⟩; (try dsimp only [Value.cells] at K))) | ((with_reducible refine at_buildSlice rfl ?_); go_loud (refine wpList_does rfl (kd_lits (cs := _) K _ _ _ rfl (by first | rfl | (go_simp; done) | (go_simp; rfl)) (by first | rfl | (go_simp; done) | (go_simp; rfl))) ?_; clear K; rintro _ w1 ⟨g, rfl, K⟩)) | ((with_reducible refine at_load rfl ?_); go_loud (first | (refine wpList_reads (by rfl) (kr_load_cell K _ _ (by rfl) (by rfl) Has.auto (by decide +kernel) (by (try simp only [List.getElem?_toArray, List.getElem?_cons_succ, List.getElem?_cons_zero]); exact rfl)) ?_) | (refine wpList_reads (by rfl) (kr_load_row K _ _ (by rfl) (by rfl) Has.auto (by decide +kernel) (by kernel_rfl)) ?_))) | ((with_reducible refine at_store rfl ?_); go_loud ((first | (refine wpList_does rfl (kd_store_cell K _ _ _ rfl rfl (by conv => lhs; whnf) Repl.auto rfl rfl (by kernel_rfl) (by kernel_rfl) (by first | (simp only [List.setIfInBounds_toArray, List.set_cons_succ, List.set_cons_zero]; rfl) | rfl)) ?_) | (refine wpList_does rfl (kd_store_row K _ _ _ rfl rfl rfl Repl.auto (by kernel_rfl) (by kernel_rfl) (by kernel_rfl)) ?_)); clear K; intro _ w1 K; (try simp only [Act.put])))))
    go_loopg [25] m (fun q v wr => ∃ (k : Nat), v = .int .i64 k ∧ k + q = m ∧ Hid (firstNZ (oneAt (rows.map (·.l)) os block old new) k = 0) ∧ Known w0 wr L)
    case atStart => exact ⟨0, by go_num, by omega, Lib.hid rfl, K⟩
    case round =>
      clear K
      obtain ⟨k, rfl, hdk, HZ, K⟩ := hrel
      by_cases hk : k < m
      · have hk2 : decide ((k : Int) < (m : Int)) = true := decide_eq_true (by omega)
        have hkk : (0 : Int) ≤ (k : Int) ∧ (k : Int) < (m : Int) := by omega
        have i1 := IntWalk.i64_in ((k : Int) + 1) (by omega)
        have hkl : k < os.length := by have := HOL.out; omega
        have hx0 := (once_mem HON.out).1 (getD_mem hkl)
        obtain ⟨i, hx⟩ : ∃ i : Nat, os.getD k 0 = (i : Int) := ⟨(os.getD k 0).toNat, by omega⟩
        rw [hx] at hx0
        have hii : (0 : Int) ≤ (i : Int) ∧ (i : Int) < (m : Int) := by omega
        have HX := Lib.hid hx
        have hil : i < rows.length := by have := HL.out; omega
        obtain ⟨⟨rA, rn, rc, rl⟩, hp⟩ : ∃ r, r = rows[i]'hil := ⟨_, rfl⟩
        have hpm : (⟨rA, rn, rc, rl⟩ : Arow Ast) ∈ rows := by rw [hp]; exact List.getElem_mem _
        have HP := Lib.hid (show encAt arC rows i = [.slice rA rn rc] by rw [encAt_get hil, ← hp]; rfl)
        have HRL := Lib.hid (show (rows.map (·.l)).getD i [] = rl by simp [List.getD, hil, ← hp])
        obtain ⟨RR, hrc, hrs⟩ := G.row _ hpm
        have hrn : rn ≤ 100000 := by have := h6 _ hpm; simp only at this; omega
        simp only at RR hrc hrs
        have HWS := Lib.hid (show ∀ x ∈ os.take k, 0 ≤ x ∧ x ≤ 4096 from fun x hx => by have := (once_mem HON.out).1 (List.mem_of_mem_take hx); omega)
        have HF := Lib.hid (show oneAt (rows.map (·.l)) os block old new k = oneE rl (os.take k) block old (sizeS i block new) by rw [oneAt, hx, Int.toNat_natCast, HRL.out])
        obtain ⟨b, off, rfl⟩ := R.form (K.cov (Cov.nil _)) (by omega)
        obtain ⟨b2, off2, rfl⟩ := G.R.form (K.cov (Cov.nil _)) (by omega)
        have HRW := Lib.hid (R.cut0 k (by omega) hd)
        obtain ⟨fk, hfk⟩ : ∃ fk, oneAt (rows.map (·.l)) os block old new k = fk := ⟨_, rfl⟩
        rw [hfk] at HF
        have HFK := Lib.hid hfk
        clear hp hpm hx
        by_cases hz : fk = 0
        · subst hz
          clear hfk
          go_upto_region 7 with (fail)
          refine wp_region_GK K (Cov.all _) (by kernel_rfl) (by kernel_rfl) (by kernel_rfl) (fun K hHeld => ?_)
          refine wpG_takeA 0 (v := ?_) ?_ hHeld ?_
          rotate_left
          · (intro w hS; (clear hS; go_simp); try with_reducible rfl)
          try simp only [Act.put, List.setIfInBounds_toArray, List.set_cons_zero, List.set_cons_succ]
          refine wpG_takeA 1 (v := ?_) ?_ hHeld ?_
          rotate_left
          · (intro w hS; (clear hS; go_simp); try with_reducible rfl)
          try simp only [Act.put, List.setIfInBounds_toArray, List.set_cons_zero, List.set_cons_succ]
          refine wpG_takeA 2 (v := ?_) ?_ hHeld ?_
          rotate_left
          · (intro w hS; (clear hS; go_simp); try with_reducible rfl)
          try simp only [Act.put, List.setIfInBounds_toArray, List.set_cons_zero, List.set_cons_succ]
          refine wpG_takeA 3 (v := ?_) ?_ hHeld ?_
          rotate_left
          · (intro w hS; (clear hS; go_simp); try with_reducible rfl)
          try simp only [Act.put, List.setIfInBounds_toArray, List.set_cons_zero, List.set_cons_succ]
          refine wpG_takeA 4 (v := .int .i64 (i : Int)) ?_ hHeld ?_
          · (intro w hS; first | exact kr_load_fact _ _ (by rfl) (by rfl) (R.cell (hS.cov (Cov.nil _)) (by omega) HX.out rfl) (by decide +kernel))
          try simp only [Act.put, List.setIfInBounds_toArray, List.set_cons_zero, List.set_cons_succ]
          refine wpG_takeA 5 (v := ?_) ?_ hHeld ?_
          rotate_left
          · (intro w hS; (clear hS; go_simp); try with_reducible rfl)
          try simp only [Act.put, List.setIfInBounds_toArray, List.set_cons_zero, List.set_cons_succ]
          refine wpG_takeA 6 (v := .slice rA rn rc) ?_ hHeld ?_
          · (intro w hS; first | exact kr_load_rcell hS _ _ (by rfl) (i) 0 (by rfl) (G.R.cov (Cov.nil _)) (by omega) HP.out (by rfl) (by omega) (by kernel_rfl))
          try simp only [Act.put, List.setIfInBounds_toArray, List.set_cons_zero, List.set_cons_succ]
          refine wpG_takeA 7 (v := ?_) ?_ hHeld ?_
          rotate_left
          · (intro w hS; (clear hS; go_simp); try with_reducible rfl)
          try simp only [Act.put, List.setIfInBounds_toArray, List.set_cons_zero, List.set_cons_succ]
          refine wpG_takeA 8 (v := ?_) ?_ hHeld ?_
          rotate_left
          · (intro w hS; (clear hS; go_simp); try with_reducible rfl)
          try simp only [Act.put, List.setIfInBounds_toArray, List.set_cons_zero, List.set_cons_succ]
          refine wpG_takeA 9 (v := .slice (cutA ((some ⟨b, off, none⟩)) (d) (0)) (k) (d - (0))) ?_ hHeld ?_
          · (intro w hS; first | exact kr_cut (by rfl) (by rfl) (0) (k) (.inl ⟨by rfl, by omega⟩) (.inr ⟨_, _, by rfl, by rfl, by omega⟩) (by omega) (by omega) Try.underlying25 (by kernel_rfl))
          try simp only [Act.put, List.setIfInBounds_toArray, List.set_cons_zero, List.set_cons_succ]
          refine wpG_takeA 10 (v := ?_) ?_ hHeld ?_
          rotate_left
          · (intro w hS; (clear hS; go_simp); try with_reducible rfl)
          try simp only [Act.put, List.setIfInBounds_toArray, List.set_cons_zero, List.set_cons_succ]
          refine wpG_takeA 11 (v := ?_) ?_ hHeld ?_
          rotate_left
          · (intro w hS; (clear hS; go_simp); try with_reducible rfl)
          try simp only [Act.put, List.setIfInBounds_toArray, List.set_cons_zero, List.set_cons_succ]
          refine wpG_takeA 12 (v := ?_) ?_ hHeld ?_
          rotate_left
          · (intro w hS; (clear hS; go_simp); try with_reducible rfl)
          try simp only [Act.put, List.setIfInBounds_toArray, List.set_cons_zero, List.set_cons_succ]
          refine wpG_takeA 13 (v := ?_) ?_ hHeld ?_
          rotate_left
          · (intro w hS; (clear hS; go_simp); try with_reducible rfl)
          try simp only [Act.put, List.setIfInBounds_toArray, List.set_cons_zero, List.set_cons_succ]
          refine wpG_takeA 14 (v := ?_) ?_ hHeld ?_
          rotate_left
          · (intro w hS; (clear hS; go_simp); try with_reducible rfl)
          try simp only [Act.put, List.setIfInBounds_toArray, List.set_cons_zero, List.set_cons_succ]
          refine wpG_takeA 15 (v := .int .i64 (i : Int)) ?_ hHeld ?_
          · (intro w hS; first | exact kr_load_fact _ _ (by rfl) (by rfl) (R.cell (hS.cov (Cov.nil _)) (by omega) HX.out rfl) (by decide +kernel))
          try simp only [Act.put, List.setIfInBounds_toArray, List.set_cons_zero, List.set_cons_succ]
          refine wpG_takeA 16 (v := ?_) ?_ hHeld ?_
          rotate_left
          · (intro w hS; (clear hS; go_simp); try with_reducible rfl)
          try simp only [Act.put, List.setIfInBounds_toArray, List.set_cons_zero, List.set_cons_succ]
          refine wpG_takeA 17 (v := ?_) ?_ hHeld ?_
          rotate_left
          · (intro w hS; (clear hS; go_simp); try with_reducible rfl)
          try simp only [Act.put, List.setIfInBounds_toArray, List.set_cons_zero, List.set_cons_succ]
          refine wpG_takeC (i := 18) (x := { dst := some 46, op := Op.call { callee := Callee.value (Operand.func 60), args := #[Operand.tmp 43, Operand.tmp 44, Operand.tmp 45], argTypes := #[3, 3, 3] }, type := 3, pos := "ref.go:86", after := #[{ on := 15, ground := Ground.data }, { on := 16, ground := Ground.data }, { on := 17, ground := Ground.data }], guard := none }) (v := .int .i64 (sizeS i block new)) (f := 60) (args := ?_) rfl (by kernel_rfl) (fun _ _ _ h => h) (by rfl) ?_ ?_ hHeld ?_
          rotate_left
          · (intro w; go_simp; try with_reducible rfl)
          · (intro w hS; exact (rsize_any (i := (i : Int)) (block := block) (new := new) (by omega) (by omega) (by omega) _))
          try simp only [Act.put, List.setIfInBounds_toArray, List.set_cons_zero, List.set_cons_succ]
          refine wpG_oneA 19 (fun K9 hK => ?_)
          go_simp
          (go_at_call 59; (with_reducible refine (rone_any K RR hrc hrn HRW.out (by omega) (by omega) hb HWS.out _).mono ?_); clear K; rintro e w1 ⟨rfl, K⟩; rw [← HF.out])
          refine hK.out _ _ (K.cov Cov.auto) (fun hHeld => ?_)
          clear hK K9
          try simp only [Act.put, List.setIfInBounds_toArray, List.set_cons_zero, List.set_cons_succ]
          refine wpG_takeA 20 (v := ?_) ?_ hHeld ?_
          rotate_left
          · (intro w hS; (clear hS; go_simp); try with_reducible rfl)
          try simp only [Act.put, List.setIfInBounds_toArray, List.set_cons_zero, List.set_cons_succ]
          refine wpG_done (by kernel_rfl) ?_
          skip
          go_wp2
          go_roundg (gk - 1)
          case measure => omega
          case rel => exact ⟨k + 1, by go_num, by omega, Lib.hid (firstNZ_step HZ.out HFK.out), K.cov Cov.auto⟩
        · have e1 : (fk == 0) = false := by simpa using hz
          have HR := Lib.hid (show checkE (rows.map (·.l)) os block old new = fk by rw [HCE.out, firstNZ_at HZ.out hkl (by rw [hfk]; exact hz), hfk])
          clear hfk
          go_upto_region 7 with (fail)
          refine wp_region_GK K (Cov.all _) (by kernel_rfl) (by kernel_rfl) (by kernel_rfl) (fun K hHeld => ?_)
          refine wpG_takeA 0 (v := ?_) ?_ hHeld ?_
          rotate_left
          · (intro w hS; (clear hS; go_simp); try with_reducible rfl)
          try simp only [Act.put, List.setIfInBounds_toArray, List.set_cons_zero, List.set_cons_succ]
          refine wpG_takeA 1 (v := ?_) ?_ hHeld ?_
          rotate_left
          · (intro w hS; (clear hS; go_simp); try with_reducible rfl)
          try simp only [Act.put, List.setIfInBounds_toArray, List.set_cons_zero, List.set_cons_succ]
          refine wpG_takeA 2 (v := ?_) ?_ hHeld ?_
          rotate_left
          · (intro w hS; (clear hS; go_simp); try with_reducible rfl)
          try simp only [Act.put, List.setIfInBounds_toArray, List.set_cons_zero, List.set_cons_succ]
          refine wpG_takeA 3 (v := ?_) ?_ hHeld ?_
          rotate_left
          · (intro w hS; (clear hS; go_simp); try with_reducible rfl)
          try simp only [Act.put, List.setIfInBounds_toArray, List.set_cons_zero, List.set_cons_succ]
          refine wpG_takeA 4 (v := .int .i64 (i : Int)) ?_ hHeld ?_
          · (intro w hS; first | exact kr_load_fact _ _ (by rfl) (by rfl) (R.cell (hS.cov (Cov.nil _)) (by omega) HX.out rfl) (by decide +kernel))
          try simp only [Act.put, List.setIfInBounds_toArray, List.set_cons_zero, List.set_cons_succ]
          refine wpG_takeA 5 (v := ?_) ?_ hHeld ?_
          rotate_left
          · (intro w hS; (clear hS; go_simp); try with_reducible rfl)
          try simp only [Act.put, List.setIfInBounds_toArray, List.set_cons_zero, List.set_cons_succ]
          refine wpG_takeA 6 (v := .slice rA rn rc) ?_ hHeld ?_
          · (intro w hS; first | exact kr_load_rcell hS _ _ (by rfl) (i) 0 (by rfl) (G.R.cov (Cov.nil _)) (by omega) HP.out (by rfl) (by omega) (by kernel_rfl))
          try simp only [Act.put, List.setIfInBounds_toArray, List.set_cons_zero, List.set_cons_succ]
          refine wpG_takeA 7 (v := ?_) ?_ hHeld ?_
          rotate_left
          · (intro w hS; (clear hS; go_simp); try with_reducible rfl)
          try simp only [Act.put, List.setIfInBounds_toArray, List.set_cons_zero, List.set_cons_succ]
          refine wpG_takeA 8 (v := ?_) ?_ hHeld ?_
          rotate_left
          · (intro w hS; (clear hS; go_simp); try with_reducible rfl)
          try simp only [Act.put, List.setIfInBounds_toArray, List.set_cons_zero, List.set_cons_succ]
          refine wpG_takeA 9 (v := .slice (cutA ((some ⟨b, off, none⟩)) (d) (0)) (k) (d - (0))) ?_ hHeld ?_
          · (intro w hS; first | exact kr_cut (by rfl) (by rfl) (0) (k) (.inl ⟨by rfl, by omega⟩) (.inr ⟨_, _, by rfl, by rfl, by omega⟩) (by omega) (by omega) Try.underlying25 (by kernel_rfl))
          try simp only [Act.put, List.setIfInBounds_toArray, List.set_cons_zero, List.set_cons_succ]
          refine wpG_takeA 10 (v := ?_) ?_ hHeld ?_
          rotate_left
          · (intro w hS; (clear hS; go_simp); try with_reducible rfl)
          try simp only [Act.put, List.setIfInBounds_toArray, List.set_cons_zero, List.set_cons_succ]
          refine wpG_takeA 11 (v := ?_) ?_ hHeld ?_
          rotate_left
          · (intro w hS; (clear hS; go_simp); try with_reducible rfl)
          try simp only [Act.put, List.setIfInBounds_toArray, List.set_cons_zero, List.set_cons_succ]
          refine wpG_takeA 12 (v := ?_) ?_ hHeld ?_
          rotate_left
          · (intro w hS; (clear hS; go_simp); try with_reducible rfl)
          try simp only [Act.put, List.setIfInBounds_toArray, List.set_cons_zero, List.set_cons_succ]
          refine wpG_takeA 13 (v := ?_) ?_ hHeld ?_
          rotate_left
          · (intro w hS; (clear hS; go_simp); try with_reducible rfl)
          try simp only [Act.put, List.setIfInBounds_toArray, List.set_cons_zero, List.set_cons_succ]
          refine wpG_takeA 14 (v := ?_) ?_ hHeld ?_
          rotate_left
          · (intro w hS; (clear hS; go_simp); try with_reducible rfl)
          try simp only [Act.put, List.setIfInBounds_toArray, List.set_cons_zero, List.set_cons_succ]
          refine wpG_takeA 15 (v := .int .i64 (i : Int)) ?_ hHeld ?_
          · (intro w hS; first | exact kr_load_fact _ _ (by rfl) (by rfl) (R.cell (hS.cov (Cov.nil _)) (by omega) HX.out rfl) (by decide +kernel))
          try simp only [Act.put, List.setIfInBounds_toArray, List.set_cons_zero, List.set_cons_succ]
          refine wpG_takeA 16 (v := ?_) ?_ hHeld ?_
          rotate_left
          · (intro w hS; (clear hS; go_simp); try with_reducible rfl)
          try simp only [Act.put, List.setIfInBounds_toArray, List.set_cons_zero, List.set_cons_succ]
          refine wpG_takeA 17 (v := ?_) ?_ hHeld ?_
          rotate_left
          · (intro w hS; (clear hS; go_simp); try with_reducible rfl)
          try simp only [Act.put, List.setIfInBounds_toArray, List.set_cons_zero, List.set_cons_succ]
          refine wpG_takeC (i := 18) (x := { dst := some 46, op := Op.call { callee := Callee.value (Operand.func 60), args := #[Operand.tmp 43, Operand.tmp 44, Operand.tmp 45], argTypes := #[3, 3, 3] }, type := 3, pos := "ref.go:86", after := #[{ on := 15, ground := Ground.data }, { on := 16, ground := Ground.data }, { on := 17, ground := Ground.data }], guard := none }) (v := .int .i64 (sizeS i block new)) (f := 60) (args := ?_) rfl (by kernel_rfl) (fun _ _ _ h => h) (by rfl) ?_ ?_ hHeld ?_
          rotate_left
          · (intro w; go_simp; try with_reducible rfl)
          · (intro w hS; exact (rsize_any (i := (i : Int)) (block := block) (new := new) (by omega) (by omega) (by omega) _))
          try simp only [Act.put, List.setIfInBounds_toArray, List.set_cons_zero, List.set_cons_succ]
          refine wpG_oneA 19 (fun K9 hK => ?_)
          go_simp
          (go_at_call 59; (with_reducible refine (rone_any K RR hrc hrn HRW.out (by omega) (by omega) hb HWS.out _).mono ?_); clear K; rintro e w1 ⟨rfl, K⟩; rw [← HF.out])
          refine hK.out _ _ (K.cov Cov.auto) (fun hHeld => ?_)
          clear hK K9
          try simp only [Act.put, List.setIfInBounds_toArray, List.set_cons_zero, List.set_cons_succ]
          refine wpG_takeA 20 (v := ?_) ?_ hHeld ?_
          rotate_left
          · (intro w hS; (clear hS; go_simp); try with_reducible rfl)
          try simp only [Act.put, List.setIfInBounds_toArray, List.set_cons_zero, List.set_cons_succ]
          refine wpG_done (by kernel_rfl) ?_
          skip
          go_wp2
          go_ret
          exact ⟨by rw [HR.out]; rfl, K.cov Cov.auto⟩
      · have hk2 : decide ((k : Int) < (m : Int)) = false := decide_eq_false (by omega)
        have HR := Lib.hid (show checkE (rows.map (·.l)) os block old new = 0 by rw [HCE.out, HOL.out, show m = k by omega]; exact HZ.out)
        go_wp2
        go_ret
        exact ⟨by rw [HR.out]; rfl, K.cov Cov.auto⟩
  · have e1 : (ae == 0) = false := by simpa using h0
    have HR := Lib.hid (show checkE (rows.map (·.l)) os block old new = ae by rw [checkE_ne (by rw [hpl, hae]; exact h0), hpl, hae])
    clear hae hpl hl hol
    go_enter Try.func29, Try.ntmps29
    go_wp2_with (first | (go_at_call 58; go_loud ((with_reducible refine (rahead_any K (R.cov (Cov.nil _)) hd (by omega) A hc).mono ?_); clear K; rintro e w1 ⟨rfl, K⟩; rw [HAE.out])))
    go_ret
    exact ⟨by rw [HR.out]; rfl, K.cov Cov.auto⟩
end
def aw20a : Ast := ⟨2, 128, 128, none, 0, 0, []⟩
def aw20b : Ast := ⟨2, 0, 128, none, 0, 0, []⟩
theorem aw20a_rd {w0 : World} {L : List Ent} {g : Nat} {te : TypeId} (h : Has (row g #[.int .u8 2, .int .i64 128, .int .i64 128, .slice none 0 0] te) L) : RdM w0 L asC 4 (some ⟨g, 0, none⟩) 1 [aw20a] := RdM.ofLit2 (m := [aw20a]) h rfl asC_len
theorem aw20b_rd {w0 : World} {L : List Ent} {g : Nat} {te : TypeId} (h : Has (row g #[.int .u8 2, .int .i64 0, .int .i64 128, .slice none 0 0] te) L) : RdM w0 L asC 4 (some ⟨g, 0, none⟩) 1 [aw20b] := RdM.ofLit2 (m := [aw20b]) h rfl asC_len
theorem aw20_ok (w : World) : AsOk w aw20a ∧ AsOk w aw20b := ⟨⟨by decide, by decide, by decide, RdS.nil _ _ _ _, Nat.le_refl _, by simp [aw20a, maxLen], by simp [aw20a]⟩, ⟨by decide, by decide, by decide, RdS.nil _ _ _ _, Nat.le_refl _, by simp [aw20b, maxLen], by simp [aw20b]⟩⟩
set_option maxRecDepth 100000 in
theorem aw20_one : checkE [[aw20a], [aw20b]] [0, 1] 128 256 256 = 23 := by kernel_rfl
set_option maxRecDepth 100000 in
theorem aw20_two : checkE [[aw20a], [aw20b]] [1, 0] 128 256 256 = 23 := by kernel_rfl
abbrev aw20r (g1 g2 : Nat) : List (Arow Ast) := [⟨some ⟨g1, 0, none⟩, 1, 1, [aw20a]⟩, ⟨some ⟨g2, 0, none⟩, 1, 1, [aw20b]⟩]
theorem aw20_plans {w0 w1 : World} {L : List Ent} {g1 g2 g3 : Nat} {t1 t2 t3 : TypeId} (K : Known w0 w1 L) (h1 : Has (row g1 #[.int .u8 2, .int .i64 128, .int .i64 128, .slice none 0 0] t1) L) (h2 : Has (row g2 #[.int .u8 2, .int .i64 0, .int .i64 128, .slice none 0 0] t2) L) (h3 : Has (row g3 #[.slice (some ⟨g1, 0, none⟩) 1 1, .slice (some ⟨g2, 0, none⟩) 1 1] t3) L) : Plans w1 [] (some ⟨g3, 0, none⟩) 2 (aw20r g1 g2) := by
  refine ⟨(RdM.ofLit2 (m := aw20r g1 g2) h3 rfl arC_len).rebase K, fun r hr => ?_⟩
  rcases List.mem_cons.1 hr with rfl | hr
  · exact ⟨(aw20a_rd h1).rebase K, Nat.le_refl _, fun s hs => by rw [List.mem_singleton.1 hs]; exact (aw20_ok _).1⟩
  · rw [List.mem_singleton.1 hr]
    exact ⟨(aw20b_rd h2).rebase K, Nat.le_refl _, fun s hs => by rw [List.mem_singleton.1 hs]; exact (aw20_ok _).2⟩

section
variable {w0 w : World} {L : List Ent} {A B : Option Addr} {n c m d : Nat} {rows : List (Arow Ast)} {os : List Int} {block old new : Int}
set_option maxHeartbeats 1600000 in
set_option maxRecDepth 100000 in
theorem awake20K (K : Known w0 w L) : Calls Try.prog 27 #[] w fun e w' => e = .returned (.bool true) ∧ Known w0 w' L := by
  go_enter Try.func27, Try.ntmps27
  go_wp2_with (first | ((with_reducible refine at_slot (N := 3) rfl ?_); go_loud ((with_reducible refine at_buildSlice rfl ?_); refine wpList_does rfl (kd_lits (cs := _) K _ _ _ rfl (by first | rfl | (go_simp; done) | (go_simp; rfl)) (by first | rfl | (go_simp; done) | (go_simp; rfl))) ?_; clear K; rintro _ w1 ⟨g1, rfl, K⟩)) | ((with_reducible refine at_slot (N := 5) rfl ?_); go_loud ((with_reducible refine at_buildSlice rfl ?_); refine wpList_does rfl (kd_lits (cs := _) K _ _ _ rfl (by first | rfl | (go_simp; done) | (go_simp; rfl)) (by first | rfl | (go_simp; done) | (go_simp; rfl))) ?_; clear K; rintro _ w1 ⟨g2, rfl, K⟩)) | ((with_reducible refine at_slot (N := 6) rfl ?_); go_loud ((with_reducible refine at_buildSlice rfl ?_); refine wpList_does rfl (kd_lits (cs := _) K _ _ _ rfl (by first | rfl | (go_simp; done) | (go_simp; rfl)) (by first | rfl | (go_simp; done) | (go_simp; rfl))) ?_; clear K; rintro _ w1 ⟨g3, rfl, K⟩)) | ((with_reducible refine at_slot (N := 8) rfl ?_); go_loud ((with_reducible refine at_buildSlice (n := 2) rfl ?_); refine wpList_does rfl (kd_litsN K _ _ _ rfl (by first | rfl | (go_simp; done) | (go_simp; rfl)) (by first | rfl | (go_simp; done) | (go_simp; rfl)) (xs := [_, _]) (by rfl) (by rfl) (by kernel_rfl)) ?_; clear K; rintro _ w1 ⟨gl, rfl, K, O1⟩)) | ((with_reducible refine at_slot (N := 13) rfl ?_); go_loud ((with_reducible refine at_buildSlice (n := 2) rfl ?_); refine wpList_does rfl (kd_litsN K _ _ _ rfl (by first | rfl | (go_simp; done) | (go_simp; rfl)) (by first | rfl | (go_simp; done) | (go_simp; rfl)) (xs := [_, _]) (by rfl) (by rfl) (by kernel_rfl)) ?_; clear K; rintro _ w1 ⟨gl, rfl, K, O2⟩)) | (go_at_call 28; go_loud (refine (scheck_any (os := [1, 0]) (rows := aw20r g1 g2) (Known.start _) (aw20_plans K Has.auto Has.auto Has.auto) (by omega) ((RdS.own (w0 := w0) O2 Seg.auto).rebase K) (by omega) (by omega) (by omega) (by simp)).mono ?_; rintro e w1 ⟨rfl, K2⟩; replace K := K.below K2.fr; clear K2; rw [show checkE ((aw20r g1 g2).map (·.l)) [1, 0] 128 256 256 = 23 from aw20_two])) | (go_at_call 28; go_loud (refine (scheck_any (os := [0, 1]) (rows := aw20r g1 g2) (Known.start _) (aw20_plans K Has.auto Has.auto Has.auto) (by omega) ((RdS.own (w0 := w0) O1 Seg.auto).rebase K) (by omega) (by omega) (by omega) (by simp)).mono ?_; rintro e w1 ⟨rfl, K2⟩; replace K := K.below K2.fr; clear K2; rw [show checkE ((aw20r g1 g2).map (·.l)) [0, 1] 128 256 256 = 23 from aw20_one])) | ((with_reducible refine at_eqnil rfl ?_); go_loud (refine wpList_reads rfl (kr_eqnil rfl rfl (by kernel_rfl)) ?_)) | ((with_reducible refine at_box rfl ?_); go_loud (refine wpList_does rfl (kd_box K _ _ rfl (by conv => lhs; whnf)) ?_; clear K; rintro _ w1 ⟨g, rfl, K⟩; (try dsimp only [Value.cells] at K))) | ((with_reducible refine at_alloc rfl ?_); go_loud (refine wpList_does rfl (kd_alloc K _ rfl rfl) ?_; clear K; rintro _ w1 ⟨g, rfl, K⟩; (try dsimp only [Value.cells] at K))) | ((with_reducible refine at_buildSlice rfl ?_); go_loud (refine wpList_does rfl (kd_lits (cs := _) K _ _ _ rfl (by first | rfl | (go_simp; done) | (go_simp; rfl)) (by first | rfl | (go_simp; done) | (go_simp; rfl))) ?_; clear K; rintro _ w1 ⟨g, rfl, K⟩)) | ((with_reducible refine at_load rfl ?_); go_loud (first | (refine wpList_reads (by rfl) (kr_load_cell K _ _ (by rfl) (by rfl) Has.auto (by decide +kernel) (by (try simp only [List.getElem?_toArray, List.getElem?_cons_succ, List.getElem?_cons_zero]); exact rfl)) ?_) | (refine wpList_reads (by rfl) (kr_load_row K _ _ (by rfl) (by rfl) Has.auto (by decide +kernel) (by kernel_rfl)) ?_))) | ((with_reducible refine at_store rfl ?_); go_loud ((first | (refine wpList_does rfl (kd_store_cell K _ _ _ rfl rfl (by conv => lhs; whnf) Repl.auto rfl rfl (by kernel_rfl) (by kernel_rfl) (by first | (simp only [List.setIfInBounds_toArray, List.set_cons_succ, List.set_cons_zero]; rfl) | rfl)) ?_) | (refine wpList_does rfl (kd_store_row K _ _ _ rfl rfl rfl Repl.auto (by kernel_rfl) (by kernel_rfl) (by kernel_rfl)) ?_)); clear K; intro _ w1 K; (try simp only [Act.put]))))
  go_ret
  exact ⟨rfl, K.cov Cov.auto⟩
end
end Go.Proofs.Ytffednkdmkohdaa
