/-
  journal: a journal on a device, as plain mathematics; in memory.
-/
import Derived.Test.YtfdddipmeadecaaPrtC
import Derived.Test.YtfdddipmeadecaaOpenK
import Derived.Test.YtfdddipmeadecaaSecT
set_option linter.unusedVariables false
set_option linter.unusedSimpArgs false
namespace Go.Proofs.Ytfdddipmeadecaa
open Go.RowKit
theorem Known.sel {w0 w : World} {M X R : List Ent} (K : Known w0 w M) (s : Sel X M R) : Known w0 w (X ++ R) := K.cov ⟨⟨[], by simpa using s.out⟩⟩
/-- the record in a sector, if it may stand there -/
def cand (D : Dev) (i : Nat) : Option Rec := if (dread D i).2 = 0 ∧ (resG (dread D i).1).2 = 0 ∧ (resG (dread D i).1).1.seq % 2 = (i : Int) then some (resG (dread D i).1).1 else none
def pickJ (s : Rec × Bool) (c : Option Rec) : Rec × Bool := match c with
  | some r => if s.2 = true ∧ r.seq < s.1.seq then s else (r, true)
  | none => s
def stJ (D : Dev) : Nat → Rec × Bool
  | 0 => (rec0, false)
  | i + 1 => pickJ (stJ D i) (cand D i)
def lastJ (D : Dev) : Rec := (stJ D 2).1
theorem resG_ok {xs : List Int} (hb : ∀ b ∈ xs, 0 ≤ b ∧ b ≤ 255) : RecOk (resG xs).1 := by
  have hc : ∀ a k, ∀ c ∈ (xs.drop a).take k, 0 ≤ c ∧ c ≤ 255 := fun a k c hc => hb c (List.mem_of_mem_drop (List.mem_of_mem_take hc))
  have h8 : ∀ a, 0 ≤ numL ((xs.drop a).take 8) ∧ numL ((xs.drop a).take 8) ≤ 18446744073709551615 := fun a => by
    have := numL_range 8 ((xs.drop a).take 8) (by simp; omega) (hc a 8)
    omega
  have hg : ∀ i, 0 ≤ xs.getD i 0 ∧ xs.getD i 0 ≤ 255 := fun i => by
    by_cases h : i < xs.length
    · simp only [List.getD, List.getElem?_eq_getElem h, Option.getD_some]
      exact hb _ (List.getElem_mem h)
    · simp [List.getD, List.getElem?_eq_none (Nat.le_of_not_lt h)]
  unfold resG
  split
  · exact rec0_ok
  · next h99 =>
    split
    · exact rec0_ok
    · split
      · exact rec0_ok
      · split
        · exact ⟨⟨h8 _, h8 _, h8 _, h8 _⟩, ⟨hg _, hg _, hg _⟩, getRec_man xs (by omega), hc 27 32⟩
        · exact rec0_ok
theorem dread_byte {D : Dev} (h : DevOk D) (i : Int) : ∀ v ∈ (dread D i).1, 0 ≤ v ∧ v ≤ 255 := by
  unfold dread
  split
  · simp
  · unfold dface
    cases hw : afind D.waits i with
    | some f =>
      have := (h.fw _ (afind_mem hw)).1
      cases ht : f.torn
      · simpa [ht] using this.2.2
      · simp [ht]
    | none =>
      cases hk : afind D.kept i with
      | none =>
        intro v hv
        rw [(List.mem_replicate.1 hv).2]
        decide
      | some f =>
        have := (h.fk _ (afind_mem hk)).1
        cases ht : f.torn
        · simpa [ht] using this.2.2
        · simp [ht]
theorem cand_ok {D : Dev} (h : DevOk D) {i : Nat} {r : Rec} (hc : cand D i = some r) : RecOk r := by
  unfold cand at hc
  split at hc
  · injection hc with hc
    rw [← hc]
    exact resG_ok (dread_byte h _)
  · cases hc
theorem pickJ_ok {s : Rec × Bool} {c : Option Rec} (hs : RecOk s.1) (hc : ∀ r, c = some r → RecOk r) : RecOk (pickJ s c).1 := by
  unfold pickJ
  cases c with
  | none => exact hs
  | some r =>
    simp only
    split
    · exact hs
    · exact hc r rfl
theorem stJ_ok {D : Dev} (h : DevOk D) : ∀ i, RecOk (stJ D i).1
  | 0 => rec0_ok
  | i + 1 => pickJ_ok (stJ_ok h i) fun r hr => cand_ok h hr
/-- one sector is read through its part -/
theorem pread_one {D : Dev} (h : DevOk D) (i : Nat) : pread D i 1 0 (1 * (D.size : Nat)) = dread D i := by
  have hs := h.size
  have hf : fitsB (1 * (D.size : Int)) 0 (1 * (D.size : Int)) = true := by simp [fitsB]
  unfold pread
  rw [if_neg (by rw [hf]; simp)]
  obtain ⟨k, hk⟩ : ∃ k, D.size = k + 1 := ⟨D.size - 1, by omega⟩
  rw [show (1 * (D.size : Int)).toNat = D.size by omega]
  by_cases h0 : (dread D i).2 = 0
  · have hl := dread_full h h0
    have hd : (i : Int) + 0 / (D.size : Int) = i := by simp
    have hq : ∀ (d a : Nat), prl d D i a 0 (dread D i).1 = ((dread D i).1, 0) := fun d a => by cases d <;> simp [prl]
    rw [hk, prl, ← hk, if_neg (by omega), hd, if_neg (by rw [h0]; simp)]
    simp only [Int.zero_emod, Int.toNat_zero, List.drop_zero, List.nil_append, Int.zero_add]
    rw [List.take_of_length_le (by omega), hl, Nat.sub_self, hq, ← h0]
  · have he : (dread D i).1 = [] := by
      unfold dread at h0 ⊢
      split
      · rfl
      · next hc =>
        rw [if_neg hc] at h0
        split
        · next hn => rw [hn] at h0; simp at h0
        · next f hn =>
          rw [hn] at h0
          simp only at h0 ⊢
          split
          · rfl
          · next ht => rw [if_neg ht] at h0; simp at h0
    have hd : (i : Int) + 0 / (D.size : Int) = i := by simp
    rw [hk, prl, ← hk, if_neg (by omega), hd, if_pos h0, ← he]
/-- bytes of no more than one sector are written through its part -/
theorem pwrite_one {D : Dev} (h : DevOk D) (i : Nat) {bs : List Int} (hb : bs ≠ []) (hl : bs.length ≤ D.size) : pwrite D i 1 0 bs = dwrite D i (zpad D.size bs) := by
  have hs := h.size
  have hf : fitsB (1 * (D.size : Int)) 0 bs.length = true := by simp [fitsB]; omega
  unfold pwrite
  rw [if_neg (by simp), if_neg (by rw [hf]; simp)]
  obtain ⟨k, hk⟩ : ∃ k, bs.length = k + 1 := ⟨bs.length - 1, by have := List.length_pos_iff.2 hb; omega⟩
  have hd : (i : Int) + 0 / (D.size : Int) = i := by simp
  rw [hk, pwl, if_neg hb, hd, List.drop_eq_nil_of_le hl, pwl_nil]
  by_cases h0 : (dwrite D i (zpad D.size bs)).1 = 0
  · rw [if_neg (by rw [h0]; simp), ← h0]
  · rw [if_pos h0]
/-- what a write makes of a device and the last record; the error -/
def jwD (D : Dev) (l r : Rec) : Int × Dev × Rec :=
  if mayR r = false then (3, D, l) else
  if (dsync D).1 ≠ 0 then ((dsync D).1, (dsync D).2, l) else
  if (dwrite (dsync D).2 ((l.seq + 1) % 2) (zpad D.size (recW { r with seq := l.seq + 1 }))).1 ≠ 0 then ((dwrite (dsync D).2 ((l.seq + 1) % 2) (zpad D.size (recW { r with seq := l.seq + 1 }))).1, (dwrite (dsync D).2 ((l.seq + 1) % 2) (zpad D.size (recW { r with seq := l.seq + 1 }))).2, l) else
  if (dsync (dwrite (dsync D).2 ((l.seq + 1) % 2) (zpad D.size (recW { r with seq := l.seq + 1 }))).2).1 ≠ 0 then ((dsync (dwrite (dsync D).2 ((l.seq + 1) % 2) (zpad D.size (recW { r with seq := l.seq + 1 }))).2).1, (dsync (dwrite (dsync D).2 ((l.seq + 1) % 2) (zpad D.size (recW { r with seq := l.seq + 1 }))).2).2, l)
  else (0, (dsync (dwrite (dsync D).2 ((l.seq + 1) % 2) (zpad D.size (recW { r with seq := l.seq + 1 }))).2).2, { r with seq := l.seq + 1 })
/-- a journal's cells -/
def jrC (d p q : Value) (r : Rec) : Array Value := ([d, p, q] ++ (recC r).toList).toArray
theorem jrC_size (d p q : Value) (r : Rec) (h : r.man.length = 32) : (jrC d p q r).size = 47 := by
  have := recC_size r h
  rw [← Array.length_toList] at this
  simp [jrC, this]
theorem jrC_0 (d p q : Value) (r : Rec) : (jrC d p q r)[0]? = some d := by simp [jrC]
theorem jrC_1 (d p q : Value) (r : Rec) : (jrC d p q r)[1]? = some p := by simp [jrC]
theorem jrC_2 (d p q : Value) (r : Rec) : (jrC d p q r)[2]? = some q := by simp [jrC]
theorem jrC_3 (d p q : Value) (r : Rec) : (jrC d p q r)[3]? = some (.int .u64 r.seq) := by simp [jrC, recC]
theorem jrC_set1 (d p q v : Value) (r : Rec) : (jrC d p q r).setIfInBounds 1 v = jrC d v q r := by simp [jrC]
theorem jrC_set2 (d p q v : Value) (r : Rec) : (jrC d p q r).setIfInBounds 2 v = jrC d p v r := by simp [jrC]
theorem jrC_parts (d p q : Value) (r : Rec) : (jrC d p q r).extract 1 (1 + 2) = #[p, q] := by
  apply Array.ext'
  simp [jrC]
theorem jrC_rec (d p q : Value) (r : Rec) (h : r.man.length = 32) : (jrC d p q r).extract 3 (3 + 44) = recC r := by
  have := recC_size r h
  apply Array.ext'
  rw [← Array.length_toList] at this
  simp [jrC]
  rw [List.take_of_length_le (by omega)]
theorem jrC_lay (d p q : Value) (r s : Rec) (hr : r.man.length = 32) (hs : s.man.length = 32) : ((jrC d p q r).toList.take 3 ++ (recC s).toList ++ (jrC d p q r).toList.drop (3 + (recC s).size)).toArray = jrC d p q s := by
  have h1 := recC_size r hr
  have h2 := recC_size s hs
  rw [h2]
  apply Array.ext'
  simp [jrC, h1]
section
variable {P : Program} {o : Oper} {a : Act} {W : World} {T U : TypeId} {x y : Operand}
theorem kr_neqI (ho : o.op = .binOp .neq T x y U) {k : IntKind} {u v : Int} (hx : a.eval x = .int k u) (hy : a.eval y = .int k v) {b : Bool} (hb : (u == v) = b) : (execOp a.eval o).run P W = .ok (.value (.bool (!b))) W := by
  subst hb
  unfold execOp
  simp only [ho, hx, hy]
  simp [eqGuard, binOp, go_sem, Sem.run_bind, bne]
theorem kr_rem2 (ho : o.op = .binOp .rem T x y U) {u par : Int} (hx : a.eval x = .int .u64 u) (hy : a.eval y = .int .u64 2) (hu : (0 ≤ u ∧ u ≤ 18446744073709551615) ∧ u % 2 = par) : (execOp a.eval o).run P W = .ok (.value (.int .u64 par)) W := by
  have h1 : u.tmod 2 = par := by rw [Int.tmod_eq_emod_of_nonneg hu.1.1, hu.2]
  have h2 := IntWalk.u64_in par (by have := hu.2; omega)
  unfold execOp
  simp only [ho, hx, hy]
  simp [eqGuard, binOp, go_sem, Sem.run_bind, h1, h2]
end
end Go.Proofs.Ytfdddipmeadecaa

/-
  journal: Open on a device that is on (contract).
-/
set_option linter.unusedVariables false
set_option linter.unusedSimpArgs false
namespace Go.Proofs.Ytfdddipmeadecaa
open Go.RowKit
abbrev ptr (g : Nat) : Value := .pointer (some ⟨g, 0, none⟩)
abbrev jrow (gj g gp gq : Nat) (r : Rec) : Ent := row gj (jrC (ptr g) (ptr gp) (ptr gq) r) 66
set_option maxRecDepth 100000 in
theorem jr_build (g : Nat) (w : World) : (Instr.build 66 #[(0, ptr g)]).run Try.prog w = .ok (.agg (jrC (ptr g) (.pointer none) (.pointer none) rec0)) w := by kernel_rfl
theorem jr_one (d p q : Nat) (r : Rec) : (jrC (ptr d) (.pointer none) (.pointer none) r).all (·.oneCell') = true := by
  have h := recC_one r
  simp only [jrC, List.all_toArray, List.all_append, List.all_cons, List.all_nil] at h ⊢
  rw [← Array.all_toList] at h
  rw [h]
  rfl
def mapJ : Array Value := #[.int .i64 0, .int .i64 1, .int .i64 1, .int .i64 1, .int .i64 0, .int .i64 0, .int .i64 0, .int .i64 0, .int .i64 0, .int .i64 0, .int .i64 0]


section
variable {w0 w : World} {L X : List Ent} {g : Nat} {D : Dev}
set_option maxHeartbeats 1600000 in
set_option maxRecDepth 100000 in
theorem jopen_any (K : Known w0 w (X ++ L)) (hD : DevIs w0 g D X) (hc : 2 ≤ D.count) (ho : D.off = false) : Calls Try.prog 7 #[ptr g, .agg mapJ] w fun e w' => ∃ gj gp gq, e = .returned (.tuple #[ptr gj, .int .i64 0]) ∧ Known w0 w' (X ++ (jrow gj g gp gq (lastJ D) :: prow gp g 0 1 :: prow gq g 1 1 :: L)) := by
  have hok := hD.ok
  have hsz := hok.size
  have HON0 := Lib.hid (show onR D.count 0 1 = true by simp [onR]; omega)
  have HON1 := Lib.hid (show onR D.count 1 1 = true by simp [onR]; omega)
  have HOFF := Lib.hid (show (!D.off) = true by rw [ho]; rfl)
  clear ho
  go_enter Try.func7, Try.ntmps7
  go_upto_region 3 with ((first | ((with_reducible refine at_build (t := 66) rfl ?_); refine ev_build rfl 66 rfl (vals := #[(0, ptr g)]) (by first | rfl | (go_simp; done) | (go_simp; rfl)) (jr_build g _) ?_) | ((with_reducible refine at_slot (N := 19) rfl ?_); (with_reducible refine at_box rfl ?_); refine wpList_does rfl (kd_box K _ _ rfl (by conv => lhs; whnf)) ?_; clear K; rintro _ w1 ⟨gj, rfl, K⟩; (try dsimp only [Value.cells] at K)) | ((with_reducible refine at_box rfl ?_); refine wpList_does rfl (kd_box K _ _ rfl (by conv => lhs; whnf)) ?_; clear K; rintro _ w1 ⟨gm, rfl, K⟩; (try dsimp only [Value.cells] at K)) | ((with_reducible refine at_load rfl ?_); refine wpList_reads (by rfl) (kr_load_mid (n := 4) (i := 0) K _ _ (by rfl) (by rfl) Has.auto (by kernel_rfl) (by kernel_rfl) (show mapJ.extract 0 (0 + 4) = #[.int .i64 0, .int .i64 1, .int .i64 1, .int .i64 1] from rfl) (by kernel_rfl)) ?_) | ((with_reducible refine at_eqnil rfl ?_); refine wpList_reads rfl (kr_eqnil rfl rfl (by kernel_rfl)) ?_) | ((with_reducible refine at_box rfl ?_); refine wpList_does rfl (kd_box K _ _ rfl (by conv => lhs; whnf)) ?_; clear K; rintro _ w1 ⟨g, rfl, K⟩; (try dsimp only [Value.cells] at K)) | ((with_reducible refine at_alloc rfl ?_); refine wpList_does rfl (kd_alloc K _ rfl rfl) ?_; clear K; rintro _ w1 ⟨g, rfl, K⟩; (try dsimp only [Value.cells] at K)) | ((with_reducible refine at_buildSlice rfl ?_); refine wpList_does rfl (kd_lits (cs := _) K _ _ _ rfl (by first | rfl | (go_simp; done) | (go_simp; rfl)) (by first | rfl | (go_simp; done) | (go_simp; rfl))) ?_; clear K; rintro _ w1 ⟨g, rfl, K⟩) | ((with_reducible refine at_load rfl ?_); first | (refine wpList_reads (by rfl) (kr_load_cell K _ _ (by rfl) (by rfl) Has.auto (by decide +kernel) (by (try simp only [List.getElem?_toArray, List.getElem?_cons_succ, List.getElem?_cons_zero]); exact rfl)) ?_) | (refine wpList_reads (by rfl) (kr_load_row K _ _ (by rfl) (by rfl) Has.auto (by decide +kernel) (by kernel_rfl)) ?_)) | ((with_reducible refine at_store rfl ?_); (first | (refine wpList_does rfl (kd_store_cell K _ _ _ rfl rfl (by conv => lhs; whnf) Repl.auto rfl rfl (by kernel_rfl) (by kernel_rfl) (by first | (simp only [List.setIfInBounds_toArray, List.set_cons_succ, List.set_cons_zero]; rfl) | rfl)) ?_) | (refine wpList_does rfl (kd_store_row K _ _ _ rfl rfl rfl Repl.auto (by kernel_rfl) (by kernel_rfl) (by kernel_rfl)) ?_)); clear K; intro _ w1 K; (try simp only [Act.put]))))
  go_loopg [22] 2 (fun q v wr => (q = 2 ∧ v = .int .i64 0 ∧ Known w0 wr (row gj (jrC (ptr g) (.pointer none) (.pointer none) rec0) 66 :: (X ++ L))) ∨ (q = 1 ∧ v = .int .i64 1 ∧ ∃ gp, Known w0 wr (row gj (jrC (ptr g) (ptr gp) (.pointer none) rec0) 66 :: prow gp g 0 1 :: (X ++ L))) ∨ (q = 0 ∧ v = .int .i64 2 ∧ ∃ gp gq, Known w0 wr (X ++ (jrow gj g gp gq rec0 :: prow gp g 0 1 :: prow gq g 1 1 :: L))))
  case atStart => exact .inl ⟨rfl, by go_num, K.cov Cov.auto⟩
  case round =>
    clear K
    obtain ⟨rfl, rfl, K⟩ | ⟨rfl, rfl, gp0, K⟩ | ⟨rfl, rfl, gp, gq, K⟩ := hrel
    · go_wp2_with (first | ((with_reducible refine at_index (t := 32) rfl ?_); refine ev_index rfl 32 rfl rfl rfl (v := .agg #[.int .i64 0, .int .i64 1]) (by kernel_rfl) ?_) | ((with_reducible refine at_slot (N := 8) rfl ?_); (with_reducible refine at_alloc rfl ?_); refine wpList_does rfl (kd_alloc K _ rfl rfl) ?_; clear K; rintro _ w1 ⟨gr, rfl, K⟩; (try dsimp only [Value.cells] at K)) | (go_at_call 21; (with_reducible refine (popen_yes (K.sel (by repeat (first | with_reducible exact Sel.nil _ | with_reducible exact Sel.ap _ _ | with_reducible exact Sel.hd _ _ | with_reducible exact Sel.all _ | with_reducible apply Sel.tl | with_reducible apply Sel.sk))) hD HON0.out).mono ?_); clear K; rintro e w1 ⟨gp, rfl, K⟩) | ((with_reducible refine at_store rfl ?_); refine wpList_does rfl (kd_store_cell K _ _ _ rfl rfl (by conv => lhs; whnf) Repl.auto rfl rfl (by kernel_rfl) (by rw [jrC_size _ _ _ _ man0_len]; rfl) (jrC_set1 _ _ _ _ _)) ?_; clear K; intro _ w1 K) | ((with_reducible refine at_eqnil rfl ?_); refine wpList_reads rfl (kr_eqnil rfl rfl (by kernel_rfl)) ?_) | ((with_reducible refine at_box rfl ?_); refine wpList_does rfl (kd_box K _ _ rfl (by conv => lhs; whnf)) ?_; clear K; rintro _ w1 ⟨g, rfl, K⟩; (try dsimp only [Value.cells] at K)) | ((with_reducible refine at_alloc rfl ?_); refine wpList_does rfl (kd_alloc K _ rfl rfl) ?_; clear K; rintro _ w1 ⟨g, rfl, K⟩; (try dsimp only [Value.cells] at K)) | ((with_reducible refine at_buildSlice rfl ?_); refine wpList_does rfl (kd_lits (cs := _) K _ _ _ rfl (by first | rfl | (go_simp; done) | (go_simp; rfl)) (by first | rfl | (go_simp; done) | (go_simp; rfl))) ?_; clear K; rintro _ w1 ⟨g, rfl, K⟩) | ((with_reducible refine at_load rfl ?_); first | (refine wpList_reads (by rfl) (kr_load_cell K _ _ (by rfl) (by rfl) Has.auto (by decide +kernel) (by (try simp only [List.getElem?_toArray, List.getElem?_cons_succ, List.getElem?_cons_zero]); exact rfl)) ?_) | (refine wpList_reads (by rfl) (kr_load_row K _ _ (by rfl) (by rfl) Has.auto (by decide +kernel) (by kernel_rfl)) ?_)) | ((with_reducible refine at_store rfl ?_); (first | (refine wpList_does rfl (kd_store_cell K _ _ _ rfl rfl (by conv => lhs; whnf) Repl.auto rfl rfl (by kernel_rfl) (by kernel_rfl) (by first | (simp only [List.setIfInBounds_toArray, List.set_cons_succ, List.set_cons_zero]; rfl) | rfl)) ?_) | (refine wpList_does rfl (kd_store_row K _ _ _ rfl rfl rfl Repl.auto (by kernel_rfl) (by kernel_rfl) (by kernel_rfl)) ?_)); clear K; intro _ w1 K; (try simp only [Act.put])))
      go_roundg 1
      case measure => omega
      case rel => exact .inr (.inl ⟨rfl, by go_num, gp, K.cov Cov.auto⟩)
    · go_wp2_with (first | ((with_reducible refine at_index (t := 32) rfl ?_); refine ev_index rfl 32 rfl rfl rfl (v := .agg #[.int .i64 1, .int .i64 1]) (by kernel_rfl) ?_) | ((with_reducible refine at_slot (N := 8) rfl ?_); (with_reducible refine at_alloc rfl ?_); refine wpList_does rfl (kd_alloc K _ rfl rfl) ?_; clear K; rintro _ w1 ⟨gr, rfl, K⟩; (try dsimp only [Value.cells] at K)) | (go_at_call 21; (with_reducible refine (popen_yes (K.sel (by repeat (first | with_reducible exact Sel.nil _ | with_reducible exact Sel.ap _ _ | with_reducible exact Sel.hd _ _ | with_reducible exact Sel.all _ | with_reducible apply Sel.tl | with_reducible apply Sel.sk))) hD HON1.out).mono ?_); clear K; rintro e w1 ⟨gp, rfl, K⟩) | ((with_reducible refine at_store rfl ?_); refine wpList_does rfl (kd_store_cell K _ _ _ rfl rfl (by conv => lhs; whnf) Repl.auto rfl rfl (by kernel_rfl) (by rw [jrC_size _ _ _ _ man0_len]; rfl) (jrC_set2 _ _ _ _ _)) ?_; clear K; intro _ w1 K) | ((with_reducible refine at_eqnil rfl ?_); refine wpList_reads rfl (kr_eqnil rfl rfl (by kernel_rfl)) ?_) | ((with_reducible refine at_box rfl ?_); refine wpList_does rfl (kd_box K _ _ rfl (by conv => lhs; whnf)) ?_; clear K; rintro _ w1 ⟨g, rfl, K⟩; (try dsimp only [Value.cells] at K)) | ((with_reducible refine at_alloc rfl ?_); refine wpList_does rfl (kd_alloc K _ rfl rfl) ?_; clear K; rintro _ w1 ⟨g, rfl, K⟩; (try dsimp only [Value.cells] at K)) | ((with_reducible refine at_buildSlice rfl ?_); refine wpList_does rfl (kd_lits (cs := _) K _ _ _ rfl (by first | rfl | (go_simp; done) | (go_simp; rfl)) (by first | rfl | (go_simp; done) | (go_simp; rfl))) ?_; clear K; rintro _ w1 ⟨g, rfl, K⟩) | ((with_reducible refine at_load rfl ?_); first | (refine wpList_reads (by rfl) (kr_load_cell K _ _ (by rfl) (by rfl) Has.auto (by decide +kernel) (by (try simp only [List.getElem?_toArray, List.getElem?_cons_succ, List.getElem?_cons_zero]); exact rfl)) ?_) | (refine wpList_reads (by rfl) (kr_load_row K _ _ (by rfl) (by rfl) Has.auto (by decide +kernel) (by kernel_rfl)) ?_)) | ((with_reducible refine at_store rfl ?_); (first | (refine wpList_does rfl (kd_store_cell K _ _ _ rfl rfl (by conv => lhs; whnf) Repl.auto rfl rfl (by kernel_rfl) (by kernel_rfl) (by first | (simp only [List.setIfInBounds_toArray, List.set_cons_succ, List.set_cons_zero]; rfl) | rfl)) ?_) | (refine wpList_does rfl (kd_store_row K _ _ _ rfl rfl rfl Repl.auto (by kernel_rfl) (by kernel_rfl) (by kernel_rfl)) ?_)); clear K; intro _ w1 K; (try simp only [Act.put])))
      go_roundg 0
      case measure => omega
      case rel => exact .inr (.inr ⟨rfl, by go_num, gp0, gp, K.cov Cov.auto⟩)
    · go_upto_region 14 with ((first | (go_at_call 22; (with_reducible refine (son_any (K.sel (by repeat (first | with_reducible exact Sel.nil _ | with_reducible exact Sel.ap _ _ | with_reducible exact Sel.hd _ _ | with_reducible exact Sel.all _ | with_reducible apply Sel.tl | with_reducible apply Sel.sk))) hD).mono ?_); rintro e w' ⟨rfl, rfl⟩; rw [HOFF.out]) | ((with_reducible refine at_load rfl ?_); refine wpList_reads (by rfl) (kr_load_mid (n := 2) (i := 1) K _ _ (by rfl) (by rfl) Has.auto (by kernel_rfl) (by kernel_rfl) (jrC_parts _ _ _ _) (by rw [jrC_size _ _ _ _ man0_len]; rfl)) ?_)))
      go_loopg [11, 49] 2 (fun q v11 v wr => ∃ i : Nat, v11 = .bool (stJ D i).2 ∧ v = .int .i64 i ∧ i + q = 2 ∧ Known w0 wr (X ++ (jrow gj g gp gq (stJ D i).1 :: prow gp g 0 1 :: prow gq g 1 1 :: L)))
      case atStart => exact ⟨0, rfl, by go_num, by omega, K⟩
      case round =>
        clear K
        obtain ⟨i, rfl, rfl, hdi, K⟩ := hrel
        obtain rfl | rfl | rfl : i = 0 ∨ i = 1 ∨ i = 2 := by omega
        · skip
          have HDS := Lib.hid (stJ_ok hok 0)
          obtain ⟨⟨l, f⟩, hlf⟩ : ∃ s, stJ D 0 = s := ⟨_, rfl⟩
          rw [hlf] at HDS K
          obtain ⟨⟨bs, er⟩, hdr⟩ : ∃ s, dread D (0 : Nat) = s := ⟨_, rfl⟩
          have hpr := pread_one hok 0
          rw [hdr, Int.one_mul] at hpr
          have HPR := Lib.hid (show pread D 0 1 0 (D.size : Int) = (bs, er) from hpr)
          have HBB := Lib.hid (show ∀ v ∈ bs, 0 ≤ v ∧ v ≤ 255 by have := dread_byte hok (0 : Nat); rw [hdr] at this; exact this)
          have HBL := Lib.hid (show bs.length ≤ 4096 by have := dread_len hok (0 : Nat); rw [hdr] at this; simp only at this; omega)
          have HML := Lib.hid (show l.man.length = 32 from HDS.out.man)
          obtain ⟨⟨rr, ge⟩, hrg⟩ : ∃ s, resG bs = s := ⟨_, rfl⟩
          have hro := resG_ok HBB.out
          rw [hrg] at hro
          have hrq : 0 ≤ rr.seq ∧ rr.seq ≤ 18446744073709551615 := hro.u64.1
          have HMG := Lib.hid (show rr.man.length = 32 from hro.man)
          have HRG := Lib.hid hrg
          have hcd : cand D 0 = if er = 0 ∧ ge = 0 ∧ rr.seq % 2 = 0 then some rr else none := by unfold cand; rw [hdr]; simp only; rw [hrg]; rfl
          have hst1 : stJ D 1 = pickJ (l, f) (cand D 0) := by show pickJ (stJ D 0) (cand D 0) = _; rw [hlf]
          rw [hcd] at hst1
          rw [hlf]
          clear hlf hdr hpr hro hrg hcd HDS
          by_cases he : er = 0
          rotate_left
          · have e1 : (er == 0) = false := by simpa using he
            have HST := Lib.hid (show stJ D 1 = (l, f) by rw [hst1, if_neg (by omega)]; rfl)
            clear hst1 he
            go_wp2_with (first | ((with_reducible refine at_index (t := 64) rfl ?_); refine ev_index rfl 64 rfl rfl rfl (v := ptr gp) (by kernel_rfl) ?_) | (go_at_call 24; (with_reducible refine (psize_any (first := 0) (count := 1) K hD Has.auto (by omega)).mono ?_); clear K; rintro e w1 ⟨rfl, K⟩; rw [Int.one_mul]) | (go_at_call 23; (with_reducible refine (pread_any (first := 0) (count := 1) K hD Has.auto (by omega) (by omega) 0 (by omega) _).mono ?_); clear K; rintro e w1 ⟨A2, n2, c2, rfl, Z2, O2, hn2, K⟩; rw [HPR.out]; rw [HPR.out] at O2 hn2; subst hn2))
            go_roundg 1
            case measure => omega
            case rel => exact ⟨1, by rw [HST.out], by go_num, by omega, by rw [HST.out]; exact K.cov Cov.auto⟩
          subst he
          by_cases hg : ge = 0
          rotate_left
          · have HE1 := Lib.hid (show (ge == 0) = false by simpa using hg)
            have HST := Lib.hid (show stJ D 1 = (l, f) by rw [hst1, if_neg (by omega)]; rfl)
            clear hst1 hg
            go_upto_region 19 with ((first | ((with_reducible refine at_index (t := 64) rfl ?_); refine ev_index rfl 64 rfl rfl rfl (v := ptr gp) (by kernel_rfl) ?_) | (go_at_call 24; (with_reducible refine (psize_any (first := 0) (count := 1) K hD Has.auto (by omega)).mono ?_); clear K; rintro e w1 ⟨rfl, K⟩; rw [Int.one_mul]) | (go_at_call 23; (with_reducible refine (pread_any (first := 0) (count := 1) K hD Has.auto (by omega) (by omega) 0 (by omega) _).mono ?_); clear K; rintro e w1 ⟨A2, n2, c2, rfl, Z2, O2, hn2, K⟩; rw [HPR.out]; rw [HPR.out] at O2 hn2; subst hn2) | (go_at_call 25; (with_reducible refine (jget_any K (RdS.own (w0 := w0) O2 Seg.auto) O2.le O2.cap HBB.out (by have := HBL.out; omega)).mono ?_); clear K; rintro e w1 ⟨rfl, K⟩; rw [HRG.out]) | ((with_reducible refine at_slot (N := 16) rfl ?_); (with_reducible refine at_alloc rfl ?_); refine wpList_does rfl (kd_alloc (z := (.agg (recC rec0))) K _ rfl (by kernel_rfl)) ?_; clear K; rintro _ w1 ⟨gx, rfl, K⟩; (try dsimp only [Value.cells] at K)) | ((with_reducible refine at_store rfl ?_); refine wpList_does (by rfl) (kd_store_row K _ _ _ (by rfl) (by rfl) (by rfl) Repl.auto (by rw [recC_size _ HMG.out]; kernel_rfl) (by rw [recC_size _ man0_len, recC_size _ HMG.out]; rfl) (recC_one _)) ?_; clear K; intro _ w1 K; (try simp only [Act.put]))))
            refine wp_region_GK K (Cov.all _) (by kernel_rfl) (by kernel_rfl) (by kernel_rfl) (fun K hHeld => ?_)
            refine wpG_takeA 0 (v := ?_) ?_ hHeld ?_
            rotate_left
            · (intro w hS; (clear hS; go_simp); try with_reducible rfl)
            try simp only [Act.put, List.setIfInBounds_toArray, List.set_cons_zero, List.set_cons_succ]
            refine wpG_takeA 1 (v := .bool true) ?_ hHeld ?_
            · (intro w hS; first | exact kr_neqI (by rfl) (by rfl) (by rfl) HE1.out)
            try simp only [Act.put, List.setIfInBounds_toArray, List.set_cons_zero, List.set_cons_succ]
            refine wpG_takeA 2 (v := ?_) ?_ hHeld ?_
            rotate_left
            · (intro w hS; (clear hS; go_simp); try with_reducible rfl)
            try simp only [Act.put, List.setIfInBounds_toArray, List.set_cons_zero, List.set_cons_succ]
            refine wpG_offA 3 hHeld ?_
            try simp only [Act.put, List.setIfInBounds_toArray, List.set_cons_zero, List.set_cons_succ]
            refine wpG_offA 4 hHeld ?_
            try simp only [Act.put, List.setIfInBounds_toArray, List.set_cons_zero, List.set_cons_succ]
            refine wpG_offA 5 hHeld ?_
            try simp only [Act.put, List.setIfInBounds_toArray, List.set_cons_zero, List.set_cons_succ]
            refine wpG_offA 6 hHeld ?_
            try simp only [Act.put, List.setIfInBounds_toArray, List.set_cons_zero, List.set_cons_succ]
            refine wpG_offA 7 hHeld ?_
            try simp only [Act.put, List.setIfInBounds_toArray, List.set_cons_zero, List.set_cons_succ]
            refine wpG_offA 8 hHeld ?_
            try simp only [Act.put, List.setIfInBounds_toArray, List.set_cons_zero, List.set_cons_succ]
            refine wpG_takeA 9 (v := ?_) ?_ hHeld ?_
            rotate_left
            · (intro w hS; (clear hS; go_simp); try with_reducible rfl)
            try simp only [Act.put, List.setIfInBounds_toArray, List.set_cons_zero, List.set_cons_succ]
            refine wpG_takeA 10 (v := ?_) ?_ hHeld ?_
            rotate_left
            · (intro w hS; (clear hS; go_simp); try with_reducible rfl)
            try simp only [Act.put, List.setIfInBounds_toArray, List.set_cons_zero, List.set_cons_succ]
            refine wpG_offA 11 hHeld ?_
            try simp only [Act.put, List.setIfInBounds_toArray, List.set_cons_zero, List.set_cons_succ]
            refine wpG_offA 12 hHeld ?_
            try simp only [Act.put, List.setIfInBounds_toArray, List.set_cons_zero, List.set_cons_succ]
            refine wpG_offA 13 hHeld ?_
            try simp only [Act.put, List.setIfInBounds_toArray, List.set_cons_zero, List.set_cons_succ]
            refine wpG_offA 14 hHeld ?_
            try simp only [Act.put, List.setIfInBounds_toArray, List.set_cons_zero, List.set_cons_succ]
            refine wpG_offA 15 hHeld ?_
            try simp only [Act.put, List.setIfInBounds_toArray, List.set_cons_zero, List.set_cons_succ]
            refine wpG_offA 16 hHeld ?_
            try simp only [Act.put, List.setIfInBounds_toArray, List.set_cons_zero, List.set_cons_succ]
            refine wpG_offA 17 hHeld ?_
            try simp only [Act.put, List.setIfInBounds_toArray, List.set_cons_zero, List.set_cons_succ]
            refine wpG_offA 18 hHeld ?_
            try simp only [Act.put, List.setIfInBounds_toArray, List.set_cons_zero, List.set_cons_succ]
            refine wpG_offA 19 hHeld ?_
            try simp only [Act.put, List.setIfInBounds_toArray, List.set_cons_zero, List.set_cons_succ]
            refine wpG_offA 20 hHeld ?_
            try simp only [Act.put, List.setIfInBounds_toArray, List.set_cons_zero, List.set_cons_succ]
            refine wpG_offA 21 hHeld ?_
            try simp only [Act.put, List.setIfInBounds_toArray, List.set_cons_zero, List.set_cons_succ]
            refine wpG_takeA 22 (v := ?_) ?_ hHeld ?_
            rotate_left
            · (intro w hS; (clear hS; go_simp); try with_reducible rfl)
            try simp only [Act.put, List.setIfInBounds_toArray, List.set_cons_zero, List.set_cons_succ]
            refine wpG_done (by kernel_rfl) ?_
            skip
            go_wp2
            go_roundg 1
            case measure => omega
            case rel => exact ⟨1, by rw [HST.out], by go_num, by omega, by rw [HST.out]; exact K.cov Cov.auto⟩
          subst hg
          by_cases hp : rr.seq % 2 = 1
          · have HPAR := Lib.hid (show (0 ≤ rr.seq ∧ rr.seq ≤ 18446744073709551615) ∧ rr.seq % 2 = 1 from ⟨hrq, hp⟩)
            have HST := Lib.hid (show stJ D 1 = (l, f) by rw [hst1, if_neg (by omega)]; rfl)
            clear hst1 hp
            go_upto_region 19 with ((first | ((with_reducible refine at_index (t := 64) rfl ?_); refine ev_index rfl 64 rfl rfl rfl (v := ptr gp) (by kernel_rfl) ?_) | (go_at_call 24; (with_reducible refine (psize_any (first := 0) (count := 1) K hD Has.auto (by omega)).mono ?_); clear K; rintro e w1 ⟨rfl, K⟩; rw [Int.one_mul]) | (go_at_call 23; (with_reducible refine (pread_any (first := 0) (count := 1) K hD Has.auto (by omega) (by omega) 0 (by omega) _).mono ?_); clear K; rintro e w1 ⟨A2, n2, c2, rfl, Z2, O2, hn2, K⟩; rw [HPR.out]; rw [HPR.out] at O2 hn2; subst hn2) | (go_at_call 25; (with_reducible refine (jget_any K (RdS.own (w0 := w0) O2 Seg.auto) O2.le O2.cap HBB.out (by have := HBL.out; omega)).mono ?_); clear K; rintro e w1 ⟨rfl, K⟩; rw [HRG.out]) | ((with_reducible refine at_slot (N := 16) rfl ?_); (with_reducible refine at_alloc rfl ?_); refine wpList_does rfl (kd_alloc (z := (.agg (recC rec0))) K _ rfl (by kernel_rfl)) ?_; clear K; rintro _ w1 ⟨gx, rfl, K⟩; (try dsimp only [Value.cells] at K)) | ((with_reducible refine at_store rfl ?_); refine wpList_does (by rfl) (kd_store_row K _ _ _ (by rfl) (by rfl) (by rfl) Repl.auto (by rw [recC_size _ HMG.out]; kernel_rfl) (by rw [recC_size _ man0_len, recC_size _ HMG.out]; rfl) (recC_one _)) ?_; clear K; intro _ w1 K; (try simp only [Act.put]))))
            refine wp_region_GK K (Cov.all _) (by kernel_rfl) (by kernel_rfl) (by kernel_rfl) (fun K hHeld => ?_)
            refine wpG_takeA 0 (v := ?_) ?_ hHeld ?_
            rotate_left
            · (intro w hS; (clear hS; go_simp); try with_reducible rfl)
            try simp only [Act.put, List.setIfInBounds_toArray, List.set_cons_zero, List.set_cons_succ]
            refine wpG_takeA 1 (v := .bool false) ?_ hHeld ?_
            · (intro w hS; first | exact kr_neqI (by rfl) (by rfl) (by rfl) (show ((0 : Int) == 0) = true from rfl))
            try simp only [Act.put, List.setIfInBounds_toArray, List.set_cons_zero, List.set_cons_succ]
            refine wpG_takeA 2 (v := ?_) ?_ hHeld ?_
            rotate_left
            · (intro w hS; (clear hS; go_simp); try with_reducible rfl)
            try simp only [Act.put, List.setIfInBounds_toArray, List.set_cons_zero, List.set_cons_succ]
            refine wpG_takeA 3 (v := ?_) ?_ hHeld ?_
            rotate_left
            · (intro w hS; (clear hS; go_simp); try with_reducible rfl)
            try simp only [Act.put, List.setIfInBounds_toArray, List.set_cons_zero, List.set_cons_succ]
            refine wpG_takeA 4 (v := .int .u64 rr.seq) ?_ hHeld ?_
            · (intro w hS; first | exact kr_load_cell hS _ _ (by rfl) (by rfl) Has.auto (by kernel_rfl) (recC_0 _))
            try simp only [Act.put, List.setIfInBounds_toArray, List.set_cons_zero, List.set_cons_succ]
            refine wpG_takeA 5 (v := .int .u64 1) ?_ hHeld ?_
            · (intro w hS; first | exact kr_rem2 (by rfl) (by rfl) (by rfl) HPAR.out)
            try simp only [Act.put, List.setIfInBounds_toArray, List.set_cons_zero, List.set_cons_succ]
            refine wpG_takeA 6 (v := ?_) ?_ hHeld ?_
            rotate_left
            · (intro w hS; (clear hS; go_simp); try with_reducible rfl)
            try simp only [Act.put, List.setIfInBounds_toArray, List.set_cons_zero, List.set_cons_succ]
            refine wpG_takeA 7 (v := ?_) ?_ hHeld ?_
            rotate_left
            · (intro w hS; (clear hS; go_simp); try with_reducible rfl)
            try simp only [Act.put, List.setIfInBounds_toArray, List.set_cons_zero, List.set_cons_succ]
            refine wpG_takeA 8 (v := .bool true) ?_ hHeld ?_
            · (intro w hS; first | exact kr_neqI (by rfl) (by rfl) (by rfl) (show ((1 : Int) == 0) = false from rfl))
            try simp only [Act.put, List.setIfInBounds_toArray, List.set_cons_zero, List.set_cons_succ]
            refine wpG_takeA 9 (v := ?_) ?_ hHeld ?_
            rotate_left
            · (intro w hS; (clear hS; go_simp); try with_reducible rfl)
            try simp only [Act.put, List.setIfInBounds_toArray, List.set_cons_zero, List.set_cons_succ]
            refine wpG_takeA 10 (v := ?_) ?_ hHeld ?_
            rotate_left
            · (intro w hS; (clear hS; go_simp); try with_reducible rfl)
            try simp only [Act.put, List.setIfInBounds_toArray, List.set_cons_zero, List.set_cons_succ]
            refine wpG_offA 11 hHeld ?_
            try simp only [Act.put, List.setIfInBounds_toArray, List.set_cons_zero, List.set_cons_succ]
            refine wpG_offA 12 hHeld ?_
            try simp only [Act.put, List.setIfInBounds_toArray, List.set_cons_zero, List.set_cons_succ]
            refine wpG_offA 13 hHeld ?_
            try simp only [Act.put, List.setIfInBounds_toArray, List.set_cons_zero, List.set_cons_succ]
            refine wpG_offA 14 hHeld ?_
            try simp only [Act.put, List.setIfInBounds_toArray, List.set_cons_zero, List.set_cons_succ]
            refine wpG_offA 15 hHeld ?_
            try simp only [Act.put, List.setIfInBounds_toArray, List.set_cons_zero, List.set_cons_succ]
            refine wpG_offA 16 hHeld ?_
            try simp only [Act.put, List.setIfInBounds_toArray, List.set_cons_zero, List.set_cons_succ]
            refine wpG_offA 17 hHeld ?_
            try simp only [Act.put, List.setIfInBounds_toArray, List.set_cons_zero, List.set_cons_succ]
            refine wpG_offA 18 hHeld ?_
            try simp only [Act.put, List.setIfInBounds_toArray, List.set_cons_zero, List.set_cons_succ]
            refine wpG_offA 19 hHeld ?_
            try simp only [Act.put, List.setIfInBounds_toArray, List.set_cons_zero, List.set_cons_succ]
            refine wpG_offA 20 hHeld ?_
            try simp only [Act.put, List.setIfInBounds_toArray, List.set_cons_zero, List.set_cons_succ]
            refine wpG_offA 21 hHeld ?_
            try simp only [Act.put, List.setIfInBounds_toArray, List.set_cons_zero, List.set_cons_succ]
            refine wpG_takeA 22 (v := ?_) ?_ hHeld ?_
            rotate_left
            · (intro w hS; (clear hS; go_simp); try with_reducible rfl)
            try simp only [Act.put, List.setIfInBounds_toArray, List.set_cons_zero, List.set_cons_succ]
            refine wpG_done (by kernel_rfl) ?_
            skip
            go_wp2
            go_roundg 1
            case measure => omega
            case rel => exact ⟨1, by rw [HST.out], by go_num, by omega, by rw [HST.out]; exact K.cov Cov.auto⟩
          have hp2 : rr.seq % 2 = 0 := by omega
          have HPAR := Lib.hid (show (0 ≤ rr.seq ∧ rr.seq ≤ 18446744073709551615) ∧ rr.seq % 2 = 0 from ⟨hrq, hp2⟩)
          rw [if_pos ⟨rfl, rfl, hp2⟩] at hst1
          clear hp hp2
          cases f
          · have HST := Lib.hid (show stJ D 1 = (rr, true) by rw [hst1, pickJ, if_neg (by simp)])
            clear hst1
            go_upto_region 19 with ((first | ((with_reducible refine at_index (t := 64) rfl ?_); refine ev_index rfl 64 rfl rfl rfl (v := ptr gp) (by kernel_rfl) ?_) | (go_at_call 24; (with_reducible refine (psize_any (first := 0) (count := 1) K hD Has.auto (by omega)).mono ?_); clear K; rintro e w1 ⟨rfl, K⟩; rw [Int.one_mul]) | (go_at_call 23; (with_reducible refine (pread_any (first := 0) (count := 1) K hD Has.auto (by omega) (by omega) 0 (by omega) _).mono ?_); clear K; rintro e w1 ⟨A2, n2, c2, rfl, Z2, O2, hn2, K⟩; rw [HPR.out]; rw [HPR.out] at O2 hn2; subst hn2) | (go_at_call 25; (with_reducible refine (jget_any K (RdS.own (w0 := w0) O2 Seg.auto) O2.le O2.cap HBB.out (by have := HBL.out; omega)).mono ?_); clear K; rintro e w1 ⟨rfl, K⟩; rw [HRG.out]) | ((with_reducible refine at_slot (N := 16) rfl ?_); (with_reducible refine at_alloc rfl ?_); refine wpList_does rfl (kd_alloc (z := (.agg (recC rec0))) K _ rfl (by kernel_rfl)) ?_; clear K; rintro _ w1 ⟨gx, rfl, K⟩; (try dsimp only [Value.cells] at K)) | ((with_reducible refine at_store rfl ?_); refine wpList_does (by rfl) (kd_store_row K _ _ _ (by rfl) (by rfl) (by rfl) Repl.auto (by rw [recC_size _ HMG.out]; kernel_rfl) (by rw [recC_size _ man0_len, recC_size _ HMG.out]; rfl) (recC_one _)) ?_; clear K; intro _ w1 K; (try simp only [Act.put]))))
            refine wp_region_GK K (Cov.all _) (by kernel_rfl) (by kernel_rfl) (by kernel_rfl) (fun K hHeld => ?_)
            refine wpG_takeA 0 (v := ?_) ?_ hHeld ?_
            rotate_left
            · (intro w hS; (clear hS; go_simp); try with_reducible rfl)
            try simp only [Act.put, List.setIfInBounds_toArray, List.set_cons_zero, List.set_cons_succ]
            refine wpG_takeA 1 (v := .bool false) ?_ hHeld ?_
            · (intro w hS; first | exact kr_neqI (by rfl) (by rfl) (by rfl) (show ((0 : Int) == 0) = true from rfl))
            try simp only [Act.put, List.setIfInBounds_toArray, List.set_cons_zero, List.set_cons_succ]
            refine wpG_takeA 2 (v := ?_) ?_ hHeld ?_
            rotate_left
            · (intro w hS; (clear hS; go_simp); try with_reducible rfl)
            try simp only [Act.put, List.setIfInBounds_toArray, List.set_cons_zero, List.set_cons_succ]
            refine wpG_takeA 3 (v := ?_) ?_ hHeld ?_
            rotate_left
            · (intro w hS; (clear hS; go_simp); try with_reducible rfl)
            try simp only [Act.put, List.setIfInBounds_toArray, List.set_cons_zero, List.set_cons_succ]
            refine wpG_takeA 4 (v := .int .u64 rr.seq) ?_ hHeld ?_
            · (intro w hS; first | exact kr_load_cell hS _ _ (by rfl) (by rfl) Has.auto (by kernel_rfl) (recC_0 _))
            try simp only [Act.put, List.setIfInBounds_toArray, List.set_cons_zero, List.set_cons_succ]
            refine wpG_takeA 5 (v := .int .u64 0) ?_ hHeld ?_
            · (intro w hS; first | exact kr_rem2 (by rfl) (by rfl) (by rfl) HPAR.out)
            try simp only [Act.put, List.setIfInBounds_toArray, List.set_cons_zero, List.set_cons_succ]
            refine wpG_takeA 6 (v := ?_) ?_ hHeld ?_
            rotate_left
            · (intro w hS; (clear hS; go_simp); try with_reducible rfl)
            try simp only [Act.put, List.setIfInBounds_toArray, List.set_cons_zero, List.set_cons_succ]
            refine wpG_takeA 7 (v := ?_) ?_ hHeld ?_
            rotate_left
            · (intro w hS; (clear hS; go_simp); try with_reducible rfl)
            try simp only [Act.put, List.setIfInBounds_toArray, List.set_cons_zero, List.set_cons_succ]
            refine wpG_takeA 8 (v := .bool false) ?_ hHeld ?_
            · (intro w hS; first | exact kr_neqI (by rfl) (by rfl) (by rfl) (show ((0 : Int) == 0) = true from rfl))
            try simp only [Act.put, List.setIfInBounds_toArray, List.set_cons_zero, List.set_cons_succ]
            refine wpG_takeA 9 (v := ?_) ?_ hHeld ?_
            rotate_left
            · (intro w hS; (clear hS; go_simp); try with_reducible rfl)
            try simp only [Act.put, List.setIfInBounds_toArray, List.set_cons_zero, List.set_cons_succ]
            refine wpG_takeA 10 (v := ?_) ?_ hHeld ?_
            rotate_left
            · (intro w hS; (clear hS; go_simp); try with_reducible rfl)
            try simp only [Act.put, List.setIfInBounds_toArray, List.set_cons_zero, List.set_cons_succ]
            refine wpG_takeA 11 (v := ?_) ?_ hHeld ?_
            rotate_left
            · (intro w hS; (clear hS; go_simp); try with_reducible rfl)
            try simp only [Act.put, List.setIfInBounds_toArray, List.set_cons_zero, List.set_cons_succ]
            refine wpG_takeA 12 (v := ?_) ?_ hHeld ?_
            rotate_left
            · (intro w hS; (clear hS; go_simp); try with_reducible rfl)
            try simp only [Act.put, List.setIfInBounds_toArray, List.set_cons_zero, List.set_cons_succ]
            refine wpG_offA 13 hHeld ?_
            try simp only [Act.put, List.setIfInBounds_toArray, List.set_cons_zero, List.set_cons_succ]
            refine wpG_offA 14 hHeld ?_
            try simp only [Act.put, List.setIfInBounds_toArray, List.set_cons_zero, List.set_cons_succ]
            refine wpG_offA 15 hHeld ?_
            try simp only [Act.put, List.setIfInBounds_toArray, List.set_cons_zero, List.set_cons_succ]
            refine wpG_offA 16 hHeld ?_
            try simp only [Act.put, List.setIfInBounds_toArray, List.set_cons_zero, List.set_cons_succ]
            refine wpG_offA 17 hHeld ?_
            try simp only [Act.put, List.setIfInBounds_toArray, List.set_cons_zero, List.set_cons_succ]
            refine wpG_offA 18 hHeld ?_
            try simp only [Act.put, List.setIfInBounds_toArray, List.set_cons_zero, List.set_cons_succ]
            refine wpG_offA 19 hHeld ?_
            try simp only [Act.put, List.setIfInBounds_toArray, List.set_cons_zero, List.set_cons_succ]
            refine wpG_offA 20 hHeld ?_
            try simp only [Act.put, List.setIfInBounds_toArray, List.set_cons_zero, List.set_cons_succ]
            refine wpG_takeA 21 (v := ?_) ?_ hHeld ?_
            rotate_left
            · (intro w hS; (clear hS; go_simp); try with_reducible rfl)
            try simp only [Act.put, List.setIfInBounds_toArray, List.set_cons_zero, List.set_cons_succ]
            refine wpG_takeA 22 (v := ?_) ?_ hHeld ?_
            rotate_left
            · (intro w hS; (clear hS; go_simp); try with_reducible rfl)
            try simp only [Act.put, List.setIfInBounds_toArray, List.set_cons_zero, List.set_cons_succ]
            refine wpG_done (by kernel_rfl) ?_
            skip
            go_wp2_with (first | ((with_reducible refine at_load (t := 41) rfl ?_); refine wpList_reads (by rfl) (kr_load_row K _ _ (by rfl) (by rfl) Has.auto (by kernel_rfl) (by rw [recC_size _ HMG.out]; kernel_rfl)) ?_) | ((with_reducible refine at_store (t := 41) rfl ?_); refine wpList_does (by rfl) (kd_store_mid K _ _ _ (by rfl) (by rfl) (by rfl) Repl.auto (by rw [recC_size _ HMG.out]; kernel_rfl) (by rw [recC_size _ HMG.out, jrC_size _ _ _ _ HML.out]; omega) (recC_one _) (jrC_lay _ _ _ _ _ HML.out HMG.out)) ?_; clear K; intro _ w1 K))
            go_roundg 1
            case measure => omega
            case rel => exact ⟨1, by rw [HST.out], by go_num, by omega, by rw [HST.out]; exact K.cov Cov.auto⟩
          by_cases hlt : rr.seq < l.seq
          · have d1 : decide (rr.seq < l.seq) = true := decide_eq_true hlt
            have HST := Lib.hid (show stJ D 1 = (l, true) by rw [hst1, pickJ, if_pos ⟨rfl, hlt⟩])
            clear hst1 hlt
            go_upto_region 19 with ((first | ((with_reducible refine at_index (t := 64) rfl ?_); refine ev_index rfl 64 rfl rfl rfl (v := ptr gp) (by kernel_rfl) ?_) | (go_at_call 24; (with_reducible refine (psize_any (first := 0) (count := 1) K hD Has.auto (by omega)).mono ?_); clear K; rintro e w1 ⟨rfl, K⟩; rw [Int.one_mul]) | (go_at_call 23; (with_reducible refine (pread_any (first := 0) (count := 1) K hD Has.auto (by omega) (by omega) 0 (by omega) _).mono ?_); clear K; rintro e w1 ⟨A2, n2, c2, rfl, Z2, O2, hn2, K⟩; rw [HPR.out]; rw [HPR.out] at O2 hn2; subst hn2) | (go_at_call 25; (with_reducible refine (jget_any K (RdS.own (w0 := w0) O2 Seg.auto) O2.le O2.cap HBB.out (by have := HBL.out; omega)).mono ?_); clear K; rintro e w1 ⟨rfl, K⟩; rw [HRG.out]) | ((with_reducible refine at_slot (N := 16) rfl ?_); (with_reducible refine at_alloc rfl ?_); refine wpList_does rfl (kd_alloc (z := (.agg (recC rec0))) K _ rfl (by kernel_rfl)) ?_; clear K; rintro _ w1 ⟨gx, rfl, K⟩; (try dsimp only [Value.cells] at K)) | ((with_reducible refine at_store rfl ?_); refine wpList_does (by rfl) (kd_store_row K _ _ _ (by rfl) (by rfl) (by rfl) Repl.auto (by rw [recC_size _ HMG.out]; kernel_rfl) (by rw [recC_size _ man0_len, recC_size _ HMG.out]; rfl) (recC_one _)) ?_; clear K; intro _ w1 K; (try simp only [Act.put]))))
            refine wp_region_GK K (Cov.all _) (by kernel_rfl) (by kernel_rfl) (by kernel_rfl) (fun K hHeld => ?_)
            refine wpG_takeA 0 (v := ?_) ?_ hHeld ?_
            rotate_left
            · (intro w hS; (clear hS; go_simp); try with_reducible rfl)
            try simp only [Act.put, List.setIfInBounds_toArray, List.set_cons_zero, List.set_cons_succ]
            refine wpG_takeA 1 (v := .bool false) ?_ hHeld ?_
            · (intro w hS; first | exact kr_neqI (by rfl) (by rfl) (by rfl) (show ((0 : Int) == 0) = true from rfl))
            try simp only [Act.put, List.setIfInBounds_toArray, List.set_cons_zero, List.set_cons_succ]
            refine wpG_takeA 2 (v := ?_) ?_ hHeld ?_
            rotate_left
            · (intro w hS; (clear hS; go_simp); try with_reducible rfl)
            try simp only [Act.put, List.setIfInBounds_toArray, List.set_cons_zero, List.set_cons_succ]
            refine wpG_takeA 3 (v := ?_) ?_ hHeld ?_
            rotate_left
            · (intro w hS; (clear hS; go_simp); try with_reducible rfl)
            try simp only [Act.put, List.setIfInBounds_toArray, List.set_cons_zero, List.set_cons_succ]
            refine wpG_takeA 4 (v := .int .u64 rr.seq) ?_ hHeld ?_
            · (intro w hS; first | exact kr_load_cell hS _ _ (by rfl) (by rfl) Has.auto (by kernel_rfl) (recC_0 _))
            try simp only [Act.put, List.setIfInBounds_toArray, List.set_cons_zero, List.set_cons_succ]
            refine wpG_takeA 5 (v := .int .u64 0) ?_ hHeld ?_
            · (intro w hS; first | exact kr_rem2 (by rfl) (by rfl) (by rfl) HPAR.out)
            try simp only [Act.put, List.setIfInBounds_toArray, List.set_cons_zero, List.set_cons_succ]
            refine wpG_takeA 6 (v := ?_) ?_ hHeld ?_
            rotate_left
            · (intro w hS; (clear hS; go_simp); try with_reducible rfl)
            try simp only [Act.put, List.setIfInBounds_toArray, List.set_cons_zero, List.set_cons_succ]
            refine wpG_takeA 7 (v := ?_) ?_ hHeld ?_
            rotate_left
            · (intro w hS; (clear hS; go_simp); try with_reducible rfl)
            try simp only [Act.put, List.setIfInBounds_toArray, List.set_cons_zero, List.set_cons_succ]
            refine wpG_takeA 8 (v := .bool false) ?_ hHeld ?_
            · (intro w hS; first | exact kr_neqI (by rfl) (by rfl) (by rfl) (show ((0 : Int) == 0) = true from rfl))
            try simp only [Act.put, List.setIfInBounds_toArray, List.set_cons_zero, List.set_cons_succ]
            refine wpG_takeA 9 (v := ?_) ?_ hHeld ?_
            rotate_left
            · (intro w hS; (clear hS; go_simp); try with_reducible rfl)
            try simp only [Act.put, List.setIfInBounds_toArray, List.set_cons_zero, List.set_cons_succ]
            refine wpG_takeA 10 (v := ?_) ?_ hHeld ?_
            rotate_left
            · (intro w hS; (clear hS; go_simp); try with_reducible rfl)
            try simp only [Act.put, List.setIfInBounds_toArray, List.set_cons_zero, List.set_cons_succ]
            refine wpG_takeA 11 (v := ?_) ?_ hHeld ?_
            rotate_left
            · (intro w hS; (clear hS; go_simp); try with_reducible rfl)
            try simp only [Act.put, List.setIfInBounds_toArray, List.set_cons_zero, List.set_cons_succ]
            refine wpG_takeA 12 (v := ?_) ?_ hHeld ?_
            rotate_left
            · (intro w hS; (clear hS; go_simp); try with_reducible rfl)
            try simp only [Act.put, List.setIfInBounds_toArray, List.set_cons_zero, List.set_cons_succ]
            refine wpG_takeA 13 (v := ?_) ?_ hHeld ?_
            rotate_left
            · (intro w hS; (clear hS; go_simp); try with_reducible rfl)
            try simp only [Act.put, List.setIfInBounds_toArray, List.set_cons_zero, List.set_cons_succ]
            refine wpG_takeA 14 (v := .int .u64 rr.seq) ?_ hHeld ?_
            · (intro w hS; first | exact kr_load_cell hS _ _ (by rfl) (by rfl) Has.auto (by kernel_rfl) (recC_0 _))
            try simp only [Act.put, List.setIfInBounds_toArray, List.set_cons_zero, List.set_cons_succ]
            refine wpG_takeA 15 (v := ?_) ?_ hHeld ?_
            rotate_left
            · (intro w hS; (clear hS; go_simp); try with_reducible rfl)
            try simp only [Act.put, List.setIfInBounds_toArray, List.set_cons_zero, List.set_cons_succ]
            refine wpG_takeA 16 (v := ?_) ?_ hHeld ?_
            rotate_left
            · (intro w hS; (clear hS; go_simp); try with_reducible rfl)
            try simp only [Act.put, List.setIfInBounds_toArray, List.set_cons_zero, List.set_cons_succ]
            refine wpG_takeA 17 (v := ?_) ?_ hHeld ?_
            rotate_left
            · (intro w hS; (clear hS; go_simp); try with_reducible rfl)
            try simp only [Act.put, List.setIfInBounds_toArray, List.set_cons_zero, List.set_cons_succ]
            refine wpG_takeA 18 (v := ?_) ?_ hHeld ?_
            rotate_left
            · (intro w hS; (clear hS; go_simp); try with_reducible rfl)
            try simp only [Act.put, List.setIfInBounds_toArray, List.set_cons_zero, List.set_cons_succ]
            refine wpG_takeA 19 (v := .int .u64 l.seq) ?_ hHeld ?_
            · (intro w hS; first | exact kr_load_cell hS _ _ (by rfl) (by rfl) Has.auto (by kernel_rfl) (jrC_3 _ _ _ _))
            try simp only [Act.put, List.setIfInBounds_toArray, List.set_cons_zero, List.set_cons_succ]
            refine wpG_takeA 20 (v := ?_) ?_ hHeld ?_
            rotate_left
            · (intro w hS; (clear hS; go_simp); try with_reducible rfl)
            try simp only [Act.put, List.setIfInBounds_toArray, List.set_cons_zero, List.set_cons_succ]
            refine wpG_takeA 21 (v := ?_) ?_ hHeld ?_
            rotate_left
            · (intro w hS; (clear hS; go_simp); try with_reducible rfl)
            try simp only [Act.put, List.setIfInBounds_toArray, List.set_cons_zero, List.set_cons_succ]
            refine wpG_takeA 22 (v := ?_) ?_ hHeld ?_
            rotate_left
            · (intro w hS; (clear hS; go_simp); try with_reducible rfl)
            try simp only [Act.put, List.setIfInBounds_toArray, List.set_cons_zero, List.set_cons_succ]
            refine wpG_done (by kernel_rfl) ?_
            skip
            go_wp2
            go_roundg 1
            case measure => omega
            case rel => exact ⟨1, by rw [HST.out], by go_num, by omega, by rw [HST.out]; exact K.cov Cov.auto⟩
          · have d1 : decide (rr.seq < l.seq) = false := decide_eq_false hlt
            have HST := Lib.hid (show stJ D 1 = (rr, true) by rw [hst1, pickJ, if_neg (by exact fun h => hlt h.2)])
            clear hst1 hlt
            go_upto_region 19 with ((first | ((with_reducible refine at_index (t := 64) rfl ?_); refine ev_index rfl 64 rfl rfl rfl (v := ptr gp) (by kernel_rfl) ?_) | (go_at_call 24; (with_reducible refine (psize_any (first := 0) (count := 1) K hD Has.auto (by omega)).mono ?_); clear K; rintro e w1 ⟨rfl, K⟩; rw [Int.one_mul]) | (go_at_call 23; (with_reducible refine (pread_any (first := 0) (count := 1) K hD Has.auto (by omega) (by omega) 0 (by omega) _).mono ?_); clear K; rintro e w1 ⟨A2, n2, c2, rfl, Z2, O2, hn2, K⟩; rw [HPR.out]; rw [HPR.out] at O2 hn2; subst hn2) | (go_at_call 25; (with_reducible refine (jget_any K (RdS.own (w0 := w0) O2 Seg.auto) O2.le O2.cap HBB.out (by have := HBL.out; omega)).mono ?_); clear K; rintro e w1 ⟨rfl, K⟩; rw [HRG.out]) | ((with_reducible refine at_slot (N := 16) rfl ?_); (with_reducible refine at_alloc rfl ?_); refine wpList_does rfl (kd_alloc (z := (.agg (recC rec0))) K _ rfl (by kernel_rfl)) ?_; clear K; rintro _ w1 ⟨gx, rfl, K⟩; (try dsimp only [Value.cells] at K)) | ((with_reducible refine at_store rfl ?_); refine wpList_does (by rfl) (kd_store_row K _ _ _ (by rfl) (by rfl) (by rfl) Repl.auto (by rw [recC_size _ HMG.out]; kernel_rfl) (by rw [recC_size _ man0_len, recC_size _ HMG.out]; rfl) (recC_one _)) ?_; clear K; intro _ w1 K; (try simp only [Act.put]))))
            refine wp_region_GK K (Cov.all _) (by kernel_rfl) (by kernel_rfl) (by kernel_rfl) (fun K hHeld => ?_)
            refine wpG_takeA 0 (v := ?_) ?_ hHeld ?_
            rotate_left
            · (intro w hS; (clear hS; go_simp); try with_reducible rfl)
            try simp only [Act.put, List.setIfInBounds_toArray, List.set_cons_zero, List.set_cons_succ]
            refine wpG_takeA 1 (v := .bool false) ?_ hHeld ?_
            · (intro w hS; first | exact kr_neqI (by rfl) (by rfl) (by rfl) (show ((0 : Int) == 0) = true from rfl))
            try simp only [Act.put, List.setIfInBounds_toArray, List.set_cons_zero, List.set_cons_succ]
            refine wpG_takeA 2 (v := ?_) ?_ hHeld ?_
            rotate_left
            · (intro w hS; (clear hS; go_simp); try with_reducible rfl)
            try simp only [Act.put, List.setIfInBounds_toArray, List.set_cons_zero, List.set_cons_succ]
            refine wpG_takeA 3 (v := ?_) ?_ hHeld ?_
            rotate_left
            · (intro w hS; (clear hS; go_simp); try with_reducible rfl)
            try simp only [Act.put, List.setIfInBounds_toArray, List.set_cons_zero, List.set_cons_succ]
            refine wpG_takeA 4 (v := .int .u64 rr.seq) ?_ hHeld ?_
            · (intro w hS; first | exact kr_load_cell hS _ _ (by rfl) (by rfl) Has.auto (by kernel_rfl) (recC_0 _))
            try simp only [Act.put, List.setIfInBounds_toArray, List.set_cons_zero, List.set_cons_succ]
            refine wpG_takeA 5 (v := .int .u64 0) ?_ hHeld ?_
            · (intro w hS; first | exact kr_rem2 (by rfl) (by rfl) (by rfl) HPAR.out)
            try simp only [Act.put, List.setIfInBounds_toArray, List.set_cons_zero, List.set_cons_succ]
            refine wpG_takeA 6 (v := ?_) ?_ hHeld ?_
            rotate_left
            · (intro w hS; (clear hS; go_simp); try with_reducible rfl)
            try simp only [Act.put, List.setIfInBounds_toArray, List.set_cons_zero, List.set_cons_succ]
            refine wpG_takeA 7 (v := ?_) ?_ hHeld ?_
            rotate_left
            · (intro w hS; (clear hS; go_simp); try with_reducible rfl)
            try simp only [Act.put, List.setIfInBounds_toArray, List.set_cons_zero, List.set_cons_succ]
            refine wpG_takeA 8 (v := .bool false) ?_ hHeld ?_
            · (intro w hS; first | exact kr_neqI (by rfl) (by rfl) (by rfl) (show ((0 : Int) == 0) = true from rfl))
            try simp only [Act.put, List.setIfInBounds_toArray, List.set_cons_zero, List.set_cons_succ]
            refine wpG_takeA 9 (v := ?_) ?_ hHeld ?_
            rotate_left
            · (intro w hS; (clear hS; go_simp); try with_reducible rfl)
            try simp only [Act.put, List.setIfInBounds_toArray, List.set_cons_zero, List.set_cons_succ]
            refine wpG_takeA 10 (v := ?_) ?_ hHeld ?_
            rotate_left
            · (intro w hS; (clear hS; go_simp); try with_reducible rfl)
            try simp only [Act.put, List.setIfInBounds_toArray, List.set_cons_zero, List.set_cons_succ]
            refine wpG_takeA 11 (v := ?_) ?_ hHeld ?_
            rotate_left
            · (intro w hS; (clear hS; go_simp); try with_reducible rfl)
            try simp only [Act.put, List.setIfInBounds_toArray, List.set_cons_zero, List.set_cons_succ]
            refine wpG_takeA 12 (v := ?_) ?_ hHeld ?_
            rotate_left
            · (intro w hS; (clear hS; go_simp); try with_reducible rfl)
            try simp only [Act.put, List.setIfInBounds_toArray, List.set_cons_zero, List.set_cons_succ]
            refine wpG_takeA 13 (v := ?_) ?_ hHeld ?_
            rotate_left
            · (intro w hS; (clear hS; go_simp); try with_reducible rfl)
            try simp only [Act.put, List.setIfInBounds_toArray, List.set_cons_zero, List.set_cons_succ]
            refine wpG_takeA 14 (v := .int .u64 rr.seq) ?_ hHeld ?_
            · (intro w hS; first | exact kr_load_cell hS _ _ (by rfl) (by rfl) Has.auto (by kernel_rfl) (recC_0 _))
            try simp only [Act.put, List.setIfInBounds_toArray, List.set_cons_zero, List.set_cons_succ]
            refine wpG_takeA 15 (v := ?_) ?_ hHeld ?_
            rotate_left
            · (intro w hS; (clear hS; go_simp); try with_reducible rfl)
            try simp only [Act.put, List.setIfInBounds_toArray, List.set_cons_zero, List.set_cons_succ]
            refine wpG_takeA 16 (v := ?_) ?_ hHeld ?_
            rotate_left
            · (intro w hS; (clear hS; go_simp); try with_reducible rfl)
            try simp only [Act.put, List.setIfInBounds_toArray, List.set_cons_zero, List.set_cons_succ]
            refine wpG_takeA 17 (v := ?_) ?_ hHeld ?_
            rotate_left
            · (intro w hS; (clear hS; go_simp); try with_reducible rfl)
            try simp only [Act.put, List.setIfInBounds_toArray, List.set_cons_zero, List.set_cons_succ]
            refine wpG_takeA 18 (v := ?_) ?_ hHeld ?_
            rotate_left
            · (intro w hS; (clear hS; go_simp); try with_reducible rfl)
            try simp only [Act.put, List.setIfInBounds_toArray, List.set_cons_zero, List.set_cons_succ]
            refine wpG_takeA 19 (v := .int .u64 l.seq) ?_ hHeld ?_
            · (intro w hS; first | exact kr_load_cell hS _ _ (by rfl) (by rfl) Has.auto (by kernel_rfl) (jrC_3 _ _ _ _))
            try simp only [Act.put, List.setIfInBounds_toArray, List.set_cons_zero, List.set_cons_succ]
            refine wpG_takeA 20 (v := ?_) ?_ hHeld ?_
            rotate_left
            · (intro w hS; (clear hS; go_simp); try with_reducible rfl)
            try simp only [Act.put, List.setIfInBounds_toArray, List.set_cons_zero, List.set_cons_succ]
            refine wpG_takeA 21 (v := ?_) ?_ hHeld ?_
            rotate_left
            · (intro w hS; (clear hS; go_simp); try with_reducible rfl)
            try simp only [Act.put, List.setIfInBounds_toArray, List.set_cons_zero, List.set_cons_succ]
            refine wpG_takeA 22 (v := ?_) ?_ hHeld ?_
            rotate_left
            · (intro w hS; (clear hS; go_simp); try with_reducible rfl)
            try simp only [Act.put, List.setIfInBounds_toArray, List.set_cons_zero, List.set_cons_succ]
            refine wpG_done (by kernel_rfl) ?_
            skip
            go_wp2_with (first | ((with_reducible refine at_load (t := 41) rfl ?_); refine wpList_reads (by rfl) (kr_load_row K _ _ (by rfl) (by rfl) Has.auto (by kernel_rfl) (by rw [recC_size _ HMG.out]; kernel_rfl)) ?_) | ((with_reducible refine at_store (t := 41) rfl ?_); refine wpList_does (by rfl) (kd_store_mid K _ _ _ (by rfl) (by rfl) (by rfl) Repl.auto (by rw [recC_size _ HMG.out]; kernel_rfl) (by rw [recC_size _ HMG.out, jrC_size _ _ _ _ HML.out]; omega) (recC_one _) (jrC_lay _ _ _ _ _ HML.out HMG.out)) ?_; clear K; intro _ w1 K))
            go_roundg 1
            case measure => omega
            case rel => exact ⟨1, by rw [HST.out], by go_num, by omega, by rw [HST.out]; exact K.cov Cov.auto⟩
        · skip
          have HDS := Lib.hid (stJ_ok hok 1)
          obtain ⟨⟨l, f⟩, hlf⟩ : ∃ s, stJ D 1 = s := ⟨_, rfl⟩
          rw [hlf] at HDS K
          obtain ⟨⟨bs, er⟩, hdr⟩ : ∃ s, dread D (1 : Nat) = s := ⟨_, rfl⟩
          have hpr := pread_one hok 1
          rw [hdr, Int.one_mul] at hpr
          have HPR := Lib.hid (show pread D 1 1 0 (D.size : Int) = (bs, er) from hpr)
          have HBB := Lib.hid (show ∀ v ∈ bs, 0 ≤ v ∧ v ≤ 255 by have := dread_byte hok (1 : Nat); rw [hdr] at this; exact this)
          have HBL := Lib.hid (show bs.length ≤ 4096 by have := dread_len hok (1 : Nat); rw [hdr] at this; simp only at this; omega)
          have HML := Lib.hid (show l.man.length = 32 from HDS.out.man)
          obtain ⟨⟨rr, ge⟩, hrg⟩ : ∃ s, resG bs = s := ⟨_, rfl⟩
          have hro := resG_ok HBB.out
          rw [hrg] at hro
          have hrq : 0 ≤ rr.seq ∧ rr.seq ≤ 18446744073709551615 := hro.u64.1
          have HMG := Lib.hid (show rr.man.length = 32 from hro.man)
          have HRG := Lib.hid hrg
          have hcd : cand D 1 = if er = 0 ∧ ge = 0 ∧ rr.seq % 2 = 1 then some rr else none := by unfold cand; rw [hdr]; simp only; rw [hrg]; rfl
          have hst1 : stJ D 2 = pickJ (l, f) (cand D 1) := by show pickJ (stJ D 1) (cand D 1) = _; rw [hlf]
          rw [hcd] at hst1
          rw [hlf]
          clear hlf hdr hpr hro hrg hcd HDS
          by_cases he : er = 0
          rotate_left
          · have e1 : (er == 0) = false := by simpa using he
            have HST := Lib.hid (show stJ D 2 = (l, f) by rw [hst1, if_neg (by omega)]; rfl)
            clear hst1 he
            go_wp2_with (first | ((with_reducible refine at_index (t := 64) rfl ?_); refine ev_index rfl 64 rfl rfl rfl (v := ptr gq) (by kernel_rfl) ?_) | (go_at_call 24; (with_reducible refine (psize_any (first := 1) (count := 1) K hD Has.auto (by omega)).mono ?_); clear K; rintro e w1 ⟨rfl, K⟩; rw [Int.one_mul]) | (go_at_call 23; (with_reducible refine (pread_any (first := 1) (count := 1) K hD Has.auto (by omega) (by omega) 0 (by omega) _).mono ?_); clear K; rintro e w1 ⟨A2, n2, c2, rfl, Z2, O2, hn2, K⟩; rw [HPR.out]; rw [HPR.out] at O2 hn2; subst hn2))
            go_roundg 0
            case measure => omega
            case rel => exact ⟨2, by rw [HST.out], by go_num, by omega, by rw [HST.out]; exact K.cov Cov.auto⟩
          subst he
          by_cases hg : ge = 0
          rotate_left
          · have HE1 := Lib.hid (show (ge == 0) = false by simpa using hg)
            have HST := Lib.hid (show stJ D 2 = (l, f) by rw [hst1, if_neg (by omega)]; rfl)
            clear hst1 hg
            go_upto_region 19 with ((first | ((with_reducible refine at_index (t := 64) rfl ?_); refine ev_index rfl 64 rfl rfl rfl (v := ptr gq) (by kernel_rfl) ?_) | (go_at_call 24; (with_reducible refine (psize_any (first := 1) (count := 1) K hD Has.auto (by omega)).mono ?_); clear K; rintro e w1 ⟨rfl, K⟩; rw [Int.one_mul]) | (go_at_call 23; (with_reducible refine (pread_any (first := 1) (count := 1) K hD Has.auto (by omega) (by omega) 0 (by omega) _).mono ?_); clear K; rintro e w1 ⟨A2, n2, c2, rfl, Z2, O2, hn2, K⟩; rw [HPR.out]; rw [HPR.out] at O2 hn2; subst hn2) | (go_at_call 25; (with_reducible refine (jget_any K (RdS.own (w0 := w0) O2 Seg.auto) O2.le O2.cap HBB.out (by have := HBL.out; omega)).mono ?_); clear K; rintro e w1 ⟨rfl, K⟩; rw [HRG.out]) | ((with_reducible refine at_slot (N := 16) rfl ?_); (with_reducible refine at_alloc rfl ?_); refine wpList_does rfl (kd_alloc (z := (.agg (recC rec0))) K _ rfl (by kernel_rfl)) ?_; clear K; rintro _ w1 ⟨gx, rfl, K⟩; (try dsimp only [Value.cells] at K)) | ((with_reducible refine at_store rfl ?_); refine wpList_does (by rfl) (kd_store_row K _ _ _ (by rfl) (by rfl) (by rfl) Repl.auto (by rw [recC_size _ HMG.out]; kernel_rfl) (by rw [recC_size _ man0_len, recC_size _ HMG.out]; rfl) (recC_one _)) ?_; clear K; intro _ w1 K; (try simp only [Act.put]))))
            refine wp_region_GK K (Cov.all _) (by kernel_rfl) (by kernel_rfl) (by kernel_rfl) (fun K hHeld => ?_)
            refine wpG_takeA 0 (v := ?_) ?_ hHeld ?_
            rotate_left
            · (intro w hS; (clear hS; go_simp); try with_reducible rfl)
            try simp only [Act.put, List.setIfInBounds_toArray, List.set_cons_zero, List.set_cons_succ]
            refine wpG_takeA 1 (v := .bool true) ?_ hHeld ?_
            · (intro w hS; first | exact kr_neqI (by rfl) (by rfl) (by rfl) HE1.out)
            try simp only [Act.put, List.setIfInBounds_toArray, List.set_cons_zero, List.set_cons_succ]
            refine wpG_takeA 2 (v := ?_) ?_ hHeld ?_
            rotate_left
            · (intro w hS; (clear hS; go_simp); try with_reducible rfl)
            try simp only [Act.put, List.setIfInBounds_toArray, List.set_cons_zero, List.set_cons_succ]
            refine wpG_offA 3 hHeld ?_
            try simp only [Act.put, List.setIfInBounds_toArray, List.set_cons_zero, List.set_cons_succ]
            refine wpG_offA 4 hHeld ?_
            try simp only [Act.put, List.setIfInBounds_toArray, List.set_cons_zero, List.set_cons_succ]
            refine wpG_offA 5 hHeld ?_
            try simp only [Act.put, List.setIfInBounds_toArray, List.set_cons_zero, List.set_cons_succ]
            refine wpG_offA 6 hHeld ?_
            try simp only [Act.put, List.setIfInBounds_toArray, List.set_cons_zero, List.set_cons_succ]
            refine wpG_offA 7 hHeld ?_
            try simp only [Act.put, List.setIfInBounds_toArray, List.set_cons_zero, List.set_cons_succ]
            refine wpG_offA 8 hHeld ?_
            try simp only [Act.put, List.setIfInBounds_toArray, List.set_cons_zero, List.set_cons_succ]
            refine wpG_takeA 9 (v := ?_) ?_ hHeld ?_
            rotate_left
            · (intro w hS; (clear hS; go_simp); try with_reducible rfl)
            try simp only [Act.put, List.setIfInBounds_toArray, List.set_cons_zero, List.set_cons_succ]
            refine wpG_takeA 10 (v := ?_) ?_ hHeld ?_
            rotate_left
            · (intro w hS; (clear hS; go_simp); try with_reducible rfl)
            try simp only [Act.put, List.setIfInBounds_toArray, List.set_cons_zero, List.set_cons_succ]
            refine wpG_offA 11 hHeld ?_
            try simp only [Act.put, List.setIfInBounds_toArray, List.set_cons_zero, List.set_cons_succ]
            refine wpG_offA 12 hHeld ?_
            try simp only [Act.put, List.setIfInBounds_toArray, List.set_cons_zero, List.set_cons_succ]
            refine wpG_offA 13 hHeld ?_
            try simp only [Act.put, List.setIfInBounds_toArray, List.set_cons_zero, List.set_cons_succ]
            refine wpG_offA 14 hHeld ?_
            try simp only [Act.put, List.setIfInBounds_toArray, List.set_cons_zero, List.set_cons_succ]
            refine wpG_offA 15 hHeld ?_
            try simp only [Act.put, List.setIfInBounds_toArray, List.set_cons_zero, List.set_cons_succ]
            refine wpG_offA 16 hHeld ?_
            try simp only [Act.put, List.setIfInBounds_toArray, List.set_cons_zero, List.set_cons_succ]
            refine wpG_offA 17 hHeld ?_
            try simp only [Act.put, List.setIfInBounds_toArray, List.set_cons_zero, List.set_cons_succ]
            refine wpG_offA 18 hHeld ?_
            try simp only [Act.put, List.setIfInBounds_toArray, List.set_cons_zero, List.set_cons_succ]
            refine wpG_offA 19 hHeld ?_
            try simp only [Act.put, List.setIfInBounds_toArray, List.set_cons_zero, List.set_cons_succ]
            refine wpG_offA 20 hHeld ?_
            try simp only [Act.put, List.setIfInBounds_toArray, List.set_cons_zero, List.set_cons_succ]
            refine wpG_offA 21 hHeld ?_
            try simp only [Act.put, List.setIfInBounds_toArray, List.set_cons_zero, List.set_cons_succ]
            refine wpG_takeA 22 (v := ?_) ?_ hHeld ?_
            rotate_left
            · (intro w hS; (clear hS; go_simp); try with_reducible rfl)
            try simp only [Act.put, List.setIfInBounds_toArray, List.set_cons_zero, List.set_cons_succ]
            refine wpG_done (by kernel_rfl) ?_
            skip
            go_wp2
            go_roundg 0
            case measure => omega
            case rel => exact ⟨2, by rw [HST.out], by go_num, by omega, by rw [HST.out]; exact K.cov Cov.auto⟩
          subst hg
          by_cases hp : rr.seq % 2 = 0
          · have HPAR := Lib.hid (show (0 ≤ rr.seq ∧ rr.seq ≤ 18446744073709551615) ∧ rr.seq % 2 = 0 from ⟨hrq, hp⟩)
            have HST := Lib.hid (show stJ D 2 = (l, f) by rw [hst1, if_neg (by omega)]; rfl)
            clear hst1 hp
            go_upto_region 19 with ((first | ((with_reducible refine at_index (t := 64) rfl ?_); refine ev_index rfl 64 rfl rfl rfl (v := ptr gq) (by kernel_rfl) ?_) | (go_at_call 24; (with_reducible refine (psize_any (first := 1) (count := 1) K hD Has.auto (by omega)).mono ?_); clear K; rintro e w1 ⟨rfl, K⟩; rw [Int.one_mul]) | (go_at_call 23; (with_reducible refine (pread_any (first := 1) (count := 1) K hD Has.auto (by omega) (by omega) 0 (by omega) _).mono ?_); clear K; rintro e w1 ⟨A2, n2, c2, rfl, Z2, O2, hn2, K⟩; rw [HPR.out]; rw [HPR.out] at O2 hn2; subst hn2) | (go_at_call 25; (with_reducible refine (jget_any K (RdS.own (w0 := w0) O2 Seg.auto) O2.le O2.cap HBB.out (by have := HBL.out; omega)).mono ?_); clear K; rintro e w1 ⟨rfl, K⟩; rw [HRG.out]) | ((with_reducible refine at_slot (N := 16) rfl ?_); (with_reducible refine at_alloc rfl ?_); refine wpList_does rfl (kd_alloc (z := (.agg (recC rec0))) K _ rfl (by kernel_rfl)) ?_; clear K; rintro _ w1 ⟨gx, rfl, K⟩; (try dsimp only [Value.cells] at K)) | ((with_reducible refine at_store rfl ?_); refine wpList_does (by rfl) (kd_store_row K _ _ _ (by rfl) (by rfl) (by rfl) Repl.auto (by rw [recC_size _ HMG.out]; kernel_rfl) (by rw [recC_size _ man0_len, recC_size _ HMG.out]; rfl) (recC_one _)) ?_; clear K; intro _ w1 K; (try simp only [Act.put]))))
            refine wp_region_GK K (Cov.all _) (by kernel_rfl) (by kernel_rfl) (by kernel_rfl) (fun K hHeld => ?_)
            refine wpG_takeA 0 (v := ?_) ?_ hHeld ?_
            rotate_left
            · (intro w hS; (clear hS; go_simp); try with_reducible rfl)
            try simp only [Act.put, List.setIfInBounds_toArray, List.set_cons_zero, List.set_cons_succ]
            refine wpG_takeA 1 (v := .bool false) ?_ hHeld ?_
            · (intro w hS; first | exact kr_neqI (by rfl) (by rfl) (by rfl) (show ((0 : Int) == 0) = true from rfl))
            try simp only [Act.put, List.setIfInBounds_toArray, List.set_cons_zero, List.set_cons_succ]
            refine wpG_takeA 2 (v := ?_) ?_ hHeld ?_
            rotate_left
            · (intro w hS; (clear hS; go_simp); try with_reducible rfl)
            try simp only [Act.put, List.setIfInBounds_toArray, List.set_cons_zero, List.set_cons_succ]
            refine wpG_takeA 3 (v := ?_) ?_ hHeld ?_
            rotate_left
            · (intro w hS; (clear hS; go_simp); try with_reducible rfl)
            try simp only [Act.put, List.setIfInBounds_toArray, List.set_cons_zero, List.set_cons_succ]
            refine wpG_takeA 4 (v := .int .u64 rr.seq) ?_ hHeld ?_
            · (intro w hS; first | exact kr_load_cell hS _ _ (by rfl) (by rfl) Has.auto (by kernel_rfl) (recC_0 _))
            try simp only [Act.put, List.setIfInBounds_toArray, List.set_cons_zero, List.set_cons_succ]
            refine wpG_takeA 5 (v := .int .u64 0) ?_ hHeld ?_
            · (intro w hS; first | exact kr_rem2 (by rfl) (by rfl) (by rfl) HPAR.out)
            try simp only [Act.put, List.setIfInBounds_toArray, List.set_cons_zero, List.set_cons_succ]
            refine wpG_takeA 6 (v := ?_) ?_ hHeld ?_
            rotate_left
            · (intro w hS; (clear hS; go_simp); try with_reducible rfl)
            try simp only [Act.put, List.setIfInBounds_toArray, List.set_cons_zero, List.set_cons_succ]
            refine wpG_takeA 7 (v := ?_) ?_ hHeld ?_
            rotate_left
            · (intro w hS; (clear hS; go_simp); try with_reducible rfl)
            try simp only [Act.put, List.setIfInBounds_toArray, List.set_cons_zero, List.set_cons_succ]
            refine wpG_takeA 8 (v := .bool true) ?_ hHeld ?_
            · (intro w hS; first | exact kr_neqI (by rfl) (by rfl) (by rfl) (show ((0 : Int) == 1) = false from rfl))
            try simp only [Act.put, List.setIfInBounds_toArray, List.set_cons_zero, List.set_cons_succ]
            refine wpG_takeA 9 (v := ?_) ?_ hHeld ?_
            rotate_left
            · (intro w hS; (clear hS; go_simp); try with_reducible rfl)
            try simp only [Act.put, List.setIfInBounds_toArray, List.set_cons_zero, List.set_cons_succ]
            refine wpG_takeA 10 (v := ?_) ?_ hHeld ?_
            rotate_left
            · (intro w hS; (clear hS; go_simp); try with_reducible rfl)
            try simp only [Act.put, List.setIfInBounds_toArray, List.set_cons_zero, List.set_cons_succ]
            refine wpG_offA 11 hHeld ?_
            try simp only [Act.put, List.setIfInBounds_toArray, List.set_cons_zero, List.set_cons_succ]
            refine wpG_offA 12 hHeld ?_
            try simp only [Act.put, List.setIfInBounds_toArray, List.set_cons_zero, List.set_cons_succ]
            refine wpG_offA 13 hHeld ?_
            try simp only [Act.put, List.setIfInBounds_toArray, List.set_cons_zero, List.set_cons_succ]
            refine wpG_offA 14 hHeld ?_
            try simp only [Act.put, List.setIfInBounds_toArray, List.set_cons_zero, List.set_cons_succ]
            refine wpG_offA 15 hHeld ?_
            try simp only [Act.put, List.setIfInBounds_toArray, List.set_cons_zero, List.set_cons_succ]
            refine wpG_offA 16 hHeld ?_
            try simp only [Act.put, List.setIfInBounds_toArray, List.set_cons_zero, List.set_cons_succ]
            refine wpG_offA 17 hHeld ?_
            try simp only [Act.put, List.setIfInBounds_toArray, List.set_cons_zero, List.set_cons_succ]
            refine wpG_offA 18 hHeld ?_
            try simp only [Act.put, List.setIfInBounds_toArray, List.set_cons_zero, List.set_cons_succ]
            refine wpG_offA 19 hHeld ?_
            try simp only [Act.put, List.setIfInBounds_toArray, List.set_cons_zero, List.set_cons_succ]
            refine wpG_offA 20 hHeld ?_
            try simp only [Act.put, List.setIfInBounds_toArray, List.set_cons_zero, List.set_cons_succ]
            refine wpG_offA 21 hHeld ?_
            try simp only [Act.put, List.setIfInBounds_toArray, List.set_cons_zero, List.set_cons_succ]
            refine wpG_takeA 22 (v := ?_) ?_ hHeld ?_
            rotate_left
            · (intro w hS; (clear hS; go_simp); try with_reducible rfl)
            try simp only [Act.put, List.setIfInBounds_toArray, List.set_cons_zero, List.set_cons_succ]
            refine wpG_done (by kernel_rfl) ?_
            skip
            go_wp2
            go_roundg 0
            case measure => omega
            case rel => exact ⟨2, by rw [HST.out], by go_num, by omega, by rw [HST.out]; exact K.cov Cov.auto⟩
          have hp2 : rr.seq % 2 = 1 := by omega
          have HPAR := Lib.hid (show (0 ≤ rr.seq ∧ rr.seq ≤ 18446744073709551615) ∧ rr.seq % 2 = 1 from ⟨hrq, hp2⟩)
          rw [if_pos ⟨rfl, rfl, hp2⟩] at hst1
          clear hp hp2
          cases f
          · have HST := Lib.hid (show stJ D 2 = (rr, true) by rw [hst1, pickJ, if_neg (by simp)])
            clear hst1
            go_upto_region 19 with ((first | ((with_reducible refine at_index (t := 64) rfl ?_); refine ev_index rfl 64 rfl rfl rfl (v := ptr gq) (by kernel_rfl) ?_) | (go_at_call 24; (with_reducible refine (psize_any (first := 1) (count := 1) K hD Has.auto (by omega)).mono ?_); clear K; rintro e w1 ⟨rfl, K⟩; rw [Int.one_mul]) | (go_at_call 23; (with_reducible refine (pread_any (first := 1) (count := 1) K hD Has.auto (by omega) (by omega) 0 (by omega) _).mono ?_); clear K; rintro e w1 ⟨A2, n2, c2, rfl, Z2, O2, hn2, K⟩; rw [HPR.out]; rw [HPR.out] at O2 hn2; subst hn2) | (go_at_call 25; (with_reducible refine (jget_any K (RdS.own (w0 := w0) O2 Seg.auto) O2.le O2.cap HBB.out (by have := HBL.out; omega)).mono ?_); clear K; rintro e w1 ⟨rfl, K⟩; rw [HRG.out]) | ((with_reducible refine at_slot (N := 16) rfl ?_); (with_reducible refine at_alloc rfl ?_); refine wpList_does rfl (kd_alloc (z := (.agg (recC rec0))) K _ rfl (by kernel_rfl)) ?_; clear K; rintro _ w1 ⟨gx, rfl, K⟩; (try dsimp only [Value.cells] at K)) | ((with_reducible refine at_store rfl ?_); refine wpList_does (by rfl) (kd_store_row K _ _ _ (by rfl) (by rfl) (by rfl) Repl.auto (by rw [recC_size _ HMG.out]; kernel_rfl) (by rw [recC_size _ man0_len, recC_size _ HMG.out]; rfl) (recC_one _)) ?_; clear K; intro _ w1 K; (try simp only [Act.put]))))
            refine wp_region_GK K (Cov.all _) (by kernel_rfl) (by kernel_rfl) (by kernel_rfl) (fun K hHeld => ?_)
            refine wpG_takeA 0 (v := ?_) ?_ hHeld ?_
            rotate_left
            · (intro w hS; (clear hS; go_simp); try with_reducible rfl)
            try simp only [Act.put, List.setIfInBounds_toArray, List.set_cons_zero, List.set_cons_succ]
            refine wpG_takeA 1 (v := .bool false) ?_ hHeld ?_
            · (intro w hS; first | exact kr_neqI (by rfl) (by rfl) (by rfl) (show ((0 : Int) == 0) = true from rfl))
            try simp only [Act.put, List.setIfInBounds_toArray, List.set_cons_zero, List.set_cons_succ]
            refine wpG_takeA 2 (v := ?_) ?_ hHeld ?_
            rotate_left
            · (intro w hS; (clear hS; go_simp); try with_reducible rfl)
            try simp only [Act.put, List.setIfInBounds_toArray, List.set_cons_zero, List.set_cons_succ]
            refine wpG_takeA 3 (v := ?_) ?_ hHeld ?_
            rotate_left
            · (intro w hS; (clear hS; go_simp); try with_reducible rfl)
            try simp only [Act.put, List.setIfInBounds_toArray, List.set_cons_zero, List.set_cons_succ]
            refine wpG_takeA 4 (v := .int .u64 rr.seq) ?_ hHeld ?_
            · (intro w hS; first | exact kr_load_cell hS _ _ (by rfl) (by rfl) Has.auto (by kernel_rfl) (recC_0 _))
            try simp only [Act.put, List.setIfInBounds_toArray, List.set_cons_zero, List.set_cons_succ]
            refine wpG_takeA 5 (v := .int .u64 1) ?_ hHeld ?_
            · (intro w hS; first | exact kr_rem2 (by rfl) (by rfl) (by rfl) HPAR.out)
            try simp only [Act.put, List.setIfInBounds_toArray, List.set_cons_zero, List.set_cons_succ]
            refine wpG_takeA 6 (v := ?_) ?_ hHeld ?_
            rotate_left
            · (intro w hS; (clear hS; go_simp); try with_reducible rfl)
            try simp only [Act.put, List.setIfInBounds_toArray, List.set_cons_zero, List.set_cons_succ]
            refine wpG_takeA 7 (v := ?_) ?_ hHeld ?_
            rotate_left
            · (intro w hS; (clear hS; go_simp); try with_reducible rfl)
            try simp only [Act.put, List.setIfInBounds_toArray, List.set_cons_zero, List.set_cons_succ]
            refine wpG_takeA 8 (v := .bool false) ?_ hHeld ?_
            · (intro w hS; first | exact kr_neqI (by rfl) (by rfl) (by rfl) (show ((1 : Int) == 1) = true from rfl))
            try simp only [Act.put, List.setIfInBounds_toArray, List.set_cons_zero, List.set_cons_succ]
            refine wpG_takeA 9 (v := ?_) ?_ hHeld ?_
            rotate_left
            · (intro w hS; (clear hS; go_simp); try with_reducible rfl)
            try simp only [Act.put, List.setIfInBounds_toArray, List.set_cons_zero, List.set_cons_succ]
            refine wpG_takeA 10 (v := ?_) ?_ hHeld ?_
            rotate_left
            · (intro w hS; (clear hS; go_simp); try with_reducible rfl)
            try simp only [Act.put, List.setIfInBounds_toArray, List.set_cons_zero, List.set_cons_succ]
            refine wpG_takeA 11 (v := ?_) ?_ hHeld ?_
            rotate_left
            · (intro w hS; (clear hS; go_simp); try with_reducible rfl)
            try simp only [Act.put, List.setIfInBounds_toArray, List.set_cons_zero, List.set_cons_succ]
            refine wpG_takeA 12 (v := ?_) ?_ hHeld ?_
            rotate_left
            · (intro w hS; (clear hS; go_simp); try with_reducible rfl)
            try simp only [Act.put, List.setIfInBounds_toArray, List.set_cons_zero, List.set_cons_succ]
            refine wpG_offA 13 hHeld ?_
            try simp only [Act.put, List.setIfInBounds_toArray, List.set_cons_zero, List.set_cons_succ]
            refine wpG_offA 14 hHeld ?_
            try simp only [Act.put, List.setIfInBounds_toArray, List.set_cons_zero, List.set_cons_succ]
            refine wpG_offA 15 hHeld ?_
            try simp only [Act.put, List.setIfInBounds_toArray, List.set_cons_zero, List.set_cons_succ]
            refine wpG_offA 16 hHeld ?_
            try simp only [Act.put, List.setIfInBounds_toArray, List.set_cons_zero, List.set_cons_succ]
            refine wpG_offA 17 hHeld ?_
            try simp only [Act.put, List.setIfInBounds_toArray, List.set_cons_zero, List.set_cons_succ]
            refine wpG_offA 18 hHeld ?_
            try simp only [Act.put, List.setIfInBounds_toArray, List.set_cons_zero, List.set_cons_succ]
            refine wpG_offA 19 hHeld ?_
            try simp only [Act.put, List.setIfInBounds_toArray, List.set_cons_zero, List.set_cons_succ]
            refine wpG_offA 20 hHeld ?_
            try simp only [Act.put, List.setIfInBounds_toArray, List.set_cons_zero, List.set_cons_succ]
            refine wpG_takeA 21 (v := ?_) ?_ hHeld ?_
            rotate_left
            · (intro w hS; (clear hS; go_simp); try with_reducible rfl)
            try simp only [Act.put, List.setIfInBounds_toArray, List.set_cons_zero, List.set_cons_succ]
            refine wpG_takeA 22 (v := ?_) ?_ hHeld ?_
            rotate_left
            · (intro w hS; (clear hS; go_simp); try with_reducible rfl)
            try simp only [Act.put, List.setIfInBounds_toArray, List.set_cons_zero, List.set_cons_succ]
            refine wpG_done (by kernel_rfl) ?_
            skip
            go_wp2_with (first | ((with_reducible refine at_load (t := 41) rfl ?_); refine wpList_reads (by rfl) (kr_load_row K _ _ (by rfl) (by rfl) Has.auto (by kernel_rfl) (by rw [recC_size _ HMG.out]; kernel_rfl)) ?_) | ((with_reducible refine at_store (t := 41) rfl ?_); refine wpList_does (by rfl) (kd_store_mid K _ _ _ (by rfl) (by rfl) (by rfl) Repl.auto (by rw [recC_size _ HMG.out]; kernel_rfl) (by rw [recC_size _ HMG.out, jrC_size _ _ _ _ HML.out]; omega) (recC_one _) (jrC_lay _ _ _ _ _ HML.out HMG.out)) ?_; clear K; intro _ w1 K))
            go_roundg 0
            case measure => omega
            case rel => exact ⟨2, by rw [HST.out], by go_num, by omega, by rw [HST.out]; exact K.cov Cov.auto⟩
          by_cases hlt : rr.seq < l.seq
          · have d1 : decide (rr.seq < l.seq) = true := decide_eq_true hlt
            have HST := Lib.hid (show stJ D 2 = (l, true) by rw [hst1, pickJ, if_pos ⟨rfl, hlt⟩])
            clear hst1 hlt
            go_upto_region 19 with ((first | ((with_reducible refine at_index (t := 64) rfl ?_); refine ev_index rfl 64 rfl rfl rfl (v := ptr gq) (by kernel_rfl) ?_) | (go_at_call 24; (with_reducible refine (psize_any (first := 1) (count := 1) K hD Has.auto (by omega)).mono ?_); clear K; rintro e w1 ⟨rfl, K⟩; rw [Int.one_mul]) | (go_at_call 23; (with_reducible refine (pread_any (first := 1) (count := 1) K hD Has.auto (by omega) (by omega) 0 (by omega) _).mono ?_); clear K; rintro e w1 ⟨A2, n2, c2, rfl, Z2, O2, hn2, K⟩; rw [HPR.out]; rw [HPR.out] at O2 hn2; subst hn2) | (go_at_call 25; (with_reducible refine (jget_any K (RdS.own (w0 := w0) O2 Seg.auto) O2.le O2.cap HBB.out (by have := HBL.out; omega)).mono ?_); clear K; rintro e w1 ⟨rfl, K⟩; rw [HRG.out]) | ((with_reducible refine at_slot (N := 16) rfl ?_); (with_reducible refine at_alloc rfl ?_); refine wpList_does rfl (kd_alloc (z := (.agg (recC rec0))) K _ rfl (by kernel_rfl)) ?_; clear K; rintro _ w1 ⟨gx, rfl, K⟩; (try dsimp only [Value.cells] at K)) | ((with_reducible refine at_store rfl ?_); refine wpList_does (by rfl) (kd_store_row K _ _ _ (by rfl) (by rfl) (by rfl) Repl.auto (by rw [recC_size _ HMG.out]; kernel_rfl) (by rw [recC_size _ man0_len, recC_size _ HMG.out]; rfl) (recC_one _)) ?_; clear K; intro _ w1 K; (try simp only [Act.put]))))
            refine wp_region_GK K (Cov.all _) (by kernel_rfl) (by kernel_rfl) (by kernel_rfl) (fun K hHeld => ?_)
            refine wpG_takeA 0 (v := ?_) ?_ hHeld ?_
            rotate_left
            · (intro w hS; (clear hS; go_simp); try with_reducible rfl)
            try simp only [Act.put, List.setIfInBounds_toArray, List.set_cons_zero, List.set_cons_succ]
            refine wpG_takeA 1 (v := .bool false) ?_ hHeld ?_
            · (intro w hS; first | exact kr_neqI (by rfl) (by rfl) (by rfl) (show ((0 : Int) == 0) = true from rfl))
            try simp only [Act.put, List.setIfInBounds_toArray, List.set_cons_zero, List.set_cons_succ]
            refine wpG_takeA 2 (v := ?_) ?_ hHeld ?_
            rotate_left
            · (intro w hS; (clear hS; go_simp); try with_reducible rfl)
            try simp only [Act.put, List.setIfInBounds_toArray, List.set_cons_zero, List.set_cons_succ]
            refine wpG_takeA 3 (v := ?_) ?_ hHeld ?_
            rotate_left
            · (intro w hS; (clear hS; go_simp); try with_reducible rfl)
            try simp only [Act.put, List.setIfInBounds_toArray, List.set_cons_zero, List.set_cons_succ]
            refine wpG_takeA 4 (v := .int .u64 rr.seq) ?_ hHeld ?_
            · (intro w hS; first | exact kr_load_cell hS _ _ (by rfl) (by rfl) Has.auto (by kernel_rfl) (recC_0 _))
            try simp only [Act.put, List.setIfInBounds_toArray, List.set_cons_zero, List.set_cons_succ]
            refine wpG_takeA 5 (v := .int .u64 1) ?_ hHeld ?_
            · (intro w hS; first | exact kr_rem2 (by rfl) (by rfl) (by rfl) HPAR.out)
            try simp only [Act.put, List.setIfInBounds_toArray, List.set_cons_zero, List.set_cons_succ]
            refine wpG_takeA 6 (v := ?_) ?_ hHeld ?_
            rotate_left
            · (intro w hS; (clear hS; go_simp); try with_reducible rfl)
            try simp only [Act.put, List.setIfInBounds_toArray, List.set_cons_zero, List.set_cons_succ]
            refine wpG_takeA 7 (v := ?_) ?_ hHeld ?_
            rotate_left
            · (intro w hS; (clear hS; go_simp); try with_reducible rfl)
            try simp only [Act.put, List.setIfInBounds_toArray, List.set_cons_zero, List.set_cons_succ]
            refine wpG_takeA 8 (v := .bool false) ?_ hHeld ?_
            · (intro w hS; first | exact kr_neqI (by rfl) (by rfl) (by rfl) (show ((1 : Int) == 1) = true from rfl))
            try simp only [Act.put, List.setIfInBounds_toArray, List.set_cons_zero, List.set_cons_succ]
            refine wpG_takeA 9 (v := ?_) ?_ hHeld ?_
            rotate_left
            · (intro w hS; (clear hS; go_simp); try with_reducible rfl)
            try simp only [Act.put, List.setIfInBounds_toArray, List.set_cons_zero, List.set_cons_succ]
            refine wpG_takeA 10 (v := ?_) ?_ hHeld ?_
            rotate_left
            · (intro w hS; (clear hS; go_simp); try with_reducible rfl)
            try simp only [Act.put, List.setIfInBounds_toArray, List.set_cons_zero, List.set_cons_succ]
            refine wpG_takeA 11 (v := ?_) ?_ hHeld ?_
            rotate_left
            · (intro w hS; (clear hS; go_simp); try with_reducible rfl)
            try simp only [Act.put, List.setIfInBounds_toArray, List.set_cons_zero, List.set_cons_succ]
            refine wpG_takeA 12 (v := ?_) ?_ hHeld ?_
            rotate_left
            · (intro w hS; (clear hS; go_simp); try with_reducible rfl)
            try simp only [Act.put, List.setIfInBounds_toArray, List.set_cons_zero, List.set_cons_succ]
            refine wpG_takeA 13 (v := ?_) ?_ hHeld ?_
            rotate_left
            · (intro w hS; (clear hS; go_simp); try with_reducible rfl)
            try simp only [Act.put, List.setIfInBounds_toArray, List.set_cons_zero, List.set_cons_succ]
            refine wpG_takeA 14 (v := .int .u64 rr.seq) ?_ hHeld ?_
            · (intro w hS; first | exact kr_load_cell hS _ _ (by rfl) (by rfl) Has.auto (by kernel_rfl) (recC_0 _))
            try simp only [Act.put, List.setIfInBounds_toArray, List.set_cons_zero, List.set_cons_succ]
            refine wpG_takeA 15 (v := ?_) ?_ hHeld ?_
            rotate_left
            · (intro w hS; (clear hS; go_simp); try with_reducible rfl)
            try simp only [Act.put, List.setIfInBounds_toArray, List.set_cons_zero, List.set_cons_succ]
            refine wpG_takeA 16 (v := ?_) ?_ hHeld ?_
            rotate_left
            · (intro w hS; (clear hS; go_simp); try with_reducible rfl)
            try simp only [Act.put, List.setIfInBounds_toArray, List.set_cons_zero, List.set_cons_succ]
            refine wpG_takeA 17 (v := ?_) ?_ hHeld ?_
            rotate_left
            · (intro w hS; (clear hS; go_simp); try with_reducible rfl)
            try simp only [Act.put, List.setIfInBounds_toArray, List.set_cons_zero, List.set_cons_succ]
            refine wpG_takeA 18 (v := ?_) ?_ hHeld ?_
            rotate_left
            · (intro w hS; (clear hS; go_simp); try with_reducible rfl)
            try simp only [Act.put, List.setIfInBounds_toArray, List.set_cons_zero, List.set_cons_succ]
            refine wpG_takeA 19 (v := .int .u64 l.seq) ?_ hHeld ?_
            · (intro w hS; first | exact kr_load_cell hS _ _ (by rfl) (by rfl) Has.auto (by kernel_rfl) (jrC_3 _ _ _ _))
            try simp only [Act.put, List.setIfInBounds_toArray, List.set_cons_zero, List.set_cons_succ]
            refine wpG_takeA 20 (v := ?_) ?_ hHeld ?_
            rotate_left
            · (intro w hS; (clear hS; go_simp); try with_reducible rfl)
            try simp only [Act.put, List.setIfInBounds_toArray, List.set_cons_zero, List.set_cons_succ]
            refine wpG_takeA 21 (v := ?_) ?_ hHeld ?_
            rotate_left
            · (intro w hS; (clear hS; go_simp); try with_reducible rfl)
            try simp only [Act.put, List.setIfInBounds_toArray, List.set_cons_zero, List.set_cons_succ]
            refine wpG_takeA 22 (v := ?_) ?_ hHeld ?_
            rotate_left
            · (intro w hS; (clear hS; go_simp); try with_reducible rfl)
            try simp only [Act.put, List.setIfInBounds_toArray, List.set_cons_zero, List.set_cons_succ]
            refine wpG_done (by kernel_rfl) ?_
            skip
            go_wp2
            go_roundg 0
            case measure => omega
            case rel => exact ⟨2, by rw [HST.out], by go_num, by omega, by rw [HST.out]; exact K.cov Cov.auto⟩
          · have d1 : decide (rr.seq < l.seq) = false := decide_eq_false hlt
            have HST := Lib.hid (show stJ D 2 = (rr, true) by rw [hst1, pickJ, if_neg (by exact fun h => hlt h.2)])
            clear hst1 hlt
            go_upto_region 19 with ((first | ((with_reducible refine at_index (t := 64) rfl ?_); refine ev_index rfl 64 rfl rfl rfl (v := ptr gq) (by kernel_rfl) ?_) | (go_at_call 24; (with_reducible refine (psize_any (first := 1) (count := 1) K hD Has.auto (by omega)).mono ?_); clear K; rintro e w1 ⟨rfl, K⟩; rw [Int.one_mul]) | (go_at_call 23; (with_reducible refine (pread_any (first := 1) (count := 1) K hD Has.auto (by omega) (by omega) 0 (by omega) _).mono ?_); clear K; rintro e w1 ⟨A2, n2, c2, rfl, Z2, O2, hn2, K⟩; rw [HPR.out]; rw [HPR.out] at O2 hn2; subst hn2) | (go_at_call 25; (with_reducible refine (jget_any K (RdS.own (w0 := w0) O2 Seg.auto) O2.le O2.cap HBB.out (by have := HBL.out; omega)).mono ?_); clear K; rintro e w1 ⟨rfl, K⟩; rw [HRG.out]) | ((with_reducible refine at_slot (N := 16) rfl ?_); (with_reducible refine at_alloc rfl ?_); refine wpList_does rfl (kd_alloc (z := (.agg (recC rec0))) K _ rfl (by kernel_rfl)) ?_; clear K; rintro _ w1 ⟨gx, rfl, K⟩; (try dsimp only [Value.cells] at K)) | ((with_reducible refine at_store rfl ?_); refine wpList_does (by rfl) (kd_store_row K _ _ _ (by rfl) (by rfl) (by rfl) Repl.auto (by rw [recC_size _ HMG.out]; kernel_rfl) (by rw [recC_size _ man0_len, recC_size _ HMG.out]; rfl) (recC_one _)) ?_; clear K; intro _ w1 K; (try simp only [Act.put]))))
            refine wp_region_GK K (Cov.all _) (by kernel_rfl) (by kernel_rfl) (by kernel_rfl) (fun K hHeld => ?_)
            refine wpG_takeA 0 (v := ?_) ?_ hHeld ?_
            rotate_left
            · (intro w hS; (clear hS; go_simp); try with_reducible rfl)
            try simp only [Act.put, List.setIfInBounds_toArray, List.set_cons_zero, List.set_cons_succ]
            refine wpG_takeA 1 (v := .bool false) ?_ hHeld ?_
            · (intro w hS; first | exact kr_neqI (by rfl) (by rfl) (by rfl) (show ((0 : Int) == 0) = true from rfl))
            try simp only [Act.put, List.setIfInBounds_toArray, List.set_cons_zero, List.set_cons_succ]
            refine wpG_takeA 2 (v := ?_) ?_ hHeld ?_
            rotate_left
            · (intro w hS; (clear hS; go_simp); try with_reducible rfl)
            try simp only [Act.put, List.setIfInBounds_toArray, List.set_cons_zero, List.set_cons_succ]
            refine wpG_takeA 3 (v := ?_) ?_ hHeld ?_
            rotate_left
            · (intro w hS; (clear hS; go_simp); try with_reducible rfl)
            try simp only [Act.put, List.setIfInBounds_toArray, List.set_cons_zero, List.set_cons_succ]
            refine wpG_takeA 4 (v := .int .u64 rr.seq) ?_ hHeld ?_
            · (intro w hS; first | exact kr_load_cell hS _ _ (by rfl) (by rfl) Has.auto (by kernel_rfl) (recC_0 _))
            try simp only [Act.put, List.setIfInBounds_toArray, List.set_cons_zero, List.set_cons_succ]
            refine wpG_takeA 5 (v := .int .u64 1) ?_ hHeld ?_
            · (intro w hS; first | exact kr_rem2 (by rfl) (by rfl) (by rfl) HPAR.out)
            try simp only [Act.put, List.setIfInBounds_toArray, List.set_cons_zero, List.set_cons_succ]
            refine wpG_takeA 6 (v := ?_) ?_ hHeld ?_
            rotate_left
            · (intro w hS; (clear hS; go_simp); try with_reducible rfl)
            try simp only [Act.put, List.setIfInBounds_toArray, List.set_cons_zero, List.set_cons_succ]
            refine wpG_takeA 7 (v := ?_) ?_ hHeld ?_
            rotate_left
            · (intro w hS; (clear hS; go_simp); try with_reducible rfl)
            try simp only [Act.put, List.setIfInBounds_toArray, List.set_cons_zero, List.set_cons_succ]
            refine wpG_takeA 8 (v := .bool false) ?_ hHeld ?_
            · (intro w hS; first | exact kr_neqI (by rfl) (by rfl) (by rfl) (show ((1 : Int) == 1) = true from rfl))
            try simp only [Act.put, List.setIfInBounds_toArray, List.set_cons_zero, List.set_cons_succ]
            refine wpG_takeA 9 (v := ?_) ?_ hHeld ?_
            rotate_left
            · (intro w hS; (clear hS; go_simp); try with_reducible rfl)
            try simp only [Act.put, List.setIfInBounds_toArray, List.set_cons_zero, List.set_cons_succ]
            refine wpG_takeA 10 (v := ?_) ?_ hHeld ?_
            rotate_left
            · (intro w hS; (clear hS; go_simp); try with_reducible rfl)
            try simp only [Act.put, List.setIfInBounds_toArray, List.set_cons_zero, List.set_cons_succ]
            refine wpG_takeA 11 (v := ?_) ?_ hHeld ?_
            rotate_left
            · (intro w hS; (clear hS; go_simp); try with_reducible rfl)
            try simp only [Act.put, List.setIfInBounds_toArray, List.set_cons_zero, List.set_cons_succ]
            refine wpG_takeA 12 (v := ?_) ?_ hHeld ?_
            rotate_left
            · (intro w hS; (clear hS; go_simp); try with_reducible rfl)
            try simp only [Act.put, List.setIfInBounds_toArray, List.set_cons_zero, List.set_cons_succ]
            refine wpG_takeA 13 (v := ?_) ?_ hHeld ?_
            rotate_left
            · (intro w hS; (clear hS; go_simp); try with_reducible rfl)
            try simp only [Act.put, List.setIfInBounds_toArray, List.set_cons_zero, List.set_cons_succ]
            refine wpG_takeA 14 (v := .int .u64 rr.seq) ?_ hHeld ?_
            · (intro w hS; first | exact kr_load_cell hS _ _ (by rfl) (by rfl) Has.auto (by kernel_rfl) (recC_0 _))
            try simp only [Act.put, List.setIfInBounds_toArray, List.set_cons_zero, List.set_cons_succ]
            refine wpG_takeA 15 (v := ?_) ?_ hHeld ?_
            rotate_left
            · (intro w hS; (clear hS; go_simp); try with_reducible rfl)
            try simp only [Act.put, List.setIfInBounds_toArray, List.set_cons_zero, List.set_cons_succ]
            refine wpG_takeA 16 (v := ?_) ?_ hHeld ?_
            rotate_left
            · (intro w hS; (clear hS; go_simp); try with_reducible rfl)
            try simp only [Act.put, List.setIfInBounds_toArray, List.set_cons_zero, List.set_cons_succ]
            refine wpG_takeA 17 (v := ?_) ?_ hHeld ?_
            rotate_left
            · (intro w hS; (clear hS; go_simp); try with_reducible rfl)
            try simp only [Act.put, List.setIfInBounds_toArray, List.set_cons_zero, List.set_cons_succ]
            refine wpG_takeA 18 (v := ?_) ?_ hHeld ?_
            rotate_left
            · (intro w hS; (clear hS; go_simp); try with_reducible rfl)
            try simp only [Act.put, List.setIfInBounds_toArray, List.set_cons_zero, List.set_cons_succ]
            refine wpG_takeA 19 (v := .int .u64 l.seq) ?_ hHeld ?_
            · (intro w hS; first | exact kr_load_cell hS _ _ (by rfl) (by rfl) Has.auto (by kernel_rfl) (jrC_3 _ _ _ _))
            try simp only [Act.put, List.setIfInBounds_toArray, List.set_cons_zero, List.set_cons_succ]
            refine wpG_takeA 20 (v := ?_) ?_ hHeld ?_
            rotate_left
            · (intro w hS; (clear hS; go_simp); try with_reducible rfl)
            try simp only [Act.put, List.setIfInBounds_toArray, List.set_cons_zero, List.set_cons_succ]
            refine wpG_takeA 21 (v := ?_) ?_ hHeld ?_
            rotate_left
            · (intro w hS; (clear hS; go_simp); try with_reducible rfl)
            try simp only [Act.put, List.setIfInBounds_toArray, List.set_cons_zero, List.set_cons_succ]
            refine wpG_takeA 22 (v := ?_) ?_ hHeld ?_
            rotate_left
            · (intro w hS; (clear hS; go_simp); try with_reducible rfl)
            try simp only [Act.put, List.setIfInBounds_toArray, List.set_cons_zero, List.set_cons_succ]
            refine wpG_done (by kernel_rfl) ?_
            skip
            go_wp2_with (first | ((with_reducible refine at_load (t := 41) rfl ?_); refine wpList_reads (by rfl) (kr_load_row K _ _ (by rfl) (by rfl) Has.auto (by kernel_rfl) (by rw [recC_size _ HMG.out]; kernel_rfl)) ?_) | ((with_reducible refine at_store (t := 41) rfl ?_); refine wpList_does (by rfl) (kd_store_mid K _ _ _ (by rfl) (by rfl) (by rfl) Repl.auto (by rw [recC_size _ HMG.out]; kernel_rfl) (by rw [recC_size _ HMG.out, jrC_size _ _ _ _ HML.out]; omega) (recC_one _) (jrC_lay _ _ _ _ _ HML.out HMG.out)) ?_; clear K; intro _ w1 K))
            go_roundg 0
            case measure => omega
            case rel => exact ⟨2, by rw [HST.out], by go_num, by omega, by rw [HST.out]; exact K.cov Cov.auto⟩
        · go_wp2
          go_ret2
          exact ⟨gj, gp, gq, rfl, K⟩
end
end Go.Proofs.Ytfdddipmeadecaa

/-
  journal: Write, Last (contracts).
-/
set_option linter.unusedVariables false
set_option linter.unusedSimpArgs false
namespace Go.Proofs.Ytfdddipmeadecaa
open Go.RowKit
theorem dsync_zero {D : Dev} (h : (dsync D).1 = 0) : D.off = false ∧ D.fuse ≠ 0 ∧ (dsync D).2 = { dburn D with kept := amerge D.kept D.waits, waits := [] } := by
  unfold dsync at h ⊢
  split at h
  · cases h
  · next h1 =>
    split at h
    · cases h
    · next h2 =>
      rw [if_neg h1, if_neg h2]
      exact ⟨by simpa using h1, h2, rfl⟩
theorem dsync_same {D : Dev} (h : (dsync D).1 = 0) : (dsync D).2.offs = D.offs ∧ (dsync D).2.writes = D.writes ∧ (dsync D).2.size = D.size ∧ (dsync D).2.count = D.count := by
  rw [(dsync_zero h).2.2]
  unfold dburn
  split <;> exact ⟨rfl, rfl, rfl, rfl⟩
theorem dwrite_offs {D : Dev} {i : Int} {b : List Int} (h : (dwrite D i b).1 = 0) : (dwrite D i b).2.offs = D.offs := by
  unfold dwrite at h ⊢
  split
  · rfl
  · next h1 =>
    rw [if_neg h1] at h
    split
    · rfl
    · next h2 =>
      rw [if_neg h2] at h
      split
      · next h3 => rw [if_pos h3] at h; cases h
      · rfl
theorem recC_set0 (r : Rec) (v : Int) : (recC r).setIfInBounds 0 (.int .u64 v) = recC { r with seq := v } := by simp [recC]
theorem mayR_seq (r : Rec) (v : Int) : mayR { r with seq := v } = mayR r := rfl

section
variable {w0 w : World} {L X : List Ent} {g gj gp gq : Nat} {D : Dev} {l r : Rec}
set_option maxHeartbeats 1600000 in
set_option maxRecDepth 100000 in
theorem jwrite_no (K : Known w0 w (X ++ (jrow gj g gp gq l :: prow gp g 0 1 :: prow gq g 1 1 :: L))) (hm : RecOk r) (hl : RecOk l) (hb : l.seq ≤ 1000000000) (hv : mayR r = false) : Calls Try.prog 11 #[ptr gj, .agg (recC r)] w fun e w' => e = .returned (.int .i64 3) ∧ Known w0 w' (X ++ (jrow gj g gp gq l :: prow gp g 0 1 :: prow gq g 1 1 :: L)) := by
  have HMN := Lib.hid hm.man
  have hq := hl.u64.1
  have i1 := IntWalk.u64_in (l.seq + 1) (by omega)
  obtain ⟨s, hs⟩ : ∃ s, { r with seq := l.seq + 1 } = s := ⟨_, rfl⟩
  have HSE := Lib.hid (show (recC r).setIfInBounds 0 (.int .u64 (l.seq + 1)) = recC s by rw [← hs]; exact recC_set0 _ _)
  have HMS := Lib.hid (show s.man.length = 32 by rw [← hs]; exact hm.man)
  have HV := Lib.hid (show mayR s = false by rw [← hs]; exact hv)
  clear hv hs
  go_enter Try.func11, Try.ntmps11
  go_wp2_with (first | ((with_reducible refine at_load (t := 37) rfl ?_); refine wpList_reads (by rfl) (kr_load_cell K _ _ (by rfl) (by rfl) Has.auto (by kernel_rfl) (jrC_3 _ _ _ _)) ?_) | ((with_reducible refine at_store (t := 37) rfl ?_); refine wpList_does rfl (kd_store_cell K _ _ _ rfl rfl (by conv => lhs; whnf) Repl.auto rfl rfl (by kernel_rfl) (by rw [recC_size _ HMN.out]; rfl) HSE.out) ?_; clear K; intro _ w1 K) | ((with_reducible refine at_load (t := 41) rfl ?_); refine wpList_reads (by rfl) (kr_load_row K _ _ (by rfl) (by rfl) Has.auto (by kernel_rfl) (by rw [recC_size _ HMS.out]; kernel_rfl)) ?_) | (go_at_call 26; (with_reducible refine (jput_no K HV.out HMS.out).mono ?_); clear K; rintro e w1 ⟨rfl, K⟩) | ((with_reducible refine at_box rfl ?_); refine wpList_does rfl (kd_box K _ _ rfl (by conv => lhs; whnf)) ?_; clear K; rintro _ w1 ⟨gr, rfl, K⟩; (try dsimp only [Value.cells] at K)))
  go_ret
  exact ⟨rfl, K.cov Cov.auto⟩
set_option maxHeartbeats 1600000 in
set_option maxRecDepth 100000 in
theorem jwrite_yes (K : Known w0 w (X ++ (jrow gj g gp gq l :: prow gp g 0 1 :: prow gq g 1 1 :: L))) (hD : DevIs w0 g D X) (hm : RecOk r) (hl : RecOk l) (hb : l.seq ≤ 1000000000) (hv : mayR r = true) (ho : D.offs < 1000000000000) (hw : D.writes < 999999999000) : Calls Try.prog 11 #[ptr gj, .agg (recC r)] w fun e w' => e = .returned (.int .i64 (jwD D l r).1) ∧ ∃ X', DevIs w0 g (jwD D l r).2.1 X' ∧ Known w0 w' (X' ++ (jrow gj g gp gq (jwD D l r).2.2 :: prow gp g 0 1 :: prow gq g 1 1 :: L)) := by
  have HMN := Lib.hid hm.man
  have HML := Lib.hid hl.man
  have hq := hl.u64.1
  have i1 := IntWalk.u64_in (l.seq + 1) (by omega)
  have hsz := hD.ok.size
  obtain ⟨s, hs⟩ : ∃ s, { r with seq := l.seq + 1 } = s := ⟨_, rfl⟩
  have HSE := Lib.hid (show (recC r).setIfInBounds 0 (.int .u64 (l.seq + 1)) = recC s by rw [← hs]; exact recC_set0 _ _)
  have HMS := Lib.hid (show s.man.length = 32 by rw [← hs]; exact hm.man)
  have HV := Lib.hid (show mayR s = true by rw [← hs]; exact hv)
  have hro : RecOk s := by rw [← hs]; exact ⟨⟨by show 0 ≤ l.seq + 1 ∧ l.seq + 1 ≤ _; omega, hm.u64.2⟩, hm.u8, hm.man, hm.byte⟩
  have HRO := Lib.hid hro
  have hsq2 : s.seq = l.seq + 1 := by rw [← hs]
  have hw1 : jwD D l r = if (dsync D).1 ≠ 0 then ((dsync D).1, (dsync D).2, l) else if (dwrite (dsync D).2 (s.seq % 2) (zpad D.size (recW s))).1 ≠ 0 then ((dwrite (dsync D).2 (s.seq % 2) (zpad D.size (recW s))).1, (dwrite (dsync D).2 (s.seq % 2) (zpad D.size (recW s))).2, l) else if (dsync (dwrite (dsync D).2 (s.seq % 2) (zpad D.size (recW s))).2).1 ≠ 0 then ((dsync (dwrite (dsync D).2 (s.seq % 2) (zpad D.size (recW s))).2).1, (dsync (dwrite (dsync D).2 (s.seq % 2) (zpad D.size (recW s))).2).2, l) else (0, (dsync (dwrite (dsync D).2 (s.seq % 2) (zpad D.size (recW s))).2).2, s) := by
    rw [jwD, if_neg (by rw [hv]; simp), hs, hsq2]
  clear hv hs
  have HO0 := Lib.hid ho
  have hds := fun h => (dsync_same (D := D) h)
  obtain ⟨⟨e1, D1⟩, h1⟩ : ∃ x, dsync D = x := ⟨_, rfl⟩
  rw [h1] at hw1 hds
  have HS1 := Lib.hid h1
  clear h1
  go_enter Try.func11, Try.ntmps11
  by_cases he1 : e1 = 0
  rotate_left
  · have e1 : (e1 == 0) = false := by simpa using he1
    rw [hw1, if_pos he1]
    clear hw1 he1 hds
    go_wp2_with (first | ((with_reducible refine at_load (t := 37) rfl ?_); refine wpList_reads (by rfl) (kr_load_cell K _ _ (by rfl) (by rfl) Has.auto (by kernel_rfl) (jrC_3 _ _ _ _)) ?_) | ((with_reducible refine at_store (t := 37) rfl ?_); refine wpList_does rfl (kd_store_cell K _ _ _ rfl rfl (by conv => lhs; whnf) Repl.auto rfl rfl (by kernel_rfl) (by rw [recC_size _ HMN.out]; rfl) HSE.out) ?_; clear K; intro _ w1 K) | ((with_reducible refine at_load (t := 41) rfl ?_); refine wpList_reads (by rfl) (kr_load_row K _ _ (by rfl) (by rfl) Has.auto (by kernel_rfl) (by rw [recC_size _ HMS.out]; kernel_rfl)) ?_) | (go_at_call 26; (with_reducible refine (jput_yes (r := s) K HV.out HRO.out).mono ?_); clear K; rintro e w1 ⟨A1, c1, Z1, rfl, O1, K⟩) | ((with_reducible refine at_box rfl ?_); refine wpList_does rfl (kd_box K _ _ rfl (by conv => lhs; whnf)) ?_; clear K; rintro _ w1 ⟨gr, rfl, K⟩; (try dsimp only [Value.cells] at K)) | ((with_reducible refine at_load (t := 23) rfl ?_); refine wpList_reads (by rfl) (kr_load_cell K _ _ (by rfl) (by rfl) Has.auto (by kernel_rfl) (jrC_0 _ _ _ _)) ?_) | (go_at_call 27; (with_reducible refine (ssync_any (K.sel (by repeat (first | with_reducible exact Sel.nil _ | with_reducible exact Sel.ap _ _ | with_reducible exact Sel.hd _ _ | with_reducible exact Sel.all _ | with_reducible apply Sel.tl | with_reducible apply Sel.sk))) hD HO0.out).mono ?_); clear K; rintro e w1 ⟨rfl, X1, hD1, K⟩; rw [HS1.out]; rw [HS1.out] at hD1))
    go_ret
    exact ⟨rfl, X1, hD1, K.cov Cov.auto⟩
  subst he1
  obtain ⟨so, sw, ss, _⟩ := hds rfl
  rw [if_neg (by simp)] at hw1
  have hwl := recW_len s HMS.out
  have HWB := Lib.hid (recW_byte s hro)
  have HO1 := Lib.hid (show D1.offs < 1000000000000 ∧ D1.writes < 999999999000 by rw [so, sw]; exact ⟨ho, hw⟩)
  have hz1 : 128 ≤ D1.size := by rw [ss]; omega
  have h1s : D1.size = D.size := ss
  clear so sw ss hw ho hds
  go_upto_region 8 with ((first | ((with_reducible refine at_load (t := 37) rfl ?_); refine wpList_reads (by rfl) (kr_load_cell K _ _ (by rfl) (by rfl) Has.auto (by kernel_rfl) (jrC_3 _ _ _ _)) ?_) | ((with_reducible refine at_store (t := 37) rfl ?_); refine wpList_does rfl (kd_store_cell K _ _ _ rfl rfl (by conv => lhs; whnf) Repl.auto rfl rfl (by kernel_rfl) (by rw [recC_size _ HMN.out]; rfl) HSE.out) ?_; clear K; intro _ w1 K) | ((with_reducible refine at_load (t := 41) rfl ?_); refine wpList_reads (by rfl) (kr_load_row K _ _ (by rfl) (by rfl) Has.auto (by kernel_rfl) (by rw [recC_size _ HMS.out]; kernel_rfl)) ?_) | (go_at_call 26; (with_reducible refine (jput_yes (r := s) K HV.out HRO.out).mono ?_); clear K; rintro e w1 ⟨A1, c1, Z1, rfl, O1, K⟩) | ((with_reducible refine at_box rfl ?_); refine wpList_does rfl (kd_box K _ _ rfl (by conv => lhs; whnf)) ?_; clear K; rintro _ w1 ⟨gr, rfl, K⟩; (try dsimp only [Value.cells] at K)) | ((with_reducible refine at_load (t := 23) rfl ?_); refine wpList_reads (by rfl) (kr_load_cell K _ _ (by rfl) (by rfl) Has.auto (by kernel_rfl) (jrC_0 _ _ _ _)) ?_) | (go_at_call 27; (with_reducible refine (ssync_any (K.sel (by repeat (first | with_reducible exact Sel.nil _ | with_reducible exact Sel.ap _ _ | with_reducible exact Sel.hd _ _ | with_reducible exact Sel.all _ | with_reducible apply Sel.tl | with_reducible apply Sel.sk))) hD HO0.out).mono ?_); clear K; rintro e w1 ⟨rfl, X1, hD1, K⟩; rw [HS1.out]; rw [HS1.out] at hD1)))
  obtain hp | hp : s.seq % 2 = 0 ∨ s.seq % 2 = 1 := by omega
  · skip
    have HPAR := Lib.hid (show (0 ≤ s.seq ∧ s.seq ≤ 18446744073709551615) ∧ s.seq % 2 = 0 from ⟨HRO.out.u64.1, hp⟩)
    obtain ⟨⟨e2, D2⟩, h2⟩ : ∃ x, dwrite D1 0 (zpad D1.size (recW s)) = x := ⟨_, rfl⟩
    have HS2 := Lib.hid (show DevOk D1 → pwrite D1 0 1 0 (recW s) = (e2, D2) from fun h => by rw [← h2]; exact pwrite_one h 0 (by intro h0; rw [h0] at hwl; cases hwl) (by omega))
    have hw2 : jwD D l r = if e2 ≠ 0 then (e2, D2, l) else if (dsync D2).1 ≠ 0 then ((dsync D2).1, (dsync D2).2, l) else (0, (dsync D2).2, s) := by
      rw [hw1, hp, ← h1s, h2]
    clear hw1 hp
    have HO2 := Lib.hid (show e2 = 0 → D2.offs = D1.offs from fun h => by have := dwrite_offs (D := D1) (i := 0) (b := zpad D1.size (recW s)) (by rw [h2]; exact h); rw [h2] at this; exact this)
    clear h2
    go_upto_region 8 with (fail)
    refine wp_region_GK (X := [row gr (recC s) 41, jrow gj g gp gq l]) K Cov.auto (by kernel_rfl) (by kernel_rfl) (by kernel_rfl) (fun K hHeld => ?_)
    refine wpG_takeA 0 (v := ?_) ?_ hHeld ?_
    rotate_left
    · (intro w hS; (clear hS; go_simp); try with_reducible rfl)
    try simp only [Act.put, List.setIfInBounds_toArray, List.set_cons_zero, List.set_cons_succ]
    refine wpG_takeA 1 (v := ?_) ?_ hHeld ?_
    rotate_left
    · (intro w hS; (clear hS; go_simp); try with_reducible rfl)
    try simp only [Act.put, List.setIfInBounds_toArray, List.set_cons_zero, List.set_cons_succ]
    refine wpG_takeA 2 (v := .int .u64 s.seq) ?_ hHeld ?_
    · (intro w hS; first | exact kr_load_cell hS _ _ (by rfl) (by rfl) Has.auto (by kernel_rfl) (recC_0 _))
    try simp only [Act.put, List.setIfInBounds_toArray, List.set_cons_zero, List.set_cons_succ]
    refine wpG_takeA 3 (v := .int .u64 0) ?_ hHeld ?_
    · (intro w hS; first | exact kr_rem2 (by rfl) (by rfl) (by rfl) HPAR.out)
    try simp only [Act.put, List.setIfInBounds_toArray, List.set_cons_zero, List.set_cons_succ]
    refine wpG_takeA 4 (v := ?_) ?_ hHeld ?_
    rotate_left
    · (intro w hS; (clear hS; go_simp); try with_reducible rfl)
    try simp only [Act.put, List.setIfInBounds_toArray, List.set_cons_zero, List.set_cons_succ]
    refine wpG_takeA 5 (v := ?_) ?_ hHeld ?_
    rotate_left
    · (intro w hS; (clear hS; go_simp); try with_reducible rfl)
    try simp only [Act.put, List.setIfInBounds_toArray, List.set_cons_zero, List.set_cons_succ]
    refine wpG_takeA 6 (v := ?_) ?_ hHeld ?_
    rotate_left
    · (intro w hS; (clear hS; go_simp); try with_reducible rfl)
    try simp only [Act.put, List.setIfInBounds_toArray, List.set_cons_zero, List.set_cons_succ]
    refine wpG_takeA 7 (v := ptr gp) ?_ hHeld ?_
    · (intro w hS; first | exact kr_load_cell hS _ _ (by rfl) (by rfl) Has.auto (by kernel_rfl) (jrC_1 _ _ _ _))
    try simp only [Act.put, List.setIfInBounds_toArray, List.set_cons_zero, List.set_cons_succ]
    refine wpG_takeA 8 (v := ?_) ?_ hHeld ?_
    rotate_left
    · (intro w hS; (clear hS; go_simp); try with_reducible rfl)
    try simp only [Act.put, List.setIfInBounds_toArray, List.set_cons_zero, List.set_cons_succ]
    refine wpG_oneA 9 (fun K9 hK => ?_)
    go_simp
    (go_at_call 28; (with_reducible refine (pwrite_any (first := 0) (count := 1) (K.sel (by repeat (first | with_reducible exact Sel.nil _ | with_reducible exact Sel.ap _ _ | with_reducible exact Sel.hd _ _ | with_reducible exact Sel.all _ | with_reducible apply Sel.tl | with_reducible apply Sel.sk))) hD1 Has.auto (by omega) (by omega) 0 (by omega) ((RdS.own (w0 := w0) O1 (Seg.all Z1)).cov Cov.auto) O1.le HWB.out (by omega) (by have := HO1.out; omega) (by have := HO1.out; omega)).mono ?_); clear K; rintro e w1 ⟨rfl, X2, hD2, K⟩; rw [HS2.out hD1.ok]; rw [HS2.out hD1.ok] at hD2)
    refine hK.out _ _ (K.cov Cov.auto) (fun hHeld => ?_)
    clear hK K9
    try simp only [Act.put, List.setIfInBounds_toArray, List.set_cons_zero, List.set_cons_succ]
    refine wpG_takeA 10 (v := ?_) ?_ hHeld ?_
    rotate_left
    · (intro w hS; (clear hS; go_simp); try with_reducible rfl)
    try simp only [Act.put, List.setIfInBounds_toArray, List.set_cons_zero, List.set_cons_succ]
    refine wpG_done (by kernel_rfl) ?_
    skip
    by_cases he2 : e2 = 0
    rotate_left
    · have e1 : (e2 == 0) = false := by simpa using he2
      have HW := Lib.hid (show jwD D l r = (e2, D2, l) by rw [hw2, if_pos he2])
      clear hw2 he2
      go_wp2
      go_ret
      rw [HW.out]
      exact ⟨rfl, X2, hD2, K.cov Cov.auto⟩
    subst he2
    have ho2 := HO2.out rfl
    rw [if_neg (by simp)] at hw2
    obtain ⟨⟨e3, D3⟩, h3⟩ : ∃ x, dsync D2 = x := ⟨_, rfl⟩
    rw [h3] at hw2
    have HS3 := Lib.hid h3
    have HO3 := Lib.hid (show D2.offs < 1000000000000 by have := HO1.out; omega)
    clear h3 ho2
    by_cases he3 : e3 = 0
    rotate_left
    · have e1 : (e3 == 0) = false := by simpa using he3
      have HW := Lib.hid (show jwD D l r = (e3, D3, l) by rw [hw2, if_pos he3])
      clear hw2 he3
      go_wp2_with (first | ((with_reducible refine at_load (t := 23) rfl ?_); refine wpList_reads (by rfl) (kr_load_cell K _ _ (by rfl) (by rfl) Has.auto (by kernel_rfl) (jrC_0 _ _ _ _)) ?_) | (go_at_call 27; (with_reducible refine (ssync_any (K.sel (by repeat (first | with_reducible exact Sel.nil _ | with_reducible exact Sel.ap _ _ | with_reducible exact Sel.hd _ _ | with_reducible exact Sel.all _ | with_reducible apply Sel.tl | with_reducible apply Sel.sk))) hD2 HO3.out).mono ?_); clear K; rintro e w1 ⟨rfl, X3, hD3, K⟩; rw [HS3.out]; rw [HS3.out] at hD3))
      go_ret
      rw [HW.out]
      exact ⟨rfl, X3, hD3, K.cov Cov.auto⟩
    subst he3
    have HW := Lib.hid (show jwD D l r = (0, D3, s) by rw [hw2, if_neg (by simp)])
    clear hw2
    go_wp2_with (first | ((with_reducible refine at_load (t := 23) rfl ?_); refine wpList_reads (by rfl) (kr_load_cell K _ _ (by rfl) (by rfl) Has.auto (by kernel_rfl) (jrC_0 _ _ _ _)) ?_) | (go_at_call 27; (with_reducible refine (ssync_any (K.sel (by repeat (first | with_reducible exact Sel.nil _ | with_reducible exact Sel.ap _ _ | with_reducible exact Sel.hd _ _ | with_reducible exact Sel.all _ | with_reducible apply Sel.tl | with_reducible apply Sel.sk))) hD2 HO3.out).mono ?_); clear K; rintro e w1 ⟨rfl, X3, hD3, K⟩; rw [HS3.out]; rw [HS3.out] at hD3) | ((with_reducible refine at_load (t := 41) rfl ?_); refine wpList_reads (by rfl) (kr_load_row K _ _ (by rfl) (by rfl) Has.auto (by kernel_rfl) (by rw [recC_size _ HMS.out]; kernel_rfl)) ?_) | ((with_reducible refine at_store (t := 41) rfl ?_); refine wpList_does (by rfl) (kd_store_mid K _ _ _ (by rfl) (by rfl) (by rfl) Repl.auto (by rw [recC_size _ HMS.out]; kernel_rfl) (by rw [recC_size _ HMS.out, jrC_size _ _ _ _ HML.out]; omega) (recC_one _) (jrC_lay _ _ _ _ _ HML.out HMS.out)) ?_; clear K; intro _ w1 K))
    go_ret
    rw [HW.out]
    exact ⟨rfl, X3, hD3, K.cov Cov.auto⟩
  · skip
    have HPAR := Lib.hid (show (0 ≤ s.seq ∧ s.seq ≤ 18446744073709551615) ∧ s.seq % 2 = 1 from ⟨HRO.out.u64.1, hp⟩)
    obtain ⟨⟨e2, D2⟩, h2⟩ : ∃ x, dwrite D1 1 (zpad D1.size (recW s)) = x := ⟨_, rfl⟩
    have HS2 := Lib.hid (show DevOk D1 → pwrite D1 1 1 0 (recW s) = (e2, D2) from fun h => by rw [← h2]; exact pwrite_one h 1 (by intro h0; rw [h0] at hwl; cases hwl) (by omega))
    have hw2 : jwD D l r = if e2 ≠ 0 then (e2, D2, l) else if (dsync D2).1 ≠ 0 then ((dsync D2).1, (dsync D2).2, l) else (0, (dsync D2).2, s) := by
      rw [hw1, hp, ← h1s, h2]
    clear hw1 hp
    have HO2 := Lib.hid (show e2 = 0 → D2.offs = D1.offs from fun h => by have := dwrite_offs (D := D1) (i := 1) (b := zpad D1.size (recW s)) (by rw [h2]; exact h); rw [h2] at this; exact this)
    clear h2
    go_upto_region 8 with (fail)
    refine wp_region_GK (X := [row gr (recC s) 41, jrow gj g gp gq l]) K Cov.auto (by kernel_rfl) (by kernel_rfl) (by kernel_rfl) (fun K hHeld => ?_)
    refine wpG_takeA 0 (v := ?_) ?_ hHeld ?_
    rotate_left
    · (intro w hS; (clear hS; go_simp); try with_reducible rfl)
    try simp only [Act.put, List.setIfInBounds_toArray, List.set_cons_zero, List.set_cons_succ]
    refine wpG_takeA 1 (v := ?_) ?_ hHeld ?_
    rotate_left
    · (intro w hS; (clear hS; go_simp); try with_reducible rfl)
    try simp only [Act.put, List.setIfInBounds_toArray, List.set_cons_zero, List.set_cons_succ]
    refine wpG_takeA 2 (v := .int .u64 s.seq) ?_ hHeld ?_
    · (intro w hS; first | exact kr_load_cell hS _ _ (by rfl) (by rfl) Has.auto (by kernel_rfl) (recC_0 _))
    try simp only [Act.put, List.setIfInBounds_toArray, List.set_cons_zero, List.set_cons_succ]
    refine wpG_takeA 3 (v := .int .u64 1) ?_ hHeld ?_
    · (intro w hS; first | exact kr_rem2 (by rfl) (by rfl) (by rfl) HPAR.out)
    try simp only [Act.put, List.setIfInBounds_toArray, List.set_cons_zero, List.set_cons_succ]
    refine wpG_takeA 4 (v := ?_) ?_ hHeld ?_
    rotate_left
    · (intro w hS; (clear hS; go_simp); try with_reducible rfl)
    try simp only [Act.put, List.setIfInBounds_toArray, List.set_cons_zero, List.set_cons_succ]
    refine wpG_takeA 5 (v := ?_) ?_ hHeld ?_
    rotate_left
    · (intro w hS; (clear hS; go_simp); try with_reducible rfl)
    try simp only [Act.put, List.setIfInBounds_toArray, List.set_cons_zero, List.set_cons_succ]
    refine wpG_takeA 6 (v := ?_) ?_ hHeld ?_
    rotate_left
    · (intro w hS; (clear hS; go_simp); try with_reducible rfl)
    try simp only [Act.put, List.setIfInBounds_toArray, List.set_cons_zero, List.set_cons_succ]
    refine wpG_takeA 7 (v := ptr gq) ?_ hHeld ?_
    · (intro w hS; first | exact kr_load_cell hS _ _ (by rfl) (by rfl) Has.auto (by kernel_rfl) (jrC_2 _ _ _ _))
    try simp only [Act.put, List.setIfInBounds_toArray, List.set_cons_zero, List.set_cons_succ]
    refine wpG_takeA 8 (v := ?_) ?_ hHeld ?_
    rotate_left
    · (intro w hS; (clear hS; go_simp); try with_reducible rfl)
    try simp only [Act.put, List.setIfInBounds_toArray, List.set_cons_zero, List.set_cons_succ]
    refine wpG_oneA 9 (fun K9 hK => ?_)
    go_simp
    (go_at_call 28; (with_reducible refine (pwrite_any (first := 1) (count := 1) (K.sel (by repeat (first | with_reducible exact Sel.nil _ | with_reducible exact Sel.ap _ _ | with_reducible exact Sel.hd _ _ | with_reducible exact Sel.all _ | with_reducible apply Sel.tl | with_reducible apply Sel.sk))) hD1 Has.auto (by omega) (by omega) 0 (by omega) ((RdS.own (w0 := w0) O1 (Seg.all Z1)).cov Cov.auto) O1.le HWB.out (by omega) (by have := HO1.out; omega) (by have := HO1.out; omega)).mono ?_); clear K; rintro e w1 ⟨rfl, X2, hD2, K⟩; rw [HS2.out hD1.ok]; rw [HS2.out hD1.ok] at hD2)
    refine hK.out _ _ (K.cov Cov.auto) (fun hHeld => ?_)
    clear hK K9
    try simp only [Act.put, List.setIfInBounds_toArray, List.set_cons_zero, List.set_cons_succ]
    refine wpG_takeA 10 (v := ?_) ?_ hHeld ?_
    rotate_left
    · (intro w hS; (clear hS; go_simp); try with_reducible rfl)
    try simp only [Act.put, List.setIfInBounds_toArray, List.set_cons_zero, List.set_cons_succ]
    refine wpG_done (by kernel_rfl) ?_
    skip
    by_cases he2 : e2 = 0
    rotate_left
    · have e1 : (e2 == 0) = false := by simpa using he2
      have HW := Lib.hid (show jwD D l r = (e2, D2, l) by rw [hw2, if_pos he2])
      clear hw2 he2
      go_wp2
      go_ret
      rw [HW.out]
      exact ⟨rfl, X2, hD2, K.cov Cov.auto⟩
    subst he2
    have ho2 := HO2.out rfl
    rw [if_neg (by simp)] at hw2
    obtain ⟨⟨e3, D3⟩, h3⟩ : ∃ x, dsync D2 = x := ⟨_, rfl⟩
    rw [h3] at hw2
    have HS3 := Lib.hid h3
    have HO3 := Lib.hid (show D2.offs < 1000000000000 by have := HO1.out; omega)
    clear h3 ho2
    by_cases he3 : e3 = 0
    rotate_left
    · have e1 : (e3 == 0) = false := by simpa using he3
      have HW := Lib.hid (show jwD D l r = (e3, D3, l) by rw [hw2, if_pos he3])
      clear hw2 he3
      go_wp2_with (first | ((with_reducible refine at_load (t := 23) rfl ?_); refine wpList_reads (by rfl) (kr_load_cell K _ _ (by rfl) (by rfl) Has.auto (by kernel_rfl) (jrC_0 _ _ _ _)) ?_) | (go_at_call 27; (with_reducible refine (ssync_any (K.sel (by repeat (first | with_reducible exact Sel.nil _ | with_reducible exact Sel.ap _ _ | with_reducible exact Sel.hd _ _ | with_reducible exact Sel.all _ | with_reducible apply Sel.tl | with_reducible apply Sel.sk))) hD2 HO3.out).mono ?_); clear K; rintro e w1 ⟨rfl, X3, hD3, K⟩; rw [HS3.out]; rw [HS3.out] at hD3))
      go_ret
      rw [HW.out]
      exact ⟨rfl, X3, hD3, K.cov Cov.auto⟩
    subst he3
    have HW := Lib.hid (show jwD D l r = (0, D3, s) by rw [hw2, if_neg (by simp)])
    clear hw2
    go_wp2_with (first | ((with_reducible refine at_load (t := 23) rfl ?_); refine wpList_reads (by rfl) (kr_load_cell K _ _ (by rfl) (by rfl) Has.auto (by kernel_rfl) (jrC_0 _ _ _ _)) ?_) | (go_at_call 27; (with_reducible refine (ssync_any (K.sel (by repeat (first | with_reducible exact Sel.nil _ | with_reducible exact Sel.ap _ _ | with_reducible exact Sel.hd _ _ | with_reducible exact Sel.all _ | with_reducible apply Sel.tl | with_reducible apply Sel.sk))) hD2 HO3.out).mono ?_); clear K; rintro e w1 ⟨rfl, X3, hD3, K⟩; rw [HS3.out]; rw [HS3.out] at hD3) | ((with_reducible refine at_load (t := 41) rfl ?_); refine wpList_reads (by rfl) (kr_load_row K _ _ (by rfl) (by rfl) Has.auto (by kernel_rfl) (by rw [recC_size _ HMS.out]; kernel_rfl)) ?_) | ((with_reducible refine at_store (t := 41) rfl ?_); refine wpList_does (by rfl) (kd_store_mid K _ _ _ (by rfl) (by rfl) (by rfl) Repl.auto (by rw [recC_size _ HMS.out]; kernel_rfl) (by rw [recC_size _ HMS.out, jrC_size _ _ _ _ HML.out]; omega) (recC_one _) (jrC_lay _ _ _ _ _ HML.out HMS.out)) ?_; clear K; intro _ w1 K))
    go_ret
    rw [HW.out]
    exact ⟨rfl, X3, hD3, K.cov Cov.auto⟩
set_option maxRecDepth 100000 in
theorem jlast_any {M : List Ent} (K : Known w0 w M) (h : Has (jrow gj g gp gq l) M) (hl : l.man.length = 32) : Calls Try.prog 10 #[ptr gj] w fun e w' => e = .returned (.agg (recC l)) ∧ Known w0 w' M := by
  have HML := Lib.hid hl
  go_enter Try.func10, Try.ntmps10
  go_wp2_with (first | ((with_reducible refine at_slot (N := 2) rfl ?_); (with_reducible refine at_alloc rfl ?_); refine wpList_does rfl (kd_alloc (z := (.agg (recC rec0))) K _ rfl (by kernel_rfl)) ?_; clear K; rintro _ w1 ⟨gx, rfl, K⟩; (try dsimp only [Value.cells] at K)) | ((with_reducible refine at_load rfl ?_); refine wpList_reads (by rfl) (kr_load_mid (n := 44) (i := 3) K _ _ (by rfl) (by rfl) (Has.tl _ h) (by kernel_rfl) (by kernel_rfl) (jrC_rec _ _ _ _ HML.out) (by rw [jrC_size _ _ _ _ HML.out]; rfl)) ?_) | ((with_reducible refine at_store rfl ?_); refine wpList_does (by rfl) (kd_store_row K _ _ _ (by rfl) (by rfl) (by rfl) Repl.auto (by rw [recC_size _ HML.out]; kernel_rfl) (by rw [recC_size _ man0_len, recC_size _ HML.out]; rfl) (recC_one _)) ?_; clear K; intro _ w1 K; (try simp only [Act.put])))
  exact bodyPost_cellK K (by rfl) (by rfl) Has.auto (by kernel_rfl) (by rw [recC_size _ HML.out]; kernel_rfl) rfl ⟨rfl, K.cov Cov.auto⟩
end
end Go.Proofs.Ytfdddipmeadecaa

/-
  journal: what is the last record, as plain mathematics: behind a write, and behind a fall.
-/
set_option linter.unusedVariables false
set_option linter.unusedSimpArgs false
namespace Go.Proofs.Ytfdddipmeadecaa
open Go.RowKit
def lastC (a b : Option Rec) : Rec := (pickJ (pickJ (rec0, false) a) b).1
theorem lastJ_C (D : Dev) : lastJ D = lastC (cand D 0) (cand D 1) := rfl
/-- the last record stands in its place, and the other place has none, or an elder one -/
def HeldC (a b : Option Rec) (l : Rec) : Prop := (l = rec0 ∧ a = none ∧ b = none) ∨ (l.seq % 2 = 0 ∧ a = some l ∧ ∀ r, b = some r → r.seq < l.seq) ∨ (l.seq % 2 = 1 ∧ b = some l ∧ ∀ r, a = some r → r.seq < l.seq)
theorem held_last {a b : Option Rec} {l : Rec} (h : HeldC a b l) : lastC a b = l := by
  obtain ⟨rfl, rfl, rfl⟩ | ⟨_, rfl, hb⟩ | ⟨_, rfl, ha⟩ := h
  · rfl
  · cases b with
    | none => simp [lastC, pickJ]
    | some r => have := hb r rfl; simp [lastC, pickJ, this]
  · cases a with
    | none => simp [lastC, pickJ]
    | some r => have := ha r rfl; have h2 : ¬ l.seq < r.seq := by omega
                simp [lastC, pickJ, h2]
theorem held_next {a b : Option Rec} {l r : Rec} (h : HeldC a b l) (hr : r.seq = l.seq + 1) : (r.seq % 2 = 0 → HeldC (some r) b r) ∧ (r.seq % 2 = 1 → HeldC a (some r) r) := by
  obtain ⟨rfl, rfl, rfl⟩ | ⟨hp, rfl, hb⟩ | ⟨hp, rfl, ha⟩ := h
  · exact ⟨fun h => .inr (.inl ⟨h, rfl, by simp⟩), fun h => .inr (.inr ⟨h, rfl, by simp⟩)⟩
  · refine ⟨fun h => by omega, fun h => .inr (.inr ⟨h, rfl, fun x hx => ?_⟩)⟩
    cases hx
    omega
  · refine ⟨fun h => .inr (.inl ⟨h, rfl, fun x hx => ?_⟩), fun h => by omega⟩
    cases hx
    omega
theorem held_torn {a b : Option Rec} {l : Rec} (h : HeldC a b l) : ((l.seq + 1) % 2 = 0 → HeldC none b l) ∧ ((l.seq + 1) % 2 = 1 → HeldC a none l) := by
  obtain ⟨rfl, rfl, rfl⟩ | ⟨hp, rfl, hb⟩ | ⟨hp, rfl, ha⟩ := h
  · exact ⟨fun _ => .inl ⟨rfl, rfl, rfl⟩, fun _ => .inl ⟨rfl, rfl, rfl⟩⟩
  · exact ⟨fun h => by omega, fun h => .inr (.inl ⟨hp, rfl, by simp⟩)⟩
  · exact ⟨fun h => .inr (.inr ⟨hp, rfl, by simp⟩), fun h => by omega⟩
/-- a device of four sectors, of 128 bytes, that is on and has written nothing -/
structure DJ (D : Dev) : Prop where mk ::
  (size : D.size = 128) (count : D.count = 4) (off : D.off = false) (waits : D.waits = [])
def candK (k : AMap) (i : Nat) : Option Rec := cand ⟨128, 4, k, [], false, 0, -1, 0⟩ i
theorem cand_K {D : Dev} (h : DJ D) (i : Nat) : cand D i = candK D.kept i := by
  obtain ⟨s, c, k, w, o, n, f, v⟩ := D
  obtain ⟨rfl, rfl, rfl, rfl⟩ := h
  rfl
theorem resG_app (xs ys : List Int) (h : xs.length = 99) : resG (xs ++ ys) = resG xs := by
  have ht : ∀ n, n ≤ 99 → (xs ++ ys).take n = xs.take n := fun n hn => List.take_append_of_le_length (by omega)
  have hd : ∀ a n, a + n ≤ 99 → ((xs ++ ys).drop a).take n = (xs.drop a).take n := fun a n hn => by
    rw [List.drop_append_of_le_length (by omega), List.take_append_of_le_length (by rw [List.length_drop]; omega)]
  have hg : ∀ i, i < 99 → (xs ++ ys).getD i 0 = xs.getD i 0 := fun i hi => by
    simp only [List.getD]
    rw [List.getElem?_append_left (by omega)]
  have hr : getRec (xs ++ ys) = getRec xs := by
    unfold getRec
    rw [hd 4 8 (by omega), hg 12 (by omega), hd 13 8 (by omega), hd 21 4 (by omega), hg 25 (by omega), hg 26 (by omega), hd 27 32 (by omega), hd 59 8 (by omega), hd 67 4 (by omega), hd 71 4 (by omega), hd 75 8 (by omega), hd 83 4 (by omega), hd 87 4 (by omega)]
  unfold resG
  rw [hr, ht 4 (by omega), ht 91 (by omega), hd 91 8 (by omega), if_neg (by rw [List.length_append]; omega), if_neg (show ¬ xs.length < 99 by omega)]
theorem zpad_rec (r : Rec) (h : RecOk r) (hv : mayR r = true) : resG (zpad 128 (recW r)) = (r, 0) := by
  have hl := recW_len r h.man
  rw [zpad, List.take_of_length_le (by omega), resG_app _ _ hl, resG_recW r h hv]
theorem candK_put (k : AMap) (p : Nat) (f : Face) (i : Nat) (hp : p < 4) : candK (aput k p f) i = if i = p then (if f.torn = false ∧ (resG f.b).2 = 0 ∧ (resG f.b).1.seq % 2 = (p : Int) then some (resG f.b).1 else none) else candK k i := by
  unfold candK cand dread dface dmay
  simp only [afind, afind_put]
  by_cases h : i = p
  · subst h
    have h1 : ¬ ((i : Int) < 0 ∨ ((4 : Nat) : Int) ≤ (i : Int)) := by omega
    simp only [if_true, h1, if_false]
    cases hf : f.torn <;> simp
  · have h1 : ¬ (i : Int) = (p : Int) := by omega
    simp only [h, h1, if_false]
theorem candK_rec (k : AMap) (p : Nat) (r : Rec) (i : Nat) (hp : p < 4) (h : RecOk r) (hv : mayR r = true) (hs : r.seq % 2 = p) : candK (aput k p ⟨zpad 128 (recW r), false⟩) i = if i = p then some r else candK k i := by
  rw [candK_put k p _ i hp]
  simp only [zpad_rec r h hv]
  rw [if_pos (show (True ∧ True ∧ r.seq % 2 = (p : Int)) from ⟨trivial, trivial, hs⟩)]
theorem candK_torn (k : AMap) (p : Nat) (i : Nat) (hp : p < 4) : candK (aput k p ⟨[], true⟩) i = if i = p then none else candK k i := by
  rw [candK_put k p _ i hp]
  simp
def KInv (k : AMap) (l : Rec) : Prop := HeldC (candK k 0) (candK k 1) l
theorem kinv_last {D : Dev} {l : Rec} (h : DJ D) (hi : KInv D.kept l) : lastJ D = l := by
  rw [lastJ_C, cand_K h, cand_K h]
  exact held_last hi
theorem kinv_next {k : AMap} {l r : Rec} (hi : KInv k l) (h : RecOk r) (hv : mayR r = true) (hs : r.seq = l.seq + 1) : KInv (aput k (r.seq % 2) ⟨zpad 128 (recW r), false⟩) r := by
  unfold KInv
  obtain hp | hp : r.seq % 2 = 0 ∨ r.seq % 2 = 1 := by omega
  · rw [hp, show (0 : Int) = ((0 : Nat) : Int) from rfl, candK_rec k 0 r 0 (by omega) h hv hp, candK_rec k 0 r 1 (by omega) h hv hp]
    exact (held_next hi hs).1 hp
  · rw [hp, show (1 : Int) = ((1 : Nat) : Int) from rfl, candK_rec k 1 r 0 (by omega) h hv hp, candK_rec k 1 r 1 (by omega) h hv hp]
    exact (held_next hi hs).2 hp
theorem kinv_torn {k : AMap} {l : Rec} (hi : KInv k l) : KInv (aput k ((l.seq + 1) % 2) ⟨[], true⟩) l := by
  unfold KInv
  obtain hp | hp : (l.seq + 1) % 2 = 0 ∨ (l.seq + 1) % 2 = 1 := by omega
  · rw [hp, show (0 : Int) = ((0 : Nat) : Int) from rfl, candK_torn k 0 0 (by omega), candK_torn k 0 1 (by omega)]
    exact (held_torn hi).1 hp
  · rw [hp, show (1 : Int) = ((1 : Nat) : Int) from rfl, candK_torn k 1 0 (by omega), candK_torn k 1 1 (by omega)]
    exact (held_torn hi).2 hp
theorem zeros_rec : resG (List.replicate 128 (0 : Int)) = (rec0, 3) := by
  unfold resG
  rw [if_neg (by simp), if_pos (by decide)]
theorem kinv_new : KInv [] rec0 := by
  refine .inl ⟨rfl, ?_, ?_⟩
  all_goals
    unfold candK cand dread dface dmay
    simp only [afind]
    rw [if_neg]
    intro hh
    have h2 := hh.2.1
    rw [if_neg (by decide)] at h2
    simp only [zeros_rec] at h2
    cases h2
theorem dj_new : DJ (Dev.new 128 4) := ⟨rfl, rfl, rfl, rfl⟩
theorem dmay_j {D : Dev} (h : DJ D) {p : Int} (hp : 0 ≤ p ∧ p < 4) : dmay D p = 0 := by
  unfold dmay
  rw [h.off, h.count, if_neg (by simp), if_neg (by omega)]
def burn (f : Int) : Int := if 0 < f then f - 1 else f
theorem burn_neg {f : Int} (h : f < 0) : burn f = f := by rw [burn, if_neg (by omega)]
/-- what a write leaves: it came to its end, or its sector waits, or nothing was written -/
theorem jw_facts {D : Dev} {l r s : Rec} (h : DJ D) (hv : mayR r = true) (hs : s = { r with seq := l.seq + 1 }) :
    ∃ e D' l', jwD D l r = (e, D', l') ∧ D'.size = 128 ∧ D'.count = 4 ∧ D'.offs ≤ D.offs + 1 ∧ D'.writes ≤ D.writes + 1 ∧ (D.fuse < 0 → e = 0 ∧ D'.fuse = D.fuse ∧ D'.offs = D.offs) ∧
      ((e = 0 ∧ l' = s ∧ D'.off = false ∧ D'.waits = [] ∧ D'.kept = aput D.kept ((l.seq + 1) % 2) ⟨zpad 128 (recW s), false⟩) ∨
       (e ≠ 0 ∧ l' = l ∧ D'.kept = D.kept ∧ (D'.waits = [] ∨ D'.waits = [((l.seq + 1) % 2, ⟨zpad 128 (recW s), false⟩)]))) := by
  obtain ⟨sz, c, k, w, o, n, f, v⟩ := D
  obtain ⟨rfl, rfl, rfl, rfl⟩ := h
  have hp : 0 ≤ (l.seq + 1) % 2 ∧ (l.seq + 1) % 2 < 4 := by omega
  have h1 : dsync ⟨128, 4, k, [], false, n, f, v⟩ = if f = 0 then (8, ⟨128, 4, k, [], true, n + 1, f, v⟩) else (0, ⟨128, 4, k, [], false, n, burn f, v⟩) := by
    rw [dsync, if_neg (by simp)]
    rfl
  have h2 : ∀ g, dwrite ⟨128, 4, k, [], false, n, g, v⟩ ((l.seq + 1) % 2) (zpad 128 (recW s)) = if g = 0 then (8, ⟨128, 4, k, [((l.seq + 1) % 2, ⟨zpad 128 (recW s), false⟩)], true, n + 1, g, v⟩) else (0, ⟨128, 4, k, [((l.seq + 1) % 2, ⟨zpad 128 (recW s), false⟩)], false, n, burn g, v + 1⟩) := fun g => by
    rw [dwrite, if_neg (by rw [dmay_j ⟨rfl, rfl, rfl, rfl⟩ hp]; simp), if_neg (by rw [zpad_len]; simp)]
    rfl
  have h3 : ∀ g fc, dsync ⟨128, 4, k, [((l.seq + 1) % 2, fc)], false, n, g, v + 1⟩ = if g = 0 then (8, ⟨128, 4, k, [((l.seq + 1) % 2, fc)], true, n + 1, g, v + 1⟩) else (0, ⟨128, 4, aput k ((l.seq + 1) % 2) fc, [], false, n, burn g, v + 1⟩) := fun g fc => by
    rw [dsync, if_neg (by simp)]
    rfl
  rw [jwD, if_neg (by rw [hv]; simp), h1, ← hs]
  by_cases f0 : f = 0
  · simp only [if_pos f0]
    rw [if_pos (by simp)]
    exact ⟨_, _, _, rfl, rfl, rfl, (by show n + 1 ≤ n + 1; omega), (by first | (show v ≤ v + 1; omega) | (show v + 1 ≤ v + 1; omega)), fun hf => by have hf : f < 0 := hf; omega, .inr ⟨by simp, rfl, rfl, .inl rfl⟩⟩
  simp only [if_neg f0]
  rw [if_neg (by simp), h2]
  by_cases f1 : burn f = 0
  · simp only [if_pos f1]
    rw [if_pos (by simp)]
    exact ⟨_, _, _, rfl, rfl, rfl, (by show n + 1 ≤ n + 1; omega), (by first | (show v ≤ v + 1; omega) | (show v + 1 ≤ v + 1; omega)), fun hf => by have hf : f < 0 := hf; rw [burn_neg hf] at f1; omega, .inr ⟨by simp, rfl, rfl, .inr rfl⟩⟩
  simp only [if_neg f1]
  rw [if_neg (by simp), h3]
  by_cases f2 : burn (burn f) = 0
  · simp only [if_pos f2]
    rw [if_pos (by simp)]
    exact ⟨_, _, _, rfl, rfl, rfl, (by show n + 1 ≤ n + 1; omega), (by first | (show v ≤ v + 1; omega) | (show v + 1 ≤ v + 1; omega)), fun hf => by have hf : f < 0 := hf; rw [burn_neg hf, burn_neg hf] at f2; omega, .inr ⟨by simp, rfl, rfl, .inr rfl⟩⟩
  simp only [if_neg f2]
  rw [if_neg (by simp)]
  exact ⟨_, _, _, rfl, rfl, rfl, (by show n ≤ n + 1; omega), (by show v + 1 ≤ v + 1; omega), fun hf => by have hf : f < 0 := hf; show (0 : Int) = 0 ∧ burn (burn (burn f)) = f ∧ n = n; rw [burn_neg hf, burn_neg hf, burn_neg hf]; exact ⟨rfl, rfl, rfl⟩, .inl ⟨rfl, rfl, rfl, rfl, rfl⟩⟩
/-- behind a fall the last record is the new one, or the one ahead of it -/
theorem back_any {D D' : Dev} {l s : Rec} {e : Int} {l' : Rec} (ps : List Int) (hi : KInv D.kept l) (hs : RecOk s) (hv : mayR s = true) (hq : s.seq = l.seq + 1) (h1 : D'.size = 128) (h2 : D'.count = 4)
    (h : (e = 0 ∧ l' = s ∧ D'.off = false ∧ D'.waits = [] ∧ D'.kept = aput D.kept ((l.seq + 1) % 2) ⟨zpad 128 (recW s), false⟩) ∨
       (e ≠ 0 ∧ l' = l ∧ D'.kept = D.kept ∧ (D'.waits = [] ∨ D'.waits = [((l.seq + 1) % 2, ⟨zpad 128 (recW s), false⟩)]))) :
    DJ (dback D' ps) ∧ ((e = 0 ∧ lastJ (dback D' ps) = s) ∨ (e ≠ 0 ∧ (lastJ (dback D' ps) = l ∨ lastJ (dback D' ps) = s))) := by
  have hf : (dfall D').size = 128 ∧ (dfall D').count = 4 := by
    unfold dfall
    split
    · exact ⟨h1, h2⟩
    · exact ⟨h1, h2⟩
  have hd : DJ (dback D' ps) := ⟨hf.1, hf.2, rfl, rfl⟩
  refine ⟨hd, ?_⟩
  have hk : (dback D' ps).kept = bkeep D'.waits ps D'.kept := rfl
  have hn := kinv_next hi hs hv hq
  rw [hq] at hn
  obtain ⟨rfl, rfl, _, hw, hkp⟩ | ⟨he, rfl, hkp, hw | hw⟩ := h
  · refine .inl ⟨rfl, kinv_last hd ?_⟩
    rw [hk, hw, hkp]
    exact hn
  · refine .inr ⟨he, .inl (kinv_last hd ?_)⟩
    rw [hk, hw, hkp]
    exact hi
  · rw [hw, hkp, bkeep, bkeep] at hk
    refine .inr ⟨he, ?_⟩
    by_cases c1 : ps.headD 0 = 1
    · rw [if_pos c1] at hk
      exact .inr (kinv_last hd (by rw [hk]; exact hn))
    · rw [if_neg c1] at hk
      by_cases c2 : ps.headD 0 = 2
      · rw [if_pos c2] at hk
        exact .inl (kinv_last hd (by rw [hk]; exact kinv_torn hi))
      · rw [if_neg c2] at hk
        exact .inl (kinv_last hd (by rw [hk]; exact hi))
end Go.Proofs.Ytfdddipmeadecaa
