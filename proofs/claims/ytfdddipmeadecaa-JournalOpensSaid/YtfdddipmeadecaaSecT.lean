/-
  sector: Sync, Fuse, Back as plain mathematics.
-/
import Derived.Test.YtfdddipmeadecaaSecB
import Derived.Test.YtfdddipmeadecaaMapR
import Derived.Lib.MinMax
import Derived.Deep.LoopGhost
import Derived.Test.YtfdddipmeadecaaKeys
import Derived.Deep.Cut
set_option linter.unusedVariables false
set_option linter.unusedSimpArgs false
namespace Go.Proofs.Ytfdddipmeadecaa
open Go.RowKit
theorem rising_lt {k : Int} {f : Face} {l : AMap} (h : Rising ((k, f) :: l)) {i : Int} (hi : i ≤ k) : afind l i = none := by
  obtain ⟨h1, _⟩ := List.pairwise_cons.1 h
  cases hq : afind l i with
  | none => rfl
  | some f' =>
    have := h1 _ (afind_mem hq)
    simp only at this
    omega
theorem rising_ext : ∀ {l l' : AMap}, Rising l → Rising l' → (∀ i, afind l i = afind l' i) → l = l'
  | [], [], _, _, _ => rfl
  | [], (k, f) :: l', _, _, h => by
    have := h k
    simp [afind] at this
  | (k, f) :: l, [], _, _, h => by
    have := h k
    simp [afind] at this
  | (k, f) :: l, (k', f') :: l', h1, h2, h => by
    have e : k = k' := by
      rcases Int.lt_trichotomy k k' with hlt | he | hlt
      · have := h k
        rw [afind, if_pos rfl, afind, if_neg (by omega), rising_lt h2 (by omega)] at this
        cases this
      · exact he
      · have := h k'
        rw [afind, if_neg (by omega), afind, if_pos rfl, rising_lt h1 (by omega)] at this
        cases this
    subst e
    have ef : f = f' := by
      have := h k
      rw [afind, if_pos rfl, afind, if_pos rfl] at this
      injection this
    subst ef
    congr 1
    refine rising_ext (List.pairwise_cons.1 h1).2 (List.pairwise_cons.1 h2).2 fun i => ?_
    by_cases hi : i = k
    · rw [hi, rising_lt h1 (Int.le_refl _), rising_lt h2 (Int.le_refl _)]
    · have := h i
      rwa [afind, if_neg hi, afind, if_neg hi] at this
/-- what waits laid onto what is kept -/
def amerge (k : AMap) : AMap → AMap
  | [] => k
  | (i, f) :: l => amerge (aput k i f) l
theorem amerge_rising : ∀ {l k : AMap}, Rising k → Rising (amerge k l)
  | [], _, h => h
  | (i, f) :: l, k, h => amerge_rising (l := l) (rising_put h)
theorem amerge_find : ∀ {l : AMap} (k : AMap) (i : Int), Rising l → afind (amerge k l) i = (afind l i).or (afind k i)
  | [], k, i, _ => rfl
  | (j, f) :: l, k, i, h => by
    rw [amerge, amerge_find (aput k j f) i (List.pairwise_cons.1 h).2, afind_put, afind]
    by_cases hi : i = j
    · rw [if_pos hi, if_pos hi, hi, rising_lt h (Int.le_refl _)]; rfl
    · rw [if_neg hi, if_neg hi]
def dsync (D : Dev) : Int × Dev :=
  if D.off then (8, D) else if D.fuse = 0 then (8, dfall D) else (0, { dburn D with kept := amerge D.kept D.waits, waits := [] })
def dfuse (D : Dev) (n : Int) : Dev := { D with fuse := max n 0 }
/-- what is kept behind a fall, by the picks -/
def bkeep : AMap → List Int → AMap → AMap
  | [], _, m => m
  | (i, f) :: l, ps, m => bkeep l ps.tail (if ps.headD 0 = 1 then aput m i f else if ps.headD 0 = 2 then aput m i ⟨[], true⟩ else m)
def dback (D : Dev) (ps : List Int) : Dev := { dfall D with kept := bkeep D.waits ps D.kept, waits := [], fuse := -1, off := false }
theorem bkeep_rising : ∀ {l : AMap} (ps : List Int) {m : AMap}, Rising m → Rising (bkeep l ps m)
  | [], _, _, h => h
  | (i, f) :: l, ps, m, h => by
    rw [bkeep]
    refine bkeep_rising _ ?_
    split
    · exact rising_put h
    · split
      · exact rising_put h
      · exact h
theorem bkeep_mem : ∀ {l : AMap} (ps : List Int) {m : AMap} {p : Int × Face}, p ∈ bkeep l ps m → p ∈ m ∨ p ∈ l ∨ ∃ q ∈ l, p = (q.1, ⟨[], true⟩)
  | [], _, _, _, h => .inl h
  | (i, f) :: l, ps, m, p, h => by
    rw [bkeep] at h
    rcases bkeep_mem _ h with h | h | ⟨q, hq, e⟩
    · split at h
      · rcases mem_aput h with h | h
        · exact .inr (.inl (by rw [h]; exact List.mem_cons_self ..))
        · exact .inl h
      · split at h
        · rcases mem_aput h with h | h
          · exact .inr (.inr ⟨(i, f), List.mem_cons_self .., h⟩)
          · exact .inl h
        · exact .inl h
    · exact .inr (.inl (List.mem_cons_of_mem _ h))
    · exact .inr (.inr ⟨q, List.mem_cons_of_mem _ hq, e⟩)
theorem amerge_mem : ∀ {l k : AMap} {p : Int × Face}, p ∈ amerge k l → p ∈ k ∨ p ∈ l
  | [], _, _, h => .inl h
  | (i, f) :: l, k, p, h => by
    rcases amerge_mem (l := l) h with h | h
    · rcases mem_aput h with h | h
      · exact .inr (by rw [h]; exact List.mem_cons_self ..)
      · exact .inl h
    · exact .inr (List.mem_cons_of_mem _ h)
end Go.Proofs.Ytfdddipmeadecaa

/-
  sector: Offs, Waits, Writes, Fuse (contracts).
-/
set_option linter.unusedVariables false
set_option linter.unusedSimpArgs false
namespace Go.Proofs.Ytfdddipmeadecaa
open Go.RowKit


theorem at_len1 {P : Program} {ops : Array Oper} {rest : List Oper} {o : Oper} {a : Act} {Q : Exit → Act → World → Prop} {W : World} {t : TypeId} {x : Operand} (_h : o.op = .call { callee := .builtin .len, args := #[x], argTypes := #[t] }) (k : wpList P ops Q (o :: rest) a W) : wpList P ops Q (o :: rest) a W := k
theorem at_clear1 {P : Program} {ops : Array Oper} {rest : List Oper} {o : Oper} {a : Act} {Q : Exit → Act → World → Prop} {W : World} {t : TypeId} {x : Operand} (_h : o.op = .call { callee := .builtin .clear, args := #[x], argTypes := #[t] }) (k : wpList P ops Q (o :: rest) a W) : wpList P ops Q (o :: rest) a W := k
section
variable {P : Program} {w0 w W : World} {L X : List Ent} {g : Nat} {D : Dev} {o : Oper} {a : Act}
/-- len(m) -/
theorem kr_lenMap (K : Known w0 W L) {T kt et : TypeId} {m : Operand} (ho : o.op = .call { callee := .builtin .len, args := #[m], argTypes := #[T] }) {q c : Nat} {l : List ME} (hm : a.eval m = .map (some q)) (hb : Has (mrow q l c) L) (hT : P.underlying T = some (.map kt et)) :
    (execOp a.eval o).run P W = .ok (.value (.int .i64 l.length)) W := by
  have hrun : (Builtin.len_ #[T] o.type #[.map (some q)]).run P W = .ok (.int .i64 l.length) W := by
    simp [Builtin.len_, Builtin.lenOf, Sem.run_bind, run_underlying hT, MapKept.run_getObj_map (K.get hb), mes, goInt]
  simp only [execOp, ho, resolve, invoke, builtin, List.map_toArray, List.map_cons, List.map_nil, hm, hrun, Sem.run_bind, Sem.run_pure, Result.andThen_ok]
theorem dfuse_ok (h : DevOk D) {n : Int} (hn : n ≤ 9223372036854775807) : DevOk (dfuse D n) :=
  ⟨h.size, h.count, h.rk, h.rw_, h.fk, h.fw, h.offs, ⟨by show -1 ≤ max n 0; omega, by show max n 0 ≤ _; omega⟩, h.writes⟩
set_option maxRecDepth 100000 in
theorem sfuse_any (K : Known w0 w (X ++ L)) (hD : DevIs w0 g D X) (n : Int) (hn : n ≤ 9223372036854775807) : Calls Try.prog 20 #[.pointer (some ⟨g, 0, none⟩), .int .i64 n] w fun e w' => e = .returned (.tuple #[]) ∧ ∃ X', DevIs w0 g (dfuse D n) X' ∧ Known w0 w' (X' ++ L) := by
  obtain ⟨mk, mw, lk, ck, lw, cw, fz, Y, rfl, hfz, HK, HW⟩ := hD.out
  have hok := hD.ok
  simp only [List.cons_append] at K
  have HOK := Lib.hid (dfuse_ok hok hn)
  have HT := Lib.hid (show decide (0 ≤ (dfuse D n).fuse) = true by show decide (0 ≤ max n 0) = true; exact decide_eq_true (by omega))
  clear hD hok hfz
  go_enter Try.func20, Try.ntmps20
  go_wp2_with (first | ((with_reducible refine at_eqnil rfl ?_); refine wpList_reads rfl (kr_eqnil rfl rfl (by kernel_rfl)) ?_) | ((with_reducible refine at_box rfl ?_); refine wpList_does rfl (kd_box K _ _ rfl (by conv => lhs; whnf)) ?_; clear K; rintro _ w1 ⟨g, rfl, K⟩; (try dsimp only [Value.cells] at K)) | ((with_reducible refine at_alloc rfl ?_); refine wpList_does rfl (kd_alloc K _ rfl rfl) ?_; clear K; rintro _ w1 ⟨g, rfl, K⟩; (try dsimp only [Value.cells] at K)) | ((with_reducible refine at_buildSlice rfl ?_); refine wpList_does rfl (kd_lits (cs := _) K _ _ _ rfl (by first | rfl | (go_simp; done) | (go_simp; rfl)) (by first | rfl | (go_simp; done) | (go_simp; rfl))) ?_; clear K; rintro _ w1 ⟨g, rfl, K⟩) | ((with_reducible refine at_load rfl ?_); first | (refine wpList_reads (by rfl) (kr_load_cell K _ _ (by rfl) (by rfl) Has.auto (by decide +kernel) (by (try simp only [List.getElem?_toArray, List.getElem?_cons_succ, List.getElem?_cons_zero]); exact rfl)) ?_) | (refine wpList_reads (by rfl) (kr_load_row K _ _ (by rfl) (by rfl) Has.auto (by decide +kernel) (by kernel_rfl)) ?_)) | ((with_reducible refine at_store rfl ?_); (first | (refine wpList_does rfl (kd_store_cell K _ _ _ rfl rfl (by conv => lhs; whnf) Repl.auto rfl rfl (by kernel_rfl) (by kernel_rfl) (by first | (simp only [List.setIfInBounds_toArray, List.set_cons_succ, List.set_cons_zero]; rfl) | rfl)) ?_) | (refine wpList_does rfl (kd_store_row K _ _ _ rfl rfl rfl Repl.auto (by kernel_rfl) (by kernel_rfl) (by kernel_rfl)) ?_)); clear K; intro _ w1 K; (try simp only [Act.put])))
  go_end0
  exact ⟨rfl, _, ⟨⟨mk, mw, lk, ck, lw, cw, max n 0, Y, rfl, fun _ => rfl, HK, HW⟩, HOK.out⟩, by rw [HT.out]; exact K⟩
end
end Go.Proofs.Ytfdddipmeadecaa

/-
  sector: a nil device.
-/
set_option linter.unusedVariables false
set_option linter.unusedSimpArgs false
namespace Go.Proofs.Ytfdddipmeadecaa
open Go.RowKit

end Go.Proofs.Ytfdddipmeadecaa

/-
  sector: maps.Copy of faces (contract).
-/
set_option linter.unusedVariables false
set_option linter.unusedSimpArgs false
namespace Go.Proofs.Ytfdddipmeadecaa
open Go.RowKit
theorem at_range1 {P : Program} {ops : Array Oper} {rest : List Oper} {o : Oper} {a : Act} {Q : Exit → Act → World → Prop} {W : World} {t : TypeId} {x : Operand} (_h : o.op = .range t x) (k : wpList P ops Q (o :: rest) a W) : wpList P ops Q (o :: rest) a W := k
theorem at_next1 {P : Program} {ops : Array Oper} {rest : List Oper} {o : Oper} {a : Act} {Q : Exit → Act → World → Prop} {W : World} {x : Operand} (_h : o.op = .next x false) (k : wpList P ops Q (o :: rest) a W) : wpList P ops Q (o :: rest) a W := k
theorem at_entry1 {P : Program} {ops : Array Oper} {rest : List Oper} {o : Oper} {a : Act} {Q : Exit → Act → World → Prop} {W : World} {x : Operand} (_h : o.op = .entry x) (k : wpList P ops Q (o :: rest) a W) : wpList P ops Q (o :: rest) a W := k
theorem at_mapUpdate1 {P : Program} {ops : Array Oper} {rest : List Oper} {o : Oper} {a : Act} {Q : Exit → Act → World → Prop} {W : World} {t : TypeId} {x y z : Operand} (_h : o.op = .mapUpdate t x y z) (k : wpList P ops Q (o :: rest) a W) : wpList P ops Q (o :: rest) a W := k
theorem mget_keys {x : Int} {v : Value} : ∀ {l : List ME}, mget l x = some v → ∃ e ∈ l, e.k = x
  | [], h => by simp [mget, mfind] at h
  | a :: l, h => by
    rw [mget_cons] at h
    by_cases hx : x = a.k
    · exact ⟨a, List.mem_cons_self .., hx.symm⟩
    · rw [if_neg hx] at h
      obtain ⟨e, he, h2⟩ := mget_keys h
      exact ⟨e, List.mem_cons_of_mem _ he, h2⟩
theorem MapIs.has {w0 : World} {Y : List Ent} {l : List ME} {c : Nat} {m : AMap} (h : MapIs w0 Y l c m) {e : ME} (he : e ∈ l) : (afind m e.k).isSome = true := by
  cases hq : afind m e.k with
  | some f => rfl
  | none => exact absurd (List.mem_map_of_mem (f := ME.k) he) (mget_none_keys (h.none_ _ hq))
theorem mget_of_mem : ∀ {l : List ME} {e : ME}, (l.map ME.k).Nodup → e ∈ l → mget l e.k = some e.v
  | [], e, _, h => by cases h
  | a :: l, e, hn, h => by
    rw [mget_cons]
    simp only [List.map_cons, List.nodup_cons] at hn
    rcases List.mem_cons.1 h with rfl | h
    · rw [if_pos rfl]
    · have : e.k ≠ a.k := fun hx => hn.1 (by rw [← hx]; exact List.mem_map_of_mem h)
      rw [if_neg this]
      exact mget_of_mem hn.2 h
theorem MapIs.ent {w0 : World} {Y : List Ent} {l : List ME} {c : Nat} {m : AMap} (h : MapIs w0 Y l c m) {e : ME} (he : e ∈ l) : ∃ f, afind m e.k = some f ∧ FaceV w0 Y f e.v := by
  have := h.has he
  cases hq : afind m e.k with
  | none => simp [hq] at this
  | some f =>
    obtain ⟨v, h1, h2⟩ := h.some_ _ f hq
    rw [mget_of_mem h.nd he] at h1
    injection h1 with h1
    subst h1
    exact ⟨f, rfl, h2⟩
theorem filt_le (seen : Array Nat) (b : Nat) : ∀ l : List ME, (l.filter fun e => decide (e.b ∉ seen.push b)).length ≤ (l.filter fun e => decide (e.b ∉ seen)).length
  | [] => by simp
  | a :: l => by
    have := filt_le seen b l
    by_cases h1 : a.b ∈ seen
    · simp [List.filter_cons, h1] at this ⊢; exact this
    · by_cases h2 : a.b = b
      · subst h2
        simp [List.filter_cons, h1] at this ⊢
        omega
      · simp [List.filter_cons, h1, h2] at this ⊢; omega
theorem filt_lt (seen : Array Nat) {e : ME} : ∀ {l : List ME}, e ∈ l → e.b ∉ seen → (l.filter fun x => decide (x.b ∉ seen.push e.b)).length < (l.filter fun x => decide (x.b ∉ seen)).length
  | [], h, _ => by cases h
  | a :: l, h, hs => by
    rcases List.mem_cons.1 h with rfl | h
    · have := filt_le seen e.b l
      simp [List.filter_cons, hs] at this ⊢; omega
    · have h3 := filt_lt seen h hs
      have h4 := filt_le seen e.b [a]
      rw [show a :: l = [a] ++ l from rfl, List.filter_append, List.filter_append, List.length_append, List.length_append]
      omega
theorem born_inj {e e' : ME} : ∀ {l : List ME}, l.Pairwise (fun p q => p.b ≠ q.b) → e ∈ l → e' ∈ l → e'.b = e.b → e' = e
  | [], _, h, _, _ => by cases h
  | a :: l, hp, h, h', hb => by
    obtain ⟨h1, h2⟩ := List.pairwise_cons.1 hp
    rcases List.mem_cons.1 h with ea | ha
    · rcases List.mem_cons.1 h' with eb | hb'
      · rw [ea, eb]
      · exact absurd (by rw [← ea, hb]) (h1 _ hb')
    · rcases List.mem_cons.1 h' with eb | hb'
      · exact absurd (by rw [← eb, hb]) (h1 _ ha)
      · exact born_inj h2 ha hb' hb
theorem merge_done {w0 : World} {Y : List Ent} {lw : List ME} {cw : Nat} {k m m1 : AMap} {seen : Array Nat} (HW : MapIs w0 Y lw cw m) (hk : Rising k) (hm : Rising m) (hr1 : Rising m1) (hall : ∀ e ∈ lw, e.b ∈ seen)
    (hin : ∀ i, (∃ e ∈ lw, e.k = i ∧ e.b ∈ seen) → afind m1 i = afind m i) (hout : ∀ i, (¬ ∃ e ∈ lw, e.k = i ∧ e.b ∈ seen) → afind m1 i = afind k i) : m1 = amerge k m := by
  refine rising_ext hr1 (amerge_rising hk) fun i => ?_
  rw [amerge_find k i hm]
  by_cases h : ∃ e ∈ lw, e.k = i ∧ e.b ∈ seen
  · rw [hin i h]
    obtain ⟨e, he, rfl, _⟩ := h
    have := HW.has he
    cases hq : afind m e.k with
    | none => simp [hq] at this
    | some f => rfl
  · rw [hout i h]
    cases hq : afind m i with
    | none => rfl
    | some f =>
      obtain ⟨v, hv, _⟩ := HW.some_ i f hq
      obtain ⟨e, he, h2⟩ := mget_keys hv
      exact absurd ⟨e, he, h2, hall e he⟩ h


section
variable {w0 w : World} {L Y : List Ent} {mk mw ck cw : Nat} {lk lw : List ME} {k m : AMap}
set_option maxRecDepth 100000 in
theorem mcopy_any (K : Known w0 w (mrow mk lk ck :: mrow mw lw cw :: L)) (HK : MapIs w0 Y lk ck k) (HW : MapIs w0 Y lw cw m) (hk : Rising k) (hm : Rising m) :
    Calls Try.prog 48 #[.map (some mk), .map (some mw)] w fun e w' => e = .returned (.tuple #[]) ∧ ∃ l' c', MapIs w0 Y l' c' (amerge k m) ∧ Known w0 w' (mrow mk l' c' :: mrow mw lw cw :: L) := by
  go_enter Try.func48, Try.ntmps48
  go_upto_region 1 with ((first | ((with_reducible refine at_range1 rfl ?_); refine wpList_does rfl (kd_range K rfl rfl (Has.tl _ (Has.hd _ _)) Try.underlying60) ?_; clear K; rintro _ w1 ⟨r, rfl, K⟩)))
  go_frame
  go_loopg [] lw.length (fun d wr => ∃ (seen : Array Nat) (l1 : List ME) (c1 : Nat) (m1 : AMap), (lw.filter fun e => decide (e.b ∉ seen)).length ≤ d ∧ MapIs w0 Y l1 c1 m1 ∧ Rising m1 ∧ (∀ i, (∃ e ∈ lw, e.k = i ∧ e.b ∈ seen) → afind m1 i = afind m i) ∧ (∀ i, (¬ ∃ e ∈ lw, e.k = i ∧ e.b ∈ seen) → afind m1 i = afind k i) ∧ Known w0 wr (irow r mw cw seen cw :: mrow mk l1 c1 :: mrow mw lw cw :: L))
  case atStart => exact ⟨#[], lk, ck, k, List.length_filter_le _ _, HK, hk, fun i h => by simp at h, fun i h => rfl, K⟩
  case round =>
    clear K
    obtain ⟨seen, l1, c1, m1, hd, HM1, hr1, hin, hout, K⟩ := hrel
    by_cases hall : ∀ e ∈ lw, e.b ∈ seen
    · go_wp2_with (first | ((with_reducible refine at_next1 rfl ?_); refine wpList_does rfl (kd_next (f := fun e => irow r mw cw (seen.push e.b) cw :: mrow mk l1 c1 :: mrow mw lw cw :: L) K rfl rfl (Has.tl _ (Has.tl _ (Has.hd _ _))) (Has.hd _ _) HW.lt (Nat.le_refl _) (fun e => Repl.hd _ _ _)) ?_; clear K; rintro v w1 (⟨h9, rfl, K⟩ | ⟨e, he, hns, rfl, K⟩); (rotate_left; exact absurd (hall e he) hns)))
      go_end0
      exact ⟨rfl, l1, c1, by rw [← merge_done HW hk hm hr1 hall hin hout]; exact HM1, K.cov Cov.auto⟩
    · have HNB := Lib.hid (HW.born.imp fun h => Nat.ne_of_lt h)
      go_wp2_with (first | ((with_reducible refine at_next1 rfl ?_); refine wpList_does rfl (kd_next (f := fun e => irow r mw cw (seen.push e.b) cw :: mrow mk l1 c1 :: mrow mw lw cw :: L) K rfl rfl (Has.tl _ (Has.tl _ (Has.hd _ _))) (Has.hd _ _) HW.lt (Nat.le_refl _) (fun e => Repl.hd _ _ _)) ?_; clear K; rintro v w1 (⟨h9, rfl, K⟩ | ⟨e, he, hns, rfl, K⟩); (exact absurd h9 hall); obtain ⟨ff, hff, A2, n2, c2, hev, RR, hcc⟩ := HW.ent he; rw [hev]) | ((with_reducible refine at_entry1 rfl ?_); refine wpList_reads rfl (kr_entry K rfl rfl (Has.hd _ _) (by repeat (first | with_reducible exact Has.hd _ _ | with_reducible refine Has.tl _ ?_)) he (List.pairwise_map.2 HNB.out)) ?_; rw [hev]) | ((with_reducible refine at_slot (N := 5) rfl ?_); (with_reducible refine at_alloc rfl ?_); refine wpList_does rfl (kd_alloc (z := (.agg #[.slice none 0 0, .bool false])) K _ rfl (by kernel_rfl)) ?_; clear K; rintro _ w1 ⟨ga, rfl, K⟩; (try dsimp only [Value.cells] at K)) | ((with_reducible refine at_mapUpdate1 rfl ?_); refine wpList_does (by rfl) (kd_mapUpdate K (by rfl) (by rfl) (by rfl) (by conv => lhs; whnf) Repl.auto Try.underlying60 Try.underlying3) ?_; clear K; intro _ w1 K) | ((with_reducible refine at_eqnil rfl ?_); refine wpList_reads rfl (kr_eqnil rfl rfl (by kernel_rfl)) ?_) | ((with_reducible refine at_box rfl ?_); refine wpList_does rfl (kd_box K _ _ rfl (by conv => lhs; whnf)) ?_; clear K; rintro _ w1 ⟨g, rfl, K⟩; (try dsimp only [Value.cells] at K)) | ((with_reducible refine at_alloc rfl ?_); refine wpList_does rfl (kd_alloc K _ rfl rfl) ?_; clear K; rintro _ w1 ⟨g, rfl, K⟩; (try dsimp only [Value.cells] at K)) | ((with_reducible refine at_buildSlice rfl ?_); refine wpList_does rfl (kd_lits (cs := _) K _ _ _ rfl (by first | rfl | (go_simp; done) | (go_simp; rfl)) (by first | rfl | (go_simp; done) | (go_simp; rfl))) ?_; clear K; rintro _ w1 ⟨g, rfl, K⟩) | ((with_reducible refine at_load rfl ?_); first | (refine wpList_reads (by rfl) (kr_load_cell K _ _ (by rfl) (by rfl) Has.auto (by decide +kernel) (by (try simp only [List.getElem?_toArray, List.getElem?_cons_succ, List.getElem?_cons_zero]); exact rfl)) ?_) | (refine wpList_reads (by rfl) (kr_load_row K _ _ (by rfl) (by rfl) Has.auto (by decide +kernel) (by kernel_rfl)) ?_)) | ((with_reducible refine at_store rfl ?_); (first | (refine wpList_does rfl (kd_store_cell K _ _ _ rfl rfl (by conv => lhs; whnf) Repl.auto rfl rfl (by kernel_rfl) (by kernel_rfl) (by first | (simp only [List.setIfInBounds_toArray, List.set_cons_succ, List.set_cons_zero]; rfl) | rfl)) ?_) | (refine wpList_does rfl (kd_store_row K _ _ _ rfl rfl rfl Repl.auto (by kernel_rfl) (by kernel_rfl) (by kernel_rfl)) ?_)); clear K; intro _ w1 K; (try simp only [Act.put])))
      have hlt := filt_lt seen he hns
      go_roundg (gk - 1)
      case measure => omega
      case rel =>
        refine ⟨seen.push e.b, _, _, aput m1 e.k ff, by omega, HM1.put hr1 ⟨A2, n2, c2, rfl, RR, hcc⟩, rising_put hr1, fun i hi => ?_, fun i hi => ?_, K.cov Cov.auto⟩
        · rw [afind_put]
          by_cases hik : i = e.k
          · rw [if_pos hik, hik, hff]
          · rw [if_neg hik]
            obtain ⟨e', he', h1, h2⟩ := hi
            refine hin i ⟨e', he', h1, ?_⟩
            rcases Array.mem_push.1 h2 with h2 | h2
            · exact h2
            · exfalso
              have := born_inj HNB.out he he' h2
              exact hik (by rw [← h1, this])
        · rw [afind_put]
          have hik : i ≠ e.k := fun h => hi ⟨e, he, h.symm, Array.mem_push_self⟩
          rw [if_neg hik]
          exact hout i fun ⟨e', he', h1, h2⟩ => hi ⟨e', he', h1, Array.mem_push_of_mem _ h2⟩
end
end Go.Proofs.Ytfdddipmeadecaa

/-
  sector: Sync (contract).
-/
set_option linter.unusedVariables false
set_option linter.unusedSimpArgs false
namespace Go.Proofs.Ytfdddipmeadecaa
open Go.RowKit
theorem dsync_ok {D : Dev} (h : DevOk D) : DevOk { dburn D with kept := amerge D.kept D.waits, waits := [] } := by
  refine ⟨h.size, h.count, amerge_rising h.rk, by simp [Rising], fun p hp => ?_, by simp, h.offs, ?_, h.writes⟩
  · rcases amerge_mem hp with hp | hp
    · exact h.fk p hp
    · exact h.fw p hp
  · have := h.fuse
    show -1 ≤ (if 0 < D.fuse then D.fuse - 1 else D.fuse) ∧ (if 0 < D.fuse then D.fuse - 1 else D.fuse) ≤ _
    split <;> omega


section
variable {w0 w : World} {L X : List Ent} {g : Nat} {D : Dev}
set_option maxHeartbeats 800000 in
set_option maxRecDepth 100000 in
theorem ssync_any (K : Known w0 w (X ++ L)) (hD : DevIs w0 g D X) (ho : D.offs < 1000000000000) : Calls Try.prog 27 #[.pointer (some ⟨g, 0, none⟩)] w fun e w' => e = .returned (.int .i64 (dsync D).1) ∧ ∃ X', DevIs w0 g (dsync D).2 X' ∧ Known w0 w' (X' ++ L) := by
  have H1 := Lib.hid (son_any K hD)
  have hok := hD.ok
  cases hoff : D.off
  · rw [hoff] at H1
    by_cases hf : D.fuse = 0
    · have HB := Lib.hid (show decide (D.fuse = 0) = true from decide_eq_true hf)
      have HR := Lib.hid (show dsync D = (8, dfall D) by rw [dsync, hoff, if_pos hf]; rfl)
      have HBE := Lib.hid (dburn_id (D := D) (by omega))
      clear hf hoff
      go_enter Try.func27, Try.ntmps27
      go_wp2_with (first | (go_at_call 22; (with_reducible refine (H1.out).mono ?_); rintro e w' ⟨rfl, rfl⟩) | (go_at_call 32; (with_reducible refine (sburns_any K hD).mono ?_); clear K; rintro e w1 ⟨rfl, X1, HD1, K⟩; rw [HB.out]; rw [HBE.out] at HD1) | (go_at_call 19; (with_reducible refine (soff_any K HD1 ho).mono ?_); clear K; rintro e w1 ⟨rfl, X2, HD2, K⟩))
      go_ret
      exact ⟨by rw [HR.out]; rfl, X2, by rw [HR.out]; exact HD2, K⟩
    · have HB := Lib.hid (show decide (D.fuse = 0) = false from decide_eq_false hf)
      obtain ⟨D1, hD1⟩ : ∃ D1, D1 = dburn D := ⟨_, rfl⟩
      have HR := Lib.hid (show dsync D = (0, { D1 with kept := amerge D1.kept D1.waits, waits := [] }) by rw [hD1, dsync, hoff, if_neg hf]; rfl)
      have HOK := Lib.hid (show DevOk { D1 with kept := amerge D1.kept D1.waits, waits := [] } by rw [hD1]; exact dsync_ok hok)
      have HDE := Lib.hid hD1
      clear hf hoff hD1
      go_enter Try.func27, Try.ntmps27
      go_upto_region 6 with ((first | (go_at_call 22; (with_reducible refine (H1.out).mono ?_); rintro e w' ⟨rfl, rfl⟩) | (go_at_call 32; (with_reducible refine (sburns_any K hD).mono ?_); clear K; rintro e w1 ⟨rfl, X1, HD1, K⟩; rw [HB.out]; rw [← HDE.out] at HD1)))
      have hk1 := HD1.ok.rk
      have hw1 := HD1.ok.rw_
      obtain ⟨mk, mw, lk, ck, lw, cw, fz, Y, rfl, hfz, HK, HW⟩ := HD1.out
      simp only [List.cons_append] at K
      clear HD1 hD hok
      refine wp_region_GK K (Cov.all _) (by kernel_rfl) (by kernel_rfl) (by kernel_rfl) (fun K hHeld => ?_)
      refine wpG_takeA 0 (v := ?_) ?_ hHeld ?_
      rotate_left
      · (intro w hS; (clear hS; go_simp); try with_reducible rfl)
      try simp only [Act.put, List.setIfInBounds_toArray, List.set_cons_zero, List.set_cons_succ]
      refine wpG_takeA 1 (v := ?_) ?_ hHeld ?_
      rotate_left
      · (intro w hS; (clear hS; go_simp); try with_reducible rfl)
      try simp only [Act.put, List.setIfInBounds_toArray, List.set_cons_zero, List.set_cons_succ]
      refine wpG_takeA 2 (v := ?_) ?_ hHeld ?_
      rotate_left
      · (intro w hS; (clear hS; go_simp); try with_reducible rfl)
      try simp only [Act.put, List.setIfInBounds_toArray, List.set_cons_zero, List.set_cons_succ]
      refine wpG_takeA 3 (v := .map (some mk)) ?_ hHeld ?_
      · (intro w hS; first | exact kr_load_cell hS _ _ (by rfl) (by rfl) Has.auto (by kernel_rfl) (by rfl))
      try simp only [Act.put, List.setIfInBounds_toArray, List.set_cons_zero, List.set_cons_succ]
      refine wpG_takeA 4 (v := ?_) ?_ hHeld ?_
      rotate_left
      · (intro w hS; (clear hS; go_simp); try with_reducible rfl)
      try simp only [Act.put, List.setIfInBounds_toArray, List.set_cons_zero, List.set_cons_succ]
      refine wpG_takeA 5 (v := ?_) ?_ hHeld ?_
      rotate_left
      · (intro w hS; (clear hS; go_simp); try with_reducible rfl)
      try simp only [Act.put, List.setIfInBounds_toArray, List.set_cons_zero, List.set_cons_succ]
      refine wpG_takeA 6 (v := ?_) ?_ hHeld ?_
      rotate_left
      · (intro w hS; (clear hS; go_simp); try with_reducible rfl)
      try simp only [Act.put, List.setIfInBounds_toArray, List.set_cons_zero, List.set_cons_succ]
      refine wpG_takeA 7 (v := .map (some mw)) ?_ hHeld ?_
      · (intro w hS; first | exact kr_load_cell hS _ _ (by rfl) (by rfl) Has.auto (by kernel_rfl) (by rfl))
      try simp only [Act.put, List.setIfInBounds_toArray, List.set_cons_zero, List.set_cons_succ]
      refine wpG_lastA 8 (fun K9 hK => ?_)
      go_simp
      (go_at_call 48; (with_reducible refine (mcopy_any (K.cov Cov.auto) HK HW hk1 hw1).mono ?_); clear K; rintro e w1 ⟨rfl, l2, c2, HM, K⟩)
      refine hK.out _ _ ?_
      clear hK K9
      try simp only [Act.put, List.setIfInBounds_toArray, List.set_cons_zero, List.set_cons_succ]
      skip
      go_wp2_with (first | ((with_reducible refine at_clear1 (t := 60) rfl ?_); refine wpList_does rfl (kd_clear K rfl rfl Repl.auto Try.underlying60) ?_; clear K; intro _ w1 K) | ((with_reducible refine at_eqnil rfl ?_); refine wpList_reads rfl (kr_eqnil rfl rfl (by kernel_rfl)) ?_) | ((with_reducible refine at_box rfl ?_); refine wpList_does rfl (kd_box K _ _ rfl (by conv => lhs; whnf)) ?_; clear K; rintro _ w1 ⟨g, rfl, K⟩; (try dsimp only [Value.cells] at K)) | ((with_reducible refine at_alloc rfl ?_); refine wpList_does rfl (kd_alloc K _ rfl rfl) ?_; clear K; rintro _ w1 ⟨g, rfl, K⟩; (try dsimp only [Value.cells] at K)) | ((with_reducible refine at_buildSlice rfl ?_); refine wpList_does rfl (kd_lits (cs := _) K _ _ _ rfl (by first | rfl | (go_simp; done) | (go_simp; rfl)) (by first | rfl | (go_simp; done) | (go_simp; rfl))) ?_; clear K; rintro _ w1 ⟨g, rfl, K⟩) | ((with_reducible refine at_load rfl ?_); first | (refine wpList_reads (by rfl) (kr_load_cell K _ _ (by rfl) (by rfl) Has.auto (by decide +kernel) (by (try simp only [List.getElem?_toArray, List.getElem?_cons_succ, List.getElem?_cons_zero]); exact rfl)) ?_) | (refine wpList_reads (by rfl) (kr_load_row K _ _ (by rfl) (by rfl) Has.auto (by decide +kernel) (by kernel_rfl)) ?_)) | ((with_reducible refine at_store rfl ?_); (first | (refine wpList_does rfl (kd_store_cell K _ _ _ rfl rfl (by conv => lhs; whnf) Repl.auto rfl rfl (by kernel_rfl) (by kernel_rfl) (by first | (simp only [List.setIfInBounds_toArray, List.set_cons_succ, List.set_cons_zero]; rfl) | rfl)) ?_) | (refine wpList_does rfl (kd_store_row K _ _ _ rfl rfl rfl Repl.auto (by kernel_rfl) (by kernel_rfl) (by kernel_rfl)) ?_)); clear K; intro _ w1 K; (try simp only [Act.put])))
      have K2 : Known w0 w1 (row g #[.int .i64 (D1.size : Nat), .int .i64 (D1.count : Nat), .map (some mk), .map (some mw), .bool D1.off, .int .i64 D1.offs, .bool (decide (0 ≤ D1.fuse)), .int .i64 fz, .int .u64 D1.writes] 62 :: mrow mk l2 c2 :: mrow mw [] cw :: (Y ++ L)) := K.cov Cov.auto
      go_ret
      exact ⟨by rw [HR.out]; rfl, _, ⟨⟨mk, mw, l2, c2, [], cw, fz, Y, rfl, by rw [HR.out]; exact hfz, by rw [HR.out]; exact HM, by rw [HR.out]; exact MapIs.nil _ _ _⟩, by rw [HR.out]; exact HOK.out⟩, by rw [HR.out]; exact K2⟩
  · rw [hoff] at H1
    have HR := Lib.hid (show dsync D = (8, D) by rw [dsync, hoff]; rfl)
    clear hoff
    go_enter Try.func27, Try.ntmps27
    go_wp2_with (first | (go_at_call 22; (with_reducible refine (H1.out).mono ?_); rintro e w' ⟨rfl, rfl⟩))
    go_ret
    exact ⟨by rw [HR.out]; rfl, X, by rw [HR.out]; exact hD, K⟩
end
end Go.Proofs.Ytfdddipmeadecaa

/-
  sector: Back (contract).
-/
set_option linter.unusedVariables false
set_option linter.unusedSimpArgs false
namespace Go.Proofs.Ytfdddipmeadecaa
open Go.RowKit Go.Maps Go.Sort
theorem rising_keys {m : AMap} (h : Rising m) : (m.map (·.1)).Pairwise (fun a b => a ≤ b) ∧ (m.map (·.1)).Nodup :=
  ⟨List.pairwise_map.2 (h.imp fun h => Int.le_of_lt h), List.pairwise_map.2 (h.imp fun h e => by omega)⟩
theorem afind_key {m : AMap} {i : Int} : (∃ f, afind m i = some f) ↔ i ∈ m.map (·.1) := by
  constructor
  · rintro ⟨f, h⟩
    exact List.mem_map_of_mem (f := (·.1)) (afind_mem h)
  · intro h
    obtain ⟨p, hp, rfl⟩ := List.mem_map.1 h
    cases hq : afind m p.1 with
    | some f => exact ⟨f, rfl⟩
    | none => exact absurd rfl (afind_none hq p hp)
/-- a map's keys, sorted, are the row's -/
theorem MapIs.sorted {w0 : World} {Y : List Ent} {l : List ME} {c : Nat} {m : AMap} (h : MapIs w0 Y l c m) (hm : Rising m) : (l.map ME.k).mergeSort (fun x y => decide (x ≤ y)) = m.map (·.1) := by
  have hp : (l.map ME.k).Perm (m.map (·.1)) := by
    refine (List.perm_ext_iff_of_nodup h.nd (rising_keys hm).2).2 fun i => ?_
    rw [← afind_key]
    constructor
    · intro hi
      obtain ⟨e, he, rfl⟩ := List.mem_map.1 hi
      have := h.has he
      cases hq : afind m e.k with
      | none => simp [hq] at this
      | some f => exact ⟨f, rfl⟩
    · rintro ⟨f, hf⟩
      obtain ⟨v, hv, _⟩ := h.some_ i f hf
      obtain ⟨e, he, rfl⟩ := mget_keys hv
      exact List.mem_map_of_mem he
  rw [mergeSort_of_perm_i hp]
  exact List.mergeSort_of_pairwise ((rising_keys hm).1.imp fun h => decide_eq_true h)
theorem bkeep_nil : ∀ (l : AMap) (m : AMap), bkeep l [] m = m
  | [], _ => rfl
  | (i, f) :: l, m => by
    rw [bkeep]
    simp [bkeep_nil l m]
theorem bkeep_step {l : AMap} {ps : List Int} {m : AMap} {j : Nat} (h : j < l.length) : bkeep (l.drop j) (ps.drop j) m = bkeep (l.drop (j + 1)) (ps.drop (j + 1)) (if ps.getD j 0 = 1 then aput m l[j].1 l[j].2 else if ps.getD j 0 = 2 then aput m l[j].1 ⟨[], true⟩ else m) := by
  rw [List.drop_eq_getElem_cons h]
  rw [bkeep]
  have h1 : (ps.drop j).headD 0 = ps.getD j 0 := by simp [List.headD_eq_head?_getD, List.head?_drop, List.getD]
  rw [h1, List.tail_drop]
theorem dback_ok {D : Dev} (h : DevOk D) (ho : D.offs < 1000000000000) (ps : List Int) : DevOk (dback D ps) := by
  have h1 : (dfall D).size = D.size ∧ (dfall D).count = D.count ∧ (0 ≤ (dfall D).offs ∧ (dfall D).offs ≤ 1000000000000) ∧ (dfall D).writes = D.writes := by
    have := h.offs
    unfold dfall
    split
    · exact ⟨rfl, rfl, this, rfl⟩
    · exact ⟨rfl, rfl, ⟨by show 0 ≤ D.offs + 1; omega, by show D.offs + 1 ≤ _; omega⟩, rfl⟩
  obtain ⟨e1, e2, e3, e4⟩ := h1
  refine ⟨by show 128 ≤ (dfall D).size ∧ (dfall D).size ≤ 4096; rw [e1]; exact h.size, by show 1 ≤ (dfall D).count ∧ (dfall D).count ≤ 1048576; rw [e2]; exact h.count, bkeep_rising ps h.rk, by simp [dback, Rising], fun p hp => ?_, by simp [dback], e3, by show -1 ≤ (-1 : Int) ∧ (-1 : Int) ≤ _; omega, by show 0 ≤ (dfall D).writes ∧ (dfall D).writes ≤ _; rw [e4]; exact h.writes⟩
  show FaceOk (dfall D).size p.2 ∧ 0 ≤ p.1 ∧ p.1 < (dfall D).count
  rw [e1, e2]
  rcases bkeep_mem ps hp with hp | hp | ⟨q, hq, rfl⟩
  · exact h.fk p hp
  · exact h.fw p hp
  · exact ⟨⟨fun h => by simp at h, fun _ => rfl, by simp⟩, (h.fw q hq).2⟩
end Go.Proofs.Ytfdddipmeadecaa

/-
  sector: Back (contract).
-/
set_option linter.unusedVariables false
set_option linter.unusedSimpArgs false
namespace Go.Proofs.Ytfdddipmeadecaa
open Go.RowKit
theorem rising_len : ∀ {l : AMap} {lo hi : Int}, Rising l → (∀ p ∈ l, lo ≤ p.1 ∧ p.1 < hi) → lo ≤ hi → (l.length : Int) ≤ hi - lo
  | [], lo, hi, _, _, h => by simp; omega
  | p :: l, lo, hi, hr, hm, h => by
    obtain ⟨h1, h2⟩ := List.pairwise_cons.1 hr
    have hp := hm p (List.mem_cons_self ..)
    have := rising_len (l := l) (lo := p.1 + 1) (hi := hi) h2 (fun q hq => by have := h1 q hq; have := hm q (List.mem_cons_of_mem _ hq); omega) (by omega)
    simp only [List.length_cons]
    omega
theorem waits_len {D : Dev} (h : DevOk D) : D.waits.length ≤ D.count := by
  have := rising_len (lo := 0) (hi := D.count) h.rw_ (fun p hp => (h.fw p hp).2) (by omega)
  omega
theorem keys_get {l : AMap} {j : Nat} (h : j < l.length) : (l.map (·.1)).getD j 0 = l[j].1 := by simp [List.getD, h]
theorem afind_get {l : AMap} (hr : Rising l) {j : Nat} (h : j < l.length) : afind l l[j].1 = some l[j].2 := by
  have h1 : (l[j].1, l[j].2) ∈ l := List.getElem_mem h
  cases hq : afind l l[j].1 with
  | none => exact absurd rfl (afind_none hq _ h1)
  | some f =>
    have h2 := afind_mem hq
    have hp := (List.pairwise_map.2 (hr.imp fun h => Int.ne_of_lt h) : (l.map (·.1)).Nodup)
    have : ∀ {l : AMap} {p q : Int × Face}, (l.map (·.1)).Nodup → p ∈ l → q ∈ l → p.1 = q.1 → p = q := by
      intro l
      induction l with
      | nil => intro p q _ hp; cases hp
      | cons a l ih =>
        intro p q hn hp hq he
        simp only [List.map_cons, List.nodup_cons] at hn
        rcases List.mem_cons.1 hp with rfl | hp' <;> rcases List.mem_cons.1 hq with rfl | hq'
        · rfl
        · exact absurd (show p.1 ∈ l.map (·.1) by rw [he]; exact List.mem_map_of_mem (f := (·.1)) hq') hn.1
        · exact absurd (show q.1 ∈ l.map (·.1) by rw [← he]; exact List.mem_map_of_mem (f := (·.1)) hp') hn.1
        · exact ih hn.2 hp' hq' he
    have := this hp h2 h1 rfl
    injection this with _ this
    rw [this]
section
variable {P : Program} {w0 W : World} {L : List Ent} {o : Oper} {a : Act}
theorem kr_lookup1 (K : Known w0 W L) {T kt et : TypeId} {m x : Operand} (ho : o.op = .lookup T m x false) {g c : Nat} {l : List ME} (z : Value) {i : Int} {v : Value} (hm : a.eval m = .map (some g)) (hx : a.eval x = .int .i64 i) (hb : Has (mrow g l c) L)
    (hT : P.underlying T = some (.map kt et)) (hk : P.underlying kt = some (.int .i64)) (hz : (P.info? et).bind (·.zero) = some z) (hv : (mget l i).getD z = v) : (execOp a.eval o).run P W = .ok (.value v) W := by
  have := kr_lookup (P := P) K ho hm hx hb hT hk hz
  rw [hv] at this
  exact this
end


section
variable {w0 w : World} {L X : List Ent} {g : Nat} {D : Dev} {A : Option Addr} {n c : Nat} {ps : List Int}
set_option maxHeartbeats 1600000 in
set_option maxRecDepth 100000 in
theorem sback_any (K : Known w0 w (X ++ L)) (hD : DevIs w0 g D X) (ho : D.offs < 1000000000000) (R : RdS w0 L .u8 A n ps) (hc : n ≤ c) (hn9 : n ≤ 1000000000) : Calls Try.prog 16 #[.pointer (some ⟨g, 0, none⟩), .slice A n c] w fun e w' => e = .returned (.tuple #[]) ∧ ∃ X', DevIs w0 g (dback D ps) X' ∧ Known w0 w' (X' ++ L) := by
  have HOK := Lib.hid (dback_ok hD.ok ho ps)
  have hps := R.len
  obtain ⟨D1, hD1⟩ : ∃ D1, D1 = dfall D := ⟨_, rfl⟩
  have HDE := Lib.hid hD1
  have hke : D1.kept = D.kept := by rw [hD1]; unfold dfall; split <;> rfl
  have hwe : D1.waits = D.waits := by rw [hD1]; unfold dfall; split <;> rfl
  have HR := Lib.hid (show dback D ps = { D1 with kept := bkeep D1.waits ps D1.kept, waits := [], fuse := -1, off := false } by rw [hke, hwe, hD1]; rfl)
  clear hke hwe hD1
  go_enter Try.func16, Try.ntmps16
  go_upto_region 2 with ((first | (go_at_call 19; (with_reducible refine (soff_any K hD ho).mono ?_); clear K; rintro e w1 ⟨rfl, X1, HD1, K⟩; rw [← HDE.out] at HD1)))
  have hk1 := HD1.ok.rk
  have hw1 := HD1.ok.rw_
  have hlc := waits_len HD1.ok
  have hct := HD1.ok.count
  have hl9 : D1.waits.length ≤ 100000000 := by omega
  obtain ⟨mk, mw, lk, ck, lw, cw, fz, Y, rfl, hfz, HK, HW⟩ := HD1.out
  simp only [List.cons_append] at K
  rw [← HW.len] at hl9
  have HWF := Lib.hid (show ∀ e ∈ lw, (Lit.int .i64 e.k).wf = true from fun e he => by
    obtain ⟨f, hf, _⟩ := HW.ent he
    have h2 := (HD1.ok.fw _ (afind_mem hf)).2
    have h3 := HD1.ok.count
    simp only at h2
    have h4 : IntKind.i64.min = -9223372036854775808 := rfl
    have h5 : IntKind.i64.max = 9223372036854775807 := rfl
    simp [Lit.wf]
    omega)
  go_upto_region 3 with ((first | (go_at_call 36; (with_reducible refine (mkeys_any K mw).mono ?_); clear K; rintro e w1 ⟨gb, rfl, K⟩) | (go_at_call 35; (with_reducible refine (msorted_any K (Has.hd _ _) (Has.tl _ (Has.tl _ (Has.tl _ (Has.hd _ _)))) hl9 HW.lt HW.born HW.nd HWF.out).mono ?_); clear K; rintro e w1 ⟨A3, n3, c3, rfl, X3, rfl, O3, K⟩) | ((with_reducible refine at_eqnil rfl ?_); refine wpList_reads rfl (kr_eqnil rfl rfl (by kernel_rfl)) ?_) | ((with_reducible refine at_box rfl ?_); refine wpList_does rfl (kd_box K _ _ rfl (by conv => lhs; whnf)) ?_; clear K; rintro _ w1 ⟨g, rfl, K⟩; (try dsimp only [Value.cells] at K)) | ((with_reducible refine at_alloc rfl ?_); refine wpList_does rfl (kd_alloc K _ rfl rfl) ?_; clear K; rintro _ w1 ⟨g, rfl, K⟩; (try dsimp only [Value.cells] at K)) | ((with_reducible refine at_buildSlice rfl ?_); refine wpList_does rfl (kd_lits (cs := _) K _ _ _ rfl (by first | rfl | (go_simp; done) | (go_simp; rfl)) (by first | rfl | (go_simp; done) | (go_simp; rfl))) ?_; clear K; rintro _ w1 ⟨g, rfl, K⟩) | ((with_reducible refine at_load rfl ?_); first | (refine wpList_reads (by rfl) (kr_load_cell K _ _ (by rfl) (by rfl) Has.auto (by decide +kernel) (by (try simp only [List.getElem?_toArray, List.getElem?_cons_succ, List.getElem?_cons_zero]); exact rfl)) ?_) | (refine wpList_reads (by rfl) (kr_load_row K _ _ (by rfl) (by rfl) Has.auto (by decide +kernel) (by kernel_rfl)) ?_)) | ((with_reducible refine at_store rfl ?_); (first | (refine wpList_does rfl (kd_store_cell K _ _ _ rfl rfl (by conv => lhs; whnf) Repl.auto rfl rfl (by kernel_rfl) (by kernel_rfl) (by first | (simp only [List.setIfInBounds_toArray, List.set_cons_succ, List.set_cons_zero]; rfl) | rfl)) ?_) | (refine wpList_does rfl (kd_store_row K _ _ _ rfl rfl rfl Repl.auto (by kernel_rfl) (by kernel_rfl) (by kernel_rfl)) ?_)); clear K; intro _ w1 K; (try simp only [Act.put]))))
  have hso := HW.sorted hw1
  rw [hso] at O3
  have hlw1 : lw.length ≤ D1.waits.length := by rw [HW.len]; exact Nat.le_refl _
  have hlw2 : D1.waits.length ≤ lw.length := by rw [HW.len]; exact Nat.le_refl _
  clear hso HD1 hD
  go_loopg [17] D1.waits.length (fun d v wr => ∃ (j : Nat) (l1 : List ME) (c1 : Nat) (m1 : AMap), v = .int .i64 j ∧ j + d = D1.waits.length ∧ MapIs w0 Y l1 c1 m1 ∧ Rising m1 ∧ Hid (bkeep D1.waits ps D1.kept = bkeep (D1.waits.drop j) (ps.drop j) m1) ∧ Known w0 wr (X3 ++ (row gb #[.map (some mw)] 60 :: row g #[.int .i64 (D1.size : Nat), .int .i64 (D1.count : Nat), .map (some mk), .map (some mw), .bool D1.off, .int .i64 D1.offs, .bool (decide (0 ≤ D1.fuse)), .int .i64 fz, .int .u64 D1.writes] 62 :: mrow mk l1 c1 :: mrow mw lw cw :: (Y ++ L))))
  case atStart => exact ⟨0, lk, ck, D1.kept, by go_num, by omega, HK, hk1, Lib.hid rfl, K⟩
  case round =>
    clear K
    obtain ⟨j, l1, c1, m1, rfl, hd, HM, hr1, HE, K⟩ := hrel
    by_cases hj0 : j < lw.length
    · have hj : j < D1.waits.length := by omega
      have hj' : (j : Int) < (lw.length : Int) := by omega
      have hj2 : decide ((j : Int) < (lw.length : Int)) = true := decide_eq_true hj'
      by_cases hp : j < n
      · have RK := RdS.own (w0 := w0) (L := X3 ++ (row gb #[.map (some mw)] 60 :: row g #[.int .i64 (D1.size : Nat), .int .i64 (D1.count : Nat), .map (some mk), .map (some mw), .bool D1.off, .int .i64 D1.offs, .bool (decide (0 ≤ D1.fuse)), .int .i64 fz, .int .u64 D1.writes] 62 :: mrow mk l1 c1 :: mrow mw lw cw :: (Y ++ L))) O3 Seg.auto
        obtain ⟨b, off, rfl⟩ := RK.form K (by omega)
        obtain ⟨b2, off2, rfl⟩ := R.form (K.cov Cov.auto) (by omega)
        have RP := R
        obtain ⟨q, hq⟩ : ∃ q, q = D1.waits[j].1 := ⟨_, rfl⟩
        obtain ⟨p, hpv⟩ : ∃ p, p = ps.getD j 0 := ⟨_, rfl⟩
        have HKV := Lib.hid (show (D1.waits.map (·.1)).getD j 0 = q by rw [keys_get hj, hq])
        have HPV := Lib.hid hpv.symm
        have hfi := afind_get hw1 hj
        rw [← hq] at hfi
        obtain ⟨v, hv, A2, n2, c2, rfl, RR, hcc⟩ := HW.some_ _ _ hfi
        have HV := Lib.hid (show (mget lw q).getD (.agg #[.slice none 0 0, .bool false]) = .agg #[.slice A2 n2 c2, .bool D1.waits[j].2.torn] by rw [hv]; rfl)
        have HQ := Lib.hid hq.symm
        clear hv hfi hpv hq
        have hp2 : decide ((n : Int) ≤ (j : Int)) = false := decide_eq_false (by omega)
        have hjj : (0 : Int) ≤ (j : Int) ∧ (j : Int) < (n : Int) := by omega
        have i1 := IntWalk.i64_in ((j : Int) + 1) (by omega)
        by_cases hp1 : p = 1
        · have e1 : (p == 1) = true := by simpa using hp1
          go_upto_region 8 with ((first | ((with_reducible refine at_load rfl ?_); first | (refine wpList_reads (by rfl) (kr_load_cell K _ _ (by rfl) (by rfl) Has.auto (by decide +kernel) (by (try simp only [List.getElem?_toArray, List.getElem?_cons_succ, List.getElem?_cons_zero]); exact rfl)) ?_) | (refine wpList_reads (by rfl) (kr_load_row K _ _ (by rfl) (by rfl) Has.auto (by decide +kernel) (by kernel_rfl)) ?_) | (refine wpList_reads (by rfl) (kr_load_fact _ _ (by rfl) (by rfl) (RP.cell (K.cov Cov.auto) (by omega) HPV.out rfl) (by decide +kernel)) ?_) | (refine wpList_reads (by rfl) (kr_load_fact _ _ (by rfl) (by rfl) (RK.cell K (by omega) HKV.out rfl) (by decide +kernel)) ?_))))
          refine wp_region_QLK K (by kernel_rfl) (by kernel_rfl) ?_
          clear K
          refine wpQL_A (k := 0) (v := ?_) ?_ ?_
          rotate_left
          · (intro w hS; (clear hS; go_simp); try with_reducible rfl)
          try simp only [Act.put, List.setIfInBounds_toArray, List.set_cons_zero, List.set_cons_succ]
          refine wpQL_A (k := 1) (v := ?_) ?_ ?_
          rotate_left
          · (intro w hS; (clear hS; go_simp); try with_reducible rfl)
          try simp only [Act.put, List.setIfInBounds_toArray, List.set_cons_zero, List.set_cons_succ]
          refine wpQL_A (k := 2) (v := ?_) ?_ ?_
          rotate_left
          · (intro w hS; (clear hS; go_simp); try with_reducible rfl)
          try simp only [Act.put, List.setIfInBounds_toArray, List.set_cons_zero, List.set_cons_succ]
          refine wpQL_A (k := 3) (v := .map (some mk)) ?_ ?_
          · (intro w hS; exact kr_load_cell hS _ _ (by rfl) (by rfl) Has.auto (by kernel_rfl) (by rfl))
          try simp only [Act.put, List.setIfInBounds_toArray, List.set_cons_zero, List.set_cons_succ]
          refine wpQL_A (k := 4) (v := ?_) ?_ ?_
          rotate_left
          · (intro w hS; (clear hS; go_simp); try with_reducible rfl)
          try simp only [Act.put, List.setIfInBounds_toArray, List.set_cons_zero, List.set_cons_succ]
          refine wpQL_A (k := 5) (v := ?_) ?_ ?_
          rotate_left
          · (intro w hS; (clear hS; go_simp); try with_reducible rfl)
          try simp only [Act.put, List.setIfInBounds_toArray, List.set_cons_zero, List.set_cons_succ]
          refine wpQL_A (k := 6) (v := ?_) ?_ ?_
          rotate_left
          · (intro w hS; (clear hS; go_simp); try with_reducible rfl)
          try simp only [Act.put, List.setIfInBounds_toArray, List.set_cons_zero, List.set_cons_succ]
          refine wpQL_A (k := 7) (v := ?_) ?_ ?_
          rotate_left
          · (intro w hS; (clear hS; go_simp); try with_reducible rfl)
          try simp only [Act.put, List.setIfInBounds_toArray, List.set_cons_zero, List.set_cons_succ]
          refine wpQL_A (k := 8) (v := .map (some mw)) ?_ ?_
          · (intro w hS; exact kr_load_cell hS _ _ (by rfl) (by rfl) Has.auto (by kernel_rfl) (by rfl))
          try simp only [Act.put, List.setIfInBounds_toArray, List.set_cons_zero, List.set_cons_succ]
          refine wpQL_A (k := 9) (v := ?_) ?_ ?_
          rotate_left
          · (intro w hS; (clear hS; go_simp); try with_reducible rfl)
          try simp only [Act.put, List.setIfInBounds_toArray, List.set_cons_zero, List.set_cons_succ]
          refine wpQL_A (k := 10) (v := .agg #[.slice A2 n2 c2, .bool D1.waits[j].2.torn]) ?_ ?_
          · (intro w hS; exact kr_lookup1 hS (by rfl) (.agg #[.slice none 0 0, .bool false]) (by rfl) (by rfl) Has.auto Try.underlying60 Try.underlying3 (by kernel_rfl) HV.out)
          try simp only [Act.put, List.setIfInBounds_toArray, List.set_cons_zero, List.set_cons_succ]
          refine wpQL_endA (k := 11) (fun w1 K K9 hK => ?_)
          refine st_does (by rfl) (kd_mapUpdate K (by rfl) (by rfl) (by rfl) (by conv => lhs; whnf) Repl.auto Try.underlying60 Try.underlying3) ?_
          clear K; intro _ w1 K
          refine hK.out _ _ ?_
          clear hK K9
          try simp only [Act.put, List.setIfInBounds_toArray, List.set_cons_zero, List.set_cons_succ]
          skip
          go_wp2
          go_roundg (gk - 1)
          case measure => omega
          case rel => exact ⟨j + 1, _, _, aput m1 q D1.waits[j].2, by go_num, by omega, HM.put hr1 ⟨A2, n2, c2, rfl, RR, hcc⟩, rising_put hr1, Lib.hid (by rw [HE.out, bkeep_step hj, HPV.out, HQ.out, if_pos hp1]), K⟩
        · have e1 : (p == 1) = false := by simpa using hp1
          by_cases hp3 : p = 2
          · have e2 : (p == 2) = true := by simpa using hp3
            go_wp2_with (first | ((with_reducible refine at_mapUpdate1 rfl ?_); refine wpList_does (by rfl) (kd_mapUpdate K (by rfl) (by rfl) (by rfl) (by conv => lhs; whnf) Repl.auto Try.underlying60 Try.underlying3) ?_; clear K; intro _ w1 K) | ((with_reducible refine at_load rfl ?_); first | (refine wpList_reads (by rfl) (kr_load_cell K _ _ (by rfl) (by rfl) Has.auto (by decide +kernel) (by (try simp only [List.getElem?_toArray, List.getElem?_cons_succ, List.getElem?_cons_zero]); exact rfl)) ?_) | (refine wpList_reads (by rfl) (kr_load_row K _ _ (by rfl) (by rfl) Has.auto (by decide +kernel) (by kernel_rfl)) ?_) | (refine wpList_reads (by rfl) (kr_load_fact _ _ (by rfl) (by rfl) (RP.cell (K.cov Cov.auto) (by omega) HPV.out rfl) (by decide +kernel)) ?_) | (refine wpList_reads (by rfl) (kr_load_fact _ _ (by rfl) (by rfl) (RK.cell K (by omega) HKV.out rfl) (by decide +kernel)) ?_)) | ((with_reducible refine at_eqnil rfl ?_); refine wpList_reads rfl (kr_eqnil rfl rfl (by kernel_rfl)) ?_) | ((with_reducible refine at_box rfl ?_); refine wpList_does rfl (kd_box K _ _ rfl (by conv => lhs; whnf)) ?_; clear K; rintro _ w1 ⟨g, rfl, K⟩; (try dsimp only [Value.cells] at K)) | ((with_reducible refine at_alloc rfl ?_); refine wpList_does rfl (kd_alloc K _ rfl rfl) ?_; clear K; rintro _ w1 ⟨g, rfl, K⟩; (try dsimp only [Value.cells] at K)) | ((with_reducible refine at_buildSlice rfl ?_); refine wpList_does rfl (kd_lits (cs := _) K _ _ _ rfl (by first | rfl | (go_simp; done) | (go_simp; rfl)) (by first | rfl | (go_simp; done) | (go_simp; rfl))) ?_; clear K; rintro _ w1 ⟨g, rfl, K⟩) | ((with_reducible refine at_load rfl ?_); first | (refine wpList_reads (by rfl) (kr_load_cell K _ _ (by rfl) (by rfl) Has.auto (by decide +kernel) (by (try simp only [List.getElem?_toArray, List.getElem?_cons_succ, List.getElem?_cons_zero]); exact rfl)) ?_) | (refine wpList_reads (by rfl) (kr_load_row K _ _ (by rfl) (by rfl) Has.auto (by decide +kernel) (by kernel_rfl)) ?_)) | ((with_reducible refine at_store rfl ?_); (first | (refine wpList_does rfl (kd_store_cell K _ _ _ rfl rfl (by conv => lhs; whnf) Repl.auto rfl rfl (by kernel_rfl) (by kernel_rfl) (by first | (simp only [List.setIfInBounds_toArray, List.set_cons_succ, List.set_cons_zero]; rfl) | rfl)) ?_) | (refine wpList_does rfl (kd_store_row K _ _ _ rfl rfl rfl Repl.auto (by kernel_rfl) (by kernel_rfl) (by kernel_rfl)) ?_)); clear K; intro _ w1 K; (try simp only [Act.put])))
            go_roundg (gk - 1)
            case measure => omega
            case rel => exact ⟨j + 1, _, _, aput m1 q ⟨[], true⟩, by go_num, by omega, HM.put hr1 ⟨none, 0, 0, rfl, RdS.nil _ _ _ _, Nat.le_refl _⟩, rising_put hr1, Lib.hid (by rw [HE.out, bkeep_step hj, HPV.out, HQ.out, if_neg hp1, if_pos hp3]), K⟩
          · have e2 : (p == 2) = false := by simpa using hp3
            go_wp2_with (first | ((with_reducible refine at_mapUpdate1 rfl ?_); refine wpList_does (by rfl) (kd_mapUpdate K (by rfl) (by rfl) (by rfl) (by conv => lhs; whnf) Repl.auto Try.underlying60 Try.underlying3) ?_; clear K; intro _ w1 K) | ((with_reducible refine at_load rfl ?_); first | (refine wpList_reads (by rfl) (kr_load_cell K _ _ (by rfl) (by rfl) Has.auto (by decide +kernel) (by (try simp only [List.getElem?_toArray, List.getElem?_cons_succ, List.getElem?_cons_zero]); exact rfl)) ?_) | (refine wpList_reads (by rfl) (kr_load_row K _ _ (by rfl) (by rfl) Has.auto (by decide +kernel) (by kernel_rfl)) ?_) | (refine wpList_reads (by rfl) (kr_load_fact _ _ (by rfl) (by rfl) (RP.cell (K.cov Cov.auto) (by omega) HPV.out rfl) (by decide +kernel)) ?_) | (refine wpList_reads (by rfl) (kr_load_fact _ _ (by rfl) (by rfl) (RK.cell K (by omega) HKV.out rfl) (by decide +kernel)) ?_)) | ((with_reducible refine at_eqnil rfl ?_); refine wpList_reads rfl (kr_eqnil rfl rfl (by kernel_rfl)) ?_) | ((with_reducible refine at_box rfl ?_); refine wpList_does rfl (kd_box K _ _ rfl (by conv => lhs; whnf)) ?_; clear K; rintro _ w1 ⟨g, rfl, K⟩; (try dsimp only [Value.cells] at K)) | ((with_reducible refine at_alloc rfl ?_); refine wpList_does rfl (kd_alloc K _ rfl rfl) ?_; clear K; rintro _ w1 ⟨g, rfl, K⟩; (try dsimp only [Value.cells] at K)) | ((with_reducible refine at_buildSlice rfl ?_); refine wpList_does rfl (kd_lits (cs := _) K _ _ _ rfl (by first | rfl | (go_simp; done) | (go_simp; rfl)) (by first | rfl | (go_simp; done) | (go_simp; rfl))) ?_; clear K; rintro _ w1 ⟨g, rfl, K⟩) | ((with_reducible refine at_load rfl ?_); first | (refine wpList_reads (by rfl) (kr_load_cell K _ _ (by rfl) (by rfl) Has.auto (by decide +kernel) (by (try simp only [List.getElem?_toArray, List.getElem?_cons_succ, List.getElem?_cons_zero]); exact rfl)) ?_) | (refine wpList_reads (by rfl) (kr_load_row K _ _ (by rfl) (by rfl) Has.auto (by decide +kernel) (by kernel_rfl)) ?_)) | ((with_reducible refine at_store rfl ?_); (first | (refine wpList_does rfl (kd_store_cell K _ _ _ rfl rfl (by conv => lhs; whnf) Repl.auto rfl rfl (by kernel_rfl) (by kernel_rfl) (by first | (simp only [List.setIfInBounds_toArray, List.set_cons_succ, List.set_cons_zero]; rfl) | rfl)) ?_) | (refine wpList_does rfl (kd_store_row K _ _ _ rfl rfl rfl Repl.auto (by kernel_rfl) (by kernel_rfl) (by kernel_rfl)) ?_)); clear K; intro _ w1 K; (try simp only [Act.put])))
            go_roundg (gk - 1)
            case measure => omega
            case rel => exact ⟨j + 1, _, _, m1, by go_num, by omega, HM, hr1, Lib.hid (by rw [HE.out, bkeep_step hj, HPV.out, HQ.out, if_neg hp1, if_neg hp3]), K⟩
      · have HF := Lib.hid (show bkeep D1.waits ps D1.kept = m1 by rw [HE.out, List.drop_eq_nil_of_le (by omega : ps.length ≤ j), bkeep_nil])
        have hp2 : decide ((n : Int) ≤ (j : Int)) = true := decide_eq_true (by omega)
        have RK := RdS.own (w0 := w0) (L := X3 ++ (row gb #[.map (some mw)] 60 :: row g #[.int .i64 (D1.size : Nat), .int .i64 (D1.count : Nat), .map (some mk), .map (some mw), .bool D1.off, .int .i64 D1.offs, .bool (decide (0 ≤ D1.fuse)), .int .i64 fz, .int .u64 D1.writes] 62 :: mrow mk l1 c1 :: mrow mw lw cw :: (Y ++ L))) O3 Seg.auto
        obtain ⟨b, off, rfl⟩ := RK.form K (by omega)
        obtain ⟨q, hq⟩ : ∃ q, q = D1.waits[j].1 := ⟨_, rfl⟩
        have HKV := Lib.hid (show (D1.waits.map (·.1)).getD j 0 = q by rw [keys_get hj, hq])
        clear hq
        go_wp2_with (first | ((with_reducible refine at_clear1 (t := 60) rfl ?_); refine wpList_does rfl (kd_clear K rfl rfl Repl.auto Try.underlying60) ?_; clear K; intro _ w1 K) | ((with_reducible refine at_load rfl ?_); first | (refine wpList_reads (by rfl) (kr_load_cell K _ _ (by rfl) (by rfl) Has.auto (by decide +kernel) (by (try simp only [List.getElem?_toArray, List.getElem?_cons_succ, List.getElem?_cons_zero]); exact rfl)) ?_) | (refine wpList_reads (by rfl) (kr_load_row K _ _ (by rfl) (by rfl) Has.auto (by decide +kernel) (by kernel_rfl)) ?_) | (refine wpList_reads (by rfl) (kr_load_fact _ _ (by rfl) (by rfl) (RP.cell (K.cov Cov.auto) (by omega) HPV.out rfl) (by decide +kernel)) ?_) | (refine wpList_reads (by rfl) (kr_load_fact _ _ (by rfl) (by rfl) (RK.cell K (by omega) HKV.out rfl) (by decide +kernel)) ?_)) | ((with_reducible refine at_eqnil rfl ?_); refine wpList_reads rfl (kr_eqnil rfl rfl (by kernel_rfl)) ?_) | ((with_reducible refine at_box rfl ?_); refine wpList_does rfl (kd_box K _ _ rfl (by conv => lhs; whnf)) ?_; clear K; rintro _ w1 ⟨g, rfl, K⟩; (try dsimp only [Value.cells] at K)) | ((with_reducible refine at_alloc rfl ?_); refine wpList_does rfl (kd_alloc K _ rfl rfl) ?_; clear K; rintro _ w1 ⟨g, rfl, K⟩; (try dsimp only [Value.cells] at K)) | ((with_reducible refine at_buildSlice rfl ?_); refine wpList_does rfl (kd_lits (cs := _) K _ _ _ rfl (by first | rfl | (go_simp; done) | (go_simp; rfl)) (by first | rfl | (go_simp; done) | (go_simp; rfl))) ?_; clear K; rintro _ w1 ⟨g, rfl, K⟩) | ((with_reducible refine at_load rfl ?_); first | (refine wpList_reads (by rfl) (kr_load_cell K _ _ (by rfl) (by rfl) Has.auto (by decide +kernel) (by (try simp only [List.getElem?_toArray, List.getElem?_cons_succ, List.getElem?_cons_zero]); exact rfl)) ?_) | (refine wpList_reads (by rfl) (kr_load_row K _ _ (by rfl) (by rfl) Has.auto (by decide +kernel) (by kernel_rfl)) ?_)) | ((with_reducible refine at_store rfl ?_); (first | (refine wpList_does rfl (kd_store_cell K _ _ _ rfl rfl (by conv => lhs; whnf) Repl.auto rfl rfl (by kernel_rfl) (by kernel_rfl) (by first | (simp only [List.setIfInBounds_toArray, List.set_cons_succ, List.set_cons_zero]; rfl) | rfl)) ?_) | (refine wpList_does rfl (kd_store_row K _ _ _ rfl rfl rfl Repl.auto (by kernel_rfl) (by kernel_rfl) (by kernel_rfl)) ?_)); clear K; intro _ w1 K; (try simp only [Act.put])))
        go_end0
        have K2 : Known w0 _ (row g #[.int .i64 (D1.size : Nat), .int .i64 (D1.count : Nat), .map (some mk), .map (some mw), .bool false, .int .i64 D1.offs, .bool false, .int .i64 fz, .int .u64 D1.writes] 62 :: mrow mk l1 c1 :: mrow mw [] cw :: (Y ++ L)) := K.cov Cov.auto
        exact ⟨rfl, _, ⟨⟨mk, mw, l1, c1, [], cw, fz, Y, rfl, by rw [HR.out]; intro h; exact absurd h (show ¬ ((0 : Int) ≤ -1) by decide), by rw [HR.out]; show MapIs w0 Y l1 c1 (bkeep D1.waits ps D1.kept); rw [HF.out]; exact HM, by rw [HR.out]; exact MapIs.nil _ _ _⟩, HOK.out⟩, by rw [HR.out]; exact K2⟩
    · have HF := Lib.hid (show bkeep D1.waits ps D1.kept = m1 by rw [HE.out, List.drop_eq_nil_of_le (by omega : D1.waits.length ≤ j)]; rfl)
      have hj2 : decide ((j : Int) < (lw.length : Int)) = false := decide_eq_false (by omega)
      go_wp2_with (first | ((with_reducible refine at_clear1 (t := 60) rfl ?_); refine wpList_does rfl (kd_clear K rfl rfl Repl.auto Try.underlying60) ?_; clear K; intro _ w1 K) | ((with_reducible refine at_load rfl ?_); first | (refine wpList_reads (by rfl) (kr_load_cell K _ _ (by rfl) (by rfl) Has.auto (by decide +kernel) (by (try simp only [List.getElem?_toArray, List.getElem?_cons_succ, List.getElem?_cons_zero]); exact rfl)) ?_) | (refine wpList_reads (by rfl) (kr_load_row K _ _ (by rfl) (by rfl) Has.auto (by decide +kernel) (by kernel_rfl)) ?_) | (refine wpList_reads (by rfl) (kr_load_fact _ _ (by rfl) (by rfl) (RP.cell (K.cov Cov.auto) (by omega) HPV.out rfl) (by decide +kernel)) ?_) | (refine wpList_reads (by rfl) (kr_load_fact _ _ (by rfl) (by rfl) (RK.cell K (by omega) HKV.out rfl) (by decide +kernel)) ?_)) | ((with_reducible refine at_eqnil rfl ?_); refine wpList_reads rfl (kr_eqnil rfl rfl (by kernel_rfl)) ?_) | ((with_reducible refine at_box rfl ?_); refine wpList_does rfl (kd_box K _ _ rfl (by conv => lhs; whnf)) ?_; clear K; rintro _ w1 ⟨g, rfl, K⟩; (try dsimp only [Value.cells] at K)) | ((with_reducible refine at_alloc rfl ?_); refine wpList_does rfl (kd_alloc K _ rfl rfl) ?_; clear K; rintro _ w1 ⟨g, rfl, K⟩; (try dsimp only [Value.cells] at K)) | ((with_reducible refine at_buildSlice rfl ?_); refine wpList_does rfl (kd_lits (cs := _) K _ _ _ rfl (by first | rfl | (go_simp; done) | (go_simp; rfl)) (by first | rfl | (go_simp; done) | (go_simp; rfl))) ?_; clear K; rintro _ w1 ⟨g, rfl, K⟩) | ((with_reducible refine at_load rfl ?_); first | (refine wpList_reads (by rfl) (kr_load_cell K _ _ (by rfl) (by rfl) Has.auto (by decide +kernel) (by (try simp only [List.getElem?_toArray, List.getElem?_cons_succ, List.getElem?_cons_zero]); exact rfl)) ?_) | (refine wpList_reads (by rfl) (kr_load_row K _ _ (by rfl) (by rfl) Has.auto (by decide +kernel) (by kernel_rfl)) ?_)) | ((with_reducible refine at_store rfl ?_); (first | (refine wpList_does rfl (kd_store_cell K _ _ _ rfl rfl (by conv => lhs; whnf) Repl.auto rfl rfl (by kernel_rfl) (by kernel_rfl) (by first | (simp only [List.setIfInBounds_toArray, List.set_cons_succ, List.set_cons_zero]; rfl) | rfl)) ?_) | (refine wpList_does rfl (kd_store_row K _ _ _ rfl rfl rfl Repl.auto (by kernel_rfl) (by kernel_rfl) (by kernel_rfl)) ?_)); clear K; intro _ w1 K; (try simp only [Act.put])))
      go_end0
      have K2 : Known w0 _ (row g #[.int .i64 (D1.size : Nat), .int .i64 (D1.count : Nat), .map (some mk), .map (some mw), .bool false, .int .i64 D1.offs, .bool false, .int .i64 fz, .int .u64 D1.writes] 62 :: mrow mk l1 c1 :: mrow mw [] cw :: (Y ++ L)) := K.cov Cov.auto
      exact ⟨rfl, _, ⟨⟨mk, mw, l1, c1, [], cw, fz, Y, rfl, by rw [HR.out]; intro h; exact absurd h (show ¬ ((0 : Int) ≤ -1) by decide), by rw [HR.out]; show MapIs w0 Y l1 c1 (bkeep D1.waits ps D1.kept); rw [HF.out]; exact HM, by rw [HR.out]; exact MapIs.nil _ _ _⟩, HOK.out⟩, by rw [HR.out]; exact K2⟩
end
end Go.Proofs.Ytfdddipmeadecaa
