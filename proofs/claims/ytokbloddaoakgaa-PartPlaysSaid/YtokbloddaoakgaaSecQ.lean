/-
  sector: maps.Copy of faces (contract).
-/
import Derived.Test.YtokbloddaoakgaaSecP
import Derived.Deep.LoopGhost
set_option linter.unusedVariables false
set_option linter.unusedSimpArgs false
namespace Go.Proofs.Ytokbloddaoakgaa
open Go.RowKit
theorem at_range1 {P : Program} {ops : Array Oper} {rest : List Oper} {o : Oper} {a : Act} {Q : Exit → Act → World → Prop} {W : World} {t : TypeId} {x : Operand} (_h : o.op = .range t x) (k : wpList P ops Q (o :: rest) a W) : wpList P ops Q (o :: rest) a W := k
theorem at_next1 {P : Program} {ops : Array Oper} {rest : List Oper} {o : Oper} {a : Act} {Q : Exit → Act → World → Prop} {W : World} {x : Operand} (_h : o.op = .next x false) (k : wpList P ops Q (o :: rest) a W) : wpList P ops Q (o :: rest) a W := k
theorem at_entry1 {P : Program} {ops : Array Oper} {rest : List Oper} {o : Oper} {a : Act} {Q : Exit → Act → World → Prop} {W : World} {x : Operand} (_h : o.op = .entry x) (k : wpList P ops Q (o :: rest) a W) : wpList P ops Q (o :: rest) a W := k
theorem at_mapUpdate1 {P : Program} {ops : Array Oper} {rest : List Oper} {o : Oper} {a : Act} {Q : Exit → Act → World → Prop} {W : World} {t : TypeId} {x y z : Operand} (_h : o.op = .mapUpdate t x y z) (k : wpList P ops Q (o :: rest) a W) : wpList P ops Q (o :: rest) a W := k
theorem mget_keys {x : Int} {v : Value} : ∀ {l : List ME}, mget l x = some v → ∃ e ∈ l, e.k = x
  | [], h => by simp [mget, mfind] at h
  | a :: l, h => by
    rw [mget_cons] at h
    by_cases hx : x = a.k
    · exact ⟨a, List.mem_cons_self .., hx.symm⟩
    · rw [if_neg hx] at h
      obtain ⟨e, he, h2⟩ := mget_keys h
      exact ⟨e, List.mem_cons_of_mem _ he, h2⟩
theorem MapIs.has {w0 : World} {Y : List Ent} {l : List ME} {c : Nat} {m : AMap} (h : MapIs w0 Y l c m) {e : ME} (he : e ∈ l) : (afind m e.k).isSome = true := by
  cases hq : afind m e.k with
  | some f => rfl
  | none => exact absurd (List.mem_map_of_mem (f := ME.k) he) (mget_none_keys (h.none_ _ hq))
theorem mget_of_mem : ∀ {l : List ME} {e : ME}, (l.map ME.k).Nodup → e ∈ l → mget l e.k = some e.v
  | [], e, _, h => by cases h
  | a :: l, e, hn, h => by
    rw [mget_cons]
    simp only [List.map_cons, List.nodup_cons] at hn
    rcases List.mem_cons.1 h with rfl | h
    · rw [if_pos rfl]
    · have : e.k ≠ a.k := fun hx => hn.1 (by rw [← hx]; exact List.mem_map_of_mem h)
      rw [if_neg this]
      exact mget_of_mem hn.2 h
theorem MapIs.ent {w0 : World} {Y : List Ent} {l : List ME} {c : Nat} {m : AMap} (h : MapIs w0 Y l c m) {e : ME} (he : e ∈ l) : ∃ f, afind m e.k = some f ∧ FaceV w0 Y f e.v := by
  have := h.has he
  cases hq : afind m e.k with
  | none => simp [hq] at this
  | some f =>
    obtain ⟨v, h1, h2⟩ := h.some_ _ f hq
    rw [mget_of_mem h.nd he] at h1
    injection h1 with h1
    subst h1
    exact ⟨f, rfl, h2⟩
theorem filt_le (seen : Array Nat) (b : Nat) : ∀ l : List ME, (l.filter fun e => decide (e.b ∉ seen.push b)).length ≤ (l.filter fun e => decide (e.b ∉ seen)).length
  | [] => by simp
  | a :: l => by
    have := filt_le seen b l
    by_cases h1 : a.b ∈ seen
    · simp [List.filter_cons, h1] at this ⊢; exact this
    · by_cases h2 : a.b = b
      · subst h2
        simp [List.filter_cons, h1] at this ⊢
        omega
      · simp [List.filter_cons, h1, h2] at this ⊢; omega
theorem filt_lt (seen : Array Nat) {e : ME} : ∀ {l : List ME}, e ∈ l → e.b ∉ seen → (l.filter fun x => decide (x.b ∉ seen.push e.b)).length < (l.filter fun x => decide (x.b ∉ seen)).length
  | [], h, _ => by cases h
  | a :: l, h, hs => by
    rcases List.mem_cons.1 h with rfl | h
    · have := filt_le seen e.b l
      simp [List.filter_cons, hs] at this ⊢; omega
    · have h3 := filt_lt seen h hs
      have h4 := filt_le seen e.b [a]
      rw [show a :: l = [a] ++ l from rfl, List.filter_append, List.filter_append, List.length_append, List.length_append]
      omega
theorem born_inj {e e' : ME} : ∀ {l : List ME}, l.Pairwise (fun p q => p.b ≠ q.b) → e ∈ l → e' ∈ l → e'.b = e.b → e' = e
  | [], _, h, _, _ => by cases h
  | a :: l, hp, h, h', hb => by
    obtain ⟨h1, h2⟩ := List.pairwise_cons.1 hp
    rcases List.mem_cons.1 h with ea | ha
    · rcases List.mem_cons.1 h' with eb | hb'
      · rw [ea, eb]
      · exact absurd (by rw [← ea, hb]) (h1 _ hb')
    · rcases List.mem_cons.1 h' with eb | hb'
      · exact absurd (by rw [← eb, hb]) (h1 _ ha)
      · exact born_inj h2 ha hb' hb
theorem merge_done {w0 : World} {Y : List Ent} {lw : List ME} {cw : Nat} {k m m1 : AMap} {seen : Array Nat} (HW : MapIs w0 Y lw cw m) (hk : Rising k) (hm : Rising m) (hr1 : Rising m1) (hall : ∀ e ∈ lw, e.b ∈ seen)
    (hin : ∀ i, (∃ e ∈ lw, e.k = i ∧ e.b ∈ seen) → afind m1 i = afind m i) (hout : ∀ i, (¬ ∃ e ∈ lw, e.k = i ∧ e.b ∈ seen) → afind m1 i = afind k i) : m1 = amerge k m := by
  refine rising_ext hr1 (amerge_rising hk) fun i => ?_
  rw [amerge_find k i hm]
  by_cases h : ∃ e ∈ lw, e.k = i ∧ e.b ∈ seen
  · rw [hin i h]
    obtain ⟨e, he, rfl, _⟩ := h
    have := HW.has he
    cases hq : afind m e.k with
    | none => simp [hq] at this
    | some f => rfl
  · rw [hout i h]
    cases hq : afind m i with
    | none => rfl
    | some f =>
      obtain ⟨v, hv, _⟩ := HW.some_ i f hq
      obtain ⟨e, he, h2⟩ := mget_keys hv
      exact absurd ⟨e, he, h2, hall e he⟩ h

section
variable {w0 w : World} {L Y : List Ent} {mk mw ck cw : Nat} {lk lw : List ME} {k m : AMap}
set_option maxRecDepth 100000 in
theorem mcopy_any (K : Known w0 w (mrow mk lk ck :: mrow mw lw cw :: L)) (HK : MapIs w0 Y lk ck k) (HW : MapIs w0 Y lw cw m) (hk : Rising k) (hm : Rising m) :
    Calls Try.prog 73 #[.map (some mk), .map (some mw)] w fun e w' => e = .returned (.tuple #[]) ∧ ∃ l' c', MapIs w0 Y l' c' (amerge k m) ∧ Known w0 w' (mrow mk l' c' :: mrow mw lw cw :: L) := by
  go_enter Try.func73, Try.ntmps73
  go_upto_region 1 with ((first | ((with_reducible refine at_range1 rfl ?_); refine wpList_does rfl (kd_range K rfl rfl (Has.tl _ (Has.hd _ _)) Try.underlying106) ?_; clear K; rintro _ w1 ⟨r, rfl, K⟩)))
  go_frame
  go_loopg [] lw.length (fun d wr => ∃ (seen : Array Nat) (l1 : List ME) (c1 : Nat) (m1 : AMap), (lw.filter fun e => decide (e.b ∉ seen)).length ≤ d ∧ MapIs w0 Y l1 c1 m1 ∧ Rising m1 ∧ (∀ i, (∃ e ∈ lw, e.k = i ∧ e.b ∈ seen) → afind m1 i = afind m i) ∧ (∀ i, (¬ ∃ e ∈ lw, e.k = i ∧ e.b ∈ seen) → afind m1 i = afind k i) ∧ Known w0 wr (irow r mw cw seen cw :: mrow mk l1 c1 :: mrow mw lw cw :: L))
  case atStart => exact ⟨#[], lk, ck, k, List.length_filter_le _ _, HK, hk, fun i h => by simp at h, fun i h => rfl, K⟩
  case round =>
    clear K
    obtain ⟨seen, l1, c1, m1, hd, HM1, hr1, hin, hout, K⟩ := hrel
    by_cases hall : ∀ e ∈ lw, e.b ∈ seen
    · go_wp2_with (first | ((with_reducible refine at_next1 rfl ?_); refine wpList_does rfl (kd_next (f := fun e => irow r mw cw (seen.push e.b) cw :: mrow mk l1 c1 :: mrow mw lw cw :: L) K rfl rfl (Has.tl _ (Has.tl _ (Has.hd _ _))) (Has.hd _ _) HW.lt (Nat.le_refl _) (fun e => Repl.hd _ _ _)) ?_; clear K; rintro v w1 (⟨h9, rfl, K⟩ | ⟨e, he, hns, rfl, K⟩); (rotate_left; exact absurd (hall e he) hns)))
      go_end0
      exact ⟨rfl, l1, c1, by rw [← merge_done HW hk hm hr1 hall hin hout]; exact HM1, K.cov (by repeat (first | with_reducible exact Cov.all _ | with_reducible exact Cov.left _ _ | with_reducible exact Cov.nil _ | (with_reducible apply Cov.app; (· repeat (first | with_reducible exact Sel.nil _ | with_reducible exact Sel.ap _ _ | with_reducible exact Sel.hd _ _ | with_reducible exact Sel.all _ | with_reducible apply Sel.tl | with_reducible apply Sel.sk))) | (with_reducible apply Cov.cons; (· repeat (first | with_reducible exact Sel.nil _ | with_reducible exact Sel.ap _ _ | with_reducible exact Sel.hd _ _ | with_reducible exact Sel.all _ | with_reducible apply Sel.tl | with_reducible apply Sel.sk))) | with_reducible refine Cov.drop _ ?_ | with_reducible refine Cov.skip _ ?_))⟩
    · have HNB := Lib.hid (HW.born.imp fun h => Nat.ne_of_lt h)
      go_wp2_with (first | ((with_reducible refine at_next1 rfl ?_); refine wpList_does rfl (kd_next (f := fun e => irow r mw cw (seen.push e.b) cw :: mrow mk l1 c1 :: mrow mw lw cw :: L) K rfl rfl (Has.tl _ (Has.tl _ (Has.hd _ _))) (Has.hd _ _) HW.lt (Nat.le_refl _) (fun e => Repl.hd _ _ _)) ?_; clear K; rintro v w1 (⟨h9, rfl, K⟩ | ⟨e, he, hns, rfl, K⟩); (exact absurd h9 hall); obtain ⟨ff, hff, A2, n2, c2, hev, RR, hcc⟩ := HW.ent he; rw [hev]) | ((with_reducible refine at_entry1 rfl ?_); refine wpList_reads rfl (kr_entry K rfl rfl (Has.hd _ _) (by repeat (first | with_reducible exact Has.hd _ _ | with_reducible refine Has.tl _ ?_)) he (List.pairwise_map.2 HNB.out)) ?_; rw [hev]) | ((with_reducible refine at_slot (N := 5) rfl ?_); (with_reducible refine at_alloc rfl ?_); refine wpList_does rfl (kd_alloc (z := (.agg #[.slice none 0 0, .bool false])) K _ rfl (by kernel_rfl)) ?_; clear K; rintro _ w1 ⟨ga, rfl, K⟩; (try dsimp only [Value.cells] at K)) | ((with_reducible refine at_mapUpdate1 rfl ?_); refine wpList_does (by rfl) (kd_mapUpdate K (by rfl) (by rfl) (by rfl) (by conv => lhs; whnf) (by repeat (first | with_reducible exact Repl.hd _ _ _ | with_reducible apply Repl.tl | with_reducible apply Repl.ap)) Try.underlying106 Try.underlying3) ?_; clear K; intro _ w1 K) | ((with_reducible refine at_eqnil rfl ?_); refine wpList_reads rfl (kr_eqnil rfl rfl (by kernel_rfl)) ?_) | ((with_reducible refine at_box rfl ?_); refine wpList_does rfl (kd_box K _ _ rfl (by conv => lhs; whnf)) ?_; clear K; rintro _ w1 ⟨g, rfl, K⟩; (try dsimp only [Value.cells] at K)) | ((with_reducible refine at_alloc rfl ?_); refine wpList_does rfl (kd_alloc K _ rfl rfl) ?_; clear K; rintro _ w1 ⟨g, rfl, K⟩; (try dsimp only [Value.cells] at K)) | ((with_reducible refine at_buildSlice rfl ?_); refine wpList_does rfl (kd_lits (cs := _) K _ _ _ rfl (by first | rfl | (go_simp; done) | (go_simp; rfl)) (by first | rfl | (go_simp; done) | (go_simp; rfl))) ?_; clear K; rintro _ w1 ⟨g, rfl, K⟩) | ((with_reducible refine at_load rfl ?_); first | (refine wpList_reads (by rfl) (kr_load_cell K _ _ (by rfl) (by rfl) (by repeat (first | with_reducible exact Has.hd _ _ | with_reducible refine Has.tl _ ?_ | with_reducible refine Has.ap _ ?_)) (by decide +kernel) (by (try simp only [List.getElem?_toArray, List.getElem?_cons_succ, List.getElem?_cons_zero]); exact rfl)) ?_) | (refine wpList_reads (by rfl) (kr_load_row K _ _ (by rfl) (by rfl) (by repeat (first | with_reducible exact Has.hd _ _ | with_reducible refine Has.tl _ ?_ | with_reducible refine Has.ap _ ?_)) (by decide +kernel) (by kernel_rfl)) ?_)) | ((with_reducible refine at_store rfl ?_); (first | (refine wpList_does rfl (kd_store_cell K _ _ _ rfl rfl (by conv => lhs; whnf) (by repeat (first | with_reducible exact Repl.hd _ _ _ | with_reducible apply Repl.tl | with_reducible apply Repl.ap)) rfl rfl (by kernel_rfl) (by kernel_rfl) (by first | (simp only [List.setIfInBounds_toArray, List.set_cons_succ, List.set_cons_zero]; rfl) | rfl)) ?_) | (refine wpList_does rfl (kd_store_row K _ _ _ rfl rfl rfl (by repeat (first | with_reducible exact Repl.hd _ _ _ | with_reducible apply Repl.tl | with_reducible apply Repl.ap)) (by kernel_rfl) (by kernel_rfl) (by kernel_rfl)) ?_)); clear K; intro _ w1 K; (try simp only [Act.put])))
      have hlt := filt_lt seen he hns
      go_roundg (gk - 1)
      case measure => omega
      case rel =>
        refine ⟨seen.push e.b, _, _, aput m1 e.k ff, by omega, HM1.put hr1 ⟨A2, n2, c2, rfl, RR, hcc⟩, rising_put hr1, fun i hi => ?_, fun i hi => ?_, K.cov (by repeat (first | with_reducible exact Cov.all _ | with_reducible exact Cov.left _ _ | with_reducible exact Cov.nil _ | (with_reducible apply Cov.app; (· repeat (first | with_reducible exact Sel.nil _ | with_reducible exact Sel.ap _ _ | with_reducible exact Sel.hd _ _ | with_reducible exact Sel.all _ | with_reducible apply Sel.tl | with_reducible apply Sel.sk))) | (with_reducible apply Cov.cons; (· repeat (first | with_reducible exact Sel.nil _ | with_reducible exact Sel.ap _ _ | with_reducible exact Sel.hd _ _ | with_reducible exact Sel.all _ | with_reducible apply Sel.tl | with_reducible apply Sel.sk))) | with_reducible refine Cov.drop _ ?_ | with_reducible refine Cov.skip _ ?_))⟩
        · rw [afind_put]
          by_cases hik : i = e.k
          · rw [if_pos hik, hik, hff]
          · rw [if_neg hik]
            obtain ⟨e', he', h1, h2⟩ := hi
            refine hin i ⟨e', he', h1, ?_⟩
            rcases Array.mem_push.1 h2 with h2 | h2
            · exact h2
            · exfalso
              have := born_inj HNB.out he he' h2
              exact hik (by rw [← h1, this])
        · rw [afind_put]
          have hik : i ≠ e.k := fun h => hi ⟨e, he, h.symm, Array.mem_push_self⟩
          rw [if_neg hik]
          exact hout i fun ⟨e', he', h1, h2⟩ => hi ⟨e', he', h1, Array.mem_push_of_mem _ h2⟩
end
end Go.Proofs.Ytokbloddaoakgaa
