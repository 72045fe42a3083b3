/-
  safe: what is checked makes in place what it makes of the old image: the plain law.
-/
import Derived.Test.YtffednkdmkohdaaSfL
set_option linter.unusedVariables false
set_option linter.unusedSimpArgs false
namespace Go.Proofs.Ytffednkdmkohdaa
open Go.RowKit
theorem touch_pos {block : Int} {s : Ast} {j p : Int} (hb : 0 < block) (hr : rightB s = true) (hk : s.kind ≠ 1) (h1 : j * block ≤ p) (h2 : p < (j + 1) * block) (h3 : s.from_ ≤ p) (h4 : p < s.from_ + s.len) : touch block j s = true := by
  have hy := rightB_yes hr
  rw [touch_asks hb hr, decide_eq_true (by omega), decide_eq_true (by omega), decide_eq_true (by omega)]
  rfl
theorem stepB_same {img bs : List Int} {s : Ast} (h : s.kind ≠ 1 → ∀ q, q < s.len.toNat → img.getD (s.from_.toNat + q) 0 = bs.getD (s.from_.toNat + q) 0) : stepB img s = stepB bs s := by
  unfold stepB
  split
  · rfl
  · next hk =>
    apply List.map_congr_left
    intro q hq
    rw [h hk q (List.mem_range.1 hq)]
theorem makeB_same {img bs : List Int} {l : List Ast} (h : ∀ s ∈ l, stepB img s = stepB bs s) : makeB l img = makeB l bs := by
  unfold makeB
  induction l with
  | nil => rfl
  | cons s l ih => rw [List.flatMap_cons, List.flatMap_cons, h s (List.mem_cons_self ..), ih fun s hs => h s (List.mem_cons_of_mem _ hs)]
theorem oneE_zero {l : List Ast} {ws : List Int} {block old want : Int} (h : oneE l ws block old want = 0) : l.all rightB = true ∧ lenSum l = want ∧ l.any (overB old) = false ∧ ∀ s ∈ l, ∀ j ∈ ws, touch block j s = false := by
  unfold oneE at h
  split at h
  · next h1 =>
    split at h
    · next h2 =>
      split at h
      · omega
      · next h3 =>
        split at h
        · omega
        · next h4 =>
          refine ⟨h1, h2, by simpa using h3, fun s hs j hj => ?_⟩
          rw [Bool.not_eq_true, List.any_eq_false] at h4
          have h5 := h4 s hs
          rw [Bool.not_eq_true, lateB, List.any_eq_false] at h5
          have := h5 j hj
          rwa [Bool.not_eq_true] at this
    · omega
  · omega
theorem firstNZ_zero {f : Nat → Int} {n : Nat} (h : firstNZ f n = 0) : ∀ k, k < n → f k = 0 := by
  induction n with
  | zero => intro k hk; omega
  | succ n ih =>
    rw [firstNZ] at h
    by_cases h0 : firstNZ f n = 0
    · rw [if_pos h0] at h
      intro k hk
      by_cases hkn : k = n
      · rw [hkn]; exact h
      · exact ih h0 k (by omega)
    · rw [if_neg h0] at h
      exact absurd h h0
/-- blocks apart -/
theorem apart {block i j q r : Int} (hb : 0 < block) (hij : i ≠ j) (hq : 0 ≤ q ∧ q < block) (hr : 0 ≤ r ∧ r < block) : i * block + q ≠ j * block + r := by
  intro h
  rcases Int.lt_or_lt_of_ne hij with h1 | h1
  · have := Int.mul_le_mul_of_nonneg_right (show i + 1 ≤ j by omega) (show 0 ≤ block by omega)
    rw [Int.add_mul, Int.one_mul] at this
    omega
  · have := Int.mul_le_mul_of_nonneg_right (show j + 1 ≤ i by omega) (show 0 ≤ block by omega)
    rw [Int.add_mul, Int.one_mul] at this
    omega
/-- an image in the making: what was not written is as it was, what was is new -/
structure Good (bs : List Int) (ps : List (List Ast)) (block new : Int) (M : Nat) (done : List Int) (img : List Int) : Prop where mk ::
  (len : img.length = M)
  (old : ∀ p : Nat, p < bs.length → (∀ j ∈ done, ¬ (j * block ≤ (p : Int) ∧ (p : Int) < (j + 1) * block)) → img.getD p 0 = bs.getD p 0)
  (new : ∀ j ∈ done, ∀ q : Nat, (q : Int) < sizeS j block new → img.getD ((j * block).toNat + q) 0 = (makeB (ps.getD j.toNat []) bs).getD q 0)
theorem good_step {bs : List Int} {ps : List (List Ast)} {block new i : Int} {M : Nat} {done img : List Int} {w : World} (hb : 0 < block) (hi : 0 ≤ i) (hib : i * block < new) (hnM : new ≤ M) (hbM : bs.length ≤ M) (hdone : ∀ j ∈ done, 0 ≤ j ∧ j ≠ i) (hok : ∀ s ∈ ps.getD i.toNat [], AsOk w s)
    (h1 : oneE (ps.getD i.toNat []) done block bs.length (sizeS i block new) = 0) (G : Good bs ps block new M done img) :
    evalE (ps.getD i.toNat []) (img.take bs.length) (sizeS i block new) = (makeB (ps.getD i.toNat []) bs, 0) ∧ Good bs ps block new M (done ++ [i]) (writeAt img (i * block).toNat (makeB (ps.getD i.toNat []) bs)) := by
  obtain ⟨hr, hl, ho, ht⟩ := oneE_zero h1
  obtain ⟨l, hll⟩ : ∃ l, ps.getD i.toNat [] = l := ⟨_, rfl⟩
  rw [hll] at hr hl ho ht hok ⊢
  have hib0 : 0 ≤ i * block := Int.mul_nonneg hi (by omega)
  have htl : (img.take bs.length).length = bs.length := by rw [List.length_take, G.len]; omega
  have hmk : makeB l (img.take bs.length) = makeB l bs := makeB_same fun s hs => stepB_same fun hk q hq => by
    have hrs := List.all_eq_true.1 hr s hs
    have hry := rightB_yes hrs
    have hov : overB bs.length s = false := by
      have := List.any_eq_false.1 ho s hs
      rwa [Bool.not_eq_true] at this
    have hfl : s.from_ + s.len ≤ bs.length := by
      simp only [overB, decide_eq_true hk, Bool.true_and, decide_eq_false_iff_not] at hov
      omega
    have e : (img.take bs.length).getD (s.from_.toNat + q) 0 = img.getD (s.from_.toNat + q) 0 := by
      simp only [List.getD, List.getElem?_take]
      rw [if_pos (by omega)]
    rw [e]
    refine G.old _ (by omega) fun j hj hc => ?_
    have := touch_pos (j := j) (p := ((s.from_.toNat + q : Nat) : Int)) hb hrs hk hc.1 hc.2 (by omega) (by omega)
    rw [ht s hs j hj] at this
    cases this
  have hml := makeB_len (old := bs) hr hok
  have hsz : sizeS i block new ≤ block ∧ sizeS i block new ≤ new - i * block := by unfold sizeS; split <;> omega
  have hfit : (i * block).toNat + (makeB l bs).length ≤ img.length := by rw [G.len]; omega
  refine ⟨?_, ?_, ?_, ?_⟩
  · rw [evalE, if_pos hr, if_pos hl, htl, if_neg (by rw [ho]; exact Bool.false_ne_true), hmk]
  · rw [writeAt_len hfit]; exact G.len
  · intro p hp hd
    have hni := hd i (by simp)
    rw [Int.add_mul, Int.one_mul] at hni
    rw [writeAt_get hfit, if_neg (by omega)]
    exact G.old p hp fun j hj => hd j (by simp [hj])
  · intro j hj q hq
    rw [List.mem_append, List.mem_singleton] at hj
    rw [writeAt_get hfit]
    rcases hj with hj | rfl
    · have hjd := hdone j hj
      have hjb : 0 ≤ j * block := Int.mul_nonneg hjd.1 (by omega)
      have hsj : sizeS j block new ≤ block := by unfold sizeS; split <;> omega
      rw [if_neg]
      · exact G.new j hj q hq
      · intro hc
        exact apart (i := j) (j := i) (q := q) (r := j * block + q - i * block) hb hjd.2 (by omega) (by omega) (by omega)
    · rw [if_pos (by omega), hll, show (j * block).toNat + q - (j * block).toNat = q by omega]
theorem safe_law {bs : List Int} {ps : List (List Ast)} {os : List Int} {block new : Int} {w : World} (hok : ∀ l ∈ ps, ∀ s ∈ l, AsOk w s) (hc : checkE ps os block bs.length new = 0) :
    (∃ x, foldE bs ps os block new = (x, 0) ∧ (x.length : Int) = new ∧ ∀ i : Nat, i < ps.length → evalE (ps.getD i []) bs (sizeS i block new) = ((x.drop ((i : Int) * block).toNat).take (sizeS i block new).toNat, 0)) ∧ (ps.length : Int) = blocksN new block ∧ 128 ≤ block ∧ block ≤ 4096 ∧ 0 ≤ new := by
  have hae : aheadE ps.length os block bs.length new = 0 := by
    cases Decidable.em (aheadE ps.length os block bs.length new = 0) with
    | inl h => exact h
    | inr h => rw [checkE_ne h] at hc; exact hc
  rw [checkE_eq hae] at hc
  obtain ⟨hmy, hn, hon⟩ := aheadE_zero hae
  obtain ⟨hb, ho, hnw⟩ := mayS_yes hmy
  have h1 := firstNZ_zero hc
  have hol := once_len hon
  have hb0 : 0 < block := by omega
  obtain ⟨M, hM⟩ : ∃ M, M = max bs.length new.toNat := ⟨_, rfl⟩
  have hbelow : ∀ i : Int, 0 ≤ i → i < ps.length → i * block < new := fun i h0 hi => blocksN_below (by omega) h0 (by omega)
  have hget : ∀ i : Nat, i < ps.length → ∀ s ∈ ps.getD i [], AsOk w s := fun i hi s hs => by
    refine hok (ps.getD i []) ?_ s hs
    simp [List.getD, hi]
  have hnod : os.Nodup := (once_perm hon).nodup_iff.2 (iota_nodup _)
  have hst : ∀ k, k ≤ os.length → ∃ img, foldSt ps os block new bs.length (padTo M bs) k = (img, 0) ∧ Good bs ps block new M (os.take k) img := by
    intro k
    induction k with
    | zero => intro _; exact ⟨_, rfl, padTo_len (by omega), fun p _ _ => padTo_get _ _ _, by simp⟩
    | succ k ih =>
      intro hk
      obtain ⟨img, hs, G⟩ := ih (by omega)
      have hx := (once_mem hon).1 (getD_mem (k := k) (by omega))
      have ho1 := h1 k (by omega)
      rw [oneAt] at ho1
      obtain ⟨g1, g2⟩ := good_step hb0 hx.1 (hbelow _ hx.1 hx.2) (by omega) (by omega) (fun j hj => ⟨((once_mem hon).1 (List.mem_of_mem_take hj)).1, fun e => by
        obtain ⟨q, hq, he⟩ := List.getElem_of_mem hj
        rw [List.length_take] at hq
        rw [List.getElem_take] at he
        have h2 : os[q] = os[k] := by rw [he, e]; simp [List.getD, show k < os.length by omega]
        have := (List.getElem_inj (h₀ := by omega) (h₁ := by omega) hnod).1 h2
        omega⟩) (hget _ (by omega)) ho1 G
      refine ⟨_, ?_, by rw [take_getD (by omega)]; exact g2⟩
      rw [foldSt]
      simp only [hs, if_true, g1]
  obtain ⟨img, hs, G⟩ := hst os.length (Nat.le_refl _)
  rw [List.take_of_length_le (Nat.le_refl _)] at G
  refine ⟨⟨img.take new.toNat, ?_, ?_, fun i hi => ?_⟩, hn, hb.1, hb.2, hnw.1⟩
  · rw [foldE, if_pos hae, ← hM]
    simp only [hs, if_true]
  · rw [List.length_take, G.len]; omega
  · have him : (i : Int) ∈ os := (once_mem hon).2 (by omega)
    obtain ⟨k, hk, he⟩ := List.getElem_of_mem him
    have hki : os.getD k 0 = (i : Int) := by simp [List.getD, hk, he]
    have ho1 := h1 k hk
    rw [oneAt, hki, Int.toNat_natCast] at ho1
    obtain ⟨hr, hl, hov, -⟩ := oneE_zero ho1
    have hml := makeB_len (old := bs) hr (hget i hi)
    have hib := hbelow i (by omega) (by omega)
    have hib0 : 0 ≤ (i : Int) * block := Int.mul_nonneg (by omega) (by omega)
    have hsz : sizeS i block new ≤ block ∧ sizeS i block new ≤ new - i * block ∧ 0 ≤ sizeS i block new := by unfold sizeS; split <;> omega
    rw [evalE, if_pos hr, if_pos hl, if_neg (by rw [hov]; exact Bool.false_ne_true)]
    congr 1
    apply list_ext_getD
    · rw [List.length_take, List.length_drop, List.length_take, G.len]; omega
    · intro q hq
      have h2 := G.new i him q (by omega)
      rw [Int.toNat_natCast] at h2
      rw [← h2]
      simp only [List.getD, List.getElem?_take, List.getElem?_drop]
      rw [if_pos (by omega), if_pos (by omega)]
end Go.Proofs.Ytffednkdmkohdaa
