/-
  sector: Back (contract).
-/
import Derived.Test.YtokbloddaoakgaaSecR
import Derived.Test.YtokbloddaoakgaaKeys
set_option linter.unusedVariables false
set_option linter.unusedSimpArgs false
namespace Go.Proofs.Ytokbloddaoakgaa
open Go.RowKit Go.Maps Go.Sort
theorem rising_keys {m : AMap} (h : Rising m) : (m.map (·.1)).Pairwise (fun a b => a ≤ b) ∧ (m.map (·.1)).Nodup :=
  ⟨List.pairwise_map.2 (h.imp fun h => Int.le_of_lt h), List.pairwise_map.2 (h.imp fun h e => by omega)⟩
theorem afind_key {m : AMap} {i : Int} : (∃ f, afind m i = some f) ↔ i ∈ m.map (·.1) := by
  constructor
  · rintro ⟨f, h⟩
    exact List.mem_map_of_mem (f := (·.1)) (afind_mem h)
  · intro h
    obtain ⟨p, hp, rfl⟩ := List.mem_map.1 h
    cases hq : afind m p.1 with
    | some f => exact ⟨f, rfl⟩
    | none => exact absurd rfl (afind_none hq p hp)
/-- a map's keys, sorted, are the row's -/
theorem MapIs.sorted {w0 : World} {Y : List Ent} {l : List ME} {c : Nat} {m : AMap} (h : MapIs w0 Y l c m) (hm : Rising m) : (l.map ME.k).mergeSort (fun x y => decide (x ≤ y)) = m.map (·.1) := by
  have hp : (l.map ME.k).Perm (m.map (·.1)) := by
    refine (List.perm_ext_iff_of_nodup h.nd (rising_keys hm).2).2 fun i => ?_
    rw [← afind_key]
    constructor
    · intro hi
      obtain ⟨e, he, rfl⟩ := List.mem_map.1 hi
      have := h.has he
      cases hq : afind m e.k with
      | none => simp [hq] at this
      | some f => exact ⟨f, rfl⟩
    · rintro ⟨f, hf⟩
      obtain ⟨v, hv, _⟩ := h.some_ i f hf
      obtain ⟨e, he, rfl⟩ := mget_keys hv
      exact List.mem_map_of_mem he
  rw [mergeSort_of_perm_i hp]
  exact List.mergeSort_of_pairwise ((rising_keys hm).1.imp fun h => decide_eq_true h)
theorem bkeep_nil : ∀ (l : AMap) (m : AMap), bkeep l [] m = m
  | [], _ => rfl
  | (i, f) :: l, m => by
    rw [bkeep]
    simp [bkeep_nil l m]
theorem bkeep_step {l : AMap} {ps : List Int} {m : AMap} {j : Nat} (h : j < l.length) : bkeep (l.drop j) (ps.drop j) m = bkeep (l.drop (j + 1)) (ps.drop (j + 1)) (if ps.getD j 0 = 1 then aput m l[j].1 l[j].2 else if ps.getD j 0 = 2 then aput m l[j].1 ⟨[], true⟩ else m) := by
  rw [List.drop_eq_getElem_cons h]
  rw [bkeep]
  have h1 : (ps.drop j).headD 0 = ps.getD j 0 := by simp [List.headD_eq_head?_getD, List.head?_drop, List.getD]
  rw [h1, List.tail_drop]
theorem dback_ok {D : Dev} (h : DevOk D) (ho : D.offs < 1000000000000) (ps : List Int) : DevOk (dback D ps) := by
  have h1 : (dfall D).size = D.size ∧ (dfall D).count = D.count ∧ (0 ≤ (dfall D).offs ∧ (dfall D).offs ≤ 1000000000000) ∧ (dfall D).writes = D.writes := by
    have := h.offs
    unfold dfall
    split
    · exact ⟨rfl, rfl, this, rfl⟩
    · exact ⟨rfl, rfl, ⟨by show 0 ≤ D.offs + 1; omega, by show D.offs + 1 ≤ _; omega⟩, rfl⟩
  obtain ⟨e1, e2, e3, e4⟩ := h1
  refine ⟨by show 128 ≤ (dfall D).size ∧ (dfall D).size ≤ 4096; rw [e1]; exact h.size, by show 1 ≤ (dfall D).count ∧ (dfall D).count ≤ 1048576; rw [e2]; exact h.count, bkeep_rising ps h.rk, by simp [dback, Rising], fun p hp => ?_, by simp [dback], e3, by show -1 ≤ (-1 : Int) ∧ (-1 : Int) ≤ _; omega, by show 0 ≤ (dfall D).writes ∧ (dfall D).writes ≤ _; rw [e4]; exact h.writes⟩
  show FaceOk (dfall D).size p.2 ∧ 0 ≤ p.1 ∧ p.1 < (dfall D).count
  rw [e1, e2]
  rcases bkeep_mem ps hp with hp | hp | ⟨q, hq, rfl⟩
  · exact h.fk p hp
  · exact h.fw p hp
  · exact ⟨⟨fun h => by simp at h, fun _ => rfl, by simp⟩, (h.fw q hq).2⟩
end Go.Proofs.Ytokbloddaoakgaa
