/-
  graph: Turned (contract).
-/
import Derived.Test.YtffednkdmkohdaaGrI
set_option linter.unusedVariables false
set_option linter.unusedSimpArgs false
namespace Go.Proofs.Ytffednkdmkohdaa
open Go.RowKit
/-- a row that grows: its header, numbers, blocks -/
structure Orow where
  (A : Option Addr) (n c : Nat) (xs : List Int) (X : List Ent)
def Orow.hdr (r : Orow) : Value := .slice r.A r.n r.c
def Orow.row (r : Orow) : Arow Int := ⟨r.A, r.n, r.c, r.xs⟩
def hdrs (G : List Orow) : Array Value := (G.map Orow.hdr).toArray
def blks (G : List Orow) : List Ent := G.flatMap Orow.X
theorem hdrs_get {G : List Orow} {k : Nat} (h : k < G.length) : (hdrs G)[k]? = some G[k].hdr := by simp [hdrs, h]
theorem hdrs_set (G : List Orow) (k : Nat) (r : Orow) : (hdrs G).setIfInBounds k r.hdr = hdrs (G.set k r) := by simp [hdrs, List.map_set]
theorem hdrs_size (G : List Orow) : (hdrs G).size = G.length := by simp [hdrs]
theorem hdrs_list (G : List Orow) : (hdrs G).toList = (G.map Orow.row).flatMap arC := by
  induction G with
  | nil => rfl
  | cons r G ih =>
    rw [List.map_cons, List.flatMap_cons, ← ih]
    rfl
theorem blks_at {G : List Orow} {k : Nat} (h : k < G.length) : blks G = blks (G.take k) ++ (G[k].X ++ blks (G.drop (k + 1))) := by
  unfold blks
  conv => lhs; rw [← List.take_append_drop k G, List.drop_eq_getElem_cons h]
  rw [List.flatMap_append, List.flatMap_cons]
theorem blks_set {G : List Orow} {k : Nat} (h : k < G.length) (r : Orow) : blks (G.set k r) = blks (G.take k) ++ (r.X ++ blks (G.drop (k + 1))) := by
  rw [List.set_eq_take_append_cons_drop, if_pos h]
  unfold blks
  rw [List.flatMap_append, List.flatMap_cons]
theorem blks_seg {G : List Orow} {r : Orow} (h : r ∈ G) (e : Ent) : ∃ f, Seg r.X f (e :: blks G) := by
  obtain ⟨s, t, rfl⟩ := List.append_of_mem h
  refine ⟨fun Y => (e :: blks s) ++ Y ++ blks t, ⟨⟨e :: blks s, blks t, fun Y => rfl, ?_⟩⟩⟩
  unfold blks
  rw [List.flatMap_append, List.flatMap_cons]
  simp
theorem okAt_yes {N i : Int} {xs : List Int} {k : Nat} (h : okAt N i xs k = true) : (0 ≤ xs.getD k 0 ∧ xs.getD k 0 < N) ∧ xs.getD k 0 ≠ i ∧ (0 < k → xs.getD (k - 1) 0 < xs.getD k 0) := by
  simp only [okAt, Bool.not_eq_true', Bool.or_eq_false_iff, Bool.and_eq_false_iff, decide_eq_false_iff_not] at h
  obtain ⟨h1, h2, h3, h4⟩ := h
  refine ⟨by omega, h3, fun hk => by omega⟩
theorem okRow_at {N i : Int} {xs : List Int} (h : okRow N i xs = true) {k : Nat} (hk : k < xs.length) : okAt N i xs k = true :=
  List.all_eq_true.1 h k (List.mem_range.2 hk)
theorem okRow_lt {N i : Int} {xs : List Int} (h : okRow N i xs = true) (a : Nat) : ∀ b, a < b → b < xs.length → xs.getD a 0 < xs.getD b 0 := by
  intro b
  induction b with
  | zero => intro h1; omega
  | succ b ih =>
    intro h1 h2
    have h3 := (okAt_yes (okRow_at h h2)).2.2 (by omega)
    rw [Nat.add_sub_cancel] at h3
    by_cases hab : a = b
    · rw [hab]; exact h3
    · have := ih (by omega) (by omega)
      omega
theorem okRow_new {N i : Int} {xs : List Int} (h : okRow N i xs = true) {p : Nat} (hp : p < xs.length) : xs.getD p 0 ∉ xs.take p := by
  intro hm
  obtain ⟨a, ha, he⟩ := List.getElem_of_mem hm
  rw [List.length_take] at ha
  have h1 := okRow_lt h a p (by omega) hp
  rw [List.getElem_take] at he
  simp [List.getD, show a < xs.length by omega, hp] at h1 he
  omega
theorem rightG_row {rs : List (List Int)} (h : rightG rs = true) {i : Nat} (hi : i < rs.length) : okRow rs.length i (rs.getD i []) = true := by
  unfold rightG at h
  rw [Bool.and_eq_true] at h
  exact List.all_eq_true.1 h.1 i (List.mem_range.2 hi)
theorem take_mem_succ {xs : List Int} {p : Nat} (h : p < xs.length) (q : Int) : q ∈ xs.take (p + 1) ↔ q ∈ xs.take p ∨ q = xs.getD p 0 := by
  rw [List.take_succ_eq_append_getElem h, List.mem_append, List.mem_singleton]
  simp [List.getD, h]
theorem rows_n0 {rs : List (List Int)} {n i : Nat} {G : List Orow} (hx : G.map Orow.xs = (List.range n).map fun q => readers rs q i) {r : Orow} (hr : r ∈ G) : r.xs.length ≤ i := by
  have h1 : r.xs ∈ G.map Orow.xs := List.mem_map.2 ⟨r, hr, rfl⟩
  rw [hx] at h1
  obtain ⟨k, _, h2⟩ := List.mem_map.1 h1
  rw [← h2]
  exact readers_len _ _ _
theorem rows_n1 {rs : List (List Int)} {n i p : Nat} {G : List Orow} {rl : List Int} (hx : G.map Orow.xs = (List.range n).map fun q => readers rs q i ++ (if (q : Int) ∈ rl.take p then [(i : Int)] else [])) {r : Orow} (hr : r ∈ G) : r.xs.length ≤ i + 1 := by
  have h1 : r.xs ∈ G.map Orow.xs := List.mem_map.2 ⟨r, hr, rfl⟩
  rw [hx] at h1
  obtain ⟨k, _, h2⟩ := List.mem_map.1 h1
  rw [← h2, List.length_append]
  have h3 := readers_len rs k i
  split <;> simp <;> omega
/-- what a step leaves of the rows -/
theorem rows_step {rs : List (List Int)} {n i p k : Nat} {G : List Orow} {r' : Orow} {rl : List Int} (hk : k < n) (hn : G.length = n) (hx : G.map Orow.xs = (List.range n).map fun q => readers rs q i ++ (if (q : Int) ∈ rl.take p then [(i : Int)] else [])) (hp : p < rl.length) (hkp : rl.getD p 0 = (k : Int)) (hnew : (k : Int) ∉ rl.take p) (hr : r'.xs = (G[k]'(by omega)).xs ++ [(i : Int)]) :
    (G.set k r').map Orow.xs = (List.range n).map fun q => readers rs q i ++ (if (q : Int) ∈ rl.take (p + 1) then [(i : Int)] else []) := by
  rw [List.map_set, hx]
  have hgk : (G[k]'(by omega)).xs = readers rs k i := by
    have h1 : (G.map Orow.xs)[k]? = some (G[k]'(by omega)).xs := by simp [show k < G.length by omega]
    rw [hx] at h1
    simp [hk, hnew] at h1
    exact h1.symm
  apply List.ext_getElem?
  intro q
  rw [List.getElem?_set]
  by_cases hq : q < n
  · by_cases hqk : k = q
    · subst hqk
      rw [if_pos rfl]
      simp only [List.length_map, List.length_range, hk, if_true, List.getElem?_map, List.getElem?_range hk, Option.map_some]
      rw [if_pos ((take_mem_succ hp _).2 (.inr hkp.symm)), hr, hgk]
    · rw [if_neg hqk]
      simp only [List.getElem?_map, List.getElem?_range hq, Option.map_some]
      have : ((q : Int) ∈ rl.take (p + 1)) ↔ ((q : Int) ∈ rl.take p) := by
        rw [take_mem_succ hp, hkp]
        constructor
        · rintro (h | h)
          · exact h
          · omega
        · exact .inl
      by_cases h : (q : Int) ∈ rl.take p
      · rw [if_pos h, if_pos (this.2 h)]
      · rw [if_neg h, if_neg (fun e => h (this.1 e))]
  · rw [if_neg (by omega)]
    simp [show ¬ q < n from hq]
end Go.Proofs.Ytffednkdmkohdaa
