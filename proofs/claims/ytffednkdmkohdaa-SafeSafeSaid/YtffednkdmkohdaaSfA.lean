/-
  safe: what is checked, as plain mathematics.
-/
import Derived.Test.YtffednkdmkohdaaGrN
import Derived.Lib.SlKeysI
set_option linter.unusedVariables false
set_option linter.unusedSimpArgs false
namespace Go.Proofs.Ytffednkdmkohdaa
open Go.RowKit Go.Maps
def badN (x : Int) : Bool := decide (x < 0) || decide (2147483647 < x)
theorem badN_no {x : Int} : badN x = false ↔ 0 ≤ x ∧ x ≤ 2147483647 := by simp [badN]
def mayS (block : Int) (xs : List Int) : Bool := !(xs.any badN) && (decide (128 ≤ block) && decide (block ≤ 4096))
theorem mayS_yes {block a b : Int} (h : mayS block [a, b] = true) : (128 ≤ block ∧ block ≤ 4096) ∧ (0 ≤ a ∧ a ≤ 2147483647) ∧ 0 ≤ b ∧ b ≤ 2147483647 := by
  simp [mayS, badN] at h
  omega
/-- how many blocks -/
def blocksN (n block : Int) : Int := if n < 1 then 0 else (n - 1) / block + 1
theorem blocksN_rem {n block : Int} (hn : 1 ≤ n) (hb : 1 ≤ block) : blocksN n block = if 0 < n % block then n / block + 1 else n / block := by
  have h1 := Int.emod_nonneg n (show block ≠ 0 by omega)
  have h2 := Int.emod_lt_of_pos n (show 0 < block by omega)
  have h3 := Int.emod_add_mul_ediv n block
  rw [blocksN, if_neg (by omega)]
  by_cases hr : 0 < n % block
  · rw [if_pos hr]
    have e : n - 1 = (n % block - 1) + block * (n / block) := by omega
    rw [e, Int.add_mul_ediv_left _ _ (by omega), Int.ediv_eq_zero_of_lt (by omega) (by omega)]
    omega
  · rw [if_neg hr]
    have e : n - 1 = (block - 1) + block * (n / block - 1) := by
      rw [Int.mul_sub, Int.mul_one]
      omega
    rw [e, Int.add_mul_ediv_left _ _ (by omega), Int.ediv_eq_zero_of_lt (by omega) (by omega)]
    omega
theorem blocksN_bound {n block : Int} (h : n ≤ 2147483647) (hb : 1 ≤ block) : 0 ≤ blocksN n block ∧ blocksN n block ≤ 2147483648 := by
  unfold blocksN
  split
  · omega
  · have h1 : 0 ≤ (n - 1) / block := Int.ediv_nonneg (by omega) (by omega)
    have h2 : (n - 1) / block ≤ n - 1 := Int.ediv_le_self _ (by omega)
    omega
/-- a block below the number of blocks begins below the image's end -/
theorem blocksN_below {n block i : Int} (hb : 1 ≤ block) (hi0 : 0 ≤ i) (hi : i < blocksN n block) : i * block < n := by
  unfold blocksN at hi
  split at hi
  · omega
  · have h1 : i ≤ (n - 1) / block := by omega
    have h2 := (Int.le_ediv_iff_mul_le (show 0 < block by omega)).1 h1
    omega
def sizeS (i block new : Int) : Int := if new - i * block < block then new - i * block else block
/-- the first so many numbers -/
def iota (n : Nat) : List Int := (List.range n).map fun (i : Nat) => (i : Int)
theorem iota_len (n : Nat) : (iota n).length = n := by simp [iota]
theorem iota_get {n i : Nat} (h : i < n) : (iota n).getD i 0 = (i : Int) := by simp [iota, List.getD, h]
theorem iota_mem {n : Nat} {x : Int} : x ∈ iota n ↔ 0 ≤ x ∧ x < n := by
  simp only [iota, List.mem_map, List.mem_range]
  constructor
  · rintro ⟨a, h, rfl⟩; omega
  · intro h; exact ⟨x.toNat, by omega, by omega⟩
theorem iota_lt (n : Nat) : (iota n).Pairwise (· < ·) := by
  unfold iota
  rw [List.pairwise_map]
  exact List.pairwise_lt_range.imp fun h => by omega
theorem iota_nodup (n : Nat) : (iota n).Nodup := (iota_lt n).imp fun h => by omega
/-- each of so many once? -/
def onceB (os : List Int) (n : Nat) : Bool := decide (os.length = n) && (List.range n).all fun i => decide (os.count (i : Int) = 1)
theorem perm_of_sub : ∀ {r os : List Int}, r.Nodup → (∀ x ∈ r, x ∈ os) → os.length ≤ r.length → os.Perm r
  | [], os, _, _, h => by
    have : os = [] := List.length_eq_zero_iff.1 (by simpa using h)
    rw [this]
  | x :: r, os, hd, hs, hl => by
    rw [List.nodup_cons] at hd
    have hx := hs x (List.mem_cons_self ..)
    have h1 := List.perm_cons_erase hx
    have h2 : (os.erase x).length = os.length - 1 := List.length_erase_of_mem hx
    refine h1.trans ((perm_of_sub hd.2 (fun y hy => ?_) (by rw [h2]; simp at hl; omega)).cons x)
    exact (List.mem_erase_of_ne (fun e => hd.1 (by rw [← e]; exact hy))).2 (hs y (List.mem_cons_of_mem _ hy))
theorem once_perm {os : List Int} {n : Nat} (h : onceB os n = true) : os.Perm (iota n) := by
  simp only [onceB, Bool.and_eq_true, decide_eq_true_eq, List.all_eq_true, List.mem_range] at h
  refine perm_of_sub (iota_nodup n) (fun x hx => ?_) (by rw [iota_len]; omega)
  have := iota_mem.1 hx
  have h2 := h.2 x.toNat (by omega)
  rw [Int.toNat_of_nonneg this.1] at h2
  exact List.count_pos_iff.1 (by omega)
theorem once_of_perm {os : List Int} {n : Nat} (h : os.Perm (iota n)) : onceB os n = true := by
  simp only [onceB, Bool.and_eq_true, decide_eq_true_eq, List.all_eq_true, List.mem_range]
  refine ⟨by rw [h.length_eq, iota_len], fun i hi => ?_⟩
  rw [h.count_eq]
  have hm : (i : Int) ∈ iota n := iota_mem.2 (by omega)
  have h1 := List.count_pos_iff.2 hm
  have h2 := List.nodup_iff_count.1 (iota_nodup n) (i : Int)
  omega
theorem once_sorted (os : List Int) (n : Nat) : onceB os n = decide (os.mergeSort (fun x y => decide (x ≤ y)) = iota n) := by
  have hs := List.mergeSort_perm os (fun x y => decide (x ≤ y))
  cases h : onceB os n
  · symm
    rw [decide_eq_false_iff_not]
    intro e
    rw [e] at hs
    rw [once_of_perm hs.symm] at h
    cases h
  · symm
    rw [decide_eq_true_eq, mergeSort_of_perm_i (once_perm h)]
    exact List.mergeSort_of_pairwise ((iota_lt n).imp fun h => decide_eq_true (Int.le_of_lt h))
theorem once_mem {os : List Int} {n : Nat} (h : onceB os n = true) {x : Int} : x ∈ os ↔ 0 ≤ x ∧ x < n := by rw [(once_perm h).mem_iff, iota_mem]
theorem once_len {os : List Int} {n : Nat} (h : onceB os n = true) : os.length = n := by rw [(once_perm h).length_eq, iota_len]
/-- the error's number ahead of all blocks -/
def aheadE (n : Nat) (os : List Int) (block old new : Int) : Int := if mayS block [old, new] then (if (n : Int) = blocksN new block ∧ onceB os n = true then 0 else 23) else 1
theorem aheadE_zero {n : Nat} {os : List Int} {block old new : Int} (h : aheadE n os block old new = 0) : mayS block [old, new] = true ∧ (n : Int) = blocksN new block ∧ onceB os n = true := by
  unfold aheadE at h
  split at h
  · rename_i h1
    split at h
    · rename_i h2; exact ⟨h1, h2⟩
    · omega
  · omega
theorem aheadE_cases (n : Nat) (os : List Int) (block old new : Int) : aheadE n os block old new = 0 ∨ aheadE n os block old new = 1 ∨ aheadE n os block old new = 23 := by
  unfold aheadE
  split
  · split
    · exact .inl rfl
    · exact .inr (.inr rfl)
  · exact .inr (.inl rfl)
def lenSum (l : List Ast) : Int := (l.map Ast.len).sum
theorem lenSum_take {l : List Ast} {j : Nat} (h : j < l.length) : lenSum (l.take (j + 1)) = lenSum (l.take j) + l[j].len := by
  unfold lenSum
  rw [List.take_succ_eq_append_getElem h, List.map_append, List.sum_append]
  simp
theorem lenSum_bound : ∀ {l : List Ast}, l.all rightB = true → 0 ≤ lenSum l ∧ lenSum l ≤ 4096 * l.length
  | [], _ => by simp [lenSum]
  | s :: l, h => by
    rw [List.all_cons, Bool.and_eq_true] at h
    have h1 := rightB_yes h.1
    have h2 := lenSum_bound h.2
    simp only [lenSum, List.map_cons, List.sum_cons, List.length_cons] at h2 ⊢
    omega
/-- does a step ask behind the image's end? -/
def overB (old : Int) (s : Ast) : Bool := decide (s.kind ≠ 1) && decide (old < s.from_ + s.len)
/-- does a step ask where something was written? -/
def lateB (block : Int) (wr : List Int) (s : Ast) : Bool := wr.any fun i => touch block i s
/-- the error's number of a plan, done behind others -/
def oneE (l : List Ast) (wr : List Int) (block old want : Int) : Int :=
  if l.all rightB then (if lenSum l = want then (if l.any (overB old) then 5 else if l.any (lateB block wr) then 23 else 0) else 13) else 3
/-- the first that isn't zero -/
def firstNZ (f : Nat → Int) : Nat → Int
  | 0 => 0
  | n + 1 => if firstNZ f n = 0 then f n else firstNZ f n
theorem firstNZ_at {f : Nat → Int} {k n : Nat} (h0 : firstNZ f k = 0) (hk : k < n) (h : f k ≠ 0) : firstNZ f n = f k := by
  induction n with
  | zero => omega
  | succ n ih =>
    rw [firstNZ]
    by_cases hkn : k = n
    · subst hkn
      rw [if_pos h0]
    · have := ih (by omega)
      rw [if_neg (by rw [this]; exact h), this]
theorem firstNZ_step {f : Nat → Int} {k : Nat} (h0 : firstNZ f k = 0) (h : f k = 0) : firstNZ f (k + 1) = 0 := by rw [firstNZ, if_pos h0, h]
def oneAt (ps : List (List Ast)) (os : List Int) (block old new : Int) (k : Nat) : Int := oneE (ps.getD (os.getD k 0).toNat []) (os.take k) block old (sizeS (os.getD k 0) block new)
def checkE (ps : List (List Ast)) (os : List Int) (block old new : Int) : Int :=
  if aheadE ps.length os block old new = 0 then firstNZ (oneAt ps os block old new) os.length else aheadE ps.length os block old new
/-- which blocks were written -/
def marks (n : Nat) (wr : List Int) : Array Value := ((List.range n).map fun (i : Nat) => Value.bool (decide ((i : Int) ∈ wr))).toArray
theorem marks_size (n : Nat) (wr : List Int) : (marks n wr).size = n := by simp [marks]
theorem marks_get {n : Nat} (wr : List Int) {i : Nat} (h : i < n) : (marks n wr)[i]? = some (.bool (decide ((i : Int) ∈ wr))) := by simp [marks, h]
theorem marks_nil (n : Nat) : Array.replicate n (Value.bool false) = marks n [] := by
  apply Array.ext_getElem?
  intro i
  simp [marks, Array.getElem?_replicate, List.getElem?_range]
  by_cases h : i < n <;> simp [h]
theorem marks_set {n : Nat} (wr : List Int) {i : Nat} (h : i < n) : (marks n wr).setIfInBounds i (.bool true) = marks n (wr ++ [(i : Int)]) := by
  apply Array.ext_getElem?
  intro j
  rw [Array.getElem?_setIfInBounds, marks_size]
  by_cases hij : i = j
  · subst hij
    rw [if_pos rfl, if_pos h, marks_get _ h]
    simp
  · rw [if_neg hij]
    by_cases hj : j < n
    · rw [marks_get _ hj, marks_get _ hj]
      congr 2
      rw [decide_eq_decide]
      simp only [List.mem_append, List.mem_singleton]
      constructor
      · exact fun h => .inl h
      · rintro (h | h)
        · exact h
        · omega
    · rw [Array.getElem?_eq_none (by rw [marks_size]; omega), Array.getElem?_eq_none (by rw [marks_size]; omega)]
theorem take_getD {os : List Int} {k : Nat} (h : k < os.length) : os.take (k + 1) = os.take k ++ [os.getD k 0] := by
  rw [List.take_succ_eq_append_getElem h]
  simp [List.getD, h]
theorem getD_mem {os : List Int} {k : Nat} (h : k < os.length) : os.getD k 0 ∈ os := by
  simp [List.getD, h]
end Go.Proofs.Ytffednkdmkohdaa
