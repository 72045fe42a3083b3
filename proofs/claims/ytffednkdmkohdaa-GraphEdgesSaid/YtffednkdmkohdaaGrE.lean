/-
  graph: rows of rows: has, Great, right, Right (contracts).
-/
import Derived.Test.YtffednkdmkohdaaGrD
import Derived.Test.YtffednkdmkohdaaGrO
set_option linter.unusedVariables false
set_option linter.unusedSimpArgs false
namespace Go.Proofs.Ytffednkdmkohdaa
open Go.RowKit
/-- rows of numbers -/
structure Grid (w0 : World) (L : List Ent) (A : Option Addr) (n : Nat) (rows : List (Arow Int)) : Prop where mk :: (R : RdM w0 L arC 1 A n rows) (row : ∀ r ∈ rows, RdS w0 L .i64 r.A r.n r.l ∧ r.n ≤ r.c)
theorem Grid.cov {w0 : World} {T L : List Ent} {A : Option Addr} {n : Nat} {rows : List (Arow Int)} (h : Grid w0 T A n rows) (hc : Cov T L) : Grid w0 L A n rows := ⟨h.R.cov hc, fun r hr => ⟨(h.row r hr).1.cov hc, (h.row r hr).2⟩⟩
def greatG (rows : List (Arow Int)) : Bool := decide (40 < rows.length) || rows.any fun r => decide (60 < r.n)
theorem greatG_no {l : List (Arow Int)} (h : greatG l = false) : l.length ≤ 40 ∧ ∀ s ∈ l, s.n ≤ 60 := by
  simp only [greatG, Bool.or_eq_false_iff, decide_eq_false_iff_not, List.any_eq_false, decide_eq_true_eq] at h
  exact ⟨by omega, fun s hs => by have := h.2 s hs; omega⟩
/-- is number k of a row right? -/
def okAt (N i : Int) (xs : List Int) (k : Nat) : Bool := !(decide (xs.getD k 0 < 0) || (decide (N ≤ xs.getD k 0) || (decide (xs.getD k 0 = i) || (decide (0 < k) && decide (xs.getD k 0 ≤ xs.getD (k - 1) 0)))))
def okRow (N i : Int) (xs : List Int) : Bool := (List.range xs.length).all (okAt N i xs)
def rightG (rs : List (List Int)) : Bool := (List.range rs.length).all (fun (i : Nat) => okRow rs.length i (rs.getD i [])) && decide (rs.length ≤ 4096)
theorem range_all_bad {p : Nat → Bool} {n k : Nat} (hk : k < n) (h : p k = false) : (List.range n).all p = false := by
  rw [List.all_eq_false]
  exact ⟨k, List.mem_range.2 hk, by rw [h]; simp⟩
theorem range_all_succ (p : Nat → Bool) (n : Nat) : (List.range (n + 1)).all p = ((List.range n).all p && p n) := by
  rw [List.range_succ, List.all_append]; simp

section
variable {w0 w : World} {L : List Ent} {A : Option Addr} {n c : Nat} {xs : List Int} {rows : List (Arow Int)}
set_option maxRecDepth 100000 in
theorem rhas_any (K : Known w0 w L) (R : RdS w0 L .i64 A n xs) (hc : n ≤ c) (hn : n ≤ 1000000000) (x : Int) : Calls Try.prog 52 #[.slice A n c, .int .i64 x] w fun e w' => e = .returned (.bool (decide (x ∈ xs))) ∧ w = w' := by
  have hl := R.len
  go_enter Try.func52, Try.ntmps52
  go_upto_region 2 with (fail)
  go_loopg [8] n (fun q v wr => ∃ (j : Nat), v = .int .i64 j ∧ j + q = n ∧ wr = w ∧ Hid (x ∉ xs.take j))
  case atStart => exact ⟨0, by go_num, by omega, rfl, Lib.hid (by simp)⟩
  case round =>
    obtain ⟨j, rfl, hdj, rfl, HE⟩ := hrel
    by_cases hj : j < n
    · have hj2 : decide ((j : Int) < (n : Int)) = true := decide_eq_true (by omega)
      have hjj : (0 : Int) ≤ (j : Int) ∧ (j : Int) < (n : Int) := by omega
      have i1 := IntWalk.i64_in ((j : Int) + 1) (by omega)
      obtain ⟨b, off, rfl⟩ := R.form K (by omega)
      obtain ⟨u, hu⟩ : ∃ u, xs.getD j 0 = u := ⟨_, rfl⟩
      have HU := Lib.hid hu
      have HM := Lib.hid (show u ∈ xs by rw [← hu]; simp [List.getD, show j < xs.length by omega])
      have HT := Lib.hid (show xs.take (j + 1) = xs.take j ++ [u] by rw [List.take_succ_eq_append_getElem (by omega), ← hu]; simp [List.getD, show j < xs.length by omega])
      clear hu hl
      by_cases hux : u = x
      · have e1 : (u == x) = true := by simpa using hux
        have HR := Lib.hid (show decide (x ∈ xs) = true from decide_eq_true (by rw [← hux]; exact HM.out))
        clear hux
        go_wp2_with (first | ((with_reducible refine at_load rfl ?_); first | (refine wpList_reads (by rfl) (kr_load_cell K _ _ (by rfl) (by rfl) Has.auto (by decide +kernel) (by (try simp only [List.getElem?_toArray, List.getElem?_cons_succ, List.getElem?_cons_zero]); exact rfl)) ?_) | (refine wpList_reads (by rfl) (kr_load_row K _ _ (by rfl) (by rfl) Has.auto (by decide +kernel) (by kernel_rfl)) ?_) | (refine wpList_reads (by rfl) (kr_load_fact _ _ (by rfl) (by rfl) (R.cell K (by omega) HU.out rfl) (by decide +kernel)) ?_)))
        go_ret
        exact ⟨by rw [HR.out]; rfl, rfl⟩
      · have e1 : (u == x) = false := by simpa using hux
        go_wp2_with (first | ((with_reducible refine at_load rfl ?_); first | (refine wpList_reads (by rfl) (kr_load_cell K _ _ (by rfl) (by rfl) Has.auto (by decide +kernel) (by (try simp only [List.getElem?_toArray, List.getElem?_cons_succ, List.getElem?_cons_zero]); exact rfl)) ?_) | (refine wpList_reads (by rfl) (kr_load_row K _ _ (by rfl) (by rfl) Has.auto (by decide +kernel) (by kernel_rfl)) ?_) | (refine wpList_reads (by rfl) (kr_load_fact _ _ (by rfl) (by rfl) (R.cell K (by omega) HU.out rfl) (by decide +kernel)) ?_)))
        go_roundg (gk - 1)
        case measure => omega
        case rel => exact ⟨j + 1, by go_num, by omega, rfl, Lib.hid (by rw [HT.out]; simp only [List.mem_append, List.mem_singleton]; rintro (h | h); exact HE.out h; exact hux h.symm)⟩
    · have hj2 : decide ((j : Int) < (n : Int)) = false := decide_eq_false (by omega)
      have HR := Lib.hid (show decide (x ∈ xs) = false from decide_eq_false (by have := HE.out; rw [List.take_of_length_le (by omega)] at this; exact this))
      go_wp2
      go_ret
      exact ⟨by rw [HR.out]; rfl, rfl⟩
set_option maxRecDepth 100000 in
theorem ggreat_any (K : Known w0 w L) (G : Grid w0 L A n rows) (hc : n ≤ c) : Calls Try.prog 19 #[.slice A n c] w fun e w' => e = .returned (.bool (greatG rows)) ∧ w = w' := by
  have hl := G.R.len
  by_cases h0 : 40 < n
  · have hb : decide (40 < (n : Int)) = true := decide_eq_true (by omega)
    have HG := Lib.hid (show greatG rows = true by rw [greatG, decide_eq_true (by omega)]; rfl)
    clear hl
    go_enter Try.func19, Try.ntmps19
    go_wp2
    go_ret
    exact ⟨by rw [HG.out]; rfl, rfl⟩
  · have hb : decide (40 < (n : Int)) = false := decide_eq_false (by omega)
    have HG := Lib.hid (show greatG rows = rows.any (fun s => decide (60 < s.n)) by rw [greatG, decide_eq_false (by omega)]; rfl)
    go_enter Try.func19, Try.ntmps19
    go_upto_region 4 with (fail)
    go_loopg [9] n (fun d v wr => ∃ (j : Nat), v = .int .i64 j ∧ j + d = n ∧ wr = w ∧ Hid (rows.any (fun s => decide (60 < s.n)) = (rows.drop j).any fun s => decide (60 < s.n)))
    case atStart => exact ⟨0, by go_num, by omega, rfl, Lib.hid rfl⟩
    case round =>
      obtain ⟨j, rfl, hd, rfl, HE⟩ := hrel
      by_cases hj : j < n
      · have hj2 : decide ((j : Int) < (n : Int)) = true := decide_eq_true (by omega)
        have hjj : (0 : Int) ≤ (j : Int) ∧ (j : Int) < (n : Int) := by omega
        have i1 := IntWalk.i64_in ((j : Int) + 1) (by omega)
        obtain ⟨b, off, rfl⟩ := G.R.form K (by omega)
        obtain ⟨r, hp⟩ : ∃ r, r = rows[j]'(by omega) := ⟨_, rfl⟩
        have HP := Lib.hid (show encAt arC rows j = [.slice r.A r.n r.c] by rw [encAt_get (by omega), ← hp]; rfl)
        have HD := Lib.hid (show (rows.drop j).any (fun s => decide (60 < s.n)) = (decide (60 < r.n) || (rows.drop (j + 1)).any fun s => decide (60 < s.n)) by rw [List.drop_eq_getElem_cons (by omega), hp]; rfl)
        clear hp hl
        by_cases hg : 60 < r.n
        · have hg2 : decide (60 < (r.n : Int)) = true := decide_eq_true (by omega)
          go_wp2_with (first | ((with_reducible refine at_load rfl ?_); refine wpList_reads (by rfl) (kr_load_rcell K _ _ (by rfl) (j) 0 (by rfl) (G.R.cov Cov.auto) (by omega) HP.out (by rfl) (by omega) (by kernel_rfl)) ?_))
          go_ret
          exact ⟨by rw [HG.out, HE.out, HD.out, decide_eq_true hg]; rfl, rfl⟩
        · have hg2 : decide (60 < (r.n : Int)) = false := decide_eq_false (by omega)
          go_wp2_with (first | ((with_reducible refine at_load rfl ?_); refine wpList_reads (by rfl) (kr_load_rcell K _ _ (by rfl) (j) 0 (by rfl) (G.R.cov Cov.auto) (by omega) HP.out (by rfl) (by omega) (by kernel_rfl)) ?_))
          go_roundg (gk - 1)
          case measure => omega
          case rel => exact ⟨j + 1, by go_num, by omega, rfl, Lib.hid (by rw [HE.out, HD.out, decide_eq_false hg]; rfl)⟩
      · have hj2 : decide ((j : Int) < (n : Int)) = false := decide_eq_false (by omega)
        go_wp2
        go_ret
        exact ⟨by rw [HG.out, HE.out, List.drop_eq_nil_of_le (by omega)]; rfl, rfl⟩
end
end Go.Proofs.Ytffednkdmkohdaa
