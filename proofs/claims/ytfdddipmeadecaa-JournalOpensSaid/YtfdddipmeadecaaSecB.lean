/-
  sector: a device as plain mathematics.
-/
import Derived.Test.YtfdddipmeadecaaMapR
import Derived.Test.YtfdddipmeadecaaSlices
import Derived.Deep.Cut
import Derived.Deep.LoopGhost
set_option linter.unusedVariables false
set_option linter.unusedSimpArgs false
namespace Go.Proofs.Ytfdddipmeadecaa
open Go.RowKit

structure Face where
  (b : List Int) (torn : Bool)
abbrev AMap := List (Int × Face)
def afind : AMap → Int → Option Face
  | [], _ => none
  | (k, f) :: l, i => if i = k then some f else afind l i
/-- a sector into a row, in its place -/
def aput : AMap → Int → Face → AMap
  | [], i, f => [(i, f)]
  | (k, g) :: l, i, f => if i < k then (i, f) :: (k, g) :: l else if i = k then (i, f) :: l else (k, g) :: aput l i f
def Rising (l : AMap) : Prop := l.Pairwise (fun p q => p.1 < q.1)
theorem afind_put (i : Int) (f : Face) (j : Int) : ∀ l : AMap, afind (aput l i f) j = if j = i then some f else afind l j
  | [] => rfl
  | (k, g) :: l => by
    unfold aput
    by_cases h1 : i < k
    · rw [if_pos h1]; rfl
    · rw [if_neg h1]
      by_cases h2 : i = k
      · rw [if_pos h2]
        subst h2
        unfold afind
        by_cases h3 : j = i
        · simp [h3]
        · simp [h3]
      · rw [if_neg h2]
        unfold afind
        rw [afind_put i f j l]
        by_cases h3 : j = k
        · rw [if_pos h3, if_pos h3, if_neg (by omega)]
        · rw [if_neg h3, if_neg h3]
theorem mem_aput {i : Int} {f : Face} {p : Int × Face} : ∀ {l : AMap}, p ∈ aput l i f → p = (i, f) ∨ p ∈ l
  | [], h => by simpa [aput] using h
  | (k, g) :: l, h => by
    unfold aput at h
    split at h
    · rcases List.mem_cons.1 h with h | h
      · exact .inl h
      · exact .inr h
    · split at h
      · rcases List.mem_cons.1 h with h | h
        · exact .inl h
        · exact .inr (List.mem_cons_of_mem _ h)
      · rcases List.mem_cons.1 h with h | h
        · exact .inr (by rw [h]; exact List.mem_cons_self ..)
        · rcases mem_aput h with h | h
          · exact .inl h
          · exact .inr (List.mem_cons_of_mem _ h)
theorem rising_put {i : Int} {f : Face} : ∀ {l : AMap}, Rising l → Rising (aput l i f)
  | [], _ => by simp [aput, Rising]
  | (k, g) :: l, h => by
    obtain ⟨h1, h2⟩ := List.pairwise_cons.1 h
    unfold aput
    split
    · next hc =>
      refine List.pairwise_cons.2 ⟨fun q hq => ?_, h⟩
      rcases List.mem_cons.1 hq with rfl | hq
      · exact hc
      · have := h1 q hq
        show i < q.1
        exact Int.lt_trans hc this
    · split
      · next hc => subst hc; exact List.pairwise_cons.2 ⟨h1, h2⟩
      · next hc hd =>
        refine List.pairwise_cons.2 ⟨fun q hq => ?_, rising_put h2⟩
        rcases mem_aput hq with rfl | hq
        · show k < i
          omega
        · exact h1 q hq
theorem afind_mem {i : Int} {f : Face} : ∀ {l : AMap}, afind l i = some f → (i, f) ∈ l
  | [], h => by cases h
  | (k, g) :: l, h => by
    unfold afind at h
    split at h
    · next hc => injection h with h; subst hc; subst h; exact List.mem_cons_self ..
    · exact List.mem_cons_of_mem _ (afind_mem h)
theorem afind_none {i : Int} : ∀ {l : AMap}, afind l i = none → ∀ p ∈ l, p.1 ≠ i
  | [], _, p, hp => by cases hp
  | (k, g) :: l, h, p, hp => by
    unfold afind at h
    split at h
    · cases h
    · next hc =>
      rcases List.mem_cons.1 hp with rfl | hp
      · exact fun e => hc e.symm
      · exact afind_none h p hp
theorem aput_len {i : Int} {f : Face} : ∀ {l : AMap}, Rising l → (aput l i f).length = if (afind l i).isSome then l.length else l.length + 1
  | [], _ => rfl
  | (k, g) :: l, h => by
    obtain ⟨h1, h2⟩ := List.pairwise_cons.1 h
    unfold aput afind
    by_cases hlt : i < k
    · simp only [hlt, if_true, show ¬ i = k by omega, if_false]
      have hn : afind l i = none := by
        cases hq : afind l i with
        | none => rfl
        | some f' =>
          have := h1 _ (afind_mem hq)
          simp only at this
          omega
      simp [hn]
    · simp only [hlt, if_false]
      by_cases he : i = k
      · simp [he]
      · simp only [he, if_false, List.length_cons, aput_len h2]
        split <;> simp

structure Dev where
  (size count : Nat) (kept waits : AMap) (off : Bool) (offs fuse writes : Int)
def FaceOk (size : Nat) (f : Face) : Prop := (f.torn = false → f.b.length = size) ∧ (f.torn = true → f.b = []) ∧ ∀ v ∈ f.b, 0 ≤ v ∧ v ≤ 255
structure DevOk (D : Dev) : Prop where mk ::
  (size : 128 ≤ D.size ∧ D.size ≤ 4096) (count : 1 ≤ D.count ∧ D.count ≤ 1048576) (rk : Rising D.kept) (rw_ : Rising D.waits)
  (fk : ∀ p ∈ D.kept, FaceOk D.size p.2 ∧ 0 ≤ p.1 ∧ p.1 < D.count) (fw : ∀ p ∈ D.waits, FaceOk D.size p.2 ∧ 0 ≤ p.1 ∧ p.1 < D.count)
  (offs : 0 ≤ D.offs ∧ D.offs ≤ 1000000000000) (fuse : -1 ≤ D.fuse ∧ D.fuse ≤ 9223372036854775807) (writes : 0 ≤ D.writes ∧ D.writes ≤ 1000000000000)
def Dev.new (size count : Nat) : Dev := ⟨size, count, [], [], false, 0, -1, 0⟩
def dmay (D : Dev) (i : Int) : Int := if D.off then 8 else if i < 0 ∨ (D.count : Int) ≤ i then 5 else 0
def dface (D : Dev) (i : Int) : Option Face := match afind D.waits i with
  | some f => some f
  | none => afind D.kept i
def dread (D : Dev) (i : Int) : List Int × Int :=
  if dmay D i ≠ 0 then ([], dmay D i) else match dface D i with
    | none => (List.replicate D.size 0, 0)
    | some f => if f.torn then ([], 7) else (f.b, 0)
def dfall (D : Dev) : Dev := if D.off then D else { D with off := true, offs := D.offs + 1 }
def dput (D : Dev) (i : Int) (b : List Int) : Dev := { D with waits := aput D.waits i ⟨b, false⟩ }
def dwrite (D : Dev) (i : Int) (b : List Int) : Int × Dev :=
  if dmay D i ≠ 0 then (dmay D i, D) else if b.length ≠ D.size then (3, D) else if D.fuse = 0 then (8, dfall (dput D i b)) else (0, { dput D i b with fuse := if 0 < D.fuse then D.fuse - 1 else D.fuse, writes := D.writes + 1 })
theorem dput_ok {D : Dev} (h : DevOk D) {i : Int} {b : List Int} (hi : 0 ≤ i ∧ i < D.count) (hl : b.length = D.size) (hb : ∀ v ∈ b, 0 ≤ v ∧ v ≤ 255) : DevOk (dput D i b) :=
  ⟨h.size, h.count, h.rk, rising_put h.rw_, h.fk, fun p hp => by
    rcases mem_aput hp with rfl | hp
    · exact ⟨⟨fun _ => hl, (fun h => absurd h (by simp)), hb⟩, hi⟩
    · exact h.fw p hp, h.offs, h.fuse, h.writes⟩
theorem dmay_zero {D : Dev} {i : Int} (h : dmay D i = 0) : D.off = false ∧ 0 ≤ i ∧ i < D.count := by
  unfold dmay at h
  split at h
  · cases h
  · next h1 =>
    split at h
    · cases h
    · next h2 => exact ⟨by simpa using h1, by omega, by omega⟩
theorem dread_len {D : Dev} (h : DevOk D) (i : Int) : (dread D i).1.length ≤ D.size := by
  unfold dread
  split
  · simp
  · unfold dface
    cases hw : afind D.waits i with
    | some f =>
      simp only
      have := (h.fw _ (afind_mem hw)).1
      cases ht : f.torn
      · simp [this.1 ht]
      · simp
    | none =>
      cases hk : afind D.kept i with
      | none => simp
      | some f =>
        simp only
        have := (h.fk _ (afind_mem hk)).1
        cases ht : f.torn
        · simp [this.1 ht]
        · simp
end Go.Proofs.Ytfdddipmeadecaa

/-
  sector: a device in memory; New, IsOn, may, Read, burns, Off, Write (contracts).
-/
set_option linter.unusedVariables false
set_option linter.unusedSimpArgs false
namespace Go.Proofs.Ytfdddipmeadecaa
open Go.RowKit

/-- a face's value -/
def FaceV (w0 : World) (Y : List Ent) (f : Face) (v : Value) : Prop := ∃ A n c, v = .agg #[.slice A n c, .bool f.torn] ∧ RdS w0 Y .u8 A n f.b ∧ n ≤ c
/-- a map of faces -/
structure MapIs (w0 : World) (Y : List Ent) (l : List ME) (c : Nat) (m : AMap) : Prop where mk ::
  (some_ : ∀ i f, afind m i = some f → ∃ v, mget l i = some v ∧ FaceV w0 Y f v) (none_ : ∀ i, afind m i = none → mget l i = none)
  (len : l.length = m.length) (nd : (l.map ME.k).Nodup) (born : l.Pairwise (fun p q => p.b < q.b)) (lt : ∀ e ∈ l, e.b < c)
theorem FaceV.cov {w0 : World} {T Y : List Ent} {f : Face} {v : Value} (h : FaceV w0 T f v) (hc : Cov T Y) : FaceV w0 Y f v := by
  obtain ⟨A, n, c, e, R, hn⟩ := h
  exact ⟨A, n, c, e, R.cov hc, hn⟩
theorem MapIs.cov {w0 : World} {T Y : List Ent} {l : List ME} {c : Nat} {m : AMap} (h : MapIs w0 T l c m) (hc : Cov T Y) : MapIs w0 Y l c m :=
  ⟨fun i f hf => by obtain ⟨v, h1, h2⟩ := h.some_ i f hf; exact ⟨v, h1, h2.cov hc⟩, h.none_, h.len, h.nd, h.born, h.lt⟩
theorem MapIs.nil (w0 : World) (Y : List Ent) (c : Nat) : MapIs w0 Y [] c [] := ⟨(fun i f h => by cases h), fun i _ => rfl, rfl, by simp, by simp, by simp⟩
theorem mput_mem {x : Int} {v : Value} {c : Nat} {e : ME} : ∀ {l : List ME}, e ∈ mput l x v c → (e.b = c ∧ mget l x = none) ∨ ∃ e' ∈ l, e'.b = e.b
  | [], h => by
    simp only [mput, List.mem_singleton] at h
    subst h
    exact .inl ⟨rfl, rfl⟩
  | a :: l, h => by
    unfold mput at h
    rw [mget_cons]
    split at h
    · next hx =>
      rcases List.mem_cons.1 h with rfl | h
      · exact .inr ⟨a, List.mem_cons_self .., rfl⟩
      · exact .inr ⟨e, List.mem_cons_of_mem _ h, rfl⟩
    · next hx =>
      rw [if_neg hx]
      rcases List.mem_cons.1 h with rfl | h
      · exact .inr ⟨e, List.mem_cons_self .., rfl⟩
      · rcases mput_mem h with h | ⟨e', h2, h3⟩
        · exact .inl h
        · exact .inr ⟨e', List.mem_cons_of_mem _ h2, h3⟩
theorem mget_mput (x : Int) (v : Value) (c : Nat) (j : Int) : ∀ l : List ME, mget (mput l x v c) j = if j = x then some v else mget l j
  | [] => by
    unfold mput
    rw [mget_cons]
  | a :: l => by
    unfold mput
    by_cases h : x = a.k
    · rw [if_pos h, mget_cons, mget_cons]
      subst h
      by_cases h2 : j = a.k <;> simp [h2]
    · rw [if_neg h, mget_cons, mget_cons, mget_mput x v c j l]
      by_cases h2 : j = a.k
      · rw [if_pos h2, if_pos h2, if_neg (by omega)]
      · rw [if_neg h2, if_neg h2]
theorem mput_len (x : Int) (v : Value) (c : Nat) : ∀ l : List ME, (mput l x v c).length = if (mget l x).isSome then l.length else l.length + 1
  | [] => rfl
  | a :: l => by
    unfold mput
    rw [mget_cons]
    by_cases h : x = a.k
    · simp [h]
    · simp only [h, if_false, List.length_cons, mput_len x v c l]
      split <;> simp
theorem mput_keys (x : Int) (v : Value) (c : Nat) : ∀ l : List ME, (mput l x v c).map ME.k = if (mget l x).isSome then l.map ME.k else l.map ME.k ++ [x]
  | [] => rfl
  | a :: l => by
    unfold mput
    rw [mget_cons]
    by_cases h : x = a.k
    · simp [h]
    · simp only [h, if_false, List.map_cons, mput_keys x v c l]
      split <;> simp
theorem mget_none_keys {x : Int} : ∀ {l : List ME}, mget l x = none → x ∉ l.map ME.k
  | [], _ => by simp
  | a :: l, h => by
    rw [mget_cons] at h
    by_cases hx : x = a.k
    · simp [hx] at h
    · rw [if_neg hx] at h
      simp only [List.map_cons, List.mem_cons, not_or]
      exact ⟨hx, mget_none_keys h⟩
theorem mput_born {x : Int} {v : Value} {c : Nat} : ∀ {l : List ME}, l.Pairwise (fun p q => p.b < q.b) → (∀ e ∈ l, e.b < c) → (mput l x v c).Pairwise (fun p q => p.b < q.b)
  | [], _, _ => by simp [mput]
  | a :: l, h, hl => by
    obtain ⟨h1, h2⟩ := List.pairwise_cons.1 h
    unfold mput
    split
    · exact List.pairwise_cons.2 ⟨h1, h2⟩
    · refine List.pairwise_cons.2 ⟨fun e he => ?_, mput_born h2 (fun e he => hl e (List.mem_cons_of_mem _ he))⟩
      rcases mput_mem he with ⟨h3, _⟩ | ⟨e', h3, h4⟩
      · rw [h3]; exact hl a (List.mem_cons_self ..)
      · rw [← h4]; exact h1 e' h3
theorem MapIs.put {w0 : World} {Y : List Ent} {l : List ME} {c : Nat} {m : AMap} (h : MapIs w0 Y l c m) (hr : Rising m) {i : Int} {f : Face} {v : Value} (hv : FaceV w0 Y f v) :
    MapIs w0 Y (mput l i v c) (if mhas l i then c else c + 1) (aput m i f) := by
  have hs : (mget l i).isSome = (afind m i).isSome := by
    cases hq : afind m i with
    | none => rw [h.none_ i hq]; rfl
    | some f' =>
      obtain ⟨v', h1, _⟩ := h.some_ i f' hq
      rw [h1]; rfl
  refine ⟨fun j g hj => ?_, fun j hj => ?_, ?_, ?_, mput_born h.born h.lt, fun e he => ?_⟩
  · rw [afind_put] at hj
    rw [mget_mput]
    by_cases hji : j = i
    · rw [if_pos hji] at hj ⊢
      injection hj with hj
      subst hj
      exact ⟨v, rfl, hv⟩
    · rw [if_neg hji] at hj ⊢
      exact h.some_ j g hj
  · rw [afind_put] at hj
    rw [mget_mput]
    by_cases hji : j = i
    · rw [if_pos hji] at hj; cases hj
    · rw [if_neg hji] at hj ⊢
      exact h.none_ j hj
  · rw [mput_len, aput_len hr, hs, h.len]
  · rw [mput_keys]
    split
    · exact h.nd
    · next hn =>
      have : mget l i = none := by cases hq : mget l i with
        | none => rfl
        | some _ => rw [hq] at hn; simp at hn
      rw [List.nodup_append]
      refine ⟨h.nd, by simp, fun a ha b hb => ?_⟩
      simp only [List.mem_singleton] at hb
      subst hb
      intro e
      subst e
      exact mget_none_keys this ha
  · rw [mhas_get]
    have hle : e.b < c ∨ (e.b = c ∧ (mget l i).isSome = false) := by
      rcases mput_mem he with ⟨h3, h4⟩ | ⟨e', h3, h4⟩
      · exact .inr ⟨h3, by rw [h4]; rfl⟩
      · left; rw [← h4]; exact h.lt e' h3
    rcases hle with hl | ⟨hl, hn⟩
    · split <;> omega
    · rw [hn]; simp; omega
/-- a device -/
structure DevIs (w0 : World) (g : Nat) (D : Dev) (X : List Ent) : Prop where mk ::
  (out : ∃ mk mw lk ck lw cw fz Y, X = row g #[.int .i64 (D.size : Nat), .int .i64 (D.count : Nat), .map (some mk), .map (some mw), .bool D.off, .int .i64 D.offs, .bool (decide (0 ≤ D.fuse)), .int .i64 fz, .int .u64 D.writes] 62 :: mrow mk lk ck :: mrow mw lw cw :: Y ∧ (0 ≤ D.fuse → fz = D.fuse) ∧ MapIs w0 Y lk ck D.kept ∧ MapIs w0 Y lw cw D.waits)
  (ok : DevOk D)


theorem at_makeMap {P : Program} {ops : Array Oper} {rest : List Oper} {o : Oper} {a : Act} {Q : Exit → Act → World → Prop} {W : World} {t : TypeId} {x : Option Operand} (_h : o.op = .makeMap t x) (k : wpList P ops Q (o :: rest) a W) : wpList P ops Q (o :: rest) a W := k
section
variable {w0 w : World} {L X : List Ent} {g : Nat} {D : Dev}
theorem devNew_ok {size count : Nat} (h1 : 128 ≤ size ∧ size ≤ 4096) (h2 : 1 ≤ count ∧ count ≤ 1048576) : DevOk (Dev.new size count) :=
  ⟨h1, h2, by simp [Dev.new, Rising], by simp [Dev.new, Rising], by simp [Dev.new], by simp [Dev.new], by simp [Dev.new], by simp [Dev.new], by simp [Dev.new]⟩
set_option maxRecDepth 100000 in
theorem snew_yes (K : Known w0 w L) (size count : Nat) (h1 : 128 ≤ size ∧ size ≤ 4096) (h2 : 1 ≤ count ∧ count ≤ 1048576) : Calls Try.prog 6 #[.int .i64 size, .int .i64 count] w fun e w' => ∃ g, e = .returned (.tuple #[.pointer (some ⟨g, 0, none⟩), .int .i64 0]) ∧ ∃ X, DevIs w0 g (Dev.new size count) X ∧ Known w0 w' (X ++ L) := by
  have a1 : decide ((size : Int) < 128) = false := decide_eq_false (by omega)
  have a2 : decide (4096 < (size : Int)) = false := decide_eq_false (by omega)
  have a3 : decide ((count : Int) < 1) = false := decide_eq_false (by omega)
  have a4 : decide (1048576 < (count : Int)) = false := decide_eq_false (by omega)
  go_enter Try.func6, Try.ntmps6
  go_wp2_with (first | ((with_reducible refine at_slot (N := 22) rfl ?_); (with_reducible refine at_makeMap rfl ?_); refine wpList_does rfl (kd_makeMap K rfl) ?_; clear K; rintro _ w1 ⟨mk, rfl, K⟩) | ((with_reducible refine at_slot (N := 23) rfl ?_); (with_reducible refine at_makeMap rfl ?_); refine wpList_does rfl (kd_makeMap K rfl) ?_; clear K; rintro _ w1 ⟨mw, rfl, K⟩) | ((with_reducible refine at_box rfl ?_); refine wpList_does rfl (kd_box K _ _ rfl (by conv => lhs; whnf)) ?_; clear K; rintro _ w1 ⟨g, rfl, K⟩; (try dsimp only [Value.cells] at K)))
  go_ret2
  have K2 : Known w0 _ (row g #[.int .i64 (size : Nat), .int .i64 (count : Nat), .map (some mk), .map (some mw), .bool false, .int .i64 0, .bool false, .int .i64 0, .int .u64 0] 62 :: mrow mk [] 0 :: mrow mw [] 0 :: L) := K.cov Cov.auto
  exact ⟨g, rfl, _, ⟨⟨mk, mw, [], 0, [], 0, 0, [], rfl, by simp [Dev.new], MapIs.nil _ _ _, MapIs.nil _ _ _⟩, devNew_ok h1 h2⟩, K2⟩
set_option maxRecDepth 100000 in
theorem snew_no (K : Known w0 w L) (size count : Int) (h : ¬ ((128 ≤ size ∧ size ≤ 4096) ∧ 1 ≤ count ∧ count ≤ 1048576)) : Calls Try.prog 6 #[.int .i64 size, .int .i64 count] w fun e w' => e = .returned (.tuple #[.pointer none, .int .i64 1]) ∧ Known w0 w' L := by
  have H := Lib.hid h
  clear h
  go_enter Try.func6, Try.ntmps6
  go_wp2_with (first | ((with_reducible refine at_slot (N := 22) rfl ?_); (with_reducible refine at_makeMap rfl ?_); refine wpList_does rfl (kd_makeMap K rfl) ?_; clear K; rintro _ w1 ⟨mk, rfl, K⟩) | ((with_reducible refine at_slot (N := 23) rfl ?_); (with_reducible refine at_makeMap rfl ?_); refine wpList_does rfl (kd_makeMap K rfl) ?_; clear K; rintro _ w1 ⟨mw, rfl, K⟩) | ((with_reducible refine at_box rfl ?_); refine wpList_does rfl (kd_box K _ _ rfl (by conv => lhs; whnf)) ?_; clear K; rintro _ w1 ⟨g, rfl, K⟩; (try dsimp only [Value.cells] at K)))
  all_goals
    go_ret2
    first
    | exact ⟨rfl, K⟩
    | (exfalso; have := H.out; omega)
set_option maxRecDepth 100000 in
theorem son_any (K : Known w0 w (X ++ L)) (hD : DevIs w0 g D X) : Calls Try.prog 22 #[.pointer (some ⟨g, 0, none⟩)] w fun e w' => e = .returned (.bool (!D.off)) ∧ w = w' := by
  obtain ⟨mk, mw, lk, ck, lw, cw, fz, Y, rfl, hfz, HK, HW⟩ := hD.out
  have hok := hD.ok
  simp only [List.cons_append] at K
  clear hD hok HK HW hfz
  go_enter Try.func22, Try.ntmps22
  go_wp2_with (first | ((with_reducible refine at_eqnil rfl ?_); refine wpList_reads rfl (kr_eqnil rfl rfl (by kernel_rfl)) ?_) | ((with_reducible refine at_box rfl ?_); refine wpList_does rfl (kd_box K _ _ rfl (by conv => lhs; whnf)) ?_; clear K; rintro _ w1 ⟨g, rfl, K⟩; (try dsimp only [Value.cells] at K)) | ((with_reducible refine at_alloc rfl ?_); refine wpList_does rfl (kd_alloc K _ rfl rfl) ?_; clear K; rintro _ w1 ⟨g, rfl, K⟩; (try dsimp only [Value.cells] at K)) | ((with_reducible refine at_buildSlice rfl ?_); refine wpList_does rfl (kd_lits (cs := _) K _ _ _ rfl (by first | rfl | (go_simp; done) | (go_simp; rfl)) (by first | rfl | (go_simp; done) | (go_simp; rfl))) ?_; clear K; rintro _ w1 ⟨g, rfl, K⟩) | ((with_reducible refine at_load rfl ?_); first | (refine wpList_reads (by rfl) (kr_load_cell K _ _ (by rfl) (by rfl) Has.auto (by decide +kernel) (by (try simp only [List.getElem?_toArray, List.getElem?_cons_succ, List.getElem?_cons_zero]); exact rfl)) ?_) | (refine wpList_reads (by rfl) (kr_load_row K _ _ (by rfl) (by rfl) Has.auto (by decide +kernel) (by kernel_rfl)) ?_)) | ((with_reducible refine at_store rfl ?_); (first | (refine wpList_does rfl (kd_store_cell K _ _ _ rfl rfl (by conv => lhs; whnf) Repl.auto rfl rfl (by kernel_rfl) (by kernel_rfl) (by first | (simp only [List.setIfInBounds_toArray, List.set_cons_succ, List.set_cons_zero]; rfl) | rfl)) ?_) | (refine wpList_does rfl (kd_store_row K _ _ _ rfl rfl rfl Repl.auto (by kernel_rfl) (by kernel_rfl) (by kernel_rfl)) ?_)); clear K; intro _ w1 K; (try simp only [Act.put])))
  go_ret
  exact ⟨rfl, rfl⟩
set_option maxRecDepth 100000 in
theorem smay_any (K : Known w0 w (X ++ L)) (hD : DevIs w0 g D X) (i : Int) : Calls Try.prog 30 #[.pointer (some ⟨g, 0, none⟩), .int .i64 i] w fun e w' => e = .returned (.int .i64 (dmay D i)) ∧ w = w' := by
  have H1 := Lib.hid (son_any K hD)
  obtain ⟨mk, mw, lk, ck, lw, cw, fz, Y, rfl, hfz, HK, HW⟩ := hD.out
  have hok := hD.ok
  simp only [List.cons_append] at K
  clear hD hok HK HW hfz
  cases hoff : D.off
  · rw [hoff] at H1 K
    by_cases h1 : i < 0
    · have b1 : decide (i < 0) = true := decide_eq_true h1
      have HD := Lib.hid (show dmay D i = 5 by rw [dmay, hoff]; simp [h1])
      clear hoff h1
      go_enter Try.func30, Try.ntmps30
      go_wp2_with (first | (go_at_call 22; (with_reducible refine (H1.out).mono ?_); rintro e w' ⟨rfl, rfl⟩) | ((with_reducible refine at_eqnil rfl ?_); refine wpList_reads rfl (kr_eqnil rfl rfl (by kernel_rfl)) ?_) | ((with_reducible refine at_box rfl ?_); refine wpList_does rfl (kd_box K _ _ rfl (by conv => lhs; whnf)) ?_; clear K; rintro _ w1 ⟨g, rfl, K⟩; (try dsimp only [Value.cells] at K)) | ((with_reducible refine at_alloc rfl ?_); refine wpList_does rfl (kd_alloc K _ rfl rfl) ?_; clear K; rintro _ w1 ⟨g, rfl, K⟩; (try dsimp only [Value.cells] at K)) | ((with_reducible refine at_buildSlice rfl ?_); refine wpList_does rfl (kd_lits (cs := _) K _ _ _ rfl (by first | rfl | (go_simp; done) | (go_simp; rfl)) (by first | rfl | (go_simp; done) | (go_simp; rfl))) ?_; clear K; rintro _ w1 ⟨g, rfl, K⟩) | ((with_reducible refine at_load rfl ?_); first | (refine wpList_reads (by rfl) (kr_load_cell K _ _ (by rfl) (by rfl) Has.auto (by decide +kernel) (by (try simp only [List.getElem?_toArray, List.getElem?_cons_succ, List.getElem?_cons_zero]); exact rfl)) ?_) | (refine wpList_reads (by rfl) (kr_load_row K _ _ (by rfl) (by rfl) Has.auto (by decide +kernel) (by kernel_rfl)) ?_)) | ((with_reducible refine at_store rfl ?_); (first | (refine wpList_does rfl (kd_store_cell K _ _ _ rfl rfl (by conv => lhs; whnf) Repl.auto rfl rfl (by kernel_rfl) (by kernel_rfl) (by first | (simp only [List.setIfInBounds_toArray, List.set_cons_succ, List.set_cons_zero]; rfl) | rfl)) ?_) | (refine wpList_does rfl (kd_store_row K _ _ _ rfl rfl rfl Repl.auto (by kernel_rfl) (by kernel_rfl) (by kernel_rfl)) ?_)); clear K; intro _ w1 K; (try simp only [Act.put])))
      go_ret
      exact ⟨by rw [HD.out]; rfl, rfl⟩
    · have b1 : decide (i < 0) = false := decide_eq_false h1
      by_cases h2 : (D.count : Int) ≤ i
      · have b2 : decide ((D.count : Int) ≤ i) = true := decide_eq_true h2
        have HD := Lib.hid (show dmay D i = 5 by rw [dmay, hoff]; simp [h2])
        clear hoff h1
        go_enter Try.func30, Try.ntmps30
        go_wp2_with (first | (go_at_call 22; (with_reducible refine (H1.out).mono ?_); rintro e w' ⟨rfl, rfl⟩) | ((with_reducible refine at_eqnil rfl ?_); refine wpList_reads rfl (kr_eqnil rfl rfl (by kernel_rfl)) ?_) | ((with_reducible refine at_box rfl ?_); refine wpList_does rfl (kd_box K _ _ rfl (by conv => lhs; whnf)) ?_; clear K; rintro _ w1 ⟨g, rfl, K⟩; (try dsimp only [Value.cells] at K)) | ((with_reducible refine at_alloc rfl ?_); refine wpList_does rfl (kd_alloc K _ rfl rfl) ?_; clear K; rintro _ w1 ⟨g, rfl, K⟩; (try dsimp only [Value.cells] at K)) | ((with_reducible refine at_buildSlice rfl ?_); refine wpList_does rfl (kd_lits (cs := _) K _ _ _ rfl (by first | rfl | (go_simp; done) | (go_simp; rfl)) (by first | rfl | (go_simp; done) | (go_simp; rfl))) ?_; clear K; rintro _ w1 ⟨g, rfl, K⟩) | ((with_reducible refine at_load rfl ?_); first | (refine wpList_reads (by rfl) (kr_load_cell K _ _ (by rfl) (by rfl) Has.auto (by decide +kernel) (by (try simp only [List.getElem?_toArray, List.getElem?_cons_succ, List.getElem?_cons_zero]); exact rfl)) ?_) | (refine wpList_reads (by rfl) (kr_load_row K _ _ (by rfl) (by rfl) Has.auto (by decide +kernel) (by kernel_rfl)) ?_)) | ((with_reducible refine at_store rfl ?_); (first | (refine wpList_does rfl (kd_store_cell K _ _ _ rfl rfl (by conv => lhs; whnf) Repl.auto rfl rfl (by kernel_rfl) (by kernel_rfl) (by first | (simp only [List.setIfInBounds_toArray, List.set_cons_succ, List.set_cons_zero]; rfl) | rfl)) ?_) | (refine wpList_does rfl (kd_store_row K _ _ _ rfl rfl rfl Repl.auto (by kernel_rfl) (by kernel_rfl) (by kernel_rfl)) ?_)); clear K; intro _ w1 K; (try simp only [Act.put])))
        go_ret
        exact ⟨by rw [HD.out]; rfl, rfl⟩
      · have b2 : decide ((D.count : Int) ≤ i) = false := decide_eq_false h2
        have HD := Lib.hid (show dmay D i = 0 by rw [dmay, hoff]; simp [h1, h2])
        clear hoff h1
        go_enter Try.func30, Try.ntmps30
        go_wp2_with (first | (go_at_call 22; (with_reducible refine (H1.out).mono ?_); rintro e w' ⟨rfl, rfl⟩) | ((with_reducible refine at_eqnil rfl ?_); refine wpList_reads rfl (kr_eqnil rfl rfl (by kernel_rfl)) ?_) | ((with_reducible refine at_box rfl ?_); refine wpList_does rfl (kd_box K _ _ rfl (by conv => lhs; whnf)) ?_; clear K; rintro _ w1 ⟨g, rfl, K⟩; (try dsimp only [Value.cells] at K)) | ((with_reducible refine at_alloc rfl ?_); refine wpList_does rfl (kd_alloc K _ rfl rfl) ?_; clear K; rintro _ w1 ⟨g, rfl, K⟩; (try dsimp only [Value.cells] at K)) | ((with_reducible refine at_buildSlice rfl ?_); refine wpList_does rfl (kd_lits (cs := _) K _ _ _ rfl (by first | rfl | (go_simp; done) | (go_simp; rfl)) (by first | rfl | (go_simp; done) | (go_simp; rfl))) ?_; clear K; rintro _ w1 ⟨g, rfl, K⟩) | ((with_reducible refine at_load rfl ?_); first | (refine wpList_reads (by rfl) (kr_load_cell K _ _ (by rfl) (by rfl) Has.auto (by decide +kernel) (by (try simp only [List.getElem?_toArray, List.getElem?_cons_succ, List.getElem?_cons_zero]); exact rfl)) ?_) | (refine wpList_reads (by rfl) (kr_load_row K _ _ (by rfl) (by rfl) Has.auto (by decide +kernel) (by kernel_rfl)) ?_)) | ((with_reducible refine at_store rfl ?_); (first | (refine wpList_does rfl (kd_store_cell K _ _ _ rfl rfl (by conv => lhs; whnf) Repl.auto rfl rfl (by kernel_rfl) (by kernel_rfl) (by first | (simp only [List.setIfInBounds_toArray, List.set_cons_succ, List.set_cons_zero]; rfl) | rfl)) ?_) | (refine wpList_does rfl (kd_store_row K _ _ _ rfl rfl rfl Repl.auto (by kernel_rfl) (by kernel_rfl) (by kernel_rfl)) ?_)); clear K; intro _ w1 K; (try simp only [Act.put])))
        go_ret
        exact ⟨by rw [HD.out]; rfl, rfl⟩
  · rw [hoff] at H1 K
    have HD := Lib.hid (show dmay D i = 8 by rw [dmay, hoff]; rfl)
    clear hoff
    go_enter Try.func30, Try.ntmps30
    go_wp2_with (first | (go_at_call 22; (with_reducible refine (H1.out).mono ?_); rintro e w' ⟨rfl, rfl⟩) | ((with_reducible refine at_eqnil rfl ?_); refine wpList_reads rfl (kr_eqnil rfl rfl (by kernel_rfl)) ?_) | ((with_reducible refine at_box rfl ?_); refine wpList_does rfl (kd_box K _ _ rfl (by conv => lhs; whnf)) ?_; clear K; rintro _ w1 ⟨g, rfl, K⟩; (try dsimp only [Value.cells] at K)) | ((with_reducible refine at_alloc rfl ?_); refine wpList_does rfl (kd_alloc K _ rfl rfl) ?_; clear K; rintro _ w1 ⟨g, rfl, K⟩; (try dsimp only [Value.cells] at K)) | ((with_reducible refine at_buildSlice rfl ?_); refine wpList_does rfl (kd_lits (cs := _) K _ _ _ rfl (by first | rfl | (go_simp; done) | (go_simp; rfl)) (by first | rfl | (go_simp; done) | (go_simp; rfl))) ?_; clear K; rintro _ w1 ⟨g, rfl, K⟩) | ((with_reducible refine at_load rfl ?_); first | (refine wpList_reads (by rfl) (kr_load_cell K _ _ (by rfl) (by rfl) Has.auto (by decide +kernel) (by (try simp only [List.getElem?_toArray, List.getElem?_cons_succ, List.getElem?_cons_zero]); exact rfl)) ?_) | (refine wpList_reads (by rfl) (kr_load_row K _ _ (by rfl) (by rfl) Has.auto (by decide +kernel) (by kernel_rfl)) ?_)) | ((with_reducible refine at_store rfl ?_); (first | (refine wpList_does rfl (kd_store_cell K _ _ _ rfl rfl (by conv => lhs; whnf) Repl.auto rfl rfl (by kernel_rfl) (by kernel_rfl) (by first | (simp only [List.setIfInBounds_toArray, List.set_cons_succ, List.set_cons_zero]; rfl) | rfl)) ?_) | (refine wpList_does rfl (kd_store_row K _ _ _ rfl rfl rfl Repl.auto (by kernel_rfl) (by kernel_rfl) (by kernel_rfl)) ?_)); clear K; intro _ w1 K; (try simp only [Act.put])))
    go_ret
    exact ⟨by rw [HD.out]; rfl, rfl⟩
set_option maxRecDepth 100000 in
theorem soff_any (K : Known w0 w (X ++ L)) (hD : DevIs w0 g D X) (ho : D.offs < 1000000000000) : Calls Try.prog 19 #[.pointer (some ⟨g, 0, none⟩)] w fun e w' => e = .returned (.tuple #[]) ∧ ∃ X', DevIs w0 g (dfall D) X' ∧ Known w0 w' (X' ++ L) := by
  have H1 := Lib.hid (son_any K hD)
  have HD := Lib.hid hD
  have HK0 := Lib.hid K
  obtain ⟨mk, mw, lk, ck, lw, cw, fz, Y, rfl, hfz, HK, HW⟩ := hD.out
  have hok := hD.ok
  simp only [List.cons_append] at K
  cases hoff : D.off
  · rw [hoff] at H1 K
    have hf : dfall D = { D with off := true, offs := D.offs + 1 } := by rw [dfall, hoff]; rfl
    have HF := Lib.hid hf
    have o1 := IntWalk.i64_in (D.offs + 1) (by have := hok.offs; omega)
    have HOK := Lib.hid (show DevOk (dfall D) by rw [hf]; exact ⟨hok.size, hok.count, hok.rk, hok.rw_, hok.fk, hok.fw, by have := hok.offs; exact ⟨by show 0 ≤ D.offs + 1; omega, by show D.offs + 1 ≤ _; omega⟩, hok.fuse, hok.writes⟩)
    clear hf hoff hD
    go_enter Try.func19, Try.ntmps19
    go_wp2_with (first | (go_at_call 22; (with_reducible refine (H1.out).mono ?_); rintro e w' ⟨rfl, rfl⟩) | ((with_reducible refine at_eqnil rfl ?_); refine wpList_reads rfl (kr_eqnil rfl rfl (by kernel_rfl)) ?_) | ((with_reducible refine at_box rfl ?_); refine wpList_does rfl (kd_box K _ _ rfl (by conv => lhs; whnf)) ?_; clear K; rintro _ w1 ⟨g, rfl, K⟩; (try dsimp only [Value.cells] at K)) | ((with_reducible refine at_alloc rfl ?_); refine wpList_does rfl (kd_alloc K _ rfl rfl) ?_; clear K; rintro _ w1 ⟨g, rfl, K⟩; (try dsimp only [Value.cells] at K)) | ((with_reducible refine at_buildSlice rfl ?_); refine wpList_does rfl (kd_lits (cs := _) K _ _ _ rfl (by first | rfl | (go_simp; done) | (go_simp; rfl)) (by first | rfl | (go_simp; done) | (go_simp; rfl))) ?_; clear K; rintro _ w1 ⟨g, rfl, K⟩) | ((with_reducible refine at_load rfl ?_); first | (refine wpList_reads (by rfl) (kr_load_cell K _ _ (by rfl) (by rfl) Has.auto (by decide +kernel) (by (try simp only [List.getElem?_toArray, List.getElem?_cons_succ, List.getElem?_cons_zero]); exact rfl)) ?_) | (refine wpList_reads (by rfl) (kr_load_row K _ _ (by rfl) (by rfl) Has.auto (by decide +kernel) (by kernel_rfl)) ?_)) | ((with_reducible refine at_store rfl ?_); (first | (refine wpList_does rfl (kd_store_cell K _ _ _ rfl rfl (by conv => lhs; whnf) Repl.auto rfl rfl (by kernel_rfl) (by kernel_rfl) (by first | (simp only [List.setIfInBounds_toArray, List.set_cons_succ, List.set_cons_zero]; rfl) | rfl)) ?_) | (refine wpList_does rfl (kd_store_row K _ _ _ rfl rfl rfl Repl.auto (by kernel_rfl) (by kernel_rfl) (by kernel_rfl)) ?_)); clear K; intro _ w1 K; (try simp only [Act.put])))
    go_end0
    exact ⟨rfl, _, ⟨⟨mk, mw, lk, ck, lw, cw, fz, Y, rfl, by rw [HF.out]; exact hfz, by rw [HF.out]; exact HK, by rw [HF.out]; exact HW⟩, HOK.out⟩, by rw [HF.out]; exact K⟩
  · rw [hoff] at H1
    have HF := Lib.hid (show dfall D = D by rw [dfall, hoff]; rfl)
    clear hoff
    go_enter Try.func19, Try.ntmps19
    go_wp2_with (first | (go_at_call 22; (with_reducible refine (H1.out).mono ?_); rintro e w' ⟨rfl, rfl⟩))
    go_end0
    exact ⟨rfl, _, by rw [HF.out]; exact HD.out, HK0.out⟩
def dburn (D : Dev) : Dev := { D with fuse := if 0 < D.fuse then D.fuse - 1 else D.fuse }
set_option maxRecDepth 100000 in
theorem sburns_any (K : Known w0 w (X ++ L)) (hD : DevIs w0 g D X) : Calls Try.prog 32 #[.pointer (some ⟨g, 0, none⟩)] w fun e w' => e = .returned (.bool (decide (D.fuse = 0))) ∧ ∃ X', DevIs w0 g (dburn D) X' ∧ Known w0 w' (X' ++ L) := by
  have HD := Lib.hid hD
  have HK0 := Lib.hid K
  obtain ⟨mk, mw, lk, ck, lw, cw, fz, Y, rfl, hfz, HK, HW⟩ := hD.out
  have hok := hD.ok
  simp only [List.cons_append] at K
  by_cases h0 : D.fuse < 0
  · have f1 : decide (0 ≤ D.fuse) = false := decide_eq_false (by omega)
    have HF := Lib.hid (show dburn D = D by rw [dburn, if_neg (by omega)])
    have HR := Lib.hid (show decide (D.fuse = 0) = false from decide_eq_false (by omega))
    rw [f1] at K
    clear h0 f1
    go_enter Try.func32, Try.ntmps32
    go_wp2_with (first | ((with_reducible refine at_eqnil rfl ?_); refine wpList_reads rfl (kr_eqnil rfl rfl (by kernel_rfl)) ?_) | ((with_reducible refine at_box rfl ?_); refine wpList_does rfl (kd_box K _ _ rfl (by conv => lhs; whnf)) ?_; clear K; rintro _ w1 ⟨g, rfl, K⟩; (try dsimp only [Value.cells] at K)) | ((with_reducible refine at_alloc rfl ?_); refine wpList_does rfl (kd_alloc K _ rfl rfl) ?_; clear K; rintro _ w1 ⟨g, rfl, K⟩; (try dsimp only [Value.cells] at K)) | ((with_reducible refine at_buildSlice rfl ?_); refine wpList_does rfl (kd_lits (cs := _) K _ _ _ rfl (by first | rfl | (go_simp; done) | (go_simp; rfl)) (by first | rfl | (go_simp; done) | (go_simp; rfl))) ?_; clear K; rintro _ w1 ⟨g, rfl, K⟩) | ((with_reducible refine at_load rfl ?_); first | (refine wpList_reads (by rfl) (kr_load_cell K _ _ (by rfl) (by rfl) Has.auto (by decide +kernel) (by (try simp only [List.getElem?_toArray, List.getElem?_cons_succ, List.getElem?_cons_zero]); exact rfl)) ?_) | (refine wpList_reads (by rfl) (kr_load_row K _ _ (by rfl) (by rfl) Has.auto (by decide +kernel) (by kernel_rfl)) ?_)) | ((with_reducible refine at_store rfl ?_); (first | (refine wpList_does rfl (kd_store_cell K _ _ _ rfl rfl (by conv => lhs; whnf) Repl.auto rfl rfl (by kernel_rfl) (by kernel_rfl) (by first | (simp only [List.setIfInBounds_toArray, List.set_cons_succ, List.set_cons_zero]; rfl) | rfl)) ?_) | (refine wpList_does rfl (kd_store_row K _ _ _ rfl rfl rfl Repl.auto (by kernel_rfl) (by kernel_rfl) (by kernel_rfl)) ?_)); clear K; intro _ w1 K; (try simp only [Act.put])))
    go_ret
    exact ⟨by rw [HR.out]; rfl, _, by rw [HF.out]; exact HD.out, HK0.out⟩
  · have f1 : decide (0 ≤ D.fuse) = true := decide_eq_true (by omega)
    obtain rfl := hfz (by omega)
    by_cases h1 : D.fuse = 0
    · have HF := Lib.hid (show dburn D = D by rw [dburn, if_neg (by omega)])
      have HR := Lib.hid (show decide (D.fuse = 0) = true from decide_eq_true h1)
      have h2 : (D.fuse == 0) = true := by simpa using h1
      rw [f1] at K
      clear h0 f1 h1
      go_enter Try.func32, Try.ntmps32
      go_wp2_with (first | ((with_reducible refine at_eqnil rfl ?_); refine wpList_reads rfl (kr_eqnil rfl rfl (by kernel_rfl)) ?_) | ((with_reducible refine at_box rfl ?_); refine wpList_does rfl (kd_box K _ _ rfl (by conv => lhs; whnf)) ?_; clear K; rintro _ w1 ⟨g, rfl, K⟩; (try dsimp only [Value.cells] at K)) | ((with_reducible refine at_alloc rfl ?_); refine wpList_does rfl (kd_alloc K _ rfl rfl) ?_; clear K; rintro _ w1 ⟨g, rfl, K⟩; (try dsimp only [Value.cells] at K)) | ((with_reducible refine at_buildSlice rfl ?_); refine wpList_does rfl (kd_lits (cs := _) K _ _ _ rfl (by first | rfl | (go_simp; done) | (go_simp; rfl)) (by first | rfl | (go_simp; done) | (go_simp; rfl))) ?_; clear K; rintro _ w1 ⟨g, rfl, K⟩) | ((with_reducible refine at_load rfl ?_); first | (refine wpList_reads (by rfl) (kr_load_cell K _ _ (by rfl) (by rfl) Has.auto (by decide +kernel) (by (try simp only [List.getElem?_toArray, List.getElem?_cons_succ, List.getElem?_cons_zero]); exact rfl)) ?_) | (refine wpList_reads (by rfl) (kr_load_row K _ _ (by rfl) (by rfl) Has.auto (by decide +kernel) (by kernel_rfl)) ?_)) | ((with_reducible refine at_store rfl ?_); (first | (refine wpList_does rfl (kd_store_cell K _ _ _ rfl rfl (by conv => lhs; whnf) Repl.auto rfl rfl (by kernel_rfl) (by kernel_rfl) (by first | (simp only [List.setIfInBounds_toArray, List.set_cons_succ, List.set_cons_zero]; rfl) | rfl)) ?_) | (refine wpList_does rfl (kd_store_row K _ _ _ rfl rfl rfl Repl.auto (by kernel_rfl) (by kernel_rfl) (by kernel_rfl)) ?_)); clear K; intro _ w1 K; (try simp only [Act.put])))
      go_ret
      exact ⟨by rw [HR.out]; rfl, _, by rw [HF.out]; exact HD.out, HK0.out⟩
    · have hf : dburn D = { D with fuse := D.fuse - 1 } := by rw [dburn, if_pos (by omega)]
      have HF := Lib.hid hf
      have HR := Lib.hid (show decide (D.fuse = 0) = false from decide_eq_false h1)
      have h2 : (D.fuse == 0) = false := by simpa using h1
      have o1 := IntWalk.i64_in (D.fuse - 1) (by have := hok.fuse; omega)
      have HOK := Lib.hid (show DevOk (dburn D) by rw [hf]; exact ⟨hok.size, hok.count, hok.rk, hok.rw_, hok.fk, hok.fw, hok.offs, by have := hok.fuse; exact ⟨by show -1 ≤ D.fuse - 1; omega, by show D.fuse - 1 ≤ _; omega⟩, hok.writes⟩)
      have H0 := Lib.hid (show decide (0 ≤ D.fuse - 1) = true from decide_eq_true (by omega))
      rw [f1] at K
      clear h0 f1 h1 hf hD
      go_enter Try.func32, Try.ntmps32
      go_wp2_with (first | ((with_reducible refine at_eqnil rfl ?_); refine wpList_reads rfl (kr_eqnil rfl rfl (by kernel_rfl)) ?_) | ((with_reducible refine at_box rfl ?_); refine wpList_does rfl (kd_box K _ _ rfl (by conv => lhs; whnf)) ?_; clear K; rintro _ w1 ⟨g, rfl, K⟩; (try dsimp only [Value.cells] at K)) | ((with_reducible refine at_alloc rfl ?_); refine wpList_does rfl (kd_alloc K _ rfl rfl) ?_; clear K; rintro _ w1 ⟨g, rfl, K⟩; (try dsimp only [Value.cells] at K)) | ((with_reducible refine at_buildSlice rfl ?_); refine wpList_does rfl (kd_lits (cs := _) K _ _ _ rfl (by first | rfl | (go_simp; done) | (go_simp; rfl)) (by first | rfl | (go_simp; done) | (go_simp; rfl))) ?_; clear K; rintro _ w1 ⟨g, rfl, K⟩) | ((with_reducible refine at_load rfl ?_); first | (refine wpList_reads (by rfl) (kr_load_cell K _ _ (by rfl) (by rfl) Has.auto (by decide +kernel) (by (try simp only [List.getElem?_toArray, List.getElem?_cons_succ, List.getElem?_cons_zero]); exact rfl)) ?_) | (refine wpList_reads (by rfl) (kr_load_row K _ _ (by rfl) (by rfl) Has.auto (by decide +kernel) (by kernel_rfl)) ?_)) | ((with_reducible refine at_store rfl ?_); (first | (refine wpList_does rfl (kd_store_cell K _ _ _ rfl rfl (by conv => lhs; whnf) Repl.auto rfl rfl (by kernel_rfl) (by kernel_rfl) (by first | (simp only [List.setIfInBounds_toArray, List.set_cons_succ, List.set_cons_zero]; rfl) | rfl)) ?_) | (refine wpList_does rfl (kd_store_row K _ _ _ rfl rfl rfl Repl.auto (by kernel_rfl) (by kernel_rfl) (by kernel_rfl)) ?_)); clear K; intro _ w1 K; (try simp only [Act.put])))
      go_ret
      exact ⟨by rw [HR.out]; rfl, _, ⟨⟨mk, mw, lk, ck, lw, cw, D.fuse - 1, Y, rfl, by rw [HF.out]; exact fun _ => rfl, by rw [HF.out]; exact HK, by rw [HF.out]; exact HW⟩, HOK.out⟩, by rw [HF.out]; rw [← H0.out] at K; exact K⟩


/-- what a face's copy leaves -/
theorem face_copy {size : Nat} {bs : List Int} (h : bs.length = size) : splice (fcells size (fun _ => Value.int .u8 0)) 0 ((bs.take size).map (Value.int .u8)) = u8s bs := by
  rw [List.take_of_length_le (by omega)]
  simp [splice, fcells, u8s, h]
set_option maxHeartbeats 800000 in
set_option maxRecDepth 100000 in
theorem sread_any (K : Known w0 w (X ++ L)) (hD : DevIs w0 g D X) (i : Int) : Calls Try.prog 42 #[.pointer (some ⟨g, 0, none⟩), .int .i64 i] w fun e w' => ∃ A n c, e = .returned (.tuple #[.slice A n c, .int .i64 (dread D i).2]) ∧ ∃ Z, OwnL 5 1 A n c ((dread D i).1.map (Value.int .u8)) Z ∧ n = (dread D i).1.length ∧ Known w0 w' (Z ++ (X ++ L)) := by
  have HM := Lib.hid (smay_any K hD i)
  have hDD := Lib.hid hD
  obtain ⟨mk, mw, lk, ck, lw, cw, fz, Y, rfl, hfz, HK, HW⟩ := hD.out
  have hok := hD.ok
  simp only [List.cons_append] at K
  by_cases hm : dmay D i = 0
  · rw [hm] at HM
    have hsz := hok.size
    cases hw : afind D.waits i with
    | some f =>
      obtain ⟨v, hv, A, n, c, rfl, R, hn⟩ := HW.some_ i f hw
      have HV := Lib.hid (show (mget lw i).getD (.agg #[.slice none 0 0, .bool false]) = .agg #[.slice A n c, .bool f.torn] by rw [hv]; rfl)
      have HH := Lib.hid (show mhas lw i = true by rw [mhas_get, hv]; rfl)
      have hf := (hok.fw _ (afind_mem hw)).1
      cases ht : f.torn
      · have HR := Lib.hid (show dread D i = (f.b, 0) by rw [dread, if_neg (by omega), dface, hw]; simp [ht])
        have hl := hf.1 ht
        rw [ht] at HV
        clear hm hw hv hf ht hD HK HW hok hfz
        go_enter Try.func42, Try.ntmps42
        go_wp2_with (first | (go_at_call 30; (with_reducible refine (HM.out).mono ?_); rintro e w' ⟨rfl, rfl⟩) | (at_lookup; refine wpList_reads rfl (kr_lookup (ok := true) (z := .agg #[.slice none 0 0, .bool false]) K rfl rfl rfl Has.auto Try.underlying60 Try.underlying3 (by kernel_rfl)) ?_; (try simp only [if_true]); rw [HV.out, HH.out]) | (at_lookup; refine wpList_reads rfl (kr_lookup (ok := false) (z := .agg #[.slice none 0 0, .bool false]) K rfl rfl rfl Has.auto Try.underlying60 Try.underlying3 (by kernel_rfl)) ?_; (try simp only [Bool.false_eq_true, if_false]); rw [HV.out]) | ((with_reducible refine at_makeSlice rfl ?_); refine wpList_does rfl (kd_make (z := .int .u8 0) (bytes := 1) K 46 5 rfl Try.underlying46 (by kernel_rfl) rfl (D.size) (D.size) rfl rfl (by omega) (by omega) (by omega)) ?_; clear K; rintro _ w1 ⟨gb, rfl, K⟩; rw [fcells_repl] at K) | ((with_reducible refine at_copy rfl ?_); refine wpList_does rfl (kd_copy K rfl rfl rfl ((R.cov Cov.auto).at_ _ K) Try.underlying46 (by kernel_rfl) Repl.auto (by simp only [fcells_size]; omega)) ?_; clear K; rintro _ w1 ⟨rfl, K⟩; rw [face_copy hl] at K) | ((with_reducible refine at_eqnil rfl ?_); refine wpList_reads rfl (kr_eqnil rfl rfl (by kernel_rfl)) ?_) | ((with_reducible refine at_box rfl ?_); refine wpList_does rfl (kd_box K _ _ rfl (by conv => lhs; whnf)) ?_; clear K; rintro _ w1 ⟨g, rfl, K⟩; (try dsimp only [Value.cells] at K)) | ((with_reducible refine at_alloc rfl ?_); refine wpList_does rfl (kd_alloc K _ rfl rfl) ?_; clear K; rintro _ w1 ⟨g, rfl, K⟩; (try dsimp only [Value.cells] at K)) | ((with_reducible refine at_buildSlice rfl ?_); refine wpList_does rfl (kd_lits (cs := _) K _ _ _ rfl (by first | rfl | (go_simp; done) | (go_simp; rfl)) (by first | rfl | (go_simp; done) | (go_simp; rfl))) ?_; clear K; rintro _ w1 ⟨g, rfl, K⟩) | ((with_reducible refine at_load rfl ?_); first | (refine wpList_reads (by rfl) (kr_load_cell K _ _ (by rfl) (by rfl) Has.auto (by decide +kernel) (by (try simp only [List.getElem?_toArray, List.getElem?_cons_succ, List.getElem?_cons_zero]); exact rfl)) ?_) | (refine wpList_reads (by rfl) (kr_load_row K _ _ (by rfl) (by rfl) Has.auto (by decide +kernel) (by kernel_rfl)) ?_)) | ((with_reducible refine at_store rfl ?_); (first | (refine wpList_does rfl (kd_store_cell K _ _ _ rfl rfl (by conv => lhs; whnf) Repl.auto rfl rfl (by kernel_rfl) (by kernel_rfl) (by first | (simp only [List.setIfInBounds_toArray, List.set_cons_succ, List.set_cons_zero]; rfl) | rfl)) ?_) | (refine wpList_does rfl (kd_store_row K _ _ _ rfl rfl rfl Repl.auto (by kernel_rfl) (by kernel_rfl) (by kernel_rfl)) ?_)); clear K; intro _ w1 K; (try simp only [Act.put])))
        go_ret2
        exact ⟨_, _, _, by rw [HR.out]; rfl, _, by rw [HR.out]; exact OwnL.ofLit (g := gb) (cs := u8s f.b) (by simp [u8s]) hl (by omega), by rw [HR.out]; exact hl.symm, K.cov Cov.auto⟩
      · have HR := Lib.hid (show dread D i = ([], 7) by rw [dread, if_neg (by omega), dface, hw]; simp [ht])
        rw [ht] at HV
        clear hm hw hv hf ht hD HK HW hok hfz
        go_enter Try.func42, Try.ntmps42
        go_wp2_with (first | (go_at_call 30; (with_reducible refine (HM.out).mono ?_); rintro e w' ⟨rfl, rfl⟩) | (at_lookup; refine wpList_reads rfl (kr_lookup (ok := true) (z := .agg #[.slice none 0 0, .bool false]) K rfl rfl rfl Has.auto Try.underlying60 Try.underlying3 (by kernel_rfl)) ?_; (try simp only [if_true]); rw [HV.out, HH.out]) | (at_lookup; refine wpList_reads rfl (kr_lookup (ok := false) (z := .agg #[.slice none 0 0, .bool false]) K rfl rfl rfl Has.auto Try.underlying60 Try.underlying3 (by kernel_rfl)) ?_; (try simp only [Bool.false_eq_true, if_false]); rw [HV.out]) | ((with_reducible refine at_eqnil rfl ?_); refine wpList_reads rfl (kr_eqnil rfl rfl (by kernel_rfl)) ?_) | ((with_reducible refine at_box rfl ?_); refine wpList_does rfl (kd_box K _ _ rfl (by conv => lhs; whnf)) ?_; clear K; rintro _ w1 ⟨g, rfl, K⟩; (try dsimp only [Value.cells] at K)) | ((with_reducible refine at_alloc rfl ?_); refine wpList_does rfl (kd_alloc K _ rfl rfl) ?_; clear K; rintro _ w1 ⟨g, rfl, K⟩; (try dsimp only [Value.cells] at K)) | ((with_reducible refine at_buildSlice rfl ?_); refine wpList_does rfl (kd_lits (cs := _) K _ _ _ rfl (by first | rfl | (go_simp; done) | (go_simp; rfl)) (by first | rfl | (go_simp; done) | (go_simp; rfl))) ?_; clear K; rintro _ w1 ⟨g, rfl, K⟩) | ((with_reducible refine at_load rfl ?_); first | (refine wpList_reads (by rfl) (kr_load_cell K _ _ (by rfl) (by rfl) Has.auto (by decide +kernel) (by (try simp only [List.getElem?_toArray, List.getElem?_cons_succ, List.getElem?_cons_zero]); exact rfl)) ?_) | (refine wpList_reads (by rfl) (kr_load_row K _ _ (by rfl) (by rfl) Has.auto (by decide +kernel) (by kernel_rfl)) ?_)) | ((with_reducible refine at_store rfl ?_); (first | (refine wpList_does rfl (kd_store_cell K _ _ _ rfl rfl (by conv => lhs; whnf) Repl.auto rfl rfl (by kernel_rfl) (by kernel_rfl) (by first | (simp only [List.setIfInBounds_toArray, List.set_cons_succ, List.set_cons_zero]; rfl) | rfl)) ?_) | (refine wpList_does rfl (kd_store_row K _ _ _ rfl rfl rfl Repl.auto (by kernel_rfl) (by kernel_rfl) (by kernel_rfl)) ?_)); clear K; intro _ w1 K; (try simp only [Act.put])))
        go_ret2
        exact ⟨_, _, _, by rw [HR.out]; rfl, _, by rw [HR.out]; exact OwnL.nil _ _, by rw [HR.out]; rfl, K.cov Cov.auto⟩
    | none =>
      have HV2 := Lib.hid (show (mget lw i).getD (.agg #[.slice none 0 0, .bool false]) = .agg #[.slice none 0 0, .bool false] by rw [HW.none_ i hw]; rfl)
      have HH2 := Lib.hid (show mhas lw i = false by rw [mhas_get, HW.none_ i hw]; rfl)
      cases hk : afind D.kept i with
      | some f =>
        obtain ⟨v, hv, A, n, c, rfl, R, hn⟩ := HK.some_ i f hk
        have HV := Lib.hid (show (mget lk i).getD (.agg #[.slice none 0 0, .bool false]) = .agg #[.slice A n c, .bool f.torn] by rw [hv]; rfl)
        have hf := (hok.fk _ (afind_mem hk)).1
        cases ht : f.torn
        · have HR := Lib.hid (show dread D i = (f.b, 0) by rw [dread, if_neg (by omega), dface, hw, hk]; simp [ht])
          have hl := hf.1 ht
          rw [ht] at HV
          clear hm hw hv hf ht hD HK HW hok hfz
          go_enter Try.func42, Try.ntmps42
          go_wp2_with (first | (go_at_call 30; (with_reducible refine (HM.out).mono ?_); rintro e w' ⟨rfl, rfl⟩) | (at_lookup; refine wpList_reads rfl (kr_lookup (ok := true) (z := .agg #[.slice none 0 0, .bool false]) K rfl rfl rfl Has.auto Try.underlying60 Try.underlying3 (by kernel_rfl)) ?_; (try simp only [if_true]); rw [HV2.out, HH2.out]) | (at_lookup; refine wpList_reads rfl (kr_lookup (ok := false) (z := .agg #[.slice none 0 0, .bool false]) K rfl rfl rfl Has.auto Try.underlying60 Try.underlying3 (by kernel_rfl)) ?_; (try simp only [Bool.false_eq_true, if_false]); rw [HV.out]) | ((with_reducible refine at_makeSlice rfl ?_); refine wpList_does rfl (kd_make (z := .int .u8 0) (bytes := 1) K 46 5 rfl Try.underlying46 (by kernel_rfl) rfl (D.size) (D.size) rfl rfl (by omega) (by omega) (by omega)) ?_; clear K; rintro _ w1 ⟨gb, rfl, K⟩; rw [fcells_repl] at K) | ((with_reducible refine at_copy rfl ?_); refine wpList_does rfl (kd_copy K rfl rfl rfl ((R.cov Cov.auto).at_ _ K) Try.underlying46 (by kernel_rfl) Repl.auto (by simp only [fcells_size]; omega)) ?_; clear K; rintro _ w1 ⟨rfl, K⟩; rw [face_copy hl] at K) | ((with_reducible refine at_eqnil rfl ?_); refine wpList_reads rfl (kr_eqnil rfl rfl (by kernel_rfl)) ?_) | ((with_reducible refine at_box rfl ?_); refine wpList_does rfl (kd_box K _ _ rfl (by conv => lhs; whnf)) ?_; clear K; rintro _ w1 ⟨g, rfl, K⟩; (try dsimp only [Value.cells] at K)) | ((with_reducible refine at_alloc rfl ?_); refine wpList_does rfl (kd_alloc K _ rfl rfl) ?_; clear K; rintro _ w1 ⟨g, rfl, K⟩; (try dsimp only [Value.cells] at K)) | ((with_reducible refine at_buildSlice rfl ?_); refine wpList_does rfl (kd_lits (cs := _) K _ _ _ rfl (by first | rfl | (go_simp; done) | (go_simp; rfl)) (by first | rfl | (go_simp; done) | (go_simp; rfl))) ?_; clear K; rintro _ w1 ⟨g, rfl, K⟩) | ((with_reducible refine at_load rfl ?_); first | (refine wpList_reads (by rfl) (kr_load_cell K _ _ (by rfl) (by rfl) Has.auto (by decide +kernel) (by (try simp only [List.getElem?_toArray, List.getElem?_cons_succ, List.getElem?_cons_zero]); exact rfl)) ?_) | (refine wpList_reads (by rfl) (kr_load_row K _ _ (by rfl) (by rfl) Has.auto (by decide +kernel) (by kernel_rfl)) ?_)) | ((with_reducible refine at_store rfl ?_); (first | (refine wpList_does rfl (kd_store_cell K _ _ _ rfl rfl (by conv => lhs; whnf) Repl.auto rfl rfl (by kernel_rfl) (by kernel_rfl) (by first | (simp only [List.setIfInBounds_toArray, List.set_cons_succ, List.set_cons_zero]; rfl) | rfl)) ?_) | (refine wpList_does rfl (kd_store_row K _ _ _ rfl rfl rfl Repl.auto (by kernel_rfl) (by kernel_rfl) (by kernel_rfl)) ?_)); clear K; intro _ w1 K; (try simp only [Act.put])))
          go_ret2
          exact ⟨_, _, _, by rw [HR.out]; rfl, _, by rw [HR.out]; exact OwnL.ofLit (g := gb) (cs := u8s f.b) (by simp [u8s]) hl (by omega), by rw [HR.out]; exact hl.symm, K.cov Cov.auto⟩
        · have HR := Lib.hid (show dread D i = ([], 7) by rw [dread, if_neg (by omega), dface, hw, hk]; simp [ht])
          rw [ht] at HV
          clear hm hw hv hf ht hD HK HW hok hfz
          go_enter Try.func42, Try.ntmps42
          go_wp2_with (first | (go_at_call 30; (with_reducible refine (HM.out).mono ?_); rintro e w' ⟨rfl, rfl⟩) | (at_lookup; refine wpList_reads rfl (kr_lookup (ok := true) (z := .agg #[.slice none 0 0, .bool false]) K rfl rfl rfl Has.auto Try.underlying60 Try.underlying3 (by kernel_rfl)) ?_; (try simp only [if_true]); rw [HV2.out, HH2.out]) | (at_lookup; refine wpList_reads rfl (kr_lookup (ok := false) (z := .agg #[.slice none 0 0, .bool false]) K rfl rfl rfl Has.auto Try.underlying60 Try.underlying3 (by kernel_rfl)) ?_; (try simp only [Bool.false_eq_true, if_false]); rw [HV.out]) | ((with_reducible refine at_eqnil rfl ?_); refine wpList_reads rfl (kr_eqnil rfl rfl (by kernel_rfl)) ?_) | ((with_reducible refine at_box rfl ?_); refine wpList_does rfl (kd_box K _ _ rfl (by conv => lhs; whnf)) ?_; clear K; rintro _ w1 ⟨g, rfl, K⟩; (try dsimp only [Value.cells] at K)) | ((with_reducible refine at_alloc rfl ?_); refine wpList_does rfl (kd_alloc K _ rfl rfl) ?_; clear K; rintro _ w1 ⟨g, rfl, K⟩; (try dsimp only [Value.cells] at K)) | ((with_reducible refine at_buildSlice rfl ?_); refine wpList_does rfl (kd_lits (cs := _) K _ _ _ rfl (by first | rfl | (go_simp; done) | (go_simp; rfl)) (by first | rfl | (go_simp; done) | (go_simp; rfl))) ?_; clear K; rintro _ w1 ⟨g, rfl, K⟩) | ((with_reducible refine at_load rfl ?_); first | (refine wpList_reads (by rfl) (kr_load_cell K _ _ (by rfl) (by rfl) Has.auto (by decide +kernel) (by (try simp only [List.getElem?_toArray, List.getElem?_cons_succ, List.getElem?_cons_zero]); exact rfl)) ?_) | (refine wpList_reads (by rfl) (kr_load_row K _ _ (by rfl) (by rfl) Has.auto (by decide +kernel) (by kernel_rfl)) ?_)) | ((with_reducible refine at_store rfl ?_); (first | (refine wpList_does rfl (kd_store_cell K _ _ _ rfl rfl (by conv => lhs; whnf) Repl.auto rfl rfl (by kernel_rfl) (by kernel_rfl) (by first | (simp only [List.setIfInBounds_toArray, List.set_cons_succ, List.set_cons_zero]; rfl) | rfl)) ?_) | (refine wpList_does rfl (kd_store_row K _ _ _ rfl rfl rfl Repl.auto (by kernel_rfl) (by kernel_rfl) (by kernel_rfl)) ?_)); clear K; intro _ w1 K; (try simp only [Act.put])))
          go_ret2
          exact ⟨_, _, _, by rw [HR.out]; rfl, _, by rw [HR.out]; exact OwnL.nil _ _, by rw [HR.out]; rfl, K.cov Cov.auto⟩
      | none =>
        have HV := Lib.hid (show (mget lk i).getD (.agg #[.slice none 0 0, .bool false]) = .agg #[.slice none 0 0, .bool false] by rw [HK.none_ i hk]; rfl)
        have HR := Lib.hid (show dread D i = (List.replicate D.size 0, 0) by rw [dread, if_neg (by omega), dface, hw, hk])
        clear hm hw hk hD HK HW hok hfz
        go_enter Try.func42, Try.ntmps42
        go_wp2_with (first | (go_at_call 30; (with_reducible refine (HM.out).mono ?_); rintro e w' ⟨rfl, rfl⟩) | (at_lookup; refine wpList_reads rfl (kr_lookup (ok := true) (z := .agg #[.slice none 0 0, .bool false]) K rfl rfl rfl Has.auto Try.underlying60 Try.underlying3 (by kernel_rfl)) ?_; (try simp only [if_true]); rw [HV2.out, HH2.out]) | (at_lookup; refine wpList_reads rfl (kr_lookup (ok := false) (z := .agg #[.slice none 0 0, .bool false]) K rfl rfl rfl Has.auto Try.underlying60 Try.underlying3 (by kernel_rfl)) ?_; (try simp only [Bool.false_eq_true, if_false]); rw [HV.out]) | ((with_reducible refine at_makeSlice rfl ?_); refine wpList_does rfl (kd_make (z := .int .u8 0) (bytes := 1) K 46 5 rfl Try.underlying46 (by kernel_rfl) rfl (D.size) (D.size) rfl rfl (by omega) (by omega) (by omega)) ?_; clear K; rintro _ w1 ⟨gb, rfl, K⟩; rw [fcells_repl] at K) | ((with_reducible refine at_copy rfl ?_); refine wpList_does rfl (kd_copy K rfl rfl rfl (Rd.nil _ .u8 _) Try.underlying46 (by kernel_rfl) Repl.auto (by simp only [fcells_size]; omega)) ?_; clear K; rintro _ w1 ⟨rfl, K⟩; simp only [List.take_nil, List.map_nil, splice_nil] at K; rw [← fcells_repl] at K) | ((with_reducible refine at_eqnil rfl ?_); refine wpList_reads rfl (kr_eqnil rfl rfl (by kernel_rfl)) ?_) | ((with_reducible refine at_box rfl ?_); refine wpList_does rfl (kd_box K _ _ rfl (by conv => lhs; whnf)) ?_; clear K; rintro _ w1 ⟨g, rfl, K⟩; (try dsimp only [Value.cells] at K)) | ((with_reducible refine at_alloc rfl ?_); refine wpList_does rfl (kd_alloc K _ rfl rfl) ?_; clear K; rintro _ w1 ⟨g, rfl, K⟩; (try dsimp only [Value.cells] at K)) | ((with_reducible refine at_buildSlice rfl ?_); refine wpList_does rfl (kd_lits (cs := _) K _ _ _ rfl (by first | rfl | (go_simp; done) | (go_simp; rfl)) (by first | rfl | (go_simp; done) | (go_simp; rfl))) ?_; clear K; rintro _ w1 ⟨g, rfl, K⟩) | ((with_reducible refine at_load rfl ?_); first | (refine wpList_reads (by rfl) (kr_load_cell K _ _ (by rfl) (by rfl) Has.auto (by decide +kernel) (by (try simp only [List.getElem?_toArray, List.getElem?_cons_succ, List.getElem?_cons_zero]); exact rfl)) ?_) | (refine wpList_reads (by rfl) (kr_load_row K _ _ (by rfl) (by rfl) Has.auto (by decide +kernel) (by kernel_rfl)) ?_)) | ((with_reducible refine at_store rfl ?_); (first | (refine wpList_does rfl (kd_store_cell K _ _ _ rfl rfl (by conv => lhs; whnf) Repl.auto rfl rfl (by kernel_rfl) (by kernel_rfl) (by first | (simp only [List.setIfInBounds_toArray, List.set_cons_succ, List.set_cons_zero]; rfl) | rfl)) ?_) | (refine wpList_does rfl (kd_store_row K _ _ _ rfl rfl rfl Repl.auto (by kernel_rfl) (by kernel_rfl) (by kernel_rfl)) ?_)); clear K; intro _ w1 K; (try simp only [Act.put])))
        go_ret2
        exact ⟨_, _, _, by rw [HR.out]; rfl, _, by rw [HR.out]; exact OwnL.made (g := gb) (Nat.le_refl _) (by omega), by rw [HR.out]; simp, K.cov Cov.auto⟩
  · have HR := Lib.hid (show dread D i = ([], dmay D i) by rw [dread, if_pos hm])
    have hm2 : (dmay D i != 0) = true := by simpa using hm
    obtain ⟨m, hme⟩ : ∃ m, m = dmay D i := ⟨_, rfl⟩
    rw [← hme] at HM hm2 HR
    clear hm hme hD HK HW hok hfz
    go_enter Try.func42, Try.ntmps42
    go_wp2_with (first | (go_at_call 30; (with_reducible refine (HM.out).mono ?_); rintro e w' ⟨rfl, rfl⟩) | ((with_reducible refine at_eqnil rfl ?_); refine wpList_reads rfl (kr_eqnil rfl rfl (by kernel_rfl)) ?_) | ((with_reducible refine at_box rfl ?_); refine wpList_does rfl (kd_box K _ _ rfl (by conv => lhs; whnf)) ?_; clear K; rintro _ w1 ⟨g, rfl, K⟩; (try dsimp only [Value.cells] at K)) | ((with_reducible refine at_alloc rfl ?_); refine wpList_does rfl (kd_alloc K _ rfl rfl) ?_; clear K; rintro _ w1 ⟨g, rfl, K⟩; (try dsimp only [Value.cells] at K)) | ((with_reducible refine at_buildSlice rfl ?_); refine wpList_does rfl (kd_lits (cs := _) K _ _ _ rfl (by first | rfl | (go_simp; done) | (go_simp; rfl)) (by first | rfl | (go_simp; done) | (go_simp; rfl))) ?_; clear K; rintro _ w1 ⟨g, rfl, K⟩) | ((with_reducible refine at_load rfl ?_); first | (refine wpList_reads (by rfl) (kr_load_cell K _ _ (by rfl) (by rfl) Has.auto (by decide +kernel) (by (try simp only [List.getElem?_toArray, List.getElem?_cons_succ, List.getElem?_cons_zero]); exact rfl)) ?_) | (refine wpList_reads (by rfl) (kr_load_row K _ _ (by rfl) (by rfl) Has.auto (by decide +kernel) (by kernel_rfl)) ?_)) | ((with_reducible refine at_store rfl ?_); (first | (refine wpList_does rfl (kd_store_cell K _ _ _ rfl rfl (by conv => lhs; whnf) Repl.auto rfl rfl (by kernel_rfl) (by kernel_rfl) (by first | (simp only [List.setIfInBounds_toArray, List.set_cons_succ, List.set_cons_zero]; rfl) | rfl)) ?_) | (refine wpList_does rfl (kd_store_row K _ _ _ rfl rfl rfl Repl.auto (by kernel_rfl) (by kernel_rfl) (by kernel_rfl)) ?_)); clear K; intro _ w1 K; (try simp only [Act.put])))
    go_ret2
    exact ⟨_, _, _, by rw [HR.out]; rfl, _, by rw [HR.out]; exact OwnL.nil _ _, by rw [HR.out]; rfl, K.cov Cov.auto⟩
end
end Go.Proofs.Ytfdddipmeadecaa

/-
  sector: Write, Size, Count (contracts).
-/
set_option linter.unusedVariables false
set_option linter.unusedSimpArgs false
namespace Go.Proofs.Ytfdddipmeadecaa
open Go.RowKit


theorem dburn_id {D : Dev} (h : ¬ 0 < D.fuse) : dburn D = D := by rw [dburn, if_neg h]
theorem dwrite_ok {D : Dev} (h : DevOk D) {i : Int} {b : List Int} (hb : ∀ v ∈ b, 0 ≤ v ∧ v ≤ 255) (ho : D.offs < 1000000000000) (hw : D.writes < 1000000000000) : DevOk (dwrite D i b).2 := by
  unfold dwrite
  split
  · exact h
  · next hm =>
    split
    · exact h
    · next hl =>
      have hz := dmay_zero (Decidable.of_not_not hm)
      have h1 := dput_ok h (i := i) (b := b) ⟨hz.2.1, hz.2.2⟩ (Decidable.of_not_not hl) hb
      split
      · unfold dfall
        split
        · exact h1
        · exact ⟨h1.size, h1.count, h1.rk, h1.rw_, h1.fk, h1.fw, by have := h.offs; exact ⟨by show 0 ≤ D.offs + 1; omega, by show D.offs + 1 ≤ _; omega⟩, h1.fuse, h1.writes⟩
      · next hf =>
        refine ⟨h1.size, h1.count, h1.rk, h1.rw_, h1.fk, h1.fw, h1.offs, ?_, by have := h.writes; exact ⟨by show 0 ≤ D.writes + 1; omega, by show D.writes + 1 ≤ _; omega⟩⟩
        have := h.fuse
        show -1 ≤ (if 0 < D.fuse then D.fuse - 1 else D.fuse) ∧ (if 0 < D.fuse then D.fuse - 1 else D.fuse) ≤ _
        split <;> omega
section
variable {w0 w : World} {L X : List Ent} {g : Nat} {D : Dev} {A : Option Addr} {n c : Nat} {xs : List Int}
set_option maxRecDepth 100000 in
theorem ssize_any (K : Known w0 w (X ++ L)) (hD : DevIs w0 g D X) : Calls Try.prog 41 #[.pointer (some ⟨g, 0, none⟩)] w fun e w' => e = .returned (.int .i64 (D.size : Nat)) ∧ w = w' := by
  obtain ⟨mk, mw, lk, ck, lw, cw, fz, Y, rfl, hfz, HK, HW⟩ := hD.out
  have hok := hD.ok
  simp only [List.cons_append] at K
  clear hD hok HK HW hfz
  go_enter Try.func41, Try.ntmps41
  go_wp2_with (first | ((with_reducible refine at_eqnil rfl ?_); refine wpList_reads rfl (kr_eqnil rfl rfl (by kernel_rfl)) ?_) | ((with_reducible refine at_box rfl ?_); refine wpList_does rfl (kd_box K _ _ rfl (by conv => lhs; whnf)) ?_; clear K; rintro _ w1 ⟨g, rfl, K⟩; (try dsimp only [Value.cells] at K)) | ((with_reducible refine at_alloc rfl ?_); refine wpList_does rfl (kd_alloc K _ rfl rfl) ?_; clear K; rintro _ w1 ⟨g, rfl, K⟩; (try dsimp only [Value.cells] at K)) | ((with_reducible refine at_buildSlice rfl ?_); refine wpList_does rfl (kd_lits (cs := _) K _ _ _ rfl (by first | rfl | (go_simp; done) | (go_simp; rfl)) (by first | rfl | (go_simp; done) | (go_simp; rfl))) ?_; clear K; rintro _ w1 ⟨g, rfl, K⟩) | ((with_reducible refine at_load rfl ?_); first | (refine wpList_reads (by rfl) (kr_load_cell K _ _ (by rfl) (by rfl) Has.auto (by decide +kernel) (by (try simp only [List.getElem?_toArray, List.getElem?_cons_succ, List.getElem?_cons_zero]); exact rfl)) ?_) | (refine wpList_reads (by rfl) (kr_load_row K _ _ (by rfl) (by rfl) Has.auto (by decide +kernel) (by kernel_rfl)) ?_)) | ((with_reducible refine at_store rfl ?_); (first | (refine wpList_does rfl (kd_store_cell K _ _ _ rfl rfl (by conv => lhs; whnf) Repl.auto rfl rfl (by kernel_rfl) (by kernel_rfl) (by first | (simp only [List.setIfInBounds_toArray, List.set_cons_succ, List.set_cons_zero]; rfl) | rfl)) ?_) | (refine wpList_does rfl (kd_store_row K _ _ _ rfl rfl rfl Repl.auto (by kernel_rfl) (by kernel_rfl) (by kernel_rfl)) ?_)); clear K; intro _ w1 K; (try simp only [Act.put])))
  go_ret
  exact ⟨rfl, rfl⟩
set_option maxRecDepth 100000 in
theorem scount_any (K : Known w0 w (X ++ L)) (hD : DevIs w0 g D X) : Calls Try.prog 39 #[.pointer (some ⟨g, 0, none⟩)] w fun e w' => e = .returned (.int .i64 (D.count : Nat)) ∧ w = w' := by
  obtain ⟨mk, mw, lk, ck, lw, cw, fz, Y, rfl, hfz, HK, HW⟩ := hD.out
  have hok := hD.ok
  simp only [List.cons_append] at K
  clear hD hok HK HW hfz
  go_enter Try.func39, Try.ntmps39
  go_wp2_with (first | ((with_reducible refine at_eqnil rfl ?_); refine wpList_reads rfl (kr_eqnil rfl rfl (by kernel_rfl)) ?_) | ((with_reducible refine at_box rfl ?_); refine wpList_does rfl (kd_box K _ _ rfl (by conv => lhs; whnf)) ?_; clear K; rintro _ w1 ⟨g, rfl, K⟩; (try dsimp only [Value.cells] at K)) | ((with_reducible refine at_alloc rfl ?_); refine wpList_does rfl (kd_alloc K _ rfl rfl) ?_; clear K; rintro _ w1 ⟨g, rfl, K⟩; (try dsimp only [Value.cells] at K)) | ((with_reducible refine at_buildSlice rfl ?_); refine wpList_does rfl (kd_lits (cs := _) K _ _ _ rfl (by first | rfl | (go_simp; done) | (go_simp; rfl)) (by first | rfl | (go_simp; done) | (go_simp; rfl))) ?_; clear K; rintro _ w1 ⟨g, rfl, K⟩) | ((with_reducible refine at_load rfl ?_); first | (refine wpList_reads (by rfl) (kr_load_cell K _ _ (by rfl) (by rfl) Has.auto (by decide +kernel) (by (try simp only [List.getElem?_toArray, List.getElem?_cons_succ, List.getElem?_cons_zero]); exact rfl)) ?_) | (refine wpList_reads (by rfl) (kr_load_row K _ _ (by rfl) (by rfl) Has.auto (by decide +kernel) (by kernel_rfl)) ?_)) | ((with_reducible refine at_store rfl ?_); (first | (refine wpList_does rfl (kd_store_cell K _ _ _ rfl rfl (by conv => lhs; whnf) Repl.auto rfl rfl (by kernel_rfl) (by kernel_rfl) (by first | (simp only [List.setIfInBounds_toArray, List.set_cons_succ, List.set_cons_zero]; rfl) | rfl)) ?_) | (refine wpList_does rfl (kd_store_row K _ _ _ rfl rfl rfl Repl.auto (by kernel_rfl) (by kernel_rfl) (by kernel_rfl)) ?_)); clear K; intro _ w1 K; (try simp only [Act.put])))
  go_ret
  exact ⟨rfl, rfl⟩
set_option maxHeartbeats 1600000 in
set_option maxRecDepth 100000 in
theorem swrite_any (K : Known w0 w (X ++ L)) (hD : DevIs w0 g D X) (i : Int) (R : RdS w0 L .u8 A n xs) (hb : ∀ v ∈ xs, 0 ≤ v ∧ v ≤ 255) (hn9 : n ≤ 1000000000) (ho : D.offs < 1000000000000) (hw : D.writes < 1000000000000) :
    Calls Try.prog 14 #[.pointer (some ⟨g, 0, none⟩), .int .i64 i, .slice A n c] w fun e w' => e = .returned (.int .i64 (dwrite D i xs).1) ∧ ∃ X', DevIs w0 g (dwrite D i xs).2 X' ∧ Known w0 w' (X' ++ L) := by
  have HM := Lib.hid (smay_any K hD i)
  have HD := Lib.hid hD
  have HK0 := Lib.hid K
  have hxl := R.len
  obtain ⟨mk, mw, lk, ck, lw, cw, fz, Y, rfl, hfz, HK, HW⟩ := hD.out
  have hok := hD.ok
  simp only [List.cons_append] at K
  by_cases hm : dmay D i = 0
  · rw [hm] at HM
    by_cases hl : n = D.size
    · subst hl
      have hsz := hok.size
      have hz := dmay_zero hm
      have HP := Lib.hid (dput_ok hok (i := i) (b := xs) ⟨hz.2.1, hz.2.2⟩ (by omega) hb)
      have HWR := Lib.hid (show dwrite D i xs = if D.fuse = 0 then (8, dfall (dput D i xs)) else (0, { dburn (dput D i xs) with writes := D.writes + 1 }) by
        rw [dwrite, if_neg (by omega), if_neg (by omega)]; rfl)
      have HOKW := Lib.hid (dwrite_ok hok (i := i) hb ho hw)
      have o1 := IntWalk.u64_in (D.writes + 1) (by have := hok.writes; omega)
      clear hm hxl hb
      go_enter Try.func14, Try.ntmps14
      go_upto_region 6 with ((first | (go_at_call 30; (with_reducible refine (HM.out).mono ?_); rintro e w' ⟨rfl, rfl⟩) | ((with_reducible refine at_eqnil rfl ?_); refine wpList_reads rfl (kr_eqnil rfl rfl (by kernel_rfl)) ?_) | ((with_reducible refine at_box rfl ?_); refine wpList_does rfl (kd_box K _ _ rfl (by conv => lhs; whnf)) ?_; clear K; rintro _ w1 ⟨g, rfl, K⟩; (try dsimp only [Value.cells] at K)) | ((with_reducible refine at_alloc rfl ?_); refine wpList_does rfl (kd_alloc K _ rfl rfl) ?_; clear K; rintro _ w1 ⟨g, rfl, K⟩; (try dsimp only [Value.cells] at K)) | ((with_reducible refine at_buildSlice rfl ?_); refine wpList_does rfl (kd_lits (cs := _) K _ _ _ rfl (by first | rfl | (go_simp; done) | (go_simp; rfl)) (by first | rfl | (go_simp; done) | (go_simp; rfl))) ?_; clear K; rintro _ w1 ⟨g, rfl, K⟩) | ((with_reducible refine at_load rfl ?_); first | (refine wpList_reads (by rfl) (kr_load_cell K _ _ (by rfl) (by rfl) Has.auto (by decide +kernel) (by (try simp only [List.getElem?_toArray, List.getElem?_cons_succ, List.getElem?_cons_zero]); exact rfl)) ?_) | (refine wpList_reads (by rfl) (kr_load_row K _ _ (by rfl) (by rfl) Has.auto (by decide +kernel) (by kernel_rfl)) ?_)) | ((with_reducible refine at_store rfl ?_); (first | (refine wpList_does rfl (kd_store_cell K _ _ _ rfl rfl (by conv => lhs; whnf) Repl.auto rfl rfl (by kernel_rfl) (by kernel_rfl) (by first | (simp only [List.setIfInBounds_toArray, List.set_cons_succ, List.set_cons_zero]; rfl) | rfl)) ?_) | (refine wpList_does rfl (kd_store_row K _ _ _ rfl rfl rfl Repl.auto (by kernel_rfl) (by kernel_rfl) (by kernel_rfl)) ?_)); clear K; intro _ w1 K; (try simp only [Act.put]))))
      refine wp_region_GK K (Cov.all _) (by kernel_rfl) (by kernel_rfl) (by kernel_rfl) (fun K hHeld => ?_)
      refine wpG_takeA 0 (v := ?_) ?_ hHeld ?_
      rotate_left
      · (intro w hS; (clear hS; go_simp); try with_reducible rfl)
      try simp only [Act.put, List.setIfInBounds_toArray, List.set_cons_zero, List.set_cons_succ]
      refine wpG_takeA 1 (v := ?_) ?_ hHeld ?_
      rotate_left
      · (intro w hS; (clear hS; go_simp); try with_reducible rfl)
      try simp only [Act.put, List.setIfInBounds_toArray, List.set_cons_zero, List.set_cons_succ]
      refine wpG_takeA 2 (v := ?_) ?_ hHeld ?_
      rotate_left
      · (intro w hS; (clear hS; go_simp); try with_reducible rfl)
      try simp only [Act.put, List.setIfInBounds_toArray, List.set_cons_zero, List.set_cons_succ]
      refine wpG_takeA 3 (v := ?_) ?_ hHeld ?_
      rotate_left
      · (intro w hS; first | exact kr_load_cell hS _ _ (by rfl) (by rfl) Has.auto (by decide +kernel) (by (try simp only [List.getElem?_toArray, List.getElem?_cons_succ, List.getElem?_cons_zero]); exact rfl) | exact kr_load_row hS _ _ (by rfl) (by rfl) Has.auto (by decide +kernel) (by kernel_rfl))
      try simp only [Act.put, List.setIfInBounds_toArray, List.set_cons_zero, List.set_cons_succ]
      refine wpG_takeA 4 (v := ?_) ?_ hHeld ?_
      rotate_left
      · (intro w hS; (clear hS; go_simp); try with_reducible rfl)
      try simp only [Act.put, List.setIfInBounds_toArray, List.set_cons_zero, List.set_cons_succ]
      refine wpG_takeA 5 (v := ?_) ?_ hHeld ?_
      rotate_left
      · (intro w hS; (clear hS; go_simp); try with_reducible rfl)
      try simp only [Act.put, List.setIfInBounds_toArray, List.set_cons_zero, List.set_cons_succ]
      refine wpG_oneA 6 (fun K9 hK => ?_)
      go_simp
      (go_at_call 31; (with_reducible refine (clone_any K (R.cov Cov.auto) (by omega)).mono ?_); clear K; rintro e w1 ⟨A1, c1, X1, rfl, O, K⟩)
      refine hK.out _ _ (K.cov Cov.auto) (fun hHeld => ?_)
      clear hK K9
      try simp only [Act.put, List.setIfInBounds_toArray, List.set_cons_zero, List.set_cons_succ]
      refine wpG_takeA 7 (v := ?_) ?_ hHeld ?_
      rotate_left
      · (intro w hS; (clear hS; go_simp); try with_reducible rfl)
      try simp only [Act.put, List.setIfInBounds_toArray, List.set_cons_zero, List.set_cons_succ]
      refine wpG_lastA 8 (fun K9 hK => ?_)
      refine st_does (by rfl) (kd_mapUpdate K (by rfl) (by rfl) (by rfl) (by conv => lhs; whnf) Repl.auto Try.underlying60 Try.underlying3) ?_
      clear K; intro _ w1 K
      refine hK.out _ _ ?_
      clear hK K9
      try simp only [Act.put, List.setIfInBounds_toArray, List.set_cons_zero, List.set_cons_succ]
      skip
      have HW2 := (HW.cov (Y := X1 ++ Y) (Cov.skip X1 (Cov.all Y))).put hok.rw_ (i := i) (f := ⟨xs, false⟩) (v := .agg #[.slice A1 D.size c1, .bool false]) ⟨A1, D.size, c1, rfl, RdS.own O (Seg.ap X1 Y), O.le⟩
      have HD2 : DevIs w0 g (dput D i xs) (row g #[.int .i64 (D.size : Nat), .int .i64 (D.count : Nat), .map (some mk), .map (some mw), .bool D.off, .int .i64 D.offs, .bool (decide (0 ≤ D.fuse)), .int .i64 fz, .int .u64 D.writes] 62 :: mrow mk lk ck :: mrow mw (mput lw i (.agg #[.slice A1 D.size c1, .bool false]) cw) (if mhas lw i then cw else cw + 1) :: (X1 ++ Y)) := ⟨⟨mk, mw, lk, ck, _, _, fz, X1 ++ Y, rfl, hfz, HK.cov (Cov.skip X1 (Cov.all Y)), HW2⟩, HP.out⟩
      obtain ⟨X2, hX2⟩ : ∃ X2, X2 = row g #[.int .i64 (D.size : Nat), .int .i64 (D.count : Nat), .map (some mk), .map (some mw), .bool D.off, .int .i64 D.offs, .bool (decide (0 ≤ D.fuse)), .int .i64 fz, .int .u64 D.writes] 62 :: mrow mk lk ck :: mrow mw (mput lw i (.agg #[.slice A1 D.size c1, .bool false]) cw) (if mhas lw i then cw else cw + 1) :: (X1 ++ Y) := ⟨_, rfl⟩
      have K2 : Known w0 w1 (X2 ++ L) := by
        rw [hX2]
        have K3 : Known w0 w1 (row g #[.int .i64 (D.size : Nat), .int .i64 (D.count : Nat), .map (some mk), .map (some mw), .bool D.off, .int .i64 D.offs, .bool (decide (0 ≤ D.fuse)), .int .i64 fz, .int .u64 D.writes] 62 :: mrow mk lk ck :: mrow mw (mput lw i (.agg #[.slice A1 D.size c1, .bool false]) cw) (if mhas lw i then cw else cw + 1) :: (X1 ++ (Y ++ L))) := K.cov Cov.auto
        simpa only [List.cons_append, List.append_assoc] using K3
      rw [← hX2] at HD2
      clear K hX2 HW2 O HK HW hfz hD HD HK0 hHeld
      have K := K2
      clear K2
      obtain ⟨D2, hD2⟩ : ∃ D2, D2 = dput D i xs := ⟨_, rfl⟩
      have HE2 := Lib.hid hD2
      rw [← hD2] at HD2 HWR HP
      have ho2 : D2.offs < 1000000000000 := by rw [hD2]; exact ho
      have hw2 : D2.writes = D.writes := by rw [hD2]; rfl
      have HW2 := Lib.hid hw2
      have hfu : D2.fuse = D.fuse := by rw [hD2]; rfl
      by_cases hf : D.fuse = 0
      · have HB := Lib.hid (show decide (D2.fuse = 0) = true by rw [hfu]; exact decide_eq_true hf)
        rw [if_pos hf] at HWR
        have HBE := Lib.hid (dburn_id (D := D2) (by rw [hfu]; omega))
        clear hf hw2 hfu hD2
        go_wp2_with (first | (go_at_call 32; (with_reducible refine (sburns_any K HD2).mono ?_); clear K; rintro e w1 ⟨rfl, X3, HD3, K⟩; rw [HB.out]; rw [HBE.out] at HD3) | (go_at_call 19; (with_reducible refine (soff_any K HD3 ho2).mono ?_); clear K; rintro e w1 ⟨rfl, X4, HD4, K⟩))
        go_ret
        exact ⟨by rw [HWR.out]; rfl, X4, by rw [HWR.out]; exact HD4, K⟩
      · have HB := Lib.hid (show decide (D2.fuse = 0) = false by rw [hfu]; exact decide_eq_false hf)
        rw [if_neg hf] at HWR
        clear hf hw2 hfu hD2
        go_upto_region 10 with ((first | (go_at_call 32; (with_reducible refine (sburns_any K HD2).mono ?_); clear K; rintro e w1 ⟨rfl, X3, HD3, K⟩; rw [HB.out])))
        obtain ⟨mk, mw, lk, ck, lw, cw, fz, Y, rfl, hfz, HK, HW⟩ := HD3.out
        have e1 : (dburn D2).writes = D.writes := HW2.out
        rw [e1] at K
        simp only [List.cons_append] at K
        go_wp2_with (first | ((with_reducible refine at_eqnil rfl ?_); refine wpList_reads rfl (kr_eqnil rfl rfl (by kernel_rfl)) ?_) | ((with_reducible refine at_box rfl ?_); refine wpList_does rfl (kd_box K _ _ rfl (by conv => lhs; whnf)) ?_; clear K; rintro _ w1 ⟨g, rfl, K⟩; (try dsimp only [Value.cells] at K)) | ((with_reducible refine at_alloc rfl ?_); refine wpList_does rfl (kd_alloc K _ rfl rfl) ?_; clear K; rintro _ w1 ⟨g, rfl, K⟩; (try dsimp only [Value.cells] at K)) | ((with_reducible refine at_buildSlice rfl ?_); refine wpList_does rfl (kd_lits (cs := _) K _ _ _ rfl (by first | rfl | (go_simp; done) | (go_simp; rfl)) (by first | rfl | (go_simp; done) | (go_simp; rfl))) ?_; clear K; rintro _ w1 ⟨g, rfl, K⟩) | ((with_reducible refine at_load rfl ?_); first | (refine wpList_reads (by rfl) (kr_load_cell K _ _ (by rfl) (by rfl) Has.auto (by decide +kernel) (by (try simp only [List.getElem?_toArray, List.getElem?_cons_succ, List.getElem?_cons_zero]); exact rfl)) ?_) | (refine wpList_reads (by rfl) (kr_load_row K _ _ (by rfl) (by rfl) Has.auto (by decide +kernel) (by kernel_rfl)) ?_)) | ((with_reducible refine at_store rfl ?_); (first | (refine wpList_does rfl (kd_store_cell K _ _ _ rfl rfl (by conv => lhs; whnf) Repl.auto rfl rfl (by kernel_rfl) (by kernel_rfl) (by first | (simp only [List.setIfInBounds_toArray, List.set_cons_succ, List.set_cons_zero]; rfl) | rfl)) ?_) | (refine wpList_does rfl (kd_store_row K _ _ _ rfl rfl rfl Repl.auto (by kernel_rfl) (by kernel_rfl) (by kernel_rfl)) ?_)); clear K; intro _ w1 K; (try simp only [Act.put])))
        go_ret
        exact ⟨by rw [HWR.out]; rfl, _, ⟨⟨mk, mw, lk, ck, lw, cw, fz, Y, rfl, by rw [HWR.out]; exact hfz, by rw [HWR.out]; exact HK, by rw [HWR.out]; exact HW⟩, HOKW.out⟩, by rw [HWR.out]; exact K⟩
    · have hl2 : ((n : Int) != (D.size : Int)) = true := by simp; omega
      have HWR := Lib.hid (show dwrite D i xs = (3, D) by rw [dwrite, if_neg (by omega), if_pos (by omega)])
      clear hm hl hxl
      go_enter Try.func14, Try.ntmps14
      go_wp2_with (first | (go_at_call 30; (with_reducible refine (HM.out).mono ?_); rintro e w' ⟨rfl, rfl⟩) | ((with_reducible refine at_eqnil rfl ?_); refine wpList_reads rfl (kr_eqnil rfl rfl (by kernel_rfl)) ?_) | ((with_reducible refine at_box rfl ?_); refine wpList_does rfl (kd_box K _ _ rfl (by conv => lhs; whnf)) ?_; clear K; rintro _ w1 ⟨g, rfl, K⟩; (try dsimp only [Value.cells] at K)) | ((with_reducible refine at_alloc rfl ?_); refine wpList_does rfl (kd_alloc K _ rfl rfl) ?_; clear K; rintro _ w1 ⟨g, rfl, K⟩; (try dsimp only [Value.cells] at K)) | ((with_reducible refine at_buildSlice rfl ?_); refine wpList_does rfl (kd_lits (cs := _) K _ _ _ rfl (by first | rfl | (go_simp; done) | (go_simp; rfl)) (by first | rfl | (go_simp; done) | (go_simp; rfl))) ?_; clear K; rintro _ w1 ⟨g, rfl, K⟩) | ((with_reducible refine at_load rfl ?_); first | (refine wpList_reads (by rfl) (kr_load_cell K _ _ (by rfl) (by rfl) Has.auto (by decide +kernel) (by (try simp only [List.getElem?_toArray, List.getElem?_cons_succ, List.getElem?_cons_zero]); exact rfl)) ?_) | (refine wpList_reads (by rfl) (kr_load_row K _ _ (by rfl) (by rfl) Has.auto (by decide +kernel) (by kernel_rfl)) ?_)) | ((with_reducible refine at_store rfl ?_); (first | (refine wpList_does rfl (kd_store_cell K _ _ _ rfl rfl (by conv => lhs; whnf) Repl.auto rfl rfl (by kernel_rfl) (by kernel_rfl) (by first | (simp only [List.setIfInBounds_toArray, List.set_cons_succ, List.set_cons_zero]; rfl) | rfl)) ?_) | (refine wpList_does rfl (kd_store_row K _ _ _ rfl rfl rfl Repl.auto (by kernel_rfl) (by kernel_rfl) (by kernel_rfl)) ?_)); clear K; intro _ w1 K; (try simp only [Act.put])))
      go_ret
      exact ⟨by rw [HWR.out]; rfl, _, by rw [HWR.out]; exact HD.out, HK0.out⟩
  · have HWR := Lib.hid (show dwrite D i xs = (dmay D i, D) by rw [dwrite, if_pos hm])
    have hm2 : (dmay D i != 0) = true := by simpa using hm
    obtain ⟨m, hme⟩ : ∃ m, m = dmay D i := ⟨_, rfl⟩
    rw [← hme] at HM hm2 HWR
    clear hm hme
    go_enter Try.func14, Try.ntmps14
    go_wp2_with (first | (go_at_call 30; (with_reducible refine (HM.out).mono ?_); rintro e w' ⟨rfl, rfl⟩) | ((with_reducible refine at_eqnil rfl ?_); refine wpList_reads rfl (kr_eqnil rfl rfl (by kernel_rfl)) ?_) | ((with_reducible refine at_box rfl ?_); refine wpList_does rfl (kd_box K _ _ rfl (by conv => lhs; whnf)) ?_; clear K; rintro _ w1 ⟨g, rfl, K⟩; (try dsimp only [Value.cells] at K)) | ((with_reducible refine at_alloc rfl ?_); refine wpList_does rfl (kd_alloc K _ rfl rfl) ?_; clear K; rintro _ w1 ⟨g, rfl, K⟩; (try dsimp only [Value.cells] at K)) | ((with_reducible refine at_buildSlice rfl ?_); refine wpList_does rfl (kd_lits (cs := _) K _ _ _ rfl (by first | rfl | (go_simp; done) | (go_simp; rfl)) (by first | rfl | (go_simp; done) | (go_simp; rfl))) ?_; clear K; rintro _ w1 ⟨g, rfl, K⟩) | ((with_reducible refine at_load rfl ?_); first | (refine wpList_reads (by rfl) (kr_load_cell K _ _ (by rfl) (by rfl) Has.auto (by decide +kernel) (by (try simp only [List.getElem?_toArray, List.getElem?_cons_succ, List.getElem?_cons_zero]); exact rfl)) ?_) | (refine wpList_reads (by rfl) (kr_load_row K _ _ (by rfl) (by rfl) Has.auto (by decide +kernel) (by kernel_rfl)) ?_)) | ((with_reducible refine at_store rfl ?_); (first | (refine wpList_does rfl (kd_store_cell K _ _ _ rfl rfl (by conv => lhs; whnf) Repl.auto rfl rfl (by kernel_rfl) (by kernel_rfl) (by first | (simp only [List.setIfInBounds_toArray, List.set_cons_succ, List.set_cons_zero]; rfl) | rfl)) ?_) | (refine wpList_does rfl (kd_store_row K _ _ _ rfl rfl rfl Repl.auto (by kernel_rfl) (by kernel_rfl) (by kernel_rfl)) ?_)); clear K; intro _ w1 K; (try simp only [Act.put])))
    go_ret
    exact ⟨by rw [HWR.out]; rfl, _, by rw [HWR.out]; exact HD.out, HK0.out⟩
end
end Go.Proofs.Ytfdddipmeadecaa
