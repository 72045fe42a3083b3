/-
  Slices of structs, as lists of records: read, made by append. Over any program.
-/
import Derived.Test.YthbehlohdoajbaaR
set_option linter.unusedVariables false
set_option linter.unusedSimpArgs false
namespace Go.Proofs.Ythbehlohdoajbaa
open Go.RowKit
section
variable {α : Type} {enc : α → List Value} {s : Nat}
/-- the cells of record j -/
def encAt (enc : α → List Value) (m : List α) (j : Nat) : List Value := ((m[j]?).map enc).getD []
theorem encAt_get {m : List α} {j : Nat} (h : j < m.length) : encAt enc m j = enc m[j] := by simp [encAt, h]
theorem flatMap_len (hl : ∀ a, (enc a).length = s) : ∀ m : List α, (m.flatMap enc).length = m.length * s
  | [] => by simp
  | a :: m => by rw [List.flatMap_cons, List.length_append, hl, flatMap_len hl m, List.length_cons, Nat.succ_mul]; omega
theorem flatMap_get (hl : ∀ a, (enc a).length = s) : ∀ {m : List α} {j i : Nat} {v : Value}, (encAt enc m j)[i]? = some v → (m.flatMap enc)[j * s + i]? = some v
  | [], j, i, v, h => by simp [encAt] at h
  | a :: m, 0, i, v, h => by
    have h' : (enc a)[i]? = some v := by simpa [encAt] using h
    have hi : i < (enc a).length := by
      rcases Nat.lt_or_ge i (enc a).length with h1 | h1
      · exact h1
      · rw [List.getElem?_eq_none h1] at h'; cases h'
    rw [List.flatMap_cons, Nat.zero_mul, Nat.zero_add, List.getElem?_append_left hi]
    exact h'
  | a :: m, j + 1, i, v, h => by
    have h' : (encAt enc m j)[i]? = some v := by simpa [encAt] using h
    have := flatMap_get hl h'
    rw [List.flatMap_cons, List.getElem?_append_right (by rw [hl, Nat.succ_mul]; omega), hl]
    rw [show (j + 1) * s + i - s = j * s + i by rw [Nat.succ_mul]; omega]
    exact this
/-- A slice of records that reads as m, whatever becomes of the world, as long as L is known. -/
structure RdM (w0 : World) (L : List Ent) (enc : α → List Value) (s : Nat) (A : Option Addr) (n : Nat) (m : List α) : Prop where mk :: (rd : RdE w0 L s A n (encAt enc m)) (len : m.length = n)
namespace RdM
variable {w0 w : World} {L T : List Ent} {A : Option Addr} {n : Nat} {m : List α}
theorem cov (h : RdM w0 T enc s A n m) (hc : Cov T L) : RdM w0 L enc s A n m := ⟨h.rd.cov hc, h.len⟩
theorem nil (w0 : World) (L : List Ent) (enc : α → List Value) (s : Nat) (A : Option Addr) : RdM w0 L enc s A 0 [] := ⟨RdE.nil _ _ _ _ _, rfl⟩
theorem form (h : RdM w0 L enc s A n m) (K : Known w0 w L) (hn : 0 < n) : ∃ b off, A = some ⟨b, off, none⟩ := h.rd.form K hn
theorem own {e : TypeId} {c : Nat} {X : List Ent} {f : List Ent → List Ent} (O : OwnL e s A n c (m.flatMap enc) X) (hs : Seg X f L) (hl : ∀ a, (enc a).length = s) (h0 : 0 < s) : RdM w0 L enc s A n m := by
  have hlen := O.len
  rw [flatMap_len hl] at hlen
  have hn : m.length = n := Nat.eq_of_mul_eq_mul_right h0 hlen
  refine ⟨?_, hn⟩
  rcases O.out.2 with ⟨rfl, rfl, rfl, rfl⟩ | ⟨g, cur, rfl, rfl, h1, h2, h3, h4⟩
  · exact RdE.nil _ _ _ _ _
  · obtain ⟨A', B', _, rfl⟩ := hs.out
    refine RdE.ofRow (g := g) (cs := cur) (t := e) ⟨by simp⟩ fun j hj i v hv => ?_
    have hv' := flatMap_get hl hv
    rw [← h4] at hv'
    rw [← Array.getElem?_toList, Nat.zero_add]
    rw [List.getElem?_take] at hv'
    split at hv'
    · exact hv'
    · cases hv'
end RdM
theorem OwnL.snoc {e : TypeId} {A : Option Addr} {n c : Nat} {m : List α} {a : α} {X : List Ent} (h : OwnL e s A n c (m.flatMap enc ++ enc a) X) : OwnL e s A n c ((m ++ [a]).flatMap enc) X := by
  rw [List.flatMap_append]; simpa using h
end
section
variable {α : Type} {enc : α → List Value} {P : Program} {o : Oper} {a : Act} {W w0 : World} {L : List Ent}
/-- append(s, r): one record -/
theorem kd_appendR (K : Known w0 W L) (t e : TypeId) {s x : Operand} (ho : o.op = .call { callee := .builtin .append, args := #[s, x], argTypes := #[t, t] }) {sz : Nat} {A : Option Addr} {g n c : Nat} {m : List α} {r : α} {X : List Ent} {f : List Ent → List Ent} {te : TypeId}
    (hs : a.eval s = .slice A n c) (hx : a.eval x = .slice (some ⟨g, 0, none⟩) 1 1) (hX : OwnL e sz A n c (m.flatMap enc) X) (hsg : Seg X f L) {cs : Array Value} (hg : Has (row g cs te) L) (hcs : cs.toList = enc r) (ht : P.underlying t = some (.slice e)) (hinfo : elemB P e sz = true) (hs0 : 0 < sz)
    (hl : (enc r).length = sz) (h1 : ∀ u ∈ enc r, u.oneCell' = true) (hbytes : n + 1 ≤ 34000000000) :
    Does P o a W fun u w1 => ∃ A' c' X', u = .slice A' (n + 1) c' ∧ OwnL e sz A' (n + 1) c' ((m ++ [r]).flatMap enc) X' ∧ Known w0 w1 (f X') := by
  obtain ⟨nx, w1, hr, h⟩ := kd_append (P := P) K t e ho hs hx hX hsg ht hinfo hs0 (us := enc r) (by omega) (fun _ => ⟨g, 0, rfl, fun j u hj => by
    rw [Nat.zero_add]
    exact ((K.blk hg).cell j).trans (by rw [← Array.getElem?_toList, hcs]; exact hj)⟩) h1 hbytes
  refine ⟨nx, w1, hr, ?_⟩
  rcases h with ⟨v, e1, A', c', X', e2, O, K2⟩ | ⟨e1, A', c', X', e2, O, K2⟩
  · exact .inl ⟨v, e1, A', c', X', e2, O.snoc, K2⟩
  · exact .inr ⟨e1, A', c', X', e2, O.snoc, K2⟩
end
section
variable {α : Type} {enc : α → List Value} {P : Program} {o : Oper} {a : Act} {W w0 : World} {L : List Ent}
/-- record j is read -/
theorem kr_load_rec (K : Known w0 W L) (ty : TypeId) (x : Operand) (ho : o.op = .load ty x) {b off q s n : Nat} {m : List α} (j : Nat) (r : List Value) (hx : a.eval x = .pointer (some ⟨b, q, none⟩)) (hR : RdM w0 L enc s (some ⟨b, off, none⟩) n m) (hj : j < n) (he : encAt enc m j = r) (hq : q = off + j * s) (hu : aggB P ty = true) (hi : sizeIs P ty s = true) (hl : r.length = s) :
    (execOp a.eval o).run P W = .ok (.value (.agg r.toArray)) W := by
  subst he
  exact kr_load_elem K ty x ho j hx hR.rd hj hq hu hi hl
/-- a field of record j is read -/
theorem kr_load_rcell (K : Known w0 W L) (ty : TypeId) (x : Operand) (ho : o.op = .load ty x) {b off q s n : Nat} {m : List α} (j i : Nat) {r : List Value} {v : Value} (hx : a.eval x = .pointer (some ⟨b, q, none⟩)) (hR : RdM w0 L enc s (some ⟨b, off, none⟩) n m) (hj : j < n) (he : encAt enc m j = r) (hv : r[i]? = some v) (hq : q = off + j * s + i) (hu : oneB P ty = true) :
    (execOp a.eval o).run P W = .ok (.value v) W := by
  subst he
  exact kr_load_ecell K ty x ho j i hx hR.rd hj hv hq hu
end
end Go.Proofs.Ythbehlohdoajbaa
