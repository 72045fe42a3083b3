/-
  octet's Put and Get, the document's; over what is known (contracts).
-/
import Derived.Test.YthbehlohdoajbaaROct
import Derived.Test.YthbehlohdoajbaaR
import Derived.Laws.BitsAllLaws
set_option linter.unusedVariables false
set_option linter.unusedSimpArgs false
namespace Go.Proofs.Ythbehlohdoajbaa
open Go.RowKit

theorem take_snoc' (xs : List Int) (k : Nat) (h : k < xs.length) : xs.take (k + 1) = xs.take k ++ [xs.getD k 0] := by
  rw [List.take_succ_eq_append_getElem h, List.getD_eq_getElem?_getD, List.getElem?_eq_getElem h]
  rfl

theorem false_of {b : Bool} (h : b = true → False) : b = false := by
  cases b
  · rfl
  · exact (h rfl).elim
theorem strOfNums_inj {a b : List Int} (ha : ∀ v ∈ a, 0 ≤ v ∧ v ≤ 255) (hb : ∀ v ∈ b, 0 ≤ v ∧ v ≤ 255) (h : strOfNums a = strOfNums b) : a = b := by
  have e : (a.map fun n => UInt8.ofNat n.toNat) = b.map fun n => UInt8.ofNat n.toNat := by
    have := congrArg (fun s : ByteArray => s.data.toList) h
    simpa [strOfNums] using this
  have inv : ∀ l : List Int, (∀ v ∈ l, 0 ≤ v ∧ v ≤ 255) → (l.map fun n => UInt8.ofNat n.toNat).map (fun u => (u.toNat : Int)) = l := by
    intro l hl
    rw [List.map_map]
    conv => rhs; rw [← List.map_id l]
    apply List.map_congr_left
    intro v hv
    have := hl v hv
    simp
    omega
  rw [← inv a ha, e, inv b hb]
/-- a number of bytes, the highest first -/
def numL (l : List Int) : Int := l.foldl (fun x c => x * 256 + c) 0
theorem numL_snoc (l : List Int) (c : Int) : numL (l ++ [c]) = numL l * 256 + c := by simp [numL]
theorem numL_bound : ∀ (k : Nat) (l : List Int), l.length ≤ k → (∀ c ∈ l, 0 ≤ c ∧ c ≤ 255) → 0 ≤ numL l ∧ numL l < 256 ^ k := by
  intro k
  induction k with
  | zero => intro l h _; have : l = [] := List.eq_nil_of_length_eq_zero (by omega); subst this; simp [numL]
  | succ k ih =>
    intro l h hc
    by_cases hl : l = []
    · subst hl
      refine ⟨by simp [numL], ?_⟩
      have : (0 : Int) < 256 ^ (k + 1) := Int.pow_pos (by decide)
      simpa [numL] using this
    · obtain ⟨l', c, rfl⟩ : ∃ l' c, l = l' ++ [c] := ⟨l.dropLast, l.getLast hl, (List.dropLast_concat_getLast hl).symm⟩
      obtain ⟨h0, h1⟩ := ih l' (by simp at h; omega) (fun x hx => hc x (by simp [hx]))
      have h2 := hc c (by simp)
      rw [numL_snoc, Int.pow_succ]
      omega

theorem nat_or256 (a b : Nat) (hb : b < 256) : a * 256 ||| b = a * 256 + b := by
  have := Nat.shiftLeft_add_eq_or_of_lt (b := b) (i := 8) hb a
  rw [Nat.shiftLeft_eq] at this
  exact this.symm
theorem or_u64 (u v : Int) (u0 : 0 ≤ u) (u1 : u ≤ 72057594037927935) (v0 : 0 ≤ v) (v1 : v ≤ 255) : bits .or .u64 (u * 256) v = u * 256 + v := by
  rw [u64_or _ _ (by omega) (by omega) (by omega) (by omega)]
  rw [show (u * 256).toNat = u.toNat * 256 by omega, nat_or256 _ _ (by omega)]
  omega
section
variable (A : Option Addr) (n c : Nat) (xs : List Int) (a k : Nat) (x y : Int) (w : World)
set_option maxHeartbeats 800000 in
set_option maxRecDepth 100000 in
theorem get_any (R : Rd w .u8 A n xs) (hx : x = a) (hy : y = k) (h1 : 1 ≤ k) (h8 : k ≤ 8) (hak : a + k ≤ n) (hc : n ≤ c) (hm : c ≤ 9223372036854775807) (hb : ∀ b ∈ xs, 0 ≤ b ∧ b ≤ 255) :
    Calls Try.prog 62 #[.slice A n c, .int .i64 x, .int .i64 y] w fun e w' => e = .returned (.tuple #[.int .u64 (numL ((xs.drop a).take k)), .int .i64 0]) ∧ w = w' := by
  subst hx hy
  obtain ⟨b, off, rfl, hlt, hcell⟩ := R.form (by omega)
  have d1 : decide ((k : Int) < 1) = false := decide_eq_false (by omega)
  have d2 : decide (8 < (k : Int)) = false := decide_eq_false (by omega)
  have d3 : decide ((a : Int) < 0) = false := decide_eq_false (by omega)
  have d4 : decide ((n : Int) < (a : Int)) = false := decide_eq_false (by omega)
  have d5 : decide ((n : Int) - (a : Int) < (k : Int)) = false := decide_eq_false (by omega)
  have HC := Lib.hid hcell
  have HB := Lib.hid hb
  clear hcell hb
  go_enter Try.func62, Try.ntmps62
  go_wp2
  go_loop [8, 42] (fun t i => ∃ j : Nat, j ≤ k ∧ i = .int .i64 j ∧ t = .int .u64 (numL ((xs.drop a).take j))) (fun _ i => k - (intOf i).toNat)
  case atStart => exact ⟨0, Nat.zero_le _, rfl, rfl⟩
  case round =>
    obtain ⟨j, hj, rfl, rfl⟩ := hrel
    by_cases hlt : j < k
    · obtain ⟨v, hv⟩ : ∃ v, v = xs.getD (a + j) 0 := ⟨_, rfl⟩
      have hl := R.len
      have hcj := HC.out (a + j) (by omega)
      rw [← hv, show off + (a + j) = off + a + j by omega] at hcj
      have hv2 := HB.out v (by rw [hv, List.getD, List.getElem?_eq_getElem (by omega)]; exact List.getElem_mem _)
      obtain ⟨v0, v1⟩ := hv2
      have HT := Lib.hid (show numL ((xs.drop a).take (j + 1)) = numL ((xs.drop a).take j) * 256 + v by
        rw [take_snoc' (xs.drop a) j (by simp; omega), numL_snoc, hv]; simp [List.getD])
      obtain ⟨u, hu⟩ : ∃ u, numL ((xs.drop a).take j) = u := ⟨_, rfl⟩
      have hub := numL_bound 7 ((xs.drop a).take j) (by simp; omega) (fun c hc => HB.out c (List.mem_of_mem_drop (List.mem_of_mem_take hc)))
      rw [hu] at HT hub ⊢
      obtain ⟨u0, u1⟩ := hub
      have u2 : u ≤ 72057594037927935 := by have e : (256 : Int) ^ 7 = 72057594037927936 := by decide
                                            omega
      clear hv hl hu u1
      go_wp2
      go_round
      case rel => exact ⟨j + 1, by omega, by go_num, by rw [HT.out]; rw [or_u64 u v u0 u2 v0 v1]⟩
      case measure => simp [intOf]; omega
    · have e : j = k := by omega
      subst e
      go_wp2
      go_ret2
      exact ⟨rfl, rfl⟩
set_option maxHeartbeats 800000 in
set_option maxRecDepth 100000 in
theorem rget_any (R : Rd w .u8 A n xs) (hx : x = a) (hy : y = k) (h1 : 1 ≤ k) (h8 : k ≤ 8) (hak : a + k ≤ n) (hc : n ≤ c) (hm : c ≤ 9223372036854775807) (hb : ∀ b ∈ xs, 0 ≤ b ∧ b ≤ 255) :
    Calls Try.prog 46 #[.slice A n c, .int .i64 x, .int .i64 y] w fun e w' => e = .returned (.tuple #[.int .u64 (numL ((xs.drop a).take k)), .int .i64 0]) ∧ w = w' := by
  subst hx hy
  obtain ⟨b, off, rfl, hlt, hcell⟩ := R.form (by omega)
  have d1 : decide ((k : Int) < 1) = false := decide_eq_false (by omega)
  have d2 : decide (8 < (k : Int)) = false := decide_eq_false (by omega)
  have d3 : decide ((a : Int) < 0) = false := decide_eq_false (by omega)
  have d4 : decide ((n : Int) < (a : Int)) = false := decide_eq_false (by omega)
  have d5 : decide ((n : Int) - (a : Int) < (k : Int)) = false := decide_eq_false (by omega)
  have HC := Lib.hid hcell
  have HB := Lib.hid hb
  clear hcell hb
  go_enter Try.func46, Try.ntmps46
  go_wp2
  go_loop [8, 9] (fun t i => ∃ j : Nat, j ≤ k ∧ i = .int .i64 j ∧ t = .int .u64 (numL ((xs.drop a).take j))) (fun _ i => k - (intOf i).toNat)
  case atStart => exact ⟨0, Nat.zero_le _, rfl, rfl⟩
  case round =>
    obtain ⟨j, hj, rfl, rfl⟩ := hrel
    by_cases hlt : j < k
    · obtain ⟨v, hv⟩ : ∃ v, v = xs.getD (a + j) 0 := ⟨_, rfl⟩
      have hl := R.len
      have hcj := HC.out (a + j) (by omega)
      rw [← hv] at hcj
      have hv2 := HB.out v (by rw [hv, List.getD, List.getElem?_eq_getElem (by omega)]; exact List.getElem_mem _)
      obtain ⟨v0, v1⟩ := hv2
      have HT := Lib.hid (show numL ((xs.drop a).take (j + 1)) = numL ((xs.drop a).take j) * 256 + v by
        rw [take_snoc' (xs.drop a) j (by simp; omega), numL_snoc, hv]; simp [List.getD])
      obtain ⟨u, hu⟩ : ∃ u, numL ((xs.drop a).take j) = u := ⟨_, rfl⟩
      have hub := numL_bound 7 ((xs.drop a).take j) (by simp; omega) (fun c hc => HB.out c (List.mem_of_mem_drop (List.mem_of_mem_take hc)))
      rw [hu] at HT hub ⊢
      obtain ⟨u0, u1⟩ := hub
      have u2 : u ≤ 72057594037927935 := by have e : (256 : Int) ^ 7 = 72057594037927936 := by decide
                                            omega
      clear hv hl hu u1
      go_wp2
      go_round
      case rel => exact ⟨j + 1, by omega, by go_num, by rw [HT.out]⟩
      case measure => simp [intOf]; omega
    · have e : j = k := by omega
      subst e
      go_wp2
      go_ret2
      exact ⟨rfl, rfl⟩
end
section
variable {w0 w : World} {L : List Ent} {A : Option Addr} {n c : Nat} {xs : List Int}
theorem putK (k : Nat) (x y : Int) (K : Known w0 w L) (R : RdS w0 L .u8 A n xs) (hn : n ≤ 274877906944) (hy : y = k) (h1 : 1 ≤ k) (h8 : k ≤ 8) :
    Calls Try.prog 34 #[.slice A n c, .int .i64 y, .int .u64 x] w fun e w' => ∃ A' c' X, e = .returned (.slice A' (n + k) c') ∧ OwnL 5 1 A' (n + k) c' ((xs ++ beN k x).map (Value.int .u8)) X ∧ Known w0 w' (X ++ L) :=
  (put_any A n c k x y xs w (R.at_ w K) hn hy h1 h8).mono fun e w' ⟨A', c', h1, h2, h3⟩ => by
    obtain ⟨X, h4, h5⟩ := Own.toL h2 K h3
    exact ⟨A', c', X, h1, h4, h5⟩
theorem rputoK (k : Nat) (x y : Int) (K : Known w0 w L) (R : RdS w0 L .u8 A n xs) (hn : n ≤ 274877906944) (hy : y = k) (h1 : 1 ≤ k) (h8 : k ≤ 8) :
    Calls Try.prog 35 #[.slice A n c, .int .i64 y, .int .u64 x] w fun e w' => ∃ A' c' X, e = .returned (.slice A' (n + k) c') ∧ OwnL 5 1 A' (n + k) c' ((xs ++ beN k x).map (Value.int .u8)) X ∧ Known w0 w' (X ++ L) :=
  (rput_any A n c k x y xs w (R.at_ w K) hn hy h1 h8).mono fun e w' ⟨A', c', h1, h2, h3⟩ => by
    obtain ⟨X, h4, h5⟩ := Own.toL h2 K h3
    exact ⟨A', c', X, h1, h4, h5⟩
theorem getK (a k : Nat) (x y v : Int) (hv : numL ((xs.drop a).take k) = v) (K : Known w0 w L) (R : RdS w0 L .u8 A n xs) (hx : x = a) (hy : y = k) (h1 : 1 ≤ k) (h8 : k ≤ 8) (hak : a + k ≤ n) (hc : n ≤ c) (hm : c ≤ 9223372036854775807) (hb : ∀ b ∈ xs, 0 ≤ b ∧ b ≤ 255) :
    Calls Try.prog 62 #[.slice A n c, .int .i64 x, .int .i64 y] w fun e w' => e = .returned (.tuple #[.int .u64 v, .int .i64 0]) ∧ w = w' := by
  subst hv; exact get_any A n c xs a k x y w (R.at_ w K) hx hy h1 h8 hak hc hm hb
theorem rgetK (a k : Nat) (x y v : Int) (hv : numL ((xs.drop a).take k) = v) (K : Known w0 w L) (R : RdS w0 L .u8 A n xs) (hx : x = a) (hy : y = k) (h1 : 1 ≤ k) (h8 : k ≤ 8) (hak : a + k ≤ n) (hc : n ≤ c) (hm : c ≤ 9223372036854775807) (hb : ∀ b ∈ xs, 0 ≤ b ∧ b ≤ 255) :
    Calls Try.prog 46 #[.slice A n c, .int .i64 x, .int .i64 y] w fun e w' => e = .returned (.tuple #[.int .u64 v, .int .i64 0]) ∧ w = w' := by
  subst hv; exact rget_any A n c xs a k x y w (R.at_ w K) hx hy h1 h8 hak hc hm hb
end
theorem str_ne {a b : List Int} (ha : ∀ v ∈ a, 0 ≤ v ∧ v ≤ 255) (hb : ∀ v ∈ b, 0 ≤ v ∧ v ≤ 255) (h : a ≠ b) : ((strOfNums a).toList == (strOfNums b).toList) = false := by
  rw [beq_eq_false_iff_ne]
  intro e
  rw [ByteArray.toList_eq, ByteArray.toList_eq] at e
  exact h (strOfNums_inj ha hb (by
    have : (strOfNums a).data = (strOfNums b).data := Array.toList_inj.1 e
    cases ha' : strOfNums a; cases hb' : strOfNums b
    rw [ha', hb'] at this
    simp only at this
    rw [this]))
theorem strOf_beq {a b : List Int} (ha : ∀ v ∈ a, 0 ≤ v ∧ v ≤ 255) (hb : ∀ v ∈ b, 0 ≤ v ∧ v ≤ 255) : ((strOfNums a).toList == (strOfNums b).toList) = (a == b) := by
  by_cases h : a = b
  · subst h; simp
  · rw [str_ne ha hb h, beq_eq_false_iff_ne.2 h]
section
variable {P : Program} {o : Oper} {a : Act} {W : World} {T U : TypeId} {x y : Operand} {us bs : List Int} {s : ByteArray}
theorem kr_streql (ho : o.op = .binOp .eql T x y U) (hx : a.eval x = .string (strOfNums us)) (hy : a.eval y = .string s) (hs : s = strOfNums bs) (ha : ∀ v ∈ us, 0 ≤ v ∧ v ≤ 255) (hb : ∀ v ∈ bs, 0 ≤ v ∧ v ≤ 255) : (execOp a.eval o).run P W = .ok (.value (.bool (us == bs))) W := by
  subst hs
  have e := strOf_beq ha hb
  unfold execOp
  simp [ho, hx, hy, eqGuard, binOp, Op.stringOp, Sem.run_bind, e]
theorem kr_strneq (ho : o.op = .binOp .neq T x y U) (hx : a.eval x = .string (strOfNums us)) (hy : a.eval y = .string s) (hs : s = strOfNums bs) (ha : ∀ v ∈ us, 0 ≤ v ∧ v ≤ 255) (hb : ∀ v ∈ bs, 0 ≤ v ∧ v ≤ 255) : (execOp a.eval o).run P W = .ok (.value (.bool (!(us == bs)))) W := by
  subst hs
  have e := strOf_beq ha hb
  unfold execOp
  simp [ho, hx, hy, eqGuard, binOp, Op.stringOp, Sem.run_bind, e]
end
end Go.Proofs.Ythbehlohdoajbaa
