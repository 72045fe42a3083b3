/-
  Packages manifest and the document's 22: Header (contracts).
-/
import Derived.Test.YtgloienpmikcfaaPutC
import Derived.Lib.SlBytesConst
set_option linter.unusedVariables false
set_option linter.unusedSimpArgs false
namespace Go.Proofs.Ytgloienpmikcfaa
open Go.RowKit

section
variable {P : Program}
theorem run_const (w : World) {t e : TypeId} {C : Array Value} {g n c : Nat} (hb : Blk w g C e) (ht : P.underlying t = some (.slice e)) (he : P.underlying e = some (.int .u8)) :
    (convert t t (.slice (some ⟨g, 0, none⟩) n c)).run P w = .ok (.slice (some ⟨g, 0, none⟩) n c) (w.freeze ⟨g, C.size, none⟩ 1) := by
  have hsh : w.shape? g = some (e, C.size) := by unfold World.shape?; rw [hb.out]
  simp [convert, run_underlying ht, run_underlying he, markStringish, hsh]
theorem freeze_put (w : World) (g k : Nat) : Put w (w.freeze ⟨g, k, none⟩ 1) g := by
  unfold World.freeze
  rw [if_neg (by decide)]
  exact ⟨rfl, rfl, rfl, by simp, fun j hj => by simp [Array.getElem?_modify, Ne.symm hj]⟩
theorem freeze_row {w : World} {g k : Nat} {C : Array Value} {e : TypeId} (hb : Blk w g C e) : (w.freeze ⟨g, k, none⟩ 1).heap[g]? = some (.cells C e (k, k + 1)) := by
  unfold World.freeze
  rw [if_neg (by decide)]
  simp [Array.getElem?_modify, hb.out]
theorem Rd.ofRow {w : World} {k : IntKind} {g off n : Nat} {cs : Array Value} {t : TypeId} {fr : Nat × Nat} {xs : List Int} (h : w.heap[g]? = some (.cells cs t fr)) (hx : xs.length = n) (hxs : (cs.toList.drop off).take n = xs.map (Value.int k)) : Rd w k (some ⟨g, off, none⟩) n xs :=
  ⟨hx, fun j hj => ⟨g, off, rfl, by
    rw [cell_of_row w g _ cs t fr h]
    have e : ((cs.toList.drop off).take n)[j]? = (xs.map (Value.int k))[j]? := by rw [hxs]
    rw [List.getElem?_take_of_lt hj, List.getElem?_drop, Array.getElem?_toList] at e
    rw [e]
    have : j < xs.length := by omega
    simp [this, List.getD]⟩⟩
end
section
variable {P : Program} {ops : Array Oper} {rest : List Oper} {o : Oper} {a : Act} {Q : Exit → Act → World → Prop} {W : World}
/-- []byte("..") -/
theorem ev_const (hgd : Region.wanted o (yielded ops a.tmps) = true) (t e : TypeId) {x : Operand} (ho : o.op = .convert t t x) {g n c : Nat} {C : Array Value} (xs : List Int) (hb : Blk W g C e)
    (ht : P.underlying t = some (.slice e)) (he : P.underlying e = some (.int .u8)) (hx : a.eval x = .slice (some ⟨g, 0, none⟩) n c) (hl : xs.length = n) (hxs : (C.toList.drop 0).take n = xs.map (Value.int .u8))
    (h : ∀ w1, Put W w1 g → Rd w1 .u8 (some ⟨g, 0, none⟩) n xs → wpList P ops Q rest (a.put o.dst (.slice (some ⟨g, 0, none⟩) n c)) w1) : wpList P ops Q (o :: rest) a W :=
  ev_wanted hgd fun K hK => by
    unfold Oper.wp execOp
    simp only [ho, hx, run_const W hb ht he, Sem.run_bind, Result.andThen_ok]
    exact hK _ _ (h _ (freeze_put W g C.size) (Rd.ofRow (freeze_row hb) hl hxs))
end

/-- the header's bytes -/
def hbytes (b s : List Int) : List Int := [68, 82, 71, 72] ++ beN 4 b.length ++ b ++ beN 4 s.length ++ s

section
variable (mode ver blk ol nl : Int) (D : List Int) (A : Option Addr) (n c : Nat) (xs : List Int) (B : Option Addr) (m c2 : Nat) (ys : List Int) (w : World)
set_option maxHeartbeats 800000 in
set_option maxRecDepth 100000 in
theorem header_no (hv : mayM mode blk ol nl D xs = false) (R : Rd w .i64 A n xs) (hD : D.length = 96) (hn : n ≤ 1152921504606846976) (hc : n ≤ c) (hnl : nl ≤ 9223372036854775807) :
    Calls Try.prog 29 #[.agg (mfc mode ver blk ol nl D (.slice A n c)), .slice B m c2] w fun e w' => e = .returned (.tuple #[.slice none 0 0, .int .i64 3]) ∧ Below w.heap.size w w' := by
  have F : Fr w w := Fr.refl w
  have HV := Lib.hid hv
  clear hv
  go_enter Try.func29, Try.ntmps29
  go_wp2_with (first | ((with_reducible refine at_slot (N := 2) rfl ?_); go_loud (refine ev_new rfl (cs := mfc mode ver blk ol nl D (.slice A n c)) (t := 41) (by first | (go_simp; done) | (go_simp; rfl)) ?_; intro gC hgC wC C nbC; have GEC : w.heap.size ≤ gC := (by rw [hgC]; exact F.size); clear hgC; replace F := F.step nbC; clear nbC)) | ((with_reducible refine at_load (t := 41) rfl ?_); go_loud (refine ev_load_row rfl 41 _ rfl C rfl Try.underlying41 rfl (by rw [mfc_size _ _ _ _ _ _ _ hD]; kernel_rfl) ?_)) | (go_at_call 35; go_loud ((with_reducible refine (mput_no _ _ _ _ _ _ _ _ _ _ _ HV.out (R.below F.out) hD hn hc hnl).mono ?_); rintro e w1 ⟨rfl, nb⟩; replace F := F.step nb; replace C := C.below nb; clear nb)))
  go_ret2
  exact ⟨rfl, F.out⟩

theorem mputN (N : Nat) (hN : 118 + 2 * n = N) (hv : mayM mode blk ol nl D xs = true) (R : Rd w .i64 A n xs) (hD : D.length = 96) (hn : n ≤ 1152921504606846976) (hc : n ≤ c) :
    Calls Try.prog 35 #[.agg (mfc mode ver blk ol nl D (.slice A n c))] w fun e w' => ∃ A' c', e = .returned (.tuple #[.slice A' N c', .int .i64 0]) ∧
      Own w' w.heap.size 5 .u8 A' N c' (mbytes mode ver blk ol nl D xs) ∧ Below w.heap.size w w' := by
  subst hN; exact mput_yes mode ver blk ol nl D A n c xs w hv R hD hn hc

set_option maxHeartbeats 800000 in
set_option maxRecDepth 100000 in
theorem header_long (hv : mayM mode blk ol nl D xs = true) (hl : 131060 < 118 + 2 * n + m) (R : Rd w .i64 A n xs) (hD : D.length = 96) (hc : n ≤ c) (hm : m ≤ 1152921504606846976) :
    Calls Try.prog 29 #[.agg (mfc mode ver blk ol nl D (.slice A n c)), .slice B m c2] w fun e w' => e = .returned (.tuple #[.slice none 0 0, .int .i64 4]) ∧ Below w.heap.size w w' := by
  have F : Fr w w := Fr.refl w
  have hn : n ≤ 4096 := by have := (mayM_order hv).1; have := R.len; omega
  have HV := Lib.hid hv
  clear hv
  obtain ⟨N, hN⟩ : ∃ N, 118 + 2 * n = N := ⟨_, rfl⟩
  have hN2 : N ≤ 8310 := by omega
  have HNN := Lib.hid hN
  by_cases h1 : 131072 < m
  · have d0 : decide (131072 < (m : Int)) = true := decide_eq_true (by omega)
    clear hl hN h1
    go_enter Try.func29, Try.ntmps29
    go_wp2_with (first | ((with_reducible refine at_slot (N := 2) rfl ?_); go_loud (refine ev_new rfl (cs := mfc mode ver blk ol nl D (.slice A n c)) (t := 41) (by first | (go_simp; done) | (go_simp; rfl)) ?_; intro gC hgC wC C nbC; have GEC : w.heap.size ≤ gC := (by rw [hgC]; exact F.size); clear hgC; replace F := F.step nbC; clear nbC)) | ((with_reducible refine at_load (t := 41) rfl ?_); go_loud (refine ev_load_row rfl 41 _ rfl C rfl Try.underlying41 rfl (by rw [mfc_size _ _ _ _ _ _ _ hD]; kernel_rfl) ?_)) | (go_at_call 35; go_loud ((with_reducible refine (mputN _ _ _ _ _ _ _ _ _ _ _ N HNN.out HV.out (R.below F.out) hD (by omega) hc).mono ?_); rintro e w1 ⟨A1, c1, rfl, ON, nb⟩; replace ON := ON.mono F.size; replace C := C.below nb; replace F := F.step nb; (try clear O); have O := ON; clear ON nb)))
    go_ret2
    exact ⟨rfl, F.out⟩
  · have d0 : decide (131072 < (m : Int)) = false := decide_eq_false (by omega)
    have d1 : 131072 < 8 + (N : Int) + 4 + (m : Int) := by omega
    clear hl hN
    go_enter Try.func29, Try.ntmps29
    go_wp2_with (first | ((with_reducible refine at_slot (N := 2) rfl ?_); go_loud (refine ev_new rfl (cs := mfc mode ver blk ol nl D (.slice A n c)) (t := 41) (by first | (go_simp; done) | (go_simp; rfl)) ?_; intro gC hgC wC C nbC; have GEC : w.heap.size ≤ gC := (by rw [hgC]; exact F.size); clear hgC; replace F := F.step nbC; clear nbC)) | ((with_reducible refine at_load (t := 41) rfl ?_); go_loud (refine ev_load_row rfl 41 _ rfl C rfl Try.underlying41 rfl (by rw [mfc_size _ _ _ _ _ _ _ hD]; kernel_rfl) ?_)) | (go_at_call 35; go_loud ((with_reducible refine (mputN _ _ _ _ _ _ _ _ _ _ _ N HNN.out HV.out (R.below F.out) hD (by omega) hc).mono ?_); rintro e w1 ⟨A1, c1, rfl, ON, nb⟩; replace ON := ON.mono F.size; replace C := C.below nb; replace F := F.step nb; (try clear O); have O := ON; clear ON nb)))
    go_ret2
    exact ⟨rfl, F.out⟩

set_option maxHeartbeats 800000 in
set_option maxRecDepth 100000 in
theorem header_yes (hv : mayM mode blk ol nl D xs = true) (hl : 118 + 2 * n + m ≤ 131060) (R : Rd w .i64 A n xs) (hD : D.length = 96) (hc : n ≤ c) (R2 : Rd w .u8 B m ys) :
    Calls Try.prog 29 #[.agg (mfc mode ver blk ol nl D (.slice A n c)), .slice B m c2] w fun e w' => ∃ A' c' N, e = .returned (.tuple #[.slice A' N c', .int .i64 0]) ∧
      Own w' w.heap.size 5 .u8 A' N c' (hbytes (mbytes mode ver blk ol nl D xs) ys) ∧ Below w.heap.size w w' := by
  have F : Fr w w := Fr.refl w
  have hn : n ≤ 4096 := by have := (mayM_order hv).1; have := R.len; omega
  have HV := Lib.hid hv
  clear hv
  obtain ⟨N, hN⟩ : ∃ N, 118 + 2 * n = N := ⟨_, rfl⟩
  have hN2 : N + m ≤ 131060 := by omega
  have HNN := Lib.hid hN
  have d0 : decide (131072 < (m : Int)) = false := decide_eq_false (by omega)
  have d1 : ¬ (131072 < 8 + (N : Int) + 4 + (m : Int)) := by omega
  obtain ⟨mb, hmb⟩ : ∃ mb, mbytes mode ver blk ol nl D xs = mb := ⟨_, rfl⟩
  have HMB := Lib.hid (show mbytes mode ver blk ol nl D xs = mb from hmb)
  clear hl hN hmb
  go_enter Try.func29, Try.ntmps29
  go_wp2_with (first | ((with_reducible refine at_slot (N := 2) rfl ?_); go_loud (refine ev_new rfl (cs := mfc mode ver blk ol nl D (.slice A n c)) (t := 41) (by first | (go_simp; done) | (go_simp; rfl)) ?_; intro gC hgC wC C nbC; have GEC : w.heap.size ≤ gC := (by rw [hgC]; exact F.size); clear hgC; replace F := F.step nbC; clear nbC)) | ((with_reducible refine at_load (t := 41) rfl ?_); go_loud (refine ev_load_row rfl 41 _ rfl C rfl Try.underlying41 rfl (by rw [mfc_size _ _ _ _ _ _ _ hD]; kernel_rfl) ?_)) | (go_at_call 35; go_loud ((with_reducible refine (mputN _ _ _ _ _ _ _ _ _ _ _ N HNN.out HV.out (R.below F.out) hD (by omega) hc).mono ?_); rintro e w1 ⟨A1, c1, rfl, ON, nb⟩; replace ON := ON.mono F.size; replace C := C.below nb; replace F := F.step nb; (try clear O); have O := ON; clear ON nb; rw [HMB.out] at O; clear C; have ob := O; clear O; have O1 := ob; clear ob)) | ((with_reducible refine at_slot (N := 32) rfl ?_); go_loud (refine ev_new_slice (n := 4) (c := 4) rfl (cs := #[.int .u8 68, .int .u8 82, .int .u8 71, .int .u8 72]) (t := 5) (by first | (go_simp; done) | (go_simp; rfl)) ?_; intro gS hgS wS S nbS; have GES : w.heap.size ≤ gS := (by rw [hgS]; exact F.size); have neO1S := O1.fresh hgS; clear hgS; replace F := F.step nbS; replace O1 := O1.below nbS; clear nbS)) | ((with_reducible refine at_convert (t := 44) (u := 44) rfl ?_); go_loud (refine ev_const rfl 44 5 rfl ([68, 82, 71, 72]) S Try.underlying44 Try.underlying5 rfl rfl rfl ?_; intro w1 np RS; replace F := F.put np GES; replace O1 := O1.put np neO1S; clear np)) | (go_at_call 54; go_loud ((with_reducible refine (put_any _ 4 4 4 _ 4 _ _ RS (by omega) rfl (by omega) (by omega)).mono ?_); rintro e w1 ⟨A2, c3, rfl, ON, nb⟩; replace ON := ON.mono F.size; replace O1 := O1.below nb; replace F := F.step nb; (try clear O); have O := ON; clear ON nb; replace O : Own _ _ _ _ _ 8 _ _ := O)) | (go_at_call 54; go_loud ((with_reducible refine (put_any _ (8 + N) _ 4 _ 4 _ _ O.rd (by omega) rfl (by omega) (by omega)).mono ?_); rintro e w1 ⟨A4, c5, rfl, ON, nb⟩; replace ON := ON.mono F.size; replace F := F.step nb; (try clear O); have O := ON; clear ON nb; clear O1)) | (at_builtin; go_loud (refine ev_append rfl 44 5 rfl Try.underlying44 u8_info rfl O (R2.below F.out) rfl rfl (by unfold maxLen; omega) (F.size) ?_; intro A5 c6 w1 ON gr; replace F := F.grew gr (fun a ha => (O.lt a ha).1); replace O := ON; clear ON gr)) | (at_builtin; go_loud (refine ev_append rfl 44 5 rfl Try.underlying44 u8_info rfl O (O1.rd) rfl rfl (by unfold maxLen; omega) (F.size) ?_; intro A3 c4 w1 ON gr; replace F := F.grew gr (fun a ha => (O.lt a ha).1); replace O := ON; clear ON gr)))
  have hl1 : mb.length = N := by rw [← HMB.out]; simp [mbytes, headB, beN_length, ordB_length, R.len, hD]; have := HNN.out; omega
  go_ret2
  refine ⟨_, _, _, rfl, ?_, F.out⟩
  rw [HMB.out, hbytes, hl1, R2.len]
  exact O
end
end Go.Proofs.Ytgloienpmikcfaa
