/-
  drogherlaw07: a row of steps as an argument; great (contract).
-/
import Derived.Test.YtokbloddaoakgaaOpenR
import Derived.Test.YtokbloddaoakgaaG
import Derived.Deep.LoopGhost
import Derived.Deep.Cut
set_option linter.unusedVariables false
set_option linter.unusedSimpArgs false
namespace Go.Proofs.Ytokbloddaoakgaa
open Go.ChangeShapes Go.WideShapes Go.ChangeAt Go.RowKit
/-- a step -/
structure Pst where
  (kind at_ n : Int) (A : Option Addr) (a c : Nat) (bs : List Int) (P : Option Addr) (q cq : Nat) (ps : List Int)
def psC (s : Pst) : List Value := [.int .i64 s.kind, .int .i64 s.at_, .int .i64 s.n, .slice s.A s.a s.c, .slice s.P s.q s.cq]
structure PsOk (w : World) (s : Pst) : Prop where mk :: (at_ : -9223372036854775808 ≤ s.at_ ∧ s.at_ ≤ 9223372036854775807) (n : -9223372036854775808 ≤ s.n ∧ s.n ≤ 9223372036854775807) (R : RdS w [] .u8 s.A s.a s.bs) (c : s.a ≤ s.c) (b : ∀ v ∈ s.bs, 0 ≤ v ∧ v ≤ 255) (RP : RdS w [] .u8 s.P s.q s.ps) (cq : s.q ≤ s.cq)
set_option maxRecDepth 100000 in
theorem open_pstep {H : Type} {enc : TypeId × Value → H} {w : World} {base : Nat} {fuel : Nat} {cs : List Value} {x : DataW H × List MemPlace} (h : DataW.trod enc Try.prog w base (fun _ => true) true fuel 82 cs = some x) : ∃ s : Pst, cs = psC s ∧ PsOk w s := by
  obtain ⟨m, hl, hfs⟩ := open_fields Try.underlying82 h
  have c8 : Try.prog.cellsOf 5 = 1 := by kernel_rfl
  have ci : Try.prog.cellsOf 3 = 1 := by kernel_rfl
  have cs8 : Try.prog.cellsOf 24 = 1 := by kernel_rfl
  have cS : Try.prog.cellsOf 82 = 5 := by kernel_rfl
  obtain ⟨y0, f0⟩ := hfs _ (List.mem_of_getElem? (i := 0) rfl)
  obtain ⟨y1, f1⟩ := hfs _ (List.mem_of_getElem? (i := 1) rfl)
  obtain ⟨y2, f2⟩ := hfs _ (List.mem_of_getElem? (i := 2) rfl)
  obtain ⟨y3, f3⟩ := hfs _ (List.mem_of_getElem? (i := 3) rfl)
  obtain ⟨y4, f4⟩ := hfs _ (List.mem_of_getElem? (i := 4) rfl)
  simp only at f0 f1 f2 f3 f4
  obtain ⟨a0, e0, w0⟩ := open_cell Try.underlying3 f0
  obtain ⟨a1, e1, w1⟩ := open_cell Try.underlying3 f1
  obtain ⟨a2, e2, w2⟩ := open_cell Try.underlying3 f2
  obtain ⟨A, n, c, bs, e3, R, hc, hm, hb⟩ := open_bytesC Try.underlying24 Try.underlying5 c8 f3
  obtain ⟨P, q, cq, ps, e4, RP, hcq, hmq, hbq⟩ := open_bytesC Try.underlying24 Try.underlying5 c8 f4
  rw [ci] at e0 e1 e2
  rw [cs8] at e3 e4
  have s0 := split_at e0
  have s1 := split_at e1
  have s2 := split_at e2
  have s3 := split_at e3
  have s4 := split_at e4
  have hend := split_end (hl.trans cS)
  refine ⟨⟨a0, a1, a2, A, n, c, bs, P, q, cq, ps⟩, ?_, ⟨bounds_i64 w1, bounds_i64 w2, R, hc, hb, RP, hcq⟩⟩
  rw [List.drop_zero] at s0
  rw [s0, s1, s2, s3, s4, hend]
  rfl
set_option maxRecDepth 100000 in
theorem open_psteps {H : Type} {enc : TypeId × Value → H} {W : World} {base b0 : Nat} {v : Value} {d : DataW H} {p : List MemPlace} (hv : Value.okWide Try.prog W .any b0 79 v)
    (h : DataW.Trod enc Try.prog W base (fun _ => true) true 79 v d p) : ∃ (A : Option Addr) (n c : Nat) (l : List Pst), v = .slice A n c ∧ RdM W [] psC 5 A n l ∧ n ≤ c ∧ c ≤ maxLen ∧ ∀ s ∈ l, PsOk W s := by
  obtain ⟨a, l, c, rfl⟩ := okWide_slice Try.underlying79 hv
  obtain ⟨fuel, hf⟩ := h
  have cS : Try.prog.cellsOf 82 = 5 := by kernel_rfl
  obtain ⟨A, n, c', m, e, R, hc, hm, hw⟩ := open_recs (en := psC) (PsOk W) Try.underlying79 cS (by omega) (fun n cs y h => open_pstep h) hf
  have e' : Value.slice a l c = .slice A n c' := by simpa [Value.cells] using e
  exact ⟨A, n, c', m, e', R, hc, hm, hw⟩
/-- more than is gone through? -/
def greatP (l : List Pst) : Bool := decide (40 < l.length) || l.any fun s => decide (2000 < s.a) || decide (60 < s.q)
theorem greatP_no {l : List Pst} (h : greatP l = false) : l.length ≤ 40 ∧ ∀ s ∈ l, s.a ≤ 2000 ∧ s.q ≤ 60 := by
  simp only [greatP, Bool.or_eq_false_iff, decide_eq_false_iff_not, List.any_eq_false, decide_eq_true_eq] at h
  refine ⟨by omega, fun s hs => ?_⟩
  have := h.2 s hs
  simp at this
  omega

section
variable {w0 w : World} {L : List Ent} {A : Option Addr} {n c : Nat}
set_option maxHeartbeats 800000 in
set_option maxRecDepth 100000 in
theorem pgreat_any {l : List Pst} (K : Known w0 w L) (R : RdM w0 L psC 5 A n l) (hc : n ≤ c) : Calls Try.prog 49 #[.slice A n c] w fun e w' => e = .returned (.bool (greatP l)) ∧ w = w' := by
  have hl := R.len
  by_cases h0 : 40 < n
  · have hb : decide (40 < (n : Int)) = true := decide_eq_true (by omega)
    have HG := Lib.hid (show greatP l = true by rw [greatP, decide_eq_true (by omega)]; rfl)
    clear hl
    go_enter Try.func49, Try.ntmps49
    go_wp2
    go_ret
    exact ⟨by rw [HG.out]; rfl, rfl⟩
  · have hb : decide (40 < (n : Int)) = false := decide_eq_false (by omega)
    have HG := Lib.hid (show greatP l = l.any (fun s => decide (2000 < s.a) || decide (60 < s.q)) by rw [greatP, decide_eq_false (by omega)]; rfl)
    go_enter Try.func49, Try.ntmps49
    go_upto_region 4 with (fail)
    go_loopg [3] n (fun d v wr => ∃ (j : Nat), v = .int .i64 j ∧ j + d = n ∧ wr = w ∧ Hid (l.any (fun s => decide (2000 < s.a) || decide (60 < s.q)) = (l.drop j).any fun s => decide (2000 < s.a) || decide (60 < s.q)))
    case atStart => exact ⟨0, by go_num, by omega, rfl, Lib.hid rfl⟩
    case round =>
      obtain ⟨j, rfl, hd, rfl, HE⟩ := hrel
      by_cases hj : j < n
      · have hj2 : decide ((j : Int) < (n : Int)) = true := decide_eq_true (by omega)
        have hjj : (0 : Int) ≤ (j : Int) ∧ (j : Int) < (n : Int) := by omega
        have i1 := IntWalk.i64_in ((j : Int) + 1) (by omega)
        obtain ⟨b, off, rfl⟩ := R.form K (by omega)
        obtain ⟨p, hp⟩ : ∃ p, p = l[j]'(by omega) := ⟨_, rfl⟩
        have HP := Lib.hid (show encAt psC l j = [.int .i64 p.kind, .int .i64 p.at_, .int .i64 p.n, .slice p.A p.a p.c, .slice p.P p.q p.cq] by rw [encAt_get (by omega), ← hp]; rfl)
        have HD := Lib.hid (show (l.drop j).any (fun s => decide (2000 < s.a) || decide (60 < s.q)) = ((decide (2000 < p.a) || decide (60 < p.q)) || (l.drop (j + 1)).any fun s => decide (2000 < s.a) || decide (60 < s.q)) by rw [List.drop_eq_getElem_cons (by omega), hp]; rfl)
        clear hp hl
        by_cases hg : 2000 < p.a
        · have hg2 : decide (2000 < (p.a : Int)) = true := decide_eq_true (by omega)
          go_wp2_with (first | ((with_reducible refine at_load rfl ?_); first | (refine wpList_reads (by rfl) (kr_load_rcell K _ _ (by rfl) (j) 3 (by rfl) R (by omega) HP.out (by rfl) (by omega) (by kernel_rfl)) ?_) | (refine wpList_reads (by rfl) (kr_load_rcell K _ _ (by rfl) (j) 4 (by rfl) R (by omega) HP.out (by rfl) (by omega) (by kernel_rfl)) ?_)))
          go_ret
          exact ⟨by rw [HG.out, HE.out, HD.out, decide_eq_true hg]; rfl, rfl⟩
        · have hg2 : decide (2000 < (p.a : Int)) = false := decide_eq_false (by omega)
          by_cases hq : 60 < p.q
          · have hq2 : decide (60 < (p.q : Int)) = true := decide_eq_true (by omega)
            go_wp2_with (first | ((with_reducible refine at_load rfl ?_); first | (refine wpList_reads (by rfl) (kr_load_rcell K _ _ (by rfl) (j) 3 (by rfl) R (by omega) HP.out (by rfl) (by omega) (by kernel_rfl)) ?_) | (refine wpList_reads (by rfl) (kr_load_rcell K _ _ (by rfl) (j) 4 (by rfl) R (by omega) HP.out (by rfl) (by omega) (by kernel_rfl)) ?_)))
            go_ret
            exact ⟨by rw [HG.out, HE.out, HD.out, decide_eq_true hq]; simp, rfl⟩
          · have hq2 : decide (60 < (p.q : Int)) = false := decide_eq_false (by omega)
            go_wp2_with (first | ((with_reducible refine at_load rfl ?_); first | (refine wpList_reads (by rfl) (kr_load_rcell K _ _ (by rfl) (j) 3 (by rfl) R (by omega) HP.out (by rfl) (by omega) (by kernel_rfl)) ?_) | (refine wpList_reads (by rfl) (kr_load_rcell K _ _ (by rfl) (j) 4 (by rfl) R (by omega) HP.out (by rfl) (by omega) (by kernel_rfl)) ?_)))
            go_roundg (gk - 1)
            case measure => omega
            case rel => exact ⟨j + 1, by go_num, by omega, rfl, Lib.hid (by rw [HE.out, HD.out, decide_eq_false hg, decide_eq_false hq]; rfl)⟩
      · have hj2 : decide ((j : Int) < (n : Int)) = false := decide_eq_false (by omega)
        go_wp2
        go_ret
        exact ⟨by rw [HG.out, HE.out, List.drop_eq_nil_of_le (by omega)]; rfl, rfl⟩
end
end Go.Proofs.Ytokbloddaoakgaa
