/-
  Chunks: as an argument; their writing, as plain lists; drogherlaw23.great (contract).
-/
import Derived.Test.YthbehlohdoajbaaOpenR
import Derived.Test.YthbehlohdoajbaaOctG
import Derived.Deep.LoopGhost
import Derived.Deep.Cut
set_option linter.unusedVariables false
set_option linter.unusedSimpArgs false
namespace Go.Proofs.Ythbehlohdoajbaa
open Go.ChangeShapes Go.WideShapes Go.ChangeAt Go.RowKit
/-- a sum's cells -/
def dgL (d : List Int) : List Value := d.map (Value.int .u8)
/-- a chunk -/
structure Chk where
  (blk : Int) (W : Option Addr) (wn wc : Nat) (way : List (List Int)) (P : Option Addr) (pn pc : Nat) (pay : List Int)
def chC (s : Chk) : List Value := [.int .i64 s.blk, .slice s.W s.wn s.wc, .slice s.P s.pn s.pc]
structure ChOk (w : World) (s : Chk) : Prop where mk :: (blk : -9223372036854775808 ≤ s.blk ∧ s.blk ≤ 9223372036854775807) (RW : RdM w [] dgL 32 s.W s.wn s.way) (wc : s.wn ≤ s.wc) (wd : ∀ d ∈ s.way, d.length = 32 ∧ ∀ v ∈ d, 0 ≤ v ∧ v ≤ 255) (RP : RdS w [] .u8 s.P s.pn s.pay) (pc : s.pn ≤ s.pc) (pb : ∀ v ∈ s.pay, 0 ≤ v ∧ v ≤ 255)
set_option maxRecDepth 100000 in
theorem open_chunk {H : Type} {enc : TypeId × Value → H} {w : World} {base : Nat} {fuel : Nat} {cs : List Value} {x : DataW H × List MemPlace} (h : DataW.trod enc Try.prog w base (fun _ => true) true fuel 38 cs = some x) : ∃ s : Chk, cs = chC s ∧ ChOk w s := by
  obtain ⟨m, hl, hfs⟩ := open_fields Try.underlying38 h
  have c8 : Try.prog.cellsOf 5 = 1 := by kernel_rfl
  have ci : Try.prog.cellsOf 3 = 1 := by kernel_rfl
  have cs8 : Try.prog.cellsOf 22 = 1 := by kernel_rfl
  have csd : Try.prog.cellsOf 36 = 1 := by kernel_rfl
  have cD : Try.prog.cellsOf 30 = 32 := by kernel_rfl
  have cS : Try.prog.cellsOf 38 = 3 := by kernel_rfl
  obtain ⟨y0, f0⟩ := hfs _ (List.mem_of_getElem? (i := 0) rfl)
  obtain ⟨y1, f1⟩ := hfs _ (List.mem_of_getElem? (i := 1) rfl)
  obtain ⟨y2, f2⟩ := hfs _ (List.mem_of_getElem? (i := 2) rfl)
  simp only at f0 f1 f2
  obtain ⟨a0, e0, w0⟩ := open_cell Try.underlying3 f0
  obtain ⟨W, wn, wc, way, e1, RW, hwc, hwm, hwd⟩ := open_recs (en := dgL) (fun d => d.length = 32 ∧ ∀ v ∈ d, 0 ≤ v ∧ v ≤ 255) Try.underlying36 cD (by omega) (fun n cs y h => by
    obtain ⟨d, e, l, wf⟩ := open_array Try.underlying30 Try.underlying5 c8 cD h
    exact ⟨d, e, l, fun b hb => bounds_u8 (wf b hb)⟩) f1
  obtain ⟨P, pn, pc, pay, e2, RP, hpc, hpm, hpb⟩ := open_bytesC Try.underlying22 Try.underlying5 c8 f2
  rw [ci] at e0
  rw [csd] at e1
  rw [cs8] at e2
  have s0 := split_at e0
  have s1 := split_at e1
  have s2 := split_at e2
  have hend := split_end (hl.trans cS)
  refine ⟨⟨a0, W, wn, wc, way, P, pn, pc, pay⟩, ?_, ⟨bounds_i64 w0, RW, hwc, hwd, RP, hpc, hpb⟩⟩
  rw [List.drop_zero] at s0
  rw [s0, s1, s2, hend]
  rfl
set_option maxRecDepth 100000 in
theorem open_chunks {H : Type} {enc : TypeId × Value → H} {W : World} {base b0 : Nat} {v : Value} {d : DataW H} {p : List MemPlace} (hv : Value.okWide Try.prog W .any b0 44 v)
    (h : DataW.Trod enc Try.prog W base (fun _ => true) true 44 v d p) : ∃ (A : Option Addr) (n c : Nat) (l : List Chk), v = .slice A n c ∧ RdM W [] chC 3 A n l ∧ n ≤ c ∧ c ≤ maxLen ∧ ∀ s ∈ l, ChOk W s := by
  obtain ⟨a, l, c, rfl⟩ := okWide_slice Try.underlying44 hv
  obtain ⟨fuel, hf⟩ := h
  have cS : Try.prog.cellsOf 38 = 3 := by kernel_rfl
  obtain ⟨A, n, c', m, e, R, hc, hm, hw⟩ := open_recs (en := chC) (ChOk W) Try.underlying44 cS (by omega) (fun n cs y h => open_chunk h) hf
  have e' : Value.slice a l c = .slice A n c' := by simpa [Value.cells] using e
  exact ⟨A, n, c', m, e', R, hc, hm, hw⟩
/-- more than is gone through? -/
def greatC (l : List Chk) : Bool := decide (40 < l.length) || l.any fun s => decide (300 < s.wn) || decide (70000 < s.pn)
theorem greatC_no {l : List Chk} (h : greatC l = false) : l.length ≤ 40 ∧ ∀ s ∈ l, s.wn ≤ 300 ∧ s.pn ≤ 70000 := by
  simp only [greatC, Bool.or_eq_false_iff, decide_eq_false_iff_not, List.any_eq_false, decide_eq_true_eq] at h
  refine ⟨by omega, fun s hs => ?_⟩
  have := h.2 s hs
  simp at this
  omega

section
variable {w0 w : World} {L : List Ent} {A : Option Addr} {n c : Nat}
set_option maxHeartbeats 800000 in
set_option maxRecDepth 100000 in
theorem cgreat_any {l : List Chk} (K : Known w0 w L) (R : RdM w0 L chC 3 A n l) (hc : n ≤ c) : Calls Try.prog 16 #[.slice A n c] w fun e w' => e = .returned (.bool (greatC l)) ∧ w = w' := by
  have hl := R.len
  by_cases h0 : 40 < n
  · have hb : decide (40 < (n : Int)) = true := decide_eq_true (by omega)
    have HG := Lib.hid (show greatC l = true by rw [greatC, decide_eq_true (by omega)]; rfl)
    clear hl
    go_enter Try.func16, Try.ntmps16
    go_wp2
    go_ret
    exact ⟨by rw [HG.out]; rfl, rfl⟩
  · have hb : decide (40 < (n : Int)) = false := decide_eq_false (by omega)
    have HG := Lib.hid (show greatC l = l.any (fun s => decide (300 < s.wn) || decide (70000 < s.pn)) by rw [greatC, decide_eq_false (by omega)]; rfl)
    go_enter Try.func16, Try.ntmps16
    go_upto_region 4 with (fail)
    go_loopg [3] n (fun d v wr => ∃ (j : Nat), v = .int .i64 j ∧ j + d = n ∧ wr = w ∧ Hid (l.any (fun s => decide (300 < s.wn) || decide (70000 < s.pn)) = (l.drop j).any fun s => decide (300 < s.wn) || decide (70000 < s.pn)))
    case atStart => exact ⟨0, by go_num, by omega, rfl, Lib.hid rfl⟩
    case round =>
      obtain ⟨j, rfl, hd, rfl, HE⟩ := hrel
      by_cases hj : j < n
      · have hj2 : decide ((j : Int) < (n : Int)) = true := decide_eq_true (by omega)
        have hjj : (0 : Int) ≤ (j : Int) ∧ (j : Int) < (n : Int) := by omega
        have i1 := IntWalk.i64_in ((j : Int) + 1) (by omega)
        obtain ⟨b, off, rfl⟩ := R.form K (by omega)
        obtain ⟨p, hp⟩ : ∃ p, p = l[j]'(by omega) := ⟨_, rfl⟩
        have HP := Lib.hid (show encAt chC l j = [.int .i64 p.blk, .slice p.W p.wn p.wc, .slice p.P p.pn p.pc] by rw [encAt_get (by omega), ← hp]; rfl)
        have HD := Lib.hid (show (l.drop j).any (fun s => decide (300 < s.wn) || decide (70000 < s.pn)) = ((decide (300 < p.wn) || decide (70000 < p.pn)) || (l.drop (j + 1)).any fun s => decide (300 < s.wn) || decide (70000 < s.pn)) by rw [List.drop_eq_getElem_cons (by omega), hp]; rfl)
        clear hp hl
        by_cases hg : 300 < p.wn
        · have hg2 : decide (300 < (p.wn : Int)) = true := decide_eq_true (by omega)
          go_wp2_with (first | ((with_reducible refine at_load rfl ?_); first | (refine wpList_reads (by rfl) (kr_load_rcell K _ _ (by rfl) (j) 1 (by rfl) R (by omega) HP.out (by rfl) (by omega) (by kernel_rfl)) ?_) | (refine wpList_reads (by rfl) (kr_load_rcell K _ _ (by rfl) (j) 2 (by rfl) R (by omega) HP.out (by rfl) (by omega) (by kernel_rfl)) ?_)))
          go_ret
          exact ⟨by rw [HG.out, HE.out, HD.out, decide_eq_true hg]; rfl, rfl⟩
        · have hg2 : decide (300 < (p.wn : Int)) = false := decide_eq_false (by omega)
          by_cases hq : 70000 < p.pn
          · have hq2 : decide (70000 < (p.pn : Int)) = true := decide_eq_true (by omega)
            go_wp2_with (first | ((with_reducible refine at_load rfl ?_); first | (refine wpList_reads (by rfl) (kr_load_rcell K _ _ (by rfl) (j) 1 (by rfl) R (by omega) HP.out (by rfl) (by omega) (by kernel_rfl)) ?_) | (refine wpList_reads (by rfl) (kr_load_rcell K _ _ (by rfl) (j) 2 (by rfl) R (by omega) HP.out (by rfl) (by omega) (by kernel_rfl)) ?_)))
            go_ret
            exact ⟨by rw [HG.out, HE.out, HD.out, decide_eq_true hq]; simp, rfl⟩
          · have hq2 : decide (70000 < (p.pn : Int)) = false := decide_eq_false (by omega)
            go_wp2_with (first | ((with_reducible refine at_load rfl ?_); first | (refine wpList_reads (by rfl) (kr_load_rcell K _ _ (by rfl) (j) 1 (by rfl) R (by omega) HP.out (by rfl) (by omega) (by kernel_rfl)) ?_) | (refine wpList_reads (by rfl) (kr_load_rcell K _ _ (by rfl) (j) 2 (by rfl) R (by omega) HP.out (by rfl) (by omega) (by kernel_rfl)) ?_)))
            go_roundg (gk - 1)
            case measure => omega
            case rel => exact ⟨j + 1, by go_num, by omega, rfl, Lib.hid (by rw [HE.out, HD.out, decide_eq_false hg, decide_eq_false hq]; simp)⟩
      · have hj2 : decide ((j : Int) < (n : Int)) = false := decide_eq_false (by omega)
        have he : l.drop j = [] := List.drop_eq_nil_of_le (by omega)
        go_wp2
        go_ret
        exact ⟨by rw [HG.out, HE.out, he]; rfl, rfl⟩
end
end Go.Proofs.Ythbehlohdoajbaa
