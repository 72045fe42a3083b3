/-
  parcel: the parser in memory; New, take, give (contracts).
-/
import Derived.Test.YthbehlohdoajbaaChan
import Derived.Test.YthbehlohdoajbaaOctG
set_option linter.unusedVariables false
set_option linter.unusedSimpArgs false
namespace Go.Proofs.Ythbehlohdoajbaa
open Go.RowKit Go.Conc
/-- a parser's fields; m: the manifest's cells -/
structure Prs where
  (m : List Value) (signed sig : Value) (head gone : Bool) (k blk : Int) (way pay : Value) (whole : Bool) (buf : Value) (need : Int) (part : Value) (plen : Int) (free : Value) (keeps : Bool) (e : Int) (began ended : Bool)
def prC (p : Prs) : Array Value := (p.m ++ [p.signed, p.sig, .bool p.head, .bool p.gone, .int .i64 p.k, .int .i64 p.blk, p.way, p.pay, .bool p.whole, p.buf, .int .i64 p.need, p.part, .int .i64 p.plen, p.free, .bool p.keeps, .int .i64 p.e, .bool p.began, .bool p.ended]).toArray
theorem prC_size (p : Prs) (h : p.m.length = 102) : (prC p).size = 120 := by simp [prC, h]

theorem prC_signed (p : Prs) (h : p.m.length = 102) : (prC p)[102]? = some (p.signed) := by
  rw [prC, List.getElem?_toArray, List.getElem?_append_right (by omega), h]
  rfl
theorem prC_set_signed (p : Prs) (h : p.m.length = 102) (v : Value) : (prC p).setIfInBounds 102 (v) = prC { p with signed := v } := by
  rw [prC, List.setIfInBounds_toArray, List.set_append_right _ _ (by omega), h]
  rfl
theorem prC_sig (p : Prs) (h : p.m.length = 102) : (prC p)[103]? = some (p.sig) := by
  rw [prC, List.getElem?_toArray, List.getElem?_append_right (by omega), h]
  rfl
theorem prC_set_sig (p : Prs) (h : p.m.length = 102) (v : Value) : (prC p).setIfInBounds 103 (v) = prC { p with sig := v } := by
  rw [prC, List.setIfInBounds_toArray, List.set_append_right _ _ (by omega), h]
  rfl
theorem prC_head (p : Prs) (h : p.m.length = 102) : (prC p)[104]? = some (.bool p.head) := by
  rw [prC, List.getElem?_toArray, List.getElem?_append_right (by omega), h]
  rfl
theorem prC_set_head (p : Prs) (h : p.m.length = 102) (v : Bool) : (prC p).setIfInBounds 104 (.bool v) = prC { p with head := v } := by
  rw [prC, List.setIfInBounds_toArray, List.set_append_right _ _ (by omega), h]
  rfl
theorem prC_gone (p : Prs) (h : p.m.length = 102) : (prC p)[105]? = some (.bool p.gone) := by
  rw [prC, List.getElem?_toArray, List.getElem?_append_right (by omega), h]
  rfl
theorem prC_set_gone (p : Prs) (h : p.m.length = 102) (v : Bool) : (prC p).setIfInBounds 105 (.bool v) = prC { p with gone := v } := by
  rw [prC, List.setIfInBounds_toArray, List.set_append_right _ _ (by omega), h]
  rfl
theorem prC_k (p : Prs) (h : p.m.length = 102) : (prC p)[106]? = some (.int .i64 p.k) := by
  rw [prC, List.getElem?_toArray, List.getElem?_append_right (by omega), h]
  rfl
theorem prC_set_k (p : Prs) (h : p.m.length = 102) (v : Int) : (prC p).setIfInBounds 106 (.int .i64 v) = prC { p with k := v } := by
  rw [prC, List.setIfInBounds_toArray, List.set_append_right _ _ (by omega), h]
  rfl
theorem prC_blk (p : Prs) (h : p.m.length = 102) : (prC p)[107]? = some (.int .i64 p.blk) := by
  rw [prC, List.getElem?_toArray, List.getElem?_append_right (by omega), h]
  rfl
theorem prC_set_blk (p : Prs) (h : p.m.length = 102) (v : Int) : (prC p).setIfInBounds 107 (.int .i64 v) = prC { p with blk := v } := by
  rw [prC, List.setIfInBounds_toArray, List.set_append_right _ _ (by omega), h]
  rfl
theorem prC_way (p : Prs) (h : p.m.length = 102) : (prC p)[108]? = some (p.way) := by
  rw [prC, List.getElem?_toArray, List.getElem?_append_right (by omega), h]
  rfl
theorem prC_set_way (p : Prs) (h : p.m.length = 102) (v : Value) : (prC p).setIfInBounds 108 (v) = prC { p with way := v } := by
  rw [prC, List.setIfInBounds_toArray, List.set_append_right _ _ (by omega), h]
  rfl
theorem prC_pay (p : Prs) (h : p.m.length = 102) : (prC p)[109]? = some (p.pay) := by
  rw [prC, List.getElem?_toArray, List.getElem?_append_right (by omega), h]
  rfl
theorem prC_set_pay (p : Prs) (h : p.m.length = 102) (v : Value) : (prC p).setIfInBounds 109 (v) = prC { p with pay := v } := by
  rw [prC, List.setIfInBounds_toArray, List.set_append_right _ _ (by omega), h]
  rfl
theorem prC_whole (p : Prs) (h : p.m.length = 102) : (prC p)[110]? = some (.bool p.whole) := by
  rw [prC, List.getElem?_toArray, List.getElem?_append_right (by omega), h]
  rfl
theorem prC_set_whole (p : Prs) (h : p.m.length = 102) (v : Bool) : (prC p).setIfInBounds 110 (.bool v) = prC { p with whole := v } := by
  rw [prC, List.setIfInBounds_toArray, List.set_append_right _ _ (by omega), h]
  rfl
theorem prC_buf (p : Prs) (h : p.m.length = 102) : (prC p)[111]? = some (p.buf) := by
  rw [prC, List.getElem?_toArray, List.getElem?_append_right (by omega), h]
  rfl
theorem prC_set_buf (p : Prs) (h : p.m.length = 102) (v : Value) : (prC p).setIfInBounds 111 (v) = prC { p with buf := v } := by
  rw [prC, List.setIfInBounds_toArray, List.set_append_right _ _ (by omega), h]
  rfl
theorem prC_need (p : Prs) (h : p.m.length = 102) : (prC p)[112]? = some (.int .i64 p.need) := by
  rw [prC, List.getElem?_toArray, List.getElem?_append_right (by omega), h]
  rfl
theorem prC_set_need (p : Prs) (h : p.m.length = 102) (v : Int) : (prC p).setIfInBounds 112 (.int .i64 v) = prC { p with need := v } := by
  rw [prC, List.setIfInBounds_toArray, List.set_append_right _ _ (by omega), h]
  rfl
theorem prC_part (p : Prs) (h : p.m.length = 102) : (prC p)[113]? = some (p.part) := by
  rw [prC, List.getElem?_toArray, List.getElem?_append_right (by omega), h]
  rfl
theorem prC_set_part (p : Prs) (h : p.m.length = 102) (v : Value) : (prC p).setIfInBounds 113 (v) = prC { p with part := v } := by
  rw [prC, List.setIfInBounds_toArray, List.set_append_right _ _ (by omega), h]
  rfl
theorem prC_plen (p : Prs) (h : p.m.length = 102) : (prC p)[114]? = some (.int .i64 p.plen) := by
  rw [prC, List.getElem?_toArray, List.getElem?_append_right (by omega), h]
  rfl
theorem prC_set_plen (p : Prs) (h : p.m.length = 102) (v : Int) : (prC p).setIfInBounds 114 (.int .i64 v) = prC { p with plen := v } := by
  rw [prC, List.setIfInBounds_toArray, List.set_append_right _ _ (by omega), h]
  rfl
theorem prC_free (p : Prs) (h : p.m.length = 102) : (prC p)[115]? = some (p.free) := by
  rw [prC, List.getElem?_toArray, List.getElem?_append_right (by omega), h]
  rfl
theorem prC_set_free (p : Prs) (h : p.m.length = 102) (v : Value) : (prC p).setIfInBounds 115 (v) = prC { p with free := v } := by
  rw [prC, List.setIfInBounds_toArray, List.set_append_right _ _ (by omega), h]
  rfl
theorem prC_keeps (p : Prs) (h : p.m.length = 102) : (prC p)[116]? = some (.bool p.keeps) := by
  rw [prC, List.getElem?_toArray, List.getElem?_append_right (by omega), h]
  rfl
theorem prC_set_keeps (p : Prs) (h : p.m.length = 102) (v : Bool) : (prC p).setIfInBounds 116 (.bool v) = prC { p with keeps := v } := by
  rw [prC, List.setIfInBounds_toArray, List.set_append_right _ _ (by omega), h]
  rfl
theorem prC_e (p : Prs) (h : p.m.length = 102) : (prC p)[117]? = some (.int .i64 p.e) := by
  rw [prC, List.getElem?_toArray, List.getElem?_append_right (by omega), h]
  rfl
theorem prC_set_e (p : Prs) (h : p.m.length = 102) (v : Int) : (prC p).setIfInBounds 117 (.int .i64 v) = prC { p with e := v } := by
  rw [prC, List.setIfInBounds_toArray, List.set_append_right _ _ (by omega), h]
  rfl
theorem prC_began (p : Prs) (h : p.m.length = 102) : (prC p)[118]? = some (.bool p.began) := by
  rw [prC, List.getElem?_toArray, List.getElem?_append_right (by omega), h]
  rfl
theorem prC_set_began (p : Prs) (h : p.m.length = 102) (v : Bool) : (prC p).setIfInBounds 118 (.bool v) = prC { p with began := v } := by
  rw [prC, List.setIfInBounds_toArray, List.set_append_right _ _ (by omega), h]
  rfl
theorem prC_ended (p : Prs) (h : p.m.length = 102) : (prC p)[119]? = some (.bool p.ended) := by
  rw [prC, List.getElem?_toArray, List.getElem?_append_right (by omega), h]
  rfl
theorem prC_set_ended (p : Prs) (h : p.m.length = 102) (v : Bool) : (prC p).setIfInBounds 119 (.bool v) = prC { p with ended := v } := by
  rw [prC, List.setIfInBounds_toArray, List.set_append_right _ _ (by omega), h]
  rfl

/-- a new parser -/
def prs0 (gc : Nat) (part : Value) : Prs := ⟨[Value.int .u8 0, .int .u64 0, .int .i64 0, .int .i64 0, .int .i64 0] ++ ((List.replicate 96 0).map (Value.int .u8) ++ [.slice none 0 0]), .slice none 0 0, .slice none 0 0, false, false, 0, 0, .slice none 0 0, .slice none 0 0, false, .slice none 0 0, 4, part, 0, .chan (some gc), false, 0, false, false⟩
theorem prs0_len (gc : Nat) (part : Value) : (prs0 gc part).m.length = 102 := by simp [prs0]
abbrev fnV (f : FuncId) : Value := .func (.func f) #[] #[]
set_option maxRecDepth 100000 in
theorem prs0_build (gc : Nat) (w : World) : (Instr.build 65 #[(12, .chan (some gc)), (10, fnV 41), (9, .int .i64 4)]).run Try.prog w = .ok (.agg (prC (prs0 gc (fnV 41)))) w := by kernel_rfl

section
variable {w0 w : World} {L L' : List Ent} {gp gc s r n : Nat} {p : Prs}
set_option maxRecDepth 100000 in
theorem pnew_any (K : Known w0 w L) : Calls Try.prog 26 #[] w fun e w' => ∃ gp, e = .returned (.pointer (some ⟨gp, 0, none⟩)) ∧ ∃ gc, Known w0 w' (row gp (prC (prs0 gc (fnV 41))) 65 :: chrow gc 1 #[] 0 0 :: L) := by
  go_enter Try.func26, Try.ntmps26
  go_wp2_with (first | ((with_reducible refine at_slot (N := 1) rfl ?_); refine wpList_does rfl (kd_makeChan K _ rfl (n := 1) (bytes := 24) rfl Try.underlying63 (by kernel_rfl) (by omega) (by omega)) ?_; clear K; rintro _ w1 ⟨gc, rfl, K⟩) | ((with_reducible refine at_slot (N := 2) rfl ?_); refine ev_build rfl 65 rfl (vals := #[(12, .chan (some gc)), (10, fnV 41), (9, .int .i64 4)]) (by first | rfl | (go_simp; done) | (go_simp; rfl)) (prs0_build gc _) ?_) | ((with_reducible refine at_box rfl ?_); refine wpList_does rfl (kd_box K _ _ rfl (by conv => lhs; whnf)) ?_; clear K; rintro _ w1 ⟨gp, rfl, K⟩; (try dsimp only [Value.cells] at K)))
  go_ret
  exact ⟨gp, rfl, gc, K⟩
set_option maxRecDepth 100000 in
theorem give_room {A : Option Addr} {m c : Nat} (K : Known w0 w L) (hp : Has (row gp (prC p) 65) L) (hm : p.m.length = 102) (hf : p.free = .chan (some gc)) (hr : Repl (chrow gc 1 #[] s r) (chrow gc 1 #[.slice A m c] (s + 1) r) L L') :
    Calls Try.prog 29 #[.pointer (some ⟨gp, 0, none⟩), .slice A m c] w fun e w' => e = .returned (.tuple #[]) ∧ Known w0 w' L' := by
  refine calls_of_loneTo fun cs => ?_
  have e : Frame.enter Try.prog 29 #[.pointer (some ⟨gp, 0, none⟩), .slice A m c] .normal = (base 29).at ⟨#[.pointer (some ⟨gp, 0, none⟩), .slice A m c, undef, undef, undef, undef, undef, undef, undef, undef, undef, undef], []⟩ [.code (Try.f29.body.getD .skip)] := by
    simp [Frame.enter, Frame.at, Try.func29, base, Try.f29]
  rw [e]
  have hc : w.cell? ⟨gp, 115, none⟩ = some (.chan (some gc)) := ((K.blk hp).cell 115).trans (by rw [prC_free p hm, hf])
  have hch := K.get hr.has
  refine LoneTo.goes (n := 40) ?_
  simp only [Try.f29, Option.getD_some]
  s_c stepG_seq
  s_c stepG_seq
  s_reg
  s_op
  s_op
  s_op
  s_op
  s_c stepG_region_end
  s_reg
  s_op
  s_c stepG_region_end
  s_c stepG_seq
  s_reg
  s_stop
  refine LoneTo.step (step_lone_select_send_room (c := gc) (v := .slice A m c) (z' := .slice none 0 0) (cap := 1) (buf := #[]) (s := s) (r := r) (tm := false) (stepG_comm (cases := #[scase gc (.slice A m c) (.slice none 0 0)]) (blocking := false) (shape := .select) (w' := w) rfl rfl (by decide) (by simp [go_sem, execOp, scase, Act.eval])) hch (by simp)) ?_
  rw [Frame.finish_at]
  walk_nrm
  refine LoneTo.goes (n := 20) ?_
  s_op
  s_op
  s_c stepG_region_end
  s_c stepG_block
  s_cond true
  s_c stepG_skip
  s_c stepG_inBlock
  s_c stepG_end
  s_stop
  exact LoneTo.done ⟨.returned (.tuple #[]), _, rfl, ⟨rfl, K.setChan hr⟩, rfl, rfl, rfl, rfl, _, Try.func29, by simp [results, Try.f29, Frame.at]⟩
theorem make_run (w : World) (n : Nat) (hn : n ≤ 34000000000) : (Instr.makeSlice 22 (.int .i64 0) (.int .i64 (n : Int))).run Try.prog w = .ok (.slice (some ⟨w.heap.size, 0, none⟩) 0 n) (w.alloc (.cells (Array.replicate n (.int .u8 0)) 5 (0, 0))) := by
  cases hq : Try.prog.info? 5 with
  | none => have := u8_info; simp [hq] at this
  | some i =>
    have hi := u8_info
    simp only [hq, Option.map_some, Option.some.injEq, Prod.mk.injEq] at hi
    obtain ⟨h1, h2, h3⟩ := hi
    have hr := run_make (P := Try.prog) w 22 5 i (.int .u8 0) Try.underlying22 hq h1 .i64 .i64 (0 : Int) (n : Int) (by omega) (by omega) (by rw [h3]; omega) (by omega)
    simp only [Int.toNat_natCast, h2, Nat.mul_one, show (Value.int .u8 0).cells = #[.int .u8 0] from rfl, madeCells_one] at hr
    simpa using hr
set_option maxRecDepth 100000 in
theorem take_none (K : Known w0 w L) (hp : Has (row gp (prC p) 65) L) (hm : p.m.length = 102) (hf : p.free = .chan (some gc)) (hg : Has (chrow gc 1 #[] s r) L) (hn : n ≤ 34000000000) :
    Calls Try.prog 27 #[.pointer (some ⟨gp, 0, none⟩), .int .i64 (n : Int)] w fun e w' => ∃ g, e = .returned (.slice (some ⟨g, 0, none⟩) 0 n) ∧ Known w0 w' (row g (Array.replicate n (.int .u8 0)) 5 :: L) := by
  refine calls_of_loneTo fun cs => ?_
  have e : Frame.enter Try.prog 27 #[.pointer (some ⟨gp, 0, none⟩), .int .i64 (n : Int)] .normal = (base 27).at ⟨#[.pointer (some ⟨gp, 0, none⟩), .int .i64 (n : Int), undef, undef, undef, undef, undef, undef, undef, undef, undef, undef, undef, undef, undef, undef, undef, undef, undef, undef, undef, undef], []⟩ [.code (Try.f27.body.getD .skip)] := by
    simp [Frame.enter, Frame.at, Try.func27, base, Try.f27]
  rw [e]
  have hc : w.cell? ⟨gp, 115, none⟩ = some (.chan (some gc)) := ((K.blk hp).cell 115).trans (by rw [prC_free p hm, hf])
  have hch := K.get hg
  have hmk := make_run w n hn
  refine LoneTo.goes (n := 40) ?_
  simp only [Try.f27, Option.getD_some]
  s_c stepG_seq
  s_reg
  s_op
  s_c stepG_region_end
  s_c stepG_seq
  s_c stepG_seq
  s_reg
  s_op
  s_op
  s_op
  s_op
  s_c stepG_region_end
  s_c stepG_seq
  s_reg
  s_stop
  refine LoneTo.step (step_lone_select_default (c := gc) (z := .slice none 0 0) (cap := 1) (s := s) (r := r) (tm := false) (stepG_comm (cases := #[rcase gc (.slice none 0 0)]) (blocking := false) (shape := .select) (w' := w) rfl rfl (by decide) (by simp [go_sem, execOp, rcase, Act.eval])) hch) ?_
  rw [Frame.finish_at]
  walk_nrm
  refine LoneTo.goes (n := 40) ?_
  s_op
  s_op
  s_c stepG_region_end
  s_c stepG_block
  s_cond false
  s_c stepG_skip
  s_c stepG_inBlock
  s_c stepG_seq
  s_reg
  s_op
  s_op
  s_op
  s_c stepG_region_end
  s_c stepG_ret'
  s_stop
  exact LoneTo.done ⟨.returned (.slice (some ⟨w.heap.size, 0, none⟩) 0 n), _, rfl, ⟨_, rfl, K.new _⟩, rfl, rfl, rfl, rfl, _, Try.func27, by simp [results, Try.f27, Frame.at]⟩
end
end Go.Proofs.Ythbehlohdoajbaa
