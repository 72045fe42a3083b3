/-
  Channels of one goroutine among the known blocks. Over any program.
-/
import Derived.Test.YthbehlohdoajbaaR
import Derived.Conc.LoneSelect
set_option linter.unusedVariables false
set_option linter.unusedSimpArgs false
namespace Go.Proofs.Ythbehlohdoajbaa
open Go.RowKit Go.Conc
/-- a channel's block -/
abbrev chrow (g cap : Nat) (buf : Array Value) (s r : Nat) : Ent := (g, .chan cap buf false s r false)
section
variable {P : Program} {o : Oper} {a : Act} {W w0 w : World} {L L' : List Ent}
theorem Known.setChan {g cap s r s' r' : Nat} {buf buf' : Array Value} (K : Known w0 w L) (hr : Repl (chrow g cap buf s r) (chrow g cap buf' s' r') L L') : Known w0 (w.setChan g cap buf' false s' r' false) L' := by
  have hlt : g < w.heap.size := (Array.getElem?_eq_some_iff.1 (K.get hr.has)).1
  refine K.put hr ⟨rfl, rfl, rfl, by simp [World.setChan], fun k hk => ?_⟩ (heap_setChan w g cap buf' false s' r' false hlt)
  show (w.heap.setIfInBounds g _)[k]? = _
  rw [Array.getElem?_setIfInBounds_ne (Ne.symm hk)]
theorem kd_makeChan (K : Known w0 W L) (T : TypeId) {x : Operand} (ho : o.op = .makeChan T x) {e : TypeId} {n bytes : Nat} {dir : ChanDir} (hx : a.eval x = .int .i64 (n : Int)) (ht : P.underlying T = some (.chan dir e)) (hi : (P.info? e).map (·.bytes) = some bytes) (hn : n ≤ 1000) (hb : bytes ≤ 1000) :
    Does P o a W fun v w1 => ∃ g, v = .chan (some g) ∧ Known w0 w1 (chrow g n #[] 0 0 :: L) := by
  obtain ⟨i, hi, hib⟩ := Option.map_eq_some_iff.1 hi
  have hbb : (i.bytes : Int) * n ≤ 281474976710544 := by
    have : i.bytes * n ≤ 1000 * 1000 := Nat.mul_le_mul (by omega) hn
    rw [← Int.natCast_mul]
    omega
  have hr := run_makeChan (P := P) (w := W) ht hi .i64 n (by omega) hbb
  refine Does.val (v := .chan (some W.heap.size)) (w1 := W.alloc (.chan n #[] false 0 0 false)) ?_ ⟨_, rfl, K.new _⟩
  unfold execOp
  simp only [ho, hx, hr, Sem.run_bind, Result.andThen_ok, Sem.run_pure]
end
end Go.Proofs.Ythbehlohdoajbaa
