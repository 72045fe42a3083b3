/-
  parcel: the document's example (a mark that is none): marked, does, Feed, PayCap, drogherlaw23.awake (contracts).
-/
import Derived.Test.YthbehlohdoajbaaPclB
import Derived.Test.YthbehlohdoajbaaManA
import Derived.Test.YthbehlohdoajbaaDefC
import Derived.Deep.LoopGhost
import Derived.Deep.Cut
set_option linter.unusedVariables false
set_option linter.unusedSimpArgs false
namespace Go.Proofs.Ythbehlohdoajbaa
open Go.RowKit
def markD : List Int := [68, 82, 71, 72]
theorem kr_strneT {P : Program} {o : Oper} {a : Act} {W : World} {T U : TypeId} {x y : Operand} {us bs : List Int} {s : ByteArray} (ho : o.op = .binOp .neq T x y U) (hx : a.eval x = .string (strOfNums us)) (hy : a.eval y = .string s) (hs : s = strOfNums bs) (ha : ∀ v ∈ us, 0 ≤ v ∧ v ≤ 255) (hb : ∀ v ∈ bs, 0 ≤ v ∧ v ≤ 255) (hne : us ≠ bs) : (execOp a.eval o).run P W = .ok (.value (.bool true)) W := by
  have h := kr_strneq (P := P) (W := W) ho hx hy hs ha hb
  rw [beq_eq_false_iff_ne.2 hne] at h
  exact h
theorem markD_byte : ∀ v ∈ markD, 0 ≤ v ∧ v ≤ 255 := by decide

section
variable {w0 w : World} {L L' : List Ent} {gp gc n c : Nat} {A : Option Addr} {xs : List Int} {m : List Value}
set_option maxRecDepth 100000 in
theorem marked_no (K : Known w0 w L) (R : RdS w0 L .u8 A n xs) (hb : ∀ v ∈ xs, 0 ≤ v ∧ v ≤ 255) (hne : xs ≠ markD) (v : Value) : Calls Try.prog 41 #[v, .slice A n c] w fun e w' => e = .returned (.tuple #[.nilFunc, .int .i64 0, .int .i64 3]) ∧ Known w0 w' L := by
  go_enter Try.func41, Try.ntmps41
  go_wp2_with (first | ((with_reducible refine at_convert (t := 22) (u := 9) rfl ?_); refine wpList_reads rfl (kr_string rfl rfl (R.at_ _ K) Try.underlying22 Try.underlying5 Try.underlying9) ?_) | ((with_reducible refine at_slot (N := 9) rfl ?_); refine wpList_reads rfl (kr_strneT (us := xs) (bs := markD) rfl rfl rfl rfl hb markD_byte hne) ?_))
  go_ret3
  exact ⟨rfl, K⟩
set_option maxHeartbeats 800000 in
set_option maxRecDepth 100000 in
theorem does_bad (K : Known w0 w (row gp (prC (Prs.mk m (.slice none 0 0) (.slice none 0 0) false false 0 0 (.slice none 0 0) (.slice none 0 0) false (.slice A n c) 4 (fnV 41) 0 (.chan (some gc)) false 0 true false)) 65 :: chrow gc 1 #[] 0 0 :: L)) (R : RdS w0 L .u8 A n xs) (hb : ∀ v ∈ xs, 0 ≤ v ∧ v ≤ 255) (hne : xs ≠ markD) (hm : m.length = 102) :
    Calls Try.prog 28 #[.pointer (some ⟨gp, 0, none⟩)] w fun e w' => e = .returned (.tuple #[]) ∧ Known w0 w' (row gp (prC (Prs.mk m (.slice none 0 0) (.slice none 0 0) false false 0 0 (.slice none 0 0) (.slice none 0 0) false (.slice none 0 0) 0 .nilFunc 0 (.chan (some gc)) false 3 true false)) 65 :: chrow gc 1 #[.slice A n c] 1 0 :: L) := by
  have HM := Lib.hid hm
  have HNE := Lib.hid hne
  go_enter Try.func28, Try.ntmps28
  go_wp2_with (first | ((with_reducible refine at_load rfl ?_); first | (refine wpList_reads (by rfl) (kr_load_cell K _ _ (by rfl) (by rfl) Has.auto (by decide +kernel) (prC_signed _ HM.out)) ?_; (try dsimp only)) | (refine wpList_reads (by rfl) (kr_load_cell K _ _ (by rfl) (by rfl) Has.auto (by decide +kernel) (prC_sig _ HM.out)) ?_; (try dsimp only)) | (refine wpList_reads (by rfl) (kr_load_cell K _ _ (by rfl) (by rfl) Has.auto (by decide +kernel) (prC_head _ HM.out)) ?_; (try dsimp only)) | (refine wpList_reads (by rfl) (kr_load_cell K _ _ (by rfl) (by rfl) Has.auto (by decide +kernel) (prC_gone _ HM.out)) ?_; (try dsimp only)) | (refine wpList_reads (by rfl) (kr_load_cell K _ _ (by rfl) (by rfl) Has.auto (by decide +kernel) (prC_k _ HM.out)) ?_; (try dsimp only)) | (refine wpList_reads (by rfl) (kr_load_cell K _ _ (by rfl) (by rfl) Has.auto (by decide +kernel) (prC_blk _ HM.out)) ?_; (try dsimp only)) | (refine wpList_reads (by rfl) (kr_load_cell K _ _ (by rfl) (by rfl) Has.auto (by decide +kernel) (prC_way _ HM.out)) ?_; (try dsimp only)) | (refine wpList_reads (by rfl) (kr_load_cell K _ _ (by rfl) (by rfl) Has.auto (by decide +kernel) (prC_pay _ HM.out)) ?_; (try dsimp only)) | (refine wpList_reads (by rfl) (kr_load_cell K _ _ (by rfl) (by rfl) Has.auto (by decide +kernel) (prC_whole _ HM.out)) ?_; (try dsimp only)) | (refine wpList_reads (by rfl) (kr_load_cell K _ _ (by rfl) (by rfl) Has.auto (by decide +kernel) (prC_buf _ HM.out)) ?_; (try dsimp only)) | (refine wpList_reads (by rfl) (kr_load_cell K _ _ (by rfl) (by rfl) Has.auto (by decide +kernel) (prC_need _ HM.out)) ?_; (try dsimp only)) | (refine wpList_reads (by rfl) (kr_load_cell K _ _ (by rfl) (by rfl) Has.auto (by decide +kernel) (prC_part _ HM.out)) ?_; (try dsimp only)) | (refine wpList_reads (by rfl) (kr_load_cell K _ _ (by rfl) (by rfl) Has.auto (by decide +kernel) (prC_plen _ HM.out)) ?_; (try dsimp only)) | (refine wpList_reads (by rfl) (kr_load_cell K _ _ (by rfl) (by rfl) Has.auto (by decide +kernel) (prC_free _ HM.out)) ?_; (try dsimp only)) | (refine wpList_reads (by rfl) (kr_load_cell K _ _ (by rfl) (by rfl) Has.auto (by decide +kernel) (prC_keeps _ HM.out)) ?_; (try dsimp only)) | (refine wpList_reads (by rfl) (kr_load_cell K _ _ (by rfl) (by rfl) Has.auto (by decide +kernel) (prC_e _ HM.out)) ?_; (try dsimp only)) | (refine wpList_reads (by rfl) (kr_load_cell K _ _ (by rfl) (by rfl) Has.auto (by decide +kernel) (prC_began _ HM.out)) ?_; (try dsimp only)) | (refine wpList_reads (by rfl) (kr_load_cell K _ _ (by rfl) (by rfl) Has.auto (by decide +kernel) (prC_ended _ HM.out)) ?_; (try dsimp only))) | (((with_reducible refine at_store rfl ?_); first | (refine wpList_does (by rfl) (kd_store_cell K _ _ _ (by rfl) (by rfl) (by conv => lhs; whnf) Repl.auto (by rfl) (by rfl) (by decide +kernel) (by rw [prC_size _ HM.out]; rfl) (prC_set_signed _ HM.out _)) ?_) | (refine wpList_does (by rfl) (kd_store_cell K _ _ _ (by rfl) (by rfl) (by conv => lhs; whnf) Repl.auto (by rfl) (by rfl) (by decide +kernel) (by rw [prC_size _ HM.out]; rfl) (prC_set_sig _ HM.out _)) ?_) | (refine wpList_does (by rfl) (kd_store_cell K _ _ _ (by rfl) (by rfl) (by conv => lhs; whnf) Repl.auto (by rfl) (by rfl) (by decide +kernel) (by rw [prC_size _ HM.out]; rfl) (prC_set_head _ HM.out _)) ?_) | (refine wpList_does (by rfl) (kd_store_cell K _ _ _ (by rfl) (by rfl) (by conv => lhs; whnf) Repl.auto (by rfl) (by rfl) (by decide +kernel) (by rw [prC_size _ HM.out]; rfl) (prC_set_gone _ HM.out _)) ?_) | (refine wpList_does (by rfl) (kd_store_cell K _ _ _ (by rfl) (by rfl) (by conv => lhs; whnf) Repl.auto (by rfl) (by rfl) (by decide +kernel) (by rw [prC_size _ HM.out]; rfl) (prC_set_k _ HM.out _)) ?_) | (refine wpList_does (by rfl) (kd_store_cell K _ _ _ (by rfl) (by rfl) (by conv => lhs; whnf) Repl.auto (by rfl) (by rfl) (by decide +kernel) (by rw [prC_size _ HM.out]; rfl) (prC_set_blk _ HM.out _)) ?_) | (refine wpList_does (by rfl) (kd_store_cell K _ _ _ (by rfl) (by rfl) (by conv => lhs; whnf) Repl.auto (by rfl) (by rfl) (by decide +kernel) (by rw [prC_size _ HM.out]; rfl) (prC_set_way _ HM.out _)) ?_) | (refine wpList_does (by rfl) (kd_store_cell K _ _ _ (by rfl) (by rfl) (by conv => lhs; whnf) Repl.auto (by rfl) (by rfl) (by decide +kernel) (by rw [prC_size _ HM.out]; rfl) (prC_set_pay _ HM.out _)) ?_) | (refine wpList_does (by rfl) (kd_store_cell K _ _ _ (by rfl) (by rfl) (by conv => lhs; whnf) Repl.auto (by rfl) (by rfl) (by decide +kernel) (by rw [prC_size _ HM.out]; rfl) (prC_set_whole _ HM.out _)) ?_) | (refine wpList_does (by rfl) (kd_store_cell K _ _ _ (by rfl) (by rfl) (by conv => lhs; whnf) Repl.auto (by rfl) (by rfl) (by decide +kernel) (by rw [prC_size _ HM.out]; rfl) (prC_set_buf _ HM.out _)) ?_) | (refine wpList_does (by rfl) (kd_store_cell K _ _ _ (by rfl) (by rfl) (by conv => lhs; whnf) Repl.auto (by rfl) (by rfl) (by decide +kernel) (by rw [prC_size _ HM.out]; rfl) (prC_set_need _ HM.out _)) ?_) | (refine wpList_does (by rfl) (kd_store_cell K _ _ _ (by rfl) (by rfl) (by conv => lhs; whnf) Repl.auto (by rfl) (by rfl) (by decide +kernel) (by rw [prC_size _ HM.out]; rfl) (prC_set_part _ HM.out _)) ?_) | (refine wpList_does (by rfl) (kd_store_cell K _ _ _ (by rfl) (by rfl) (by conv => lhs; whnf) Repl.auto (by rfl) (by rfl) (by decide +kernel) (by rw [prC_size _ HM.out]; rfl) (prC_set_plen _ HM.out _)) ?_) | (refine wpList_does (by rfl) (kd_store_cell K _ _ _ (by rfl) (by rfl) (by conv => lhs; whnf) Repl.auto (by rfl) (by rfl) (by decide +kernel) (by rw [prC_size _ HM.out]; rfl) (prC_set_free _ HM.out _)) ?_) | (refine wpList_does (by rfl) (kd_store_cell K _ _ _ (by rfl) (by rfl) (by conv => lhs; whnf) Repl.auto (by rfl) (by rfl) (by decide +kernel) (by rw [prC_size _ HM.out]; rfl) (prC_set_keeps _ HM.out _)) ?_) | (refine wpList_does (by rfl) (kd_store_cell K _ _ _ (by rfl) (by rfl) (by conv => lhs; whnf) Repl.auto (by rfl) (by rfl) (by decide +kernel) (by rw [prC_size _ HM.out]; rfl) (prC_set_e _ HM.out _)) ?_) | (refine wpList_does (by rfl) (kd_store_cell K _ _ _ (by rfl) (by rfl) (by conv => lhs; whnf) Repl.auto (by rfl) (by rfl) (by decide +kernel) (by rw [prC_size _ HM.out]; rfl) (prC_set_began _ HM.out _)) ?_) | (refine wpList_does (by rfl) (kd_store_cell K _ _ _ (by rfl) (by rfl) (by conv => lhs; whnf) Repl.auto (by rfl) (by rfl) (by decide +kernel) (by rw [prC_size _ HM.out]; rfl) (prC_set_ended _ HM.out _)) ?_)); clear K; intro _ w1 K; (try dsimp only at K)) | (go_at_call 41; (with_reducible refine (marked_no K (R.cov Cov.auto) hb HNE.out _).mono ?_); clear K; rintro e w1 ⟨rfl, K⟩) | (go_at_call 29; (with_reducible refine (give_room K Has.auto HM.out rfl Repl.auto).mono ?_); clear K; rintro e w1 ⟨rfl, K⟩))
  go_end0
  exact ⟨rfl, K⟩

theorem take_4 {s r : Nat} {p : Prs} (K : Known w0 w L) (hp : Has (row gp (prC p) 65) L) (hm : p.m.length = 102) (hf : p.free = .chan (some gc)) (hg : Has (chrow gc 1 #[] s r) L) :
    Calls Try.prog 27 #[.pointer (some ⟨gp, 0, none⟩), .int .i64 4] w fun e w' => ∃ g, e = .returned (.slice (some ⟨g, 0, none⟩) 0 4) ∧ Known w0 w' (row g (Array.replicate 4 (.int .u8 0)) 5 :: L) := take_none (n := 4) K hp hm hf hg (by omega)
set_option maxHeartbeats 1600000 in
set_option maxRecDepth 100000 in
theorem feed_bad (K : Known w0 w (row gp (prC (Prs.mk m (.slice none 0 0) (.slice none 0 0) false false 0 0 (.slice none 0 0) (.slice none 0 0) false (.slice none 0 0) 4 (fnV 41) 0 (.chan (some gc)) false 0 false false)) 65 :: chrow gc 1 #[] 0 0 :: L)) (R0 : RdS w0 L .u8 A 4 xs) (hc : 4 ≤ c) (hb : ∀ v ∈ xs, 0 ≤ v ∧ v ≤ 255) (hne : xs ≠ markD) (hm : m.length = 102) :
    Calls Try.prog 7 #[.pointer (some ⟨gp, 0, none⟩), .slice A 4 c] w fun e w' => e = .returned (.tuple #[.int .i64 0, .int .i64 3]) ∧ Known w0 w' L := by
  have HM := Lib.hid hm
  have HNE := Lib.hid hne
  have HB := Lib.hid hb
  have RC : RdS w0 L .u8 (cutA A c 0) 4 xs := by
    have h := R0.cut 0 4 (by omega) hc
    have hl := R0.len
    rwa [List.drop_zero, List.take_of_length_le (by omega)] at h
  go_enter Try.func7, Try.ntmps7
  go_upto_region 11 with ((first | ((with_reducible refine at_load rfl ?_); first | (refine wpList_reads (by rfl) (kr_load_cell K _ _ (by rfl) (by rfl) Has.auto (by decide +kernel) (prC_signed _ HM.out)) ?_; (try dsimp only)) | (refine wpList_reads (by rfl) (kr_load_cell K _ _ (by rfl) (by rfl) Has.auto (by decide +kernel) (prC_sig _ HM.out)) ?_; (try dsimp only)) | (refine wpList_reads (by rfl) (kr_load_cell K _ _ (by rfl) (by rfl) Has.auto (by decide +kernel) (prC_head _ HM.out)) ?_; (try dsimp only)) | (refine wpList_reads (by rfl) (kr_load_cell K _ _ (by rfl) (by rfl) Has.auto (by decide +kernel) (prC_gone _ HM.out)) ?_; (try dsimp only)) | (refine wpList_reads (by rfl) (kr_load_cell K _ _ (by rfl) (by rfl) Has.auto (by decide +kernel) (prC_k _ HM.out)) ?_; (try dsimp only)) | (refine wpList_reads (by rfl) (kr_load_cell K _ _ (by rfl) (by rfl) Has.auto (by decide +kernel) (prC_blk _ HM.out)) ?_; (try dsimp only)) | (refine wpList_reads (by rfl) (kr_load_cell K _ _ (by rfl) (by rfl) Has.auto (by decide +kernel) (prC_way _ HM.out)) ?_; (try dsimp only)) | (refine wpList_reads (by rfl) (kr_load_cell K _ _ (by rfl) (by rfl) Has.auto (by decide +kernel) (prC_pay _ HM.out)) ?_; (try dsimp only)) | (refine wpList_reads (by rfl) (kr_load_cell K _ _ (by rfl) (by rfl) Has.auto (by decide +kernel) (prC_whole _ HM.out)) ?_; (try dsimp only)) | (refine wpList_reads (by rfl) (kr_load_cell K _ _ (by rfl) (by rfl) Has.auto (by decide +kernel) (prC_buf _ HM.out)) ?_; (try dsimp only)) | (refine wpList_reads (by rfl) (kr_load_cell K _ _ (by rfl) (by rfl) Has.auto (by decide +kernel) (prC_need _ HM.out)) ?_; (try dsimp only)) | (refine wpList_reads (by rfl) (kr_load_cell K _ _ (by rfl) (by rfl) Has.auto (by decide +kernel) (prC_part _ HM.out)) ?_; (try dsimp only)) | (refine wpList_reads (by rfl) (kr_load_cell K _ _ (by rfl) (by rfl) Has.auto (by decide +kernel) (prC_plen _ HM.out)) ?_; (try dsimp only)) | (refine wpList_reads (by rfl) (kr_load_cell K _ _ (by rfl) (by rfl) Has.auto (by decide +kernel) (prC_free _ HM.out)) ?_; (try dsimp only)) | (refine wpList_reads (by rfl) (kr_load_cell K _ _ (by rfl) (by rfl) Has.auto (by decide +kernel) (prC_keeps _ HM.out)) ?_; (try dsimp only)) | (refine wpList_reads (by rfl) (kr_load_cell K _ _ (by rfl) (by rfl) Has.auto (by decide +kernel) (prC_e _ HM.out)) ?_; (try dsimp only)) | (refine wpList_reads (by rfl) (kr_load_cell K _ _ (by rfl) (by rfl) Has.auto (by decide +kernel) (prC_began _ HM.out)) ?_; (try dsimp only)) | (refine wpList_reads (by rfl) (kr_load_cell K _ _ (by rfl) (by rfl) Has.auto (by decide +kernel) (prC_ended _ HM.out)) ?_; (try dsimp only)))))
  go_loopg [6, 7] 1 (fun d v6 v7 wr => d = 1 ∧ v6 = .int .i64 0 ∧ Known w0 wr (row gp (prC (Prs.mk m (.slice none 0 0) (.slice none 0 0) false false 0 0 (.slice none 0 0) (.slice none 0 0) false (.slice none 0 0) 4 (fnV 41) 0 (.chan (some gc)) false 0 false false)) 65 :: chrow gc 1 #[] 0 0 :: L))
  case atStart => exact ⟨rfl, by go_num, K⟩
  case round =>
    clear K
    obtain ⟨rfl, rfl, K⟩ := hrel
    go_upto_region 14 with ((first | ((with_reducible refine at_load rfl ?_); first | (refine wpList_reads (by rfl) (kr_load_cell K _ _ (by rfl) (by rfl) Has.auto (by decide +kernel) (prC_signed _ HM.out)) ?_; (try dsimp only)) | (refine wpList_reads (by rfl) (kr_load_cell K _ _ (by rfl) (by rfl) Has.auto (by decide +kernel) (prC_sig _ HM.out)) ?_; (try dsimp only)) | (refine wpList_reads (by rfl) (kr_load_cell K _ _ (by rfl) (by rfl) Has.auto (by decide +kernel) (prC_head _ HM.out)) ?_; (try dsimp only)) | (refine wpList_reads (by rfl) (kr_load_cell K _ _ (by rfl) (by rfl) Has.auto (by decide +kernel) (prC_gone _ HM.out)) ?_; (try dsimp only)) | (refine wpList_reads (by rfl) (kr_load_cell K _ _ (by rfl) (by rfl) Has.auto (by decide +kernel) (prC_k _ HM.out)) ?_; (try dsimp only)) | (refine wpList_reads (by rfl) (kr_load_cell K _ _ (by rfl) (by rfl) Has.auto (by decide +kernel) (prC_blk _ HM.out)) ?_; (try dsimp only)) | (refine wpList_reads (by rfl) (kr_load_cell K _ _ (by rfl) (by rfl) Has.auto (by decide +kernel) (prC_way _ HM.out)) ?_; (try dsimp only)) | (refine wpList_reads (by rfl) (kr_load_cell K _ _ (by rfl) (by rfl) Has.auto (by decide +kernel) (prC_pay _ HM.out)) ?_; (try dsimp only)) | (refine wpList_reads (by rfl) (kr_load_cell K _ _ (by rfl) (by rfl) Has.auto (by decide +kernel) (prC_whole _ HM.out)) ?_; (try dsimp only)) | (refine wpList_reads (by rfl) (kr_load_cell K _ _ (by rfl) (by rfl) Has.auto (by decide +kernel) (prC_buf _ HM.out)) ?_; (try dsimp only)) | (refine wpList_reads (by rfl) (kr_load_cell K _ _ (by rfl) (by rfl) Has.auto (by decide +kernel) (prC_need _ HM.out)) ?_; (try dsimp only)) | (refine wpList_reads (by rfl) (kr_load_cell K _ _ (by rfl) (by rfl) Has.auto (by decide +kernel) (prC_part _ HM.out)) ?_; (try dsimp only)) | (refine wpList_reads (by rfl) (kr_load_cell K _ _ (by rfl) (by rfl) Has.auto (by decide +kernel) (prC_plen _ HM.out)) ?_; (try dsimp only)) | (refine wpList_reads (by rfl) (kr_load_cell K _ _ (by rfl) (by rfl) Has.auto (by decide +kernel) (prC_free _ HM.out)) ?_; (try dsimp only)) | (refine wpList_reads (by rfl) (kr_load_cell K _ _ (by rfl) (by rfl) Has.auto (by decide +kernel) (prC_keeps _ HM.out)) ?_; (try dsimp only)) | (refine wpList_reads (by rfl) (kr_load_cell K _ _ (by rfl) (by rfl) Has.auto (by decide +kernel) (prC_e _ HM.out)) ?_; (try dsimp only)) | (refine wpList_reads (by rfl) (kr_load_cell K _ _ (by rfl) (by rfl) Has.auto (by decide +kernel) (prC_began _ HM.out)) ?_; (try dsimp only)) | (refine wpList_reads (by rfl) (kr_load_cell K _ _ (by rfl) (by rfl) Has.auto (by decide +kernel) (prC_ended _ HM.out)) ?_; (try dsimp only))) | (((with_reducible refine at_store rfl ?_); first | (refine wpList_does (by rfl) (kd_store_cell K _ _ _ (by rfl) (by rfl) (by conv => lhs; whnf) Repl.auto (by rfl) (by rfl) (by decide +kernel) (by rw [prC_size _ HM.out]; rfl) (prC_set_signed _ HM.out _)) ?_) | (refine wpList_does (by rfl) (kd_store_cell K _ _ _ (by rfl) (by rfl) (by conv => lhs; whnf) Repl.auto (by rfl) (by rfl) (by decide +kernel) (by rw [prC_size _ HM.out]; rfl) (prC_set_sig _ HM.out _)) ?_) | (refine wpList_does (by rfl) (kd_store_cell K _ _ _ (by rfl) (by rfl) (by conv => lhs; whnf) Repl.auto (by rfl) (by rfl) (by decide +kernel) (by rw [prC_size _ HM.out]; rfl) (prC_set_head _ HM.out _)) ?_) | (refine wpList_does (by rfl) (kd_store_cell K _ _ _ (by rfl) (by rfl) (by conv => lhs; whnf) Repl.auto (by rfl) (by rfl) (by decide +kernel) (by rw [prC_size _ HM.out]; rfl) (prC_set_gone _ HM.out _)) ?_) | (refine wpList_does (by rfl) (kd_store_cell K _ _ _ (by rfl) (by rfl) (by conv => lhs; whnf) Repl.auto (by rfl) (by rfl) (by decide +kernel) (by rw [prC_size _ HM.out]; rfl) (prC_set_k _ HM.out _)) ?_) | (refine wpList_does (by rfl) (kd_store_cell K _ _ _ (by rfl) (by rfl) (by conv => lhs; whnf) Repl.auto (by rfl) (by rfl) (by decide +kernel) (by rw [prC_size _ HM.out]; rfl) (prC_set_blk _ HM.out _)) ?_) | (refine wpList_does (by rfl) (kd_store_cell K _ _ _ (by rfl) (by rfl) (by conv => lhs; whnf) Repl.auto (by rfl) (by rfl) (by decide +kernel) (by rw [prC_size _ HM.out]; rfl) (prC_set_way _ HM.out _)) ?_) | (refine wpList_does (by rfl) (kd_store_cell K _ _ _ (by rfl) (by rfl) (by conv => lhs; whnf) Repl.auto (by rfl) (by rfl) (by decide +kernel) (by rw [prC_size _ HM.out]; rfl) (prC_set_pay _ HM.out _)) ?_) | (refine wpList_does (by rfl) (kd_store_cell K _ _ _ (by rfl) (by rfl) (by conv => lhs; whnf) Repl.auto (by rfl) (by rfl) (by decide +kernel) (by rw [prC_size _ HM.out]; rfl) (prC_set_whole _ HM.out _)) ?_) | (refine wpList_does (by rfl) (kd_store_cell K _ _ _ (by rfl) (by rfl) (by conv => lhs; whnf) Repl.auto (by rfl) (by rfl) (by decide +kernel) (by rw [prC_size _ HM.out]; rfl) (prC_set_buf _ HM.out _)) ?_) | (refine wpList_does (by rfl) (kd_store_cell K _ _ _ (by rfl) (by rfl) (by conv => lhs; whnf) Repl.auto (by rfl) (by rfl) (by decide +kernel) (by rw [prC_size _ HM.out]; rfl) (prC_set_need _ HM.out _)) ?_) | (refine wpList_does (by rfl) (kd_store_cell K _ _ _ (by rfl) (by rfl) (by conv => lhs; whnf) Repl.auto (by rfl) (by rfl) (by decide +kernel) (by rw [prC_size _ HM.out]; rfl) (prC_set_part _ HM.out _)) ?_) | (refine wpList_does (by rfl) (kd_store_cell K _ _ _ (by rfl) (by rfl) (by conv => lhs; whnf) Repl.auto (by rfl) (by rfl) (by decide +kernel) (by rw [prC_size _ HM.out]; rfl) (prC_set_plen _ HM.out _)) ?_) | (refine wpList_does (by rfl) (kd_store_cell K _ _ _ (by rfl) (by rfl) (by conv => lhs; whnf) Repl.auto (by rfl) (by rfl) (by decide +kernel) (by rw [prC_size _ HM.out]; rfl) (prC_set_free _ HM.out _)) ?_) | (refine wpList_does (by rfl) (kd_store_cell K _ _ _ (by rfl) (by rfl) (by conv => lhs; whnf) Repl.auto (by rfl) (by rfl) (by decide +kernel) (by rw [prC_size _ HM.out]; rfl) (prC_set_keeps _ HM.out _)) ?_) | (refine wpList_does (by rfl) (kd_store_cell K _ _ _ (by rfl) (by rfl) (by conv => lhs; whnf) Repl.auto (by rfl) (by rfl) (by decide +kernel) (by rw [prC_size _ HM.out]; rfl) (prC_set_e _ HM.out _)) ?_) | (refine wpList_does (by rfl) (kd_store_cell K _ _ _ (by rfl) (by rfl) (by conv => lhs; whnf) Repl.auto (by rfl) (by rfl) (by decide +kernel) (by rw [prC_size _ HM.out]; rfl) (prC_set_began _ HM.out _)) ?_) | (refine wpList_does (by rfl) (kd_store_cell K _ _ _ (by rfl) (by rfl) (by conv => lhs; whnf) Repl.auto (by rfl) (by rfl) (by decide +kernel) (by rw [prC_size _ HM.out]; rfl) (prC_set_ended _ HM.out _)) ?_)); clear K; intro _ w1 K; (try dsimp only at K)) | (go_at_call 27; (with_reducible refine (take_4 K Has.auto HM.out rfl Has.auto).mono ?_); clear K; rintro e w1 ⟨gb, rfl, K⟩) | ((with_reducible refine at_eqnil rfl ?_); refine wpList_reads rfl (kr_eqnil rfl rfl (by kernel_rfl)) ?_)))
    have O : OwnL 5 1 (some ⟨gb, 0, none⟩) 0 4 (([] : List Int).map (Value.int .u8)) [row gb (Array.replicate 4 (.int .u8 0)) 5] := OwnL.made (n := 0) (c := 4) (by omega) (by omega)
    have i4 := IntWalk.i64_in 4 (by omega)
    have i5 : IntKind.i64.wrap (IntKind.i64.wrap 4) = 4 := by rw [i4, i4]
    refine wp_region_GK (X := [row gp (prC (Prs.mk m (.slice none 0 0) (.slice none 0 0) false false 0 0 (.slice none 0 0) (.slice none 0 0) false (.slice (some ⟨gb, 0, none⟩) 0 4) 4 (fnV 41) 0 (.chan (some gc)) false 0 false false)) 65]) K Cov.auto (by kernel_rfl) (by kernel_rfl) (by kernel_rfl) (fun K hHeld => ?_)
    refine wpG_takeA 0 (v := ?_) ?_ hHeld ?_
    rotate_left
    · (intro w hS; (clear hS; go_simp); try with_reducible rfl)
    try simp only [Act.put, List.setIfInBounds_toArray, List.set_cons_zero, List.set_cons_succ]
    refine wpG_takeA 1 (v := ?_) ?_ hHeld ?_
    rotate_left
    · (intro w hS; (clear hS; go_simp); try with_reducible rfl)
    try simp only [Act.put, List.setIfInBounds_toArray, List.set_cons_zero, List.set_cons_succ]
    refine wpG_takeA 2 (v := ?_) ?_ hHeld ?_
    rotate_left
    · (intro w hS; (clear hS; go_simp); try with_reducible rfl)
    try simp only [Act.put, List.setIfInBounds_toArray, List.set_cons_zero, List.set_cons_succ]
    refine wpG_takeA 3 (v := ?_) ?_ hHeld ?_
    rotate_left
    · (intro w hS; (clear hS; go_simp); try with_reducible rfl)
    try simp only [Act.put, List.setIfInBounds_toArray, List.set_cons_zero, List.set_cons_succ]
    refine wpG_takeA 4 (v := ?_) ?_ hHeld ?_
    rotate_left
    · (intro w hS; (clear hS; go_simp); try with_reducible rfl)
    try simp only [Act.put, List.setIfInBounds_toArray, List.set_cons_zero, List.set_cons_succ]
    refine wpG_takeA 5 (v := ?_) ?_ hHeld ?_
    rotate_left
    · (intro w hS; (clear hS; go_simp); try with_reducible rfl)
    try simp only [Act.put, List.setIfInBounds_toArray, List.set_cons_zero, List.set_cons_succ]
    refine wpG_takeA 6 (v := ?_) ?_ hHeld ?_
    rotate_left
    · (intro w hS; (clear hS; go_simp); try with_reducible rfl)
    try simp only [Act.put, List.setIfInBounds_toArray, List.set_cons_zero, List.set_cons_succ]
    refine wpG_takeA 7 (v := .int .i64 4) ?_ hHeld ?_
    · (intro w hS; first | exact kr_load_cell hS _ _ (by rfl) (by rfl) Has.auto (by kernel_rfl) (prC_need _ HM.out))
    try simp only [Act.put, List.setIfInBounds_toArray, List.set_cons_zero, List.set_cons_succ]
    refine wpG_takeA 8 (v := ?_) ?_ hHeld ?_
    rotate_left
    · (intro w hS; (clear hS; go_simp); try with_reducible rfl)
    try simp only [Act.put, List.setIfInBounds_toArray, List.set_cons_zero, List.set_cons_succ]
    refine wpG_takeA 9 (v := ?_) ?_ hHeld ?_
    rotate_left
    · (intro w hS; (clear hS; go_simp); try with_reducible rfl)
    try simp only [Act.put, List.setIfInBounds_toArray, List.set_cons_zero, List.set_cons_succ]
    refine wpG_takeA 10 (v := ?_) ?_ hHeld ?_
    rotate_left
    · (intro w hS; (clear hS; go_simp); try with_reducible rfl)
    try simp only [Act.put, List.setIfInBounds_toArray, List.set_cons_zero, List.set_cons_succ]
    refine wpG_takeA 11 (v := .slice (some ⟨gb, 0, none⟩) 0 4) ?_ hHeld ?_
    · (intro w hS; first | exact kr_load_cell hS _ _ (by rfl) (by rfl) Has.auto (by kernel_rfl) (prC_buf _ HM.out))
    try simp only [Act.put, List.setIfInBounds_toArray, List.set_cons_zero, List.set_cons_succ]
    refine wpG_takeA 12 (v := ?_) ?_ hHeld ?_
    rotate_left
    · (intro w hS; (clear hS; go_simp); try with_reducible rfl)
    try simp only [Act.put, List.setIfInBounds_toArray, List.set_cons_zero, List.set_cons_succ]
    refine wpG_takeA 13 (v := ?_) ?_ hHeld ?_
    rotate_left
    · (intro w hS; (clear hS; go_simp); try with_reducible rfl)
    try simp only [Act.put, List.setIfInBounds_toArray, List.set_cons_zero, List.set_cons_succ]
    refine wpG_takeA 14 (v := ?_) ?_ hHeld ?_
    rotate_left
    · (intro w hS; (clear hS; go_simp); try with_reducible rfl)
    try simp only [Act.put, List.setIfInBounds_toArray, List.set_cons_zero, List.set_cons_succ]
    refine wpG_takeA 15 (v := ?_) ?_ hHeld ?_
    rotate_left
    · (intro w hS; (clear hS; go_simp); try with_reducible rfl)
    try simp only [Act.put, List.setIfInBounds_toArray, List.set_cons_zero, List.set_cons_succ]
    refine wpG_done (by kernel_rfl) ?_
    skip
    go_upto_region 15 with (fail)
    refine wp_region_GK (X := [row gp (prC (Prs.mk m (.slice none 0 0) (.slice none 0 0) false false 0 0 (.slice none 0 0) (.slice none 0 0) false (.slice (some ⟨gb, 0, none⟩) 0 4) 4 (fnV 41) 0 (.chan (some gc)) false 0 false false)) 65]) K Cov.auto (by kernel_rfl) (by kernel_rfl) (by kernel_rfl) (fun K hHeld => ?_)
    refine wpG_takeA 0 (v := ?_) ?_ hHeld ?_
    rotate_left
    · (intro w hS; (clear hS; go_simp); try with_reducible rfl)
    try simp only [Act.put, List.setIfInBounds_toArray, List.set_cons_zero, List.set_cons_succ]
    refine wpG_takeA 1 (v := ?_) ?_ hHeld ?_
    rotate_left
    · (intro w hS; (clear hS; go_simp); try with_reducible rfl)
    try simp only [Act.put, List.setIfInBounds_toArray, List.set_cons_zero, List.set_cons_succ]
    refine wpG_takeA 2 (v := ?_) ?_ hHeld ?_
    rotate_left
    · (intro w hS; (clear hS; go_simp); try with_reducible rfl)
    try simp only [Act.put, List.setIfInBounds_toArray, List.set_cons_zero, List.set_cons_succ]
    refine wpG_takeA 3 (v := ?_) ?_ hHeld ?_
    rotate_left
    · (intro w hS; (clear hS; go_simp); try with_reducible rfl)
    try simp only [Act.put, List.setIfInBounds_toArray, List.set_cons_zero, List.set_cons_succ]
    refine wpG_takeA 4 (v := .slice (some ⟨gb, 0, none⟩) 0 4) ?_ hHeld ?_
    · (intro w hS; first | exact kr_load_cell hS _ _ (by rfl) (by rfl) Has.auto (by kernel_rfl) (prC_buf _ HM.out))
    try simp only [Act.put, List.setIfInBounds_toArray, List.set_cons_zero, List.set_cons_succ]
    refine wpG_takeA 5 (v := ?_) ?_ hHeld ?_
    rotate_left
    · (intro w hS; (clear hS; go_simp); try with_reducible rfl)
    try simp only [Act.put, List.setIfInBounds_toArray, List.set_cons_zero, List.set_cons_succ]
    refine wpG_takeA 6 (v := ?_) ?_ hHeld ?_
    rotate_left
    · (intro w hS; (clear hS; go_simp); try with_reducible rfl)
    try simp only [Act.put, List.setIfInBounds_toArray, List.set_cons_zero, List.set_cons_succ]
    refine wpG_takeA 7 (v := ?_) ?_ hHeld ?_
    rotate_left
    · (intro w hS; (clear hS; go_simp); try with_reducible rfl)
    try simp only [Act.put, List.setIfInBounds_toArray, List.set_cons_zero, List.set_cons_succ]
    refine wpG_takeA 8 (v := ?_) ?_ hHeld ?_
    rotate_left
    · (intro w hS; (clear hS; go_simp); try with_reducible rfl)
    try simp only [Act.put, List.setIfInBounds_toArray, List.set_cons_zero, List.set_cons_succ]
    refine wpG_takeA 9 (v := ?_) ?_ hHeld ?_
    rotate_left
    · (intro w hS; (clear hS; go_simp); try with_reducible rfl)
    try simp only [Act.put, List.setIfInBounds_toArray, List.set_cons_zero, List.set_cons_succ]
    refine wpG_takeA 10 (v := .slice (cutA (A) (c) (0)) (4) (c - (0))) ?_ hHeld ?_
    · (intro w hS; first | exact kr_cut (by rfl) (by rfl) (0) (4) (.inr ⟨_, _, by rfl, by rfl, by omega⟩) (.inr ⟨_, _, by rfl, by rfl, by omega⟩) (by omega) (by omega) Try.underlying22 (by kernel_rfl))
    try simp only [Act.put, List.setIfInBounds_toArray, List.set_cons_zero, List.set_cons_succ]
    refine wpG_oneA 11 (fun K9 hK => ?_)
    refine st_does (by rfl) (kd_appendN K _ _ (by rfl) (by rfl) (by rfl) (by with_reducible assumption) Seg.auto (RC.at_ _ (K.cov Cov.auto)) (by kernel_rfl) (by kernel_rfl) (by omega)) ?_
    clear K; rintro _ w1 ⟨A1, c1, X1, rfl, O, K⟩; (try simp only [Nat.zero_add, List.nil_append] at O)
    refine hK.out _ _ (K.cov Cov.auto) (fun hHeld => ?_)
    clear hK K9
    try simp only [Act.put, List.setIfInBounds_toArray, List.set_cons_zero, List.set_cons_succ]
    refine wpG_takeA 12 (v := ?_) ?_ hHeld ?_
    rotate_left
    · (intro w hS; (clear hS; go_simp); try with_reducible rfl)
    try simp only [Act.put, List.setIfInBounds_toArray, List.set_cons_zero, List.set_cons_succ]
    refine wpG_takeA 13 (v := ?_) ?_ hHeld ?_
    rotate_left
    · (intro w hS; (clear hS; go_simp); try with_reducible rfl)
    try simp only [Act.put, List.setIfInBounds_toArray, List.set_cons_zero, List.set_cons_succ]
    refine wpG_lastA 14 (fun K9 hK => ?_)
    refine st_does (by rfl) (kd_store_cell K _ _ _ (by rfl) (by rfl) (by conv => lhs; whnf) Repl.auto (by rfl) (by rfl) (by kernel_rfl) (by rw [prC_size _ HM.out]; rfl) (prC_set_buf _ HM.out _)) ?_
    clear K; intro _ w1 K; (try dsimp only at K)
    refine hK.out _ _ ?_
    clear hK K9
    try simp only [Act.put, List.setIfInBounds_toArray, List.set_cons_zero, List.set_cons_succ]
    skip
    go_upto_region 18 with ((first | ((with_reducible refine at_load rfl ?_); first | (refine wpList_reads (by rfl) (kr_load_cell K _ _ (by rfl) (by rfl) Has.auto (by decide +kernel) (prC_signed _ HM.out)) ?_; (try dsimp only)) | (refine wpList_reads (by rfl) (kr_load_cell K _ _ (by rfl) (by rfl) Has.auto (by decide +kernel) (prC_sig _ HM.out)) ?_; (try dsimp only)) | (refine wpList_reads (by rfl) (kr_load_cell K _ _ (by rfl) (by rfl) Has.auto (by decide +kernel) (prC_head _ HM.out)) ?_; (try dsimp only)) | (refine wpList_reads (by rfl) (kr_load_cell K _ _ (by rfl) (by rfl) Has.auto (by decide +kernel) (prC_gone _ HM.out)) ?_; (try dsimp only)) | (refine wpList_reads (by rfl) (kr_load_cell K _ _ (by rfl) (by rfl) Has.auto (by decide +kernel) (prC_k _ HM.out)) ?_; (try dsimp only)) | (refine wpList_reads (by rfl) (kr_load_cell K _ _ (by rfl) (by rfl) Has.auto (by decide +kernel) (prC_blk _ HM.out)) ?_; (try dsimp only)) | (refine wpList_reads (by rfl) (kr_load_cell K _ _ (by rfl) (by rfl) Has.auto (by decide +kernel) (prC_way _ HM.out)) ?_; (try dsimp only)) | (refine wpList_reads (by rfl) (kr_load_cell K _ _ (by rfl) (by rfl) Has.auto (by decide +kernel) (prC_pay _ HM.out)) ?_; (try dsimp only)) | (refine wpList_reads (by rfl) (kr_load_cell K _ _ (by rfl) (by rfl) Has.auto (by decide +kernel) (prC_whole _ HM.out)) ?_; (try dsimp only)) | (refine wpList_reads (by rfl) (kr_load_cell K _ _ (by rfl) (by rfl) Has.auto (by decide +kernel) (prC_buf _ HM.out)) ?_; (try dsimp only)) | (refine wpList_reads (by rfl) (kr_load_cell K _ _ (by rfl) (by rfl) Has.auto (by decide +kernel) (prC_need _ HM.out)) ?_; (try dsimp only)) | (refine wpList_reads (by rfl) (kr_load_cell K _ _ (by rfl) (by rfl) Has.auto (by decide +kernel) (prC_part _ HM.out)) ?_; (try dsimp only)) | (refine wpList_reads (by rfl) (kr_load_cell K _ _ (by rfl) (by rfl) Has.auto (by decide +kernel) (prC_plen _ HM.out)) ?_; (try dsimp only)) | (refine wpList_reads (by rfl) (kr_load_cell K _ _ (by rfl) (by rfl) Has.auto (by decide +kernel) (prC_free _ HM.out)) ?_; (try dsimp only)) | (refine wpList_reads (by rfl) (kr_load_cell K _ _ (by rfl) (by rfl) Has.auto (by decide +kernel) (prC_keeps _ HM.out)) ?_; (try dsimp only)) | (refine wpList_reads (by rfl) (kr_load_cell K _ _ (by rfl) (by rfl) Has.auto (by decide +kernel) (prC_e _ HM.out)) ?_; (try dsimp only)) | (refine wpList_reads (by rfl) (kr_load_cell K _ _ (by rfl) (by rfl) Has.auto (by decide +kernel) (prC_began _ HM.out)) ?_; (try dsimp only)) | (refine wpList_reads (by rfl) (kr_load_cell K _ _ (by rfl) (by rfl) Has.auto (by decide +kernel) (prC_ended _ HM.out)) ?_; (try dsimp only))) | (((with_reducible refine at_store rfl ?_); first | (refine wpList_does (by rfl) (kd_store_cell K _ _ _ (by rfl) (by rfl) (by conv => lhs; whnf) Repl.auto (by rfl) (by rfl) (by decide +kernel) (by rw [prC_size _ HM.out]; rfl) (prC_set_signed _ HM.out _)) ?_) | (refine wpList_does (by rfl) (kd_store_cell K _ _ _ (by rfl) (by rfl) (by conv => lhs; whnf) Repl.auto (by rfl) (by rfl) (by decide +kernel) (by rw [prC_size _ HM.out]; rfl) (prC_set_sig _ HM.out _)) ?_) | (refine wpList_does (by rfl) (kd_store_cell K _ _ _ (by rfl) (by rfl) (by conv => lhs; whnf) Repl.auto (by rfl) (by rfl) (by decide +kernel) (by rw [prC_size _ HM.out]; rfl) (prC_set_head _ HM.out _)) ?_) | (refine wpList_does (by rfl) (kd_store_cell K _ _ _ (by rfl) (by rfl) (by conv => lhs; whnf) Repl.auto (by rfl) (by rfl) (by decide +kernel) (by rw [prC_size _ HM.out]; rfl) (prC_set_gone _ HM.out _)) ?_) | (refine wpList_does (by rfl) (kd_store_cell K _ _ _ (by rfl) (by rfl) (by conv => lhs; whnf) Repl.auto (by rfl) (by rfl) (by decide +kernel) (by rw [prC_size _ HM.out]; rfl) (prC_set_k _ HM.out _)) ?_) | (refine wpList_does (by rfl) (kd_store_cell K _ _ _ (by rfl) (by rfl) (by conv => lhs; whnf) Repl.auto (by rfl) (by rfl) (by decide +kernel) (by rw [prC_size _ HM.out]; rfl) (prC_set_blk _ HM.out _)) ?_) | (refine wpList_does (by rfl) (kd_store_cell K _ _ _ (by rfl) (by rfl) (by conv => lhs; whnf) Repl.auto (by rfl) (by rfl) (by decide +kernel) (by rw [prC_size _ HM.out]; rfl) (prC_set_way _ HM.out _)) ?_) | (refine wpList_does (by rfl) (kd_store_cell K _ _ _ (by rfl) (by rfl) (by conv => lhs; whnf) Repl.auto (by rfl) (by rfl) (by decide +kernel) (by rw [prC_size _ HM.out]; rfl) (prC_set_pay _ HM.out _)) ?_) | (refine wpList_does (by rfl) (kd_store_cell K _ _ _ (by rfl) (by rfl) (by conv => lhs; whnf) Repl.auto (by rfl) (by rfl) (by decide +kernel) (by rw [prC_size _ HM.out]; rfl) (prC_set_whole _ HM.out _)) ?_) | (refine wpList_does (by rfl) (kd_store_cell K _ _ _ (by rfl) (by rfl) (by conv => lhs; whnf) Repl.auto (by rfl) (by rfl) (by decide +kernel) (by rw [prC_size _ HM.out]; rfl) (prC_set_buf _ HM.out _)) ?_) | (refine wpList_does (by rfl) (kd_store_cell K _ _ _ (by rfl) (by rfl) (by conv => lhs; whnf) Repl.auto (by rfl) (by rfl) (by decide +kernel) (by rw [prC_size _ HM.out]; rfl) (prC_set_need _ HM.out _)) ?_) | (refine wpList_does (by rfl) (kd_store_cell K _ _ _ (by rfl) (by rfl) (by conv => lhs; whnf) Repl.auto (by rfl) (by rfl) (by decide +kernel) (by rw [prC_size _ HM.out]; rfl) (prC_set_part _ HM.out _)) ?_) | (refine wpList_does (by rfl) (kd_store_cell K _ _ _ (by rfl) (by rfl) (by conv => lhs; whnf) Repl.auto (by rfl) (by rfl) (by decide +kernel) (by rw [prC_size _ HM.out]; rfl) (prC_set_plen _ HM.out _)) ?_) | (refine wpList_does (by rfl) (kd_store_cell K _ _ _ (by rfl) (by rfl) (by conv => lhs; whnf) Repl.auto (by rfl) (by rfl) (by decide +kernel) (by rw [prC_size _ HM.out]; rfl) (prC_set_free _ HM.out _)) ?_) | (refine wpList_does (by rfl) (kd_store_cell K _ _ _ (by rfl) (by rfl) (by conv => lhs; whnf) Repl.auto (by rfl) (by rfl) (by decide +kernel) (by rw [prC_size _ HM.out]; rfl) (prC_set_keeps _ HM.out _)) ?_) | (refine wpList_does (by rfl) (kd_store_cell K _ _ _ (by rfl) (by rfl) (by conv => lhs; whnf) Repl.auto (by rfl) (by rfl) (by decide +kernel) (by rw [prC_size _ HM.out]; rfl) (prC_set_e _ HM.out _)) ?_) | (refine wpList_does (by rfl) (kd_store_cell K _ _ _ (by rfl) (by rfl) (by conv => lhs; whnf) Repl.auto (by rfl) (by rfl) (by decide +kernel) (by rw [prC_size _ HM.out]; rfl) (prC_set_began _ HM.out _)) ?_) | (refine wpList_does (by rfl) (kd_store_cell K _ _ _ (by rfl) (by rfl) (by conv => lhs; whnf) Repl.auto (by rfl) (by rfl) (by decide +kernel) (by rw [prC_size _ HM.out]; rfl) (prC_set_ended _ HM.out _)) ?_)); clear K; intro _ w1 K; (try dsimp only at K))))
    refine wp_region_GK (X := [row gp (prC (Prs.mk m (.slice none 0 0) (.slice none 0 0) false false 0 0 (.slice none 0 0) (.slice none 0 0) false (.slice A1 4 c1) 4 (fnV 41) 0 (.chan (some gc)) false 0 true false)) 65]) K Cov.auto (by kernel_rfl) (by kernel_rfl) (by kernel_rfl) (fun K hHeld => ?_)
    refine wpG_takeA 0 (v := ?_) ?_ hHeld ?_
    rotate_left
    · (intro w hS; (clear hS; go_simp); try with_reducible rfl)
    try simp only [Act.put, List.setIfInBounds_toArray, List.set_cons_zero, List.set_cons_succ]
    refine wpG_takeA 1 (v := ?_) ?_ hHeld ?_
    rotate_left
    · (intro w hS; (clear hS; go_simp); try with_reducible rfl)
    try simp only [Act.put, List.setIfInBounds_toArray, List.set_cons_zero, List.set_cons_succ]
    refine wpG_takeA 2 (v := ?_) ?_ hHeld ?_
    rotate_left
    · (intro w hS; (clear hS; go_simp); try with_reducible rfl)
    try simp only [Act.put, List.setIfInBounds_toArray, List.set_cons_zero, List.set_cons_succ]
    refine wpG_takeA 3 (v := .slice A1 4 c1) ?_ hHeld ?_
    · (intro w hS; first | exact kr_load_cell hS _ _ (by rfl) (by rfl) Has.auto (by kernel_rfl) (prC_buf _ HM.out))
    try simp only [Act.put, List.setIfInBounds_toArray, List.set_cons_zero, List.set_cons_succ]
    refine wpG_takeA 4 (v := ?_) ?_ hHeld ?_
    rotate_left
    · (intro w hS; (clear hS; go_simp); try with_reducible rfl)
    try simp only [Act.put, List.setIfInBounds_toArray, List.set_cons_zero, List.set_cons_succ]
    refine wpG_takeA 5 (v := ?_) ?_ hHeld ?_
    rotate_left
    · (intro w hS; (clear hS; go_simp); try with_reducible rfl)
    try simp only [Act.put, List.setIfInBounds_toArray, List.set_cons_zero, List.set_cons_succ]
    refine wpG_takeA 6 (v := ?_) ?_ hHeld ?_
    rotate_left
    · (intro w hS; (clear hS; go_simp); try with_reducible rfl)
    try simp only [Act.put, List.setIfInBounds_toArray, List.set_cons_zero, List.set_cons_succ]
    refine wpG_takeA 7 (v := ?_) ?_ hHeld ?_
    rotate_left
    · (intro w hS; (clear hS; go_simp); try with_reducible rfl)
    try simp only [Act.put, List.setIfInBounds_toArray, List.set_cons_zero, List.set_cons_succ]
    refine wpG_takeA 8 (v := .int .i64 4) ?_ hHeld ?_
    · (intro w hS; first | exact kr_load_cell hS _ _ (by rfl) (by rfl) Has.auto (by kernel_rfl) (prC_need _ HM.out))
    try simp only [Act.put, List.setIfInBounds_toArray, List.set_cons_zero, List.set_cons_succ]
    refine wpG_takeA 9 (v := ?_) ?_ hHeld ?_
    rotate_left
    · (intro w hS; (clear hS; go_simp); try with_reducible rfl)
    try simp only [Act.put, List.setIfInBounds_toArray, List.set_cons_zero, List.set_cons_succ]
    refine wpG_done (by kernel_rfl) ?_
    skip
    go_upto_region 22 with ((first | (go_at_call 28; (with_reducible refine (does_bad (L := X1 ++ L) (K.cov Cov.auto) (RdS.own (w0 := w0) O Seg.auto) HB.out HNE.out HM.out).mono ?_); clear K; rintro e w1 ⟨rfl, K⟩) | ((with_reducible refine at_load rfl ?_); first | (refine wpList_reads (by rfl) (kr_load_cell K _ _ (by rfl) (by rfl) Has.auto (by decide +kernel) (prC_signed _ HM.out)) ?_; (try dsimp only)) | (refine wpList_reads (by rfl) (kr_load_cell K _ _ (by rfl) (by rfl) Has.auto (by decide +kernel) (prC_sig _ HM.out)) ?_; (try dsimp only)) | (refine wpList_reads (by rfl) (kr_load_cell K _ _ (by rfl) (by rfl) Has.auto (by decide +kernel) (prC_head _ HM.out)) ?_; (try dsimp only)) | (refine wpList_reads (by rfl) (kr_load_cell K _ _ (by rfl) (by rfl) Has.auto (by decide +kernel) (prC_gone _ HM.out)) ?_; (try dsimp only)) | (refine wpList_reads (by rfl) (kr_load_cell K _ _ (by rfl) (by rfl) Has.auto (by decide +kernel) (prC_k _ HM.out)) ?_; (try dsimp only)) | (refine wpList_reads (by rfl) (kr_load_cell K _ _ (by rfl) (by rfl) Has.auto (by decide +kernel) (prC_blk _ HM.out)) ?_; (try dsimp only)) | (refine wpList_reads (by rfl) (kr_load_cell K _ _ (by rfl) (by rfl) Has.auto (by decide +kernel) (prC_way _ HM.out)) ?_; (try dsimp only)) | (refine wpList_reads (by rfl) (kr_load_cell K _ _ (by rfl) (by rfl) Has.auto (by decide +kernel) (prC_pay _ HM.out)) ?_; (try dsimp only)) | (refine wpList_reads (by rfl) (kr_load_cell K _ _ (by rfl) (by rfl) Has.auto (by decide +kernel) (prC_whole _ HM.out)) ?_; (try dsimp only)) | (refine wpList_reads (by rfl) (kr_load_cell K _ _ (by rfl) (by rfl) Has.auto (by decide +kernel) (prC_buf _ HM.out)) ?_; (try dsimp only)) | (refine wpList_reads (by rfl) (kr_load_cell K _ _ (by rfl) (by rfl) Has.auto (by decide +kernel) (prC_need _ HM.out)) ?_; (try dsimp only)) | (refine wpList_reads (by rfl) (kr_load_cell K _ _ (by rfl) (by rfl) Has.auto (by decide +kernel) (prC_part _ HM.out)) ?_; (try dsimp only)) | (refine wpList_reads (by rfl) (kr_load_cell K _ _ (by rfl) (by rfl) Has.auto (by decide +kernel) (prC_plen _ HM.out)) ?_; (try dsimp only)) | (refine wpList_reads (by rfl) (kr_load_cell K _ _ (by rfl) (by rfl) Has.auto (by decide +kernel) (prC_free _ HM.out)) ?_; (try dsimp only)) | (refine wpList_reads (by rfl) (kr_load_cell K _ _ (by rfl) (by rfl) Has.auto (by decide +kernel) (prC_keeps _ HM.out)) ?_; (try dsimp only)) | (refine wpList_reads (by rfl) (kr_load_cell K _ _ (by rfl) (by rfl) Has.auto (by decide +kernel) (prC_e _ HM.out)) ?_; (try dsimp only)) | (refine wpList_reads (by rfl) (kr_load_cell K _ _ (by rfl) (by rfl) Has.auto (by decide +kernel) (prC_began _ HM.out)) ?_; (try dsimp only)) | (refine wpList_reads (by rfl) (kr_load_cell K _ _ (by rfl) (by rfl) Has.auto (by decide +kernel) (prC_ended _ HM.out)) ?_; (try dsimp only)))))
    refine wp_region_GK (X := [row gp (prC (Prs.mk m (.slice none 0 0) (.slice none 0 0) false false 0 0 (.slice none 0 0) (.slice none 0 0) false (.slice none 0 0) 0 .nilFunc 0 (.chan (some gc)) false 3 true false)) 65]) K Cov.auto (by kernel_rfl) (by kernel_rfl) (by kernel_rfl) (fun K hHeld => ?_)
    refine wpG_takeA 0 (v := ?_) ?_ hHeld ?_
    rotate_left
    · (intro w hS; (clear hS; go_simp); try with_reducible rfl)
    try simp only [Act.put, List.setIfInBounds_toArray, List.set_cons_zero, List.set_cons_succ]
    refine wpG_takeA 1 (v := ?_) ?_ hHeld ?_
    rotate_left
    · (intro w hS; (clear hS; go_simp); try with_reducible rfl)
    try simp only [Act.put, List.setIfInBounds_toArray, List.set_cons_zero, List.set_cons_succ]
    refine wpG_takeA 2 (v := ?_) ?_ hHeld ?_
    rotate_left
    · (intro w hS; (clear hS; go_simp); try with_reducible rfl)
    try simp only [Act.put, List.setIfInBounds_toArray, List.set_cons_zero, List.set_cons_succ]
    refine wpG_takeA 3 (v := .int .i64 3) ?_ hHeld ?_
    · (intro w hS; first | exact kr_load_cell hS _ _ (by rfl) (by rfl) Has.auto (by kernel_rfl) (prC_e _ HM.out))
    try simp only [Act.put, List.setIfInBounds_toArray, List.set_cons_zero, List.set_cons_succ]
    refine wpG_takeA 4 (v := ?_) ?_ hHeld ?_
    rotate_left
    · (intro w hS; (clear hS; go_simp); try with_reducible rfl)
    try simp only [Act.put, List.setIfInBounds_toArray, List.set_cons_zero, List.set_cons_succ]
    refine wpG_takeA 5 (v := ?_) ?_ hHeld ?_
    rotate_left
    · (intro w hS; (clear hS; go_simp); try with_reducible rfl)
    try simp only [Act.put, List.setIfInBounds_toArray, List.set_cons_zero, List.set_cons_succ]
    refine wpG_done (by kernel_rfl) ?_
    skip
    go_wp2
    go_ret2
    exact ⟨rfl, K.cov Cov.auto⟩
theorem paycap_eq (b : Int) : (if dmostN b = 0 then 0 else mostN (dmostN b)) = if 128 ≤ b ∧ b ≤ 4096 then b + 17 else 0 := by
  unfold dmostN mostN
  by_cases h : 128 ≤ b ∧ b ≤ 4096
  · simp only [h, and_self, if_true]
    rw [if_neg (by omega)]
    omega
  · simp only [h, if_false, if_true]
/-- how many bytes a packed plan has at most -/
def payCap (b : Int) : Int := if 128 ≤ b ∧ b ≤ 4096 then b + 17 else 0
theorem paycap_any (b v : Int) (hv : payCap b = v) (w : World) : Calls Try.prog 23 #[.int .i64 b] w fun e w' => e = .returned (.int .i64 v) ∧ w = w' := by
  have he := paycap_eq b
  by_cases h : dmostN b = 0
  · have h1 : (dmostN b == 0) = true := by simpa using h
    obtain rfl : v = 0 := by rw [← hv, payCap, ← he, if_pos h]
    clear he h hv
    go_enter Try.func23, Try.ntmps23
    go_wp2_with (first | (go_at_call 36; (with_reducible refine (dmost_any _ _).mono ?_); rintro e w' ⟨rfl, rfl⟩))
    go_ret
    exact ⟨rfl, rfl⟩
  · have h1 : (dmostN b == 0) = false := by simpa using h
    have HV := Lib.hid (show mostN (dmostN b) = v by rw [← hv, payCap, ← he, if_neg h])
    clear he h hv
    go_enter Try.func23, Try.ntmps23
    go_wp2_with (first | (go_at_call 36; (with_reducible refine (dmost_any _ _).mono ?_); rintro e w' ⟨rfl, rfl⟩) | (go_at_call 37; (with_reducible refine (most_any _ _ HV.out _).mono ?_); rintro e w' ⟨rfl, rfl⟩))
    go_ret
    exact ⟨rfl, rfl⟩
theorem pnew_J (K : Known w0 w L) : Calls Try.prog 26 #[] w fun e w' => ∃ gp, e = .returned (.pointer (some ⟨gp, 0, none⟩)) ∧ ∃ gc m, m.length = 102 ∧ Known w0 w' (row gp (prC (Prs.mk m (.slice none 0 0) (.slice none 0 0) false false 0 0 (.slice none 0 0) (.slice none 0 0) false (.slice none 0 0) 4 (fnV 41) 0 (.chan (some gc)) false 0 false false)) 65 :: chrow gc 1 #[] 0 0 :: L) :=
  (pnew_any K).mono fun e w' ⟨gp, he, gc, K⟩ => ⟨gp, he, gc, (prs0 gc (fnV 41)).m, prs0_len _ _, K⟩

set_option maxRecDepth 100000 in
theorem awake23K (K : Known w0 w L) : Calls Try.prog 6 #[] w fun e w' => e = .returned (.bool true) ∧ Known w0 w' L := by
  go_enter Try.func6, Try.ntmps6
  go_wp2_with (first | (go_at_call 26; (with_reducible refine (pnew_J K).mono ?_); clear K; rintro e w1 ⟨gp, rfl, gc, m, hm, K⟩) | ((with_reducible refine at_buildSlice rfl ?_); refine wpList_does rfl (kd_lits (cs := _) K _ _ _ rfl (by first | rfl | (go_simp; done) | (go_simp; rfl)) (by first | rfl | (go_simp; done) | (go_simp; rfl))) ?_; clear K; rintro _ w1 ⟨g, rfl, K⟩) | ((with_reducible refine at_convert (t := 22) (u := 22) rfl ?_); refine wpList_does rfl (kd_mark K rfl rfl Repl.auto Try.underlying22 Try.underlying5) ?_; clear K; rintro _ w1 ⟨rfl, K⟩) | (go_at_call 7; (with_reducible refine (feed_bad (m := m) (gp := gp) (gc := gc) (K.cov Cov.auto) (Has.objRd (n := 4) (off := 0) (k := .u8) (xs := [68, 82, 71, 88]) Has.auto rfl rfl) (by omega) (by decide) (by decide) hm).mono ?_); clear K; rintro e w1 ⟨rfl, K⟩) | (go_at_call 23; (with_reducible refine (paycap_any 128 145 (by decide) _).mono ?_); rintro e w' ⟨rfl, rfl⟩))
  go_ret
  exact ⟨rfl, K.cov Cov.auto⟩
end
end Go.Proofs.Ythbehlohdoajbaa
