/-
  The document's package 22: Put (contract).
-/
import Derived.Test.YtgloienpmikcfaaPutB
import Derived.Test.YtgloienpmikcfaaManG
set_option linter.unusedVariables false
set_option linter.unusedSimpArgs false
namespace Go.Proofs.Ytgloienpmikcfaa
open Go.RowKit

section
variable {P : Program} {ops : Array Oper} {o : Oper} {a : Act} {K : Act → World → Prop} {Q : Exit → Act → World → Prop} {W : World} {E : Prop}
/-- A step of a region that draws: a new row behind a slice. -/
theorem st_new_slice (hgd : Region.wanted o (yielded ops a.tmps) = true) {cs : Array Value} {t : TypeId} {n c : Nat}
    (hrun : (execOp a.eval o).run P W = .ok (.value (.slice (some ⟨W.heap.size, 0, none⟩) n c)) (W.alloc (.cells cs t (0, 0))))
    (h : ∀ g, g = W.heap.size → ∀ w1, Blk w1 g cs t → Below W.heap.size W w1 → K (a.put o.dst (.slice (some ⟨g, 0, none⟩) n c)) w1) : if Region.wanted o (yielded ops a.tmps) = true then Oper.wp P o a W K Q else E := by
  rw [if_pos hgd]
  unfold Oper.wp
  rw [hrun]
  exact h _ rfl _ (Blk.new W cs t) (below_new W _)
/-- A step of a region that draws: append. -/
theorem st_append (hgd : Region.wanted o (yielded ops a.tmps) = true) (t e : TypeId) {s x : Operand} (ho : o.op = .call { callee := .builtin .append, args := #[s, x], argTypes := #[t, t] }) {base : Nat} {k : IntKind} {A B : Option Addr} {n c m c2 bytes : Nat} {xs ys : List Int} {z : Value}
    (ht : P.underlying t = some (.slice e)) (hinfo : (P.info? e).map (fun i => (i.zero, i.size, i.bytes)) = some (some z, 1, bytes)) (hzs : z.cells.size = 1)
    (hown : Own W base e k A n c xs) (hr : Rd W k B m ys) (hs : a.eval s = .slice A n c) (hx : a.eval x = .slice B m c2) (hbytes : n + m ≤ maxLen ∧ (n + m) * bytes ≤ 140737488355328) (hbase : base ≤ W.heap.size)
    (h : ∀ A' c' w1, Own w1 base e k A' (n + m) c' (xs ++ ys) → Grew W w1 A → K (a.put o.dst (.slice A' (n + m) c')) w1) : if Region.wanted o (yielded ops a.tmps) = true then Oper.wp P o a W K Q else E := by
  rw [if_pos hgd]
  obtain ⟨A', c', w1, hrun, h1, h2⟩ := run_append_own2 (P := P) W (ty := o.type) ht hinfo hzs hown hr hbytes.1 hbytes.2 hbase (c2 := c2)
  exact Lib.wp_append_run W s x t t ho _ _ hs hx _ _ hrun (h A' c' w1 h1 h2)
/-- A cell that is known is read, as one operation's run. -/
theorem run_op_load_known {w : World} (ty : TypeId) (x : Operand) (ho : o.op = .load ty x) {p : Addr} {v : Value} (hc : w.cell? p = some v) (hx : a.eval x = .pointer (some p))
    (hu : (P.underlying ty).all (fun d => match d with | .struct _ | .array _ _ => false | _ => true) = true) (hs : (P.underlying ty).isSome = true) :
    (execOp a.eval o).run P w = .ok (.value v) w := by
  obtain ⟨d, hd⟩ := Option.isSome_iff_exists.1 hs
  have hagg : (isAgg ty).run P w = .ok false w := by
    unfold isAgg
    rw [Sem.run_bind, run_underlying hd w]
    rw [hd] at hu
    cases d <;> simp_all
  unfold execOp
  simp only [ho, hx, Instr.loadAt, Instr.sureAddr, Sem.run_bind, Sem.run_pure, Result.andThen_ok, loadVar, hagg, Bool.false_eq_true, if_false, run_load, hc]
end
theorem wrap_u8 (x : Int) : IntKind.u8.wrap x = x % 256 := by simp [IntKind.wrap, IntKind.signed, IntKind.bits]
theorem mfc_rd {mode ver blk ol nl : Int} {D : List Int} {o : Value} {w : World} {g : Nat} {t : TypeId} (B : Blk w g (mfc mode ver blk ol nl D o) t) (i n : Nat) (h : i + n ≤ D.length) :
    Rd w .u8 (some ⟨g, 5 + i, none⟩) n ((D.drop i).take n) :=
  ⟨by simp; omega, fun j hj => ⟨g, 5 + i, rfl, by
    rw [B.cell, show 5 + i + j = 5 + (i + j) by omega, mfc_D _ _ _ _ _ _ _ _ (by omega)]
    simp [List.getD, hj]⟩⟩

section
variable (mode ver blk ol nl : Int) (D : List Int) (A : Option Addr) (n c : Nat) (xs : List Int) (w : World)
set_option maxHeartbeats 400000 in
set_option maxRecDepth 100000 in
theorem rput_no (hv : mayM mode blk ol nl D xs = false) (R : Rd w .i64 A n xs) (hD : D.length = 96) (hn : n ≤ 1152921504606846976) (hc : n ≤ c) (hnl : nl ≤ 9223372036854775807) :
    Calls Try.prog 36 #[.agg (mfc mode ver blk ol nl D (.slice A n c))] w fun e w' => ∃ A' c', e = .returned (.tuple #[.slice A' 0 c', .int .i64 3]) ∧ Own w' w.heap.size 5 .u8 A' 0 c' [] ∧ Below w.heap.size w w' := by
  have F : Fr w w := Fr.refl w
  have HV := Lib.hid hv
  clear hv
  go_enter Try.func36, Try.ntmps36
  go_wp2_with (first | ((with_reducible refine at_slot (N := 1) rfl ?_); refine ev_new rfl (cs := mfc mode ver blk ol nl D (.slice A n c)) (t := 41) (by first | (go_simp; done) | (go_simp; rfl)) ?_; intro gC hgC wC C nbC; have GEC : w.heap.size ≤ gC := (by rw [hgC]; exact F.size); clear hgC; replace F := F.step nbC; clear nbC) | ((with_reducible refine at_load (t := 41) rfl ?_); refine ev_load_row rfl 41 _ rfl C rfl Try.underlying41 rfl (by rw [mfc_size _ _ _ _ _ _ _ hD]; kernel_rfl) ?_) | (go_at_call 31; (with_reducible refine (rmay_any _ _ _ _ _ _ _ _ _ _ _ _ HV.out (R.below F.out) hD hn hc).mono ?_); rintro e w1 ⟨rfl, nb⟩; replace F := F.step nb; replace C := C.below nb; clear nb) | ((with_reducible refine at_slot (N := 9) rfl ?_); refine ev_new_slice (n := 0) (c := 0) rfl (cs := #[]) (t := 5) (by first | (go_simp; done) | (go_simp; rfl)) ?_; intro gS hgS wS S nbS; have GES : w.heap.size ≤ gS := (by rw [hgS]; exact F.size); clear hgS; replace F := F.step nbS; clear nbS; have O : Own _ _ _ .u8 _ _ _ _ := Own.ofBlk (xs := []) (n := 0) (c := 0) S GES rfl (by unfold maxLen; omega) (Nat.le_refl _) rfl rfl; clear S))
  go_ret2
  exact ⟨_, _, rfl, O, F.out⟩

set_option maxHeartbeats 1600000 in
set_option maxRecDepth 100000 in
theorem rput_yes (hv : mayM mode blk ol nl D xs = true) (R : Rd w .i64 A n xs) (hD : D.length = 96) (hc : n ≤ c) :
    Calls Try.prog 36 #[.agg (mfc mode ver blk ol nl D (.slice A n c))] w fun e w' => ∃ A' c', e = .returned (.tuple #[.slice A' (118 + 2 * n) c', .int .i64 0]) ∧
      Own w' w.heap.size 5 .u8 A' (118 + 2 * n) c' (mbytes mode ver blk ol nl D xs) ∧ Below w.heap.size w w' := by
  have F : Fr w w := Fr.refl w
  obtain ⟨b1, b2, o1, o2, n1, n2, k⟩ := mayM_bounds hv
  obtain ⟨hlen, hall⟩ := mayM_order hv
  have hn : n ≤ 4096 := by have := R.len; omega
  have HALL := Lib.hid hall
  have HV := Lib.hid hv
  clear hv k hlen hall
  go_enter Try.func36, Try.ntmps36
  go_wp2_with (first | ((with_reducible refine at_slot (N := 1) rfl ?_); refine ev_new rfl (cs := mfc mode ver blk ol nl D (.slice A n c)) (t := 41) (by first | (go_simp; done) | (go_simp; rfl)) ?_; intro gC hgC wC C nbC; have GEC : w.heap.size ≤ gC := (by rw [hgC]; exact F.size); clear hgC; replace F := F.step nbC; clear nbC) | ((with_reducible refine at_load (t := 41) rfl ?_); refine ev_load_row rfl 41 _ rfl C rfl Try.underlying41 rfl (by rw [mfc_size _ _ _ _ _ _ _ hD]; kernel_rfl) ?_) | ((with_reducible refine at_load (t := 5) rfl ?_); refine ev_load_cell rfl 5 _ rfl (i := 0) C rfl (by kernel_rfl) (by kernel_rfl) (mfc_0 _ _ _ _ _ _ _) ?_) | ((with_reducible refine at_load (t := 36) rfl ?_); refine ev_load_cell rfl 36 _ rfl (i := 1) C rfl (by kernel_rfl) (by kernel_rfl) (mfc_1 _ _ _ _ _ _ _) ?_) | ((with_reducible refine at_load (t := 3) rfl ?_); refine ev_load_cell rfl 3 _ rfl (i := 2) C rfl (by kernel_rfl) (by kernel_rfl) (mfc_2 _ _ _ _ _ _ _) ?_) | ((with_reducible refine at_load (t := 3) rfl ?_); refine ev_load_cell rfl 3 _ rfl (i := 3) C rfl (by kernel_rfl) (by kernel_rfl) (mfc_3 _ _ _ _ _ _ _) ?_) | ((with_reducible refine at_load (t := 3) rfl ?_); refine ev_load_cell rfl 3 _ rfl (i := 4) C rfl (by kernel_rfl) (by kernel_rfl) (mfc_4 _ _ _ _ _ _ _) ?_) | ((with_reducible refine at_load (t := 39) rfl ?_); refine ev_load_cell rfl 39 _ rfl (i := 101) C rfl (by kernel_rfl) (by kernel_rfl) (mfc_o _ _ _ _ _ _ _ hD) ?_) | (go_at_call 31; (with_reducible refine (rmay_any _ _ _ _ _ _ _ _ _ _ _ _ HV.out (R.below F.out) hD (by omega) hc).mono ?_); rintro e w1 ⟨rfl, nb⟩; replace F := F.step nb; replace C := C.below nb; clear nb) | ((with_reducible refine at_slot (N := 12) rfl ?_); refine ev_new_slice (n := 2) (c := 2) rfl (cs := #[.int .u8 1, .int .u8 mode]) (t := 5) (by first | (go_simp; done) | (go_simp; rfl)) ?_; intro gS hgS wS S nbS; have GES : w.heap.size ≤ gS := (by rw [hgS]; exact F.size); have neCS : gC ≠ gS := (by have := C.lt; omega); have neSC : gS ≠ gC := Ne.symm neCS; clear hgS; replace F := F.step nbS; replace C := C.below nbS; clear nbS; have RS := Rd.ofBlk (k := .u8) (off := 0) (n := 2) (xs := [1, mode]) S rfl rfl) | (go_at_call 55; (with_reducible refine (rput_any _ 2 2 8 ver 8 [1, mode] _ RS (by omega) rfl (by omega) (by omega)).mono ?_); rintro e w1 ⟨A1, c1, rfl, ON, nb⟩; replace ON := ON.mono F.size; replace C := C.below nb; replace F := F.step nb; (try clear O); have O := ON; clear ON nb; replace O : Own _ _ _ _ _ 10 _ _ := O; clear RS) | (go_at_call 55; (with_reducible refine (rput_any _ 10 _ 4 blk 4 _ _ O.rd (by omega) rfl (by omega) (by omega)).mono ?_); rintro e w1 ⟨A1, c1, rfl, ON, nb⟩; replace ON := ON.mono F.size; replace C := C.below nb; replace F := F.step nb; (try clear O); have O := ON; clear ON nb; replace O : Own _ _ _ _ _ 14 _ _ := O) | (go_at_call 55; (with_reducible refine (rput_any _ 14 _ 4 ol 4 _ _ O.rd (by omega) rfl (by omega) (by omega)).mono ?_); rintro e w1 ⟨A1, c1, rfl, ON, nb⟩; replace ON := ON.mono F.size; replace C := C.below nb; replace F := F.step nb; (try clear O); have O := ON; clear ON nb; replace O : Own _ _ _ _ _ 18 _ _ := O) | (go_at_call 55; (with_reducible refine (rput_any _ 18 _ 4 nl 4 _ _ O.rd (by omega) rfl (by omega) (by omega)).mono ?_); rintro e w1 ⟨A1, c1, rfl, ON, nb⟩; replace ON := ON.mono F.size; replace C := C.below nb; replace F := F.step nb; (try clear O); have O := ON; clear ON nb; replace O : Own _ _ _ _ _ 22 _ _ := O) | (at_builtin; refine ev_append rfl 44 5 rfl Try.underlying44 u8_info rfl O (mfc_rd C 0 32 (by omega)) rfl rfl (by unfold maxLen; omega) (F.size) ?_; intro A1 c1 w1 ON gr; replace C := C.grew gr (O.ne C (by decide)); replace F := F.grew gr (fun a ha => (O.lt a ha).1); replace O := ON; clear ON gr; replace O : Own _ _ _ _ _ 54 _ _ := O) | (at_builtin; refine ev_append rfl 44 5 rfl Try.underlying44 u8_info rfl O (mfc_rd C 32 32 (by omega)) rfl rfl (by unfold maxLen; omega) (F.size) ?_; intro A1 c1 w1 ON gr; replace C := C.grew gr (O.ne C (by decide)); replace F := F.grew gr (fun a ha => (O.lt a ha).1); replace O := ON; clear ON gr; replace O : Own _ _ _ _ _ 86 _ _ := O) | (at_builtin; refine ev_append rfl 44 5 rfl Try.underlying44 u8_info rfl O (mfc_rd C 64 32 (by omega)) rfl rfl (by unfold maxLen; omega) (F.size) ?_; intro A1 c1 w1 ON gr; replace C := C.grew gr (O.ne C (by decide)); replace F := F.grew gr (fun a ha => (O.lt a ha).1); replace O := ON; clear ON gr; replace O : Own _ _ _ _ _ 118 _ _ := O))
  replace O : Own w1 w.heap.size 5 .u8 A1 118 c1 (headB mode ver blk ol nl D) := by rw [headB]; exact O
  have HL := Lib.hid R.len
  obtain ⟨hb, hhb⟩ : ∃ h, headB mode ver blk ol nl D = h := ⟨_, rfl⟩
  have HM := Lib.hid (show mbytes mode ver blk ol nl D xs = hb ++ ordB xs by rw [mbytes, hhb])
  rw [hhb] at O
  clear hhb S GES neCS neSC HV
  go_loopw [4, 47] (fun v i wr => ∃ (j : Nat) (A' : Option Addr) (c' : Nat), j ≤ n ∧ i = .int .i64 (j : Int) ∧ v = .slice A' (118 + 2 * j) c' ∧ Own wr w.heap.size 5 .u8 A' (118 + 2 * j) c' (hb ++ ordB (xs.take j)) ∧ Fr w wr ∧ Blk wr gC (mfc mode ver blk ol nl D (.slice A n c)) 41) (fun _ i _ => n - (intOf i).toNat)
  case atStart => exact ⟨0, A1, c1, Nat.zero_le _, rfl, rfl, by simpa [ordB] using O, F, C⟩
  case round =>
    clear O F C
    obtain ⟨j, A', c', hj, rfl, rfl, O, F, C⟩ := hrel
    by_cases hlt : j < n
    · obtain ⟨b, off, rfl, hb', hcell⟩ := R.form (by omega)
      have hc' := hcell j hlt
      obtain ⟨y, hy⟩ : ∃ y, y = xs.getD j 0 := ⟨_, rfl⟩
      rw [← hy] at hc'
      have HC := Lib.hid (fun (w' : World) (F' : Fr w w') => (F'.out.cell (p := ⟨b, off + j, none⟩) hb').trans hc')
      have HT := Lib.hid ((take_snoc' xs j (by rw [HL.out]; omega)).trans (by rw [← hy]) : xs.take (j + 1) = xs.take j ++ [y])
      have hy2 : 0 ≤ y ∧ y < 4096 := HALL.out y (by rw [hy, List.getD, List.getElem?_eq_getElem (by rw [HL.out]; exact hlt)]; exact List.getElem_mem _)
      clear hy hcell hb' hc'
      obtain ⟨y0, y1⟩ := hy2
      have q1 := Lib.hid (show IntKind.u8.wrap (IntKind.i64.wrap (y.tdiv 256)) = y / 256 % 256 by rw [Int.tdiv_eq_ediv_of_nonneg y0, IntWalk.i64_in _ (by omega), wrap_u8])
      have q2 := Lib.hid (show IntKind.u8.wrap (y.tmod 256) = y % 256 by rw [Int.tmod_eq_emod_of_nonneg y0, wrap_u8]; omega)
      go_wp2
      replace C := C.drew
      replace F := F.drew
      replace O := O.drew
      refine wp_region_held_drew (S := fun w' => Blk w' gC (mfc mode ver blk ol nl D (.slice (some ⟨b, off, none⟩) n c)) 41 ∧ w'.cell? ⟨b, off + j, none⟩ = some (.int .i64 y)) (by kernel_rfl) (⟨C, HC.out _ F⟩) (fun hHeld => ?_)
      refine wpAnyH_take (i := 0) (oi := { dst := some 50, op := Op.move (Operand.tmp 4), type := 44, pos := "ref.go:69", after := #[], guard := none }) (v := ?_) rfl (by kernel_rfl) (by kernel_rfl) (by kernel_rfl) (fun _ _ _ h => h) (Or.inl ⟨by rfl, ?_⟩) hHeld ?_
      rotate_left
      · (intro w hS; (clear hS; go_simp); try with_reducible rfl)
      try simp only [Act.put, List.setIfInBounds_toArray, List.set_cons_zero, List.set_cons_succ]
      refine wpAnyH_take (i := 1) (oi := { dst := some 51, op := Op.fieldAddr 41 (Operand.tmp 1) 8, type := 0, pos := "ref.go:69", after := #[], guard := none }) (v := ?_) rfl (by kernel_rfl) (by kernel_rfl) (by kernel_rfl) (fun _ _ _ h => h) (Or.inl ⟨by rfl, ?_⟩) hHeld ?_
      rotate_left
      · (intro w hS; (clear hS; go_simp); try with_reducible rfl)
      try simp only [Act.put, List.setIfInBounds_toArray, List.set_cons_zero, List.set_cons_succ]
      refine wpAnyH_take (i := 2) (oi := { dst := some 52, op := Op.load 39 (Operand.tmp 51), type := 39, pos := "ref.go:69", after := #[{ on := 1, ground := Ground.data }], guard := none }) (v := .slice (some ⟨b, off, none⟩) n c) rfl (by kernel_rfl) (by kernel_rfl) (by kernel_rfl) (fun _ _ _ h => h) (Or.inl ⟨by rfl, ?_⟩) hHeld ?_
      · (intro w hS; exact run_op_load_cell 39 (Operand.tmp 51) (by rfl) (i := 101) hS.1 (by rfl) (by kernel_rfl) (by kernel_rfl) (mfc_o _ _ _ _ _ _ _ hD))
      try simp only [Act.put, List.setIfInBounds_toArray, List.set_cons_zero, List.set_cons_succ]
      refine wpAnyH_take (i := 3) (oi := { dst := some 53, op := Op.move (Operand.tmp 5), type := 3, pos := "ref.go:69", after := #[], guard := none }) (v := ?_) rfl (by kernel_rfl) (by kernel_rfl) (by kernel_rfl) (fun _ _ _ h => h) (Or.inl ⟨by rfl, ?_⟩) hHeld ?_
      rotate_left
      · (intro w hS; (clear hS; go_simp); try with_reducible rfl)
      try simp only [Act.put, List.setIfInBounds_toArray, List.set_cons_zero, List.set_cons_succ]
      refine wpAnyH_take (i := 4) (oi := { dst := some 54, op := Op.indexAddr 39 (Operand.tmp 52) (Operand.tmp 53), type := 0, pos := "ref.go:69", after := #[{ on := 2, ground := Ground.data }, { on := 3, ground := Ground.data }], guard := none }) (v := ?_) rfl (by kernel_rfl) (by kernel_rfl) (by kernel_rfl) (fun _ _ _ h => h) (Or.inl ⟨by rfl, ?_⟩) hHeld ?_
      rotate_left
      · (intro w hS; (clear hS; go_simp); try with_reducible rfl)
      try simp only [Act.put, List.setIfInBounds_toArray, List.set_cons_zero, List.set_cons_succ]
      refine wpAnyH_take (i := 5) (oi := { dst := some 55, op := Op.load 3 (Operand.tmp 54), type := 3, pos := "ref.go:69", after := #[{ on := 4, ground := Ground.data }], guard := none }) (v := .int .i64 y) rfl (by kernel_rfl) (by kernel_rfl) (by kernel_rfl) (fun _ _ _ h => h) (Or.inl ⟨by rfl, ?_⟩) hHeld ?_
      · (intro w hS; exact run_op_load_known 3 (Operand.tmp 54) (by rfl) hS.2 (by rfl) (by kernel_rfl) (by kernel_rfl))
      try simp only [Act.put, List.setIfInBounds_toArray, List.set_cons_zero, List.set_cons_succ]
      refine wpAnyH_take (i := 6) (oi := { dst := some 56, op := Op.binOp BinOp.quo 3 (Operand.tmp 55) (Operand.const (Value.int IntKind.i64 256)) 3, type := 3, pos := "ref.go:69", after := #[{ on := 5, ground := Ground.data }], guard := none }) (v := ?_) rfl (by kernel_rfl) (by kernel_rfl) (by kernel_rfl) (fun _ _ _ h => h) (Or.inl ⟨by rfl, ?_⟩) hHeld ?_
      rotate_left
      · (intro w hS; (clear hS; go_simp); try with_reducible rfl)
      try simp only [Act.put, List.setIfInBounds_toArray, List.set_cons_zero, List.set_cons_succ]
      refine wpAnyH_take (i := 7) (oi := { dst := some 57, op := Op.convert 3 5 (Operand.tmp 56), type := 5, pos := "ref.go:69", after := #[{ on := 6, ground := Ground.data }], guard := none }) (v := ?_) rfl (by kernel_rfl) (by kernel_rfl) (by kernel_rfl) (fun _ _ _ h => h) (Or.inl ⟨by rfl, ?_⟩) hHeld ?_
      rotate_left
      · (intro w hS; (clear hS; go_simp); try with_reducible rfl)
      try simp only [Act.put, List.setIfInBounds_toArray, List.set_cons_zero, List.set_cons_succ]
      refine wpAnyH_take (i := 8) (oi := { dst := some 58, op := Op.fieldAddr 41 (Operand.tmp 1) 8, type := 0, pos := "ref.go:69", after := #[], guard := none }) (v := ?_) rfl (by kernel_rfl) (by kernel_rfl) (by kernel_rfl) (fun _ _ _ h => h) (Or.inl ⟨by rfl, ?_⟩) hHeld ?_
      rotate_left
      · (intro w hS; (clear hS; go_simp); try with_reducible rfl)
      try simp only [Act.put, List.setIfInBounds_toArray, List.set_cons_zero, List.set_cons_succ]
      refine wpAnyH_take (i := 9) (oi := { dst := some 59, op := Op.load 39 (Operand.tmp 58), type := 39, pos := "ref.go:69", after := #[{ on := 8, ground := Ground.data }], guard := none }) (v := .slice (some ⟨b, off, none⟩) n c) rfl (by kernel_rfl) (by kernel_rfl) (by kernel_rfl) (fun _ _ _ h => h) (Or.inl ⟨by rfl, ?_⟩) hHeld ?_
      · (intro w hS; exact run_op_load_cell 39 (Operand.tmp 58) (by rfl) (i := 101) hS.1 (by rfl) (by kernel_rfl) (by kernel_rfl) (mfc_o _ _ _ _ _ _ _ hD))
      try simp only [Act.put, List.setIfInBounds_toArray, List.set_cons_zero, List.set_cons_succ]
      refine wpAnyH_take (i := 10) (oi := { dst := some 60, op := Op.move (Operand.tmp 5), type := 3, pos := "ref.go:69", after := #[], guard := none }) (v := ?_) rfl (by kernel_rfl) (by kernel_rfl) (by kernel_rfl) (fun _ _ _ h => h) (Or.inl ⟨by rfl, ?_⟩) hHeld ?_
      rotate_left
      · (intro w hS; (clear hS; go_simp); try with_reducible rfl)
      try simp only [Act.put, List.setIfInBounds_toArray, List.set_cons_zero, List.set_cons_succ]
      refine wpAnyH_take (i := 11) (oi := { dst := some 61, op := Op.indexAddr 39 (Operand.tmp 59) (Operand.tmp 60), type := 0, pos := "ref.go:69", after := #[{ on := 9, ground := Ground.data }, { on := 10, ground := Ground.data }], guard := none }) (v := ?_) rfl (by kernel_rfl) (by kernel_rfl) (by kernel_rfl) (fun _ _ _ h => h) (Or.inl ⟨by rfl, ?_⟩) hHeld ?_
      rotate_left
      · (intro w hS; (clear hS; go_simp); try with_reducible rfl)
      try simp only [Act.put, List.setIfInBounds_toArray, List.set_cons_zero, List.set_cons_succ]
      refine wpAnyH_take (i := 12) (oi := { dst := some 62, op := Op.load 3 (Operand.tmp 61), type := 3, pos := "ref.go:69", after := #[{ on := 11, ground := Ground.data }], guard := none }) (v := .int .i64 y) rfl (by kernel_rfl) (by kernel_rfl) (by kernel_rfl) (fun _ _ _ h => h) (Or.inl ⟨by rfl, ?_⟩) hHeld ?_
      · (intro w hS; exact run_op_load_known 3 (Operand.tmp 61) (by rfl) hS.2 (by rfl) (by kernel_rfl) (by kernel_rfl))
      try simp only [Act.put, List.setIfInBounds_toArray, List.set_cons_zero, List.set_cons_succ]
      refine wpAnyH_take (i := 13) (oi := { dst := some 63, op := Op.binOp BinOp.rem 3 (Operand.tmp 62) (Operand.const (Value.int IntKind.i64 256)) 3, type := 3, pos := "ref.go:69", after := #[{ on := 12, ground := Ground.data }], guard := none }) (v := ?_) rfl (by kernel_rfl) (by kernel_rfl) (by kernel_rfl) (fun _ _ _ h => h) (Or.inl ⟨by rfl, ?_⟩) hHeld ?_
      rotate_left
      · (intro w hS; (clear hS; go_simp); try with_reducible rfl)
      try simp only [Act.put, List.setIfInBounds_toArray, List.set_cons_zero, List.set_cons_succ]
      refine wpAnyH_take (i := 14) (oi := { dst := some 64, op := Op.convert 3 5 (Operand.tmp 63), type := 5, pos := "ref.go:69", after := #[{ on := 13, ground := Ground.data }], guard := none }) (v := ?_) rfl (by kernel_rfl) (by kernel_rfl) (by kernel_rfl) (fun _ _ _ h => h) (Or.inl ⟨by rfl, ?_⟩) hHeld ?_
      rotate_left
      · (intro w hS; (clear hS; go_simp); try with_reducible rfl)
      try simp only [Act.put, List.setIfInBounds_toArray, List.set_cons_zero, List.set_cons_succ]
      refine wpAnyH_ready (rs := [15]) (by kernel_rfl) (by simp) ?_
      refine AllReadyH.cons (o := { dst := some 65, op := Op.buildSlice 44 2 #[(0, Operand.tmp 57), (1, Operand.tmp 64)], type := 44, pos := "ref.go:69", after := #[{ on := 7, ground := Ground.data }, { on := 14, ground := Ground.data }], guard := none }) rfl (fun K hK => ?_) ?_
      rotate_left
      · exact AllReadyH.nil
      refine st_new_slice rfl (cs := #[.int .u8 (y / 256 % 256), .int .u8 (y % 256)]) (t := 5) (n := 2) (c := 2) (by go_simp; rw [q1.out, q2.out]) ?_
      intro gS hgS w1 S nb; clear hgS; replace F := F.step nb; replace C := C.below nb; replace O := O.below nb; clear nb
      refine hK.out _ _ (⟨C, HC.out _ F⟩) (fun hHeld => ?_)
      clear hK K
      try simp only [Act.put, List.setIfInBounds_toArray, List.set_cons_zero, List.set_cons_succ]
      refine wpAnyH_ready (rs := [16]) (by kernel_rfl) (by simp) ?_
      refine AllReadyH.cons (o := { dst := some 66, op := Op.call { callee := Callee.builtin Builtin.append, args := #[Operand.tmp 50, Operand.tmp 65], argTypes := #[44, 44] }, type := 44, pos := "ref.go:69", after := #[{ on := 0, ground := Ground.data }, { on := 15, ground := Ground.data }], guard := none }) rfl (fun K hK => ?_) ?_
      rotate_left
      · exact AllReadyH.nil
      refine st_append rfl 44 5 rfl Try.underlying44 u8_info rfl O (Rd.ofBlk (n := 2) (xs := [y / 256 % 256, y % 256]) S rfl rfl) rfl rfl (by unfold maxLen; omega) F.size ?_
      intro A1 c1 w2 ON gr; replace F := F.grew gr (fun a ha => (O.lt a ha).1); replace C := C.grew gr (O.ne C (by decide)); replace O := ON; clear ON gr
      refine hK.out _ _ (⟨C, HC.out _ F⟩) (fun hHeld => ?_)
      clear hK K
      try simp only [Act.put, List.setIfInBounds_toArray, List.set_cons_zero, List.set_cons_succ]
      refine wpAnyH_take (i := 17) (oi := { dst := some 4, op := Op.assign (Operand.tmp 66), type := 44, pos := "ref.go:69", after := #[{ on := 16, ground := Ground.data }, { on := 16, ground := Ground.chain }, { on := 0, ground := Ground.phase }, { on := 1, ground := Ground.phase }, { on := 2, ground := Ground.phase }, { on := 3, ground := Ground.phase }, { on := 4, ground := Ground.phase }, { on := 5, ground := Ground.phase }, { on := 6, ground := Ground.phase }, { on := 7, ground := Ground.phase }, { on := 8, ground := Ground.phase }, { on := 9, ground := Ground.phase }, { on := 10, ground := Ground.phase }, { on := 11, ground := Ground.phase }, { on := 12, ground := Ground.phase }, { on := 13, ground := Ground.phase }, { on := 14, ground := Ground.phase }, { on := 15, ground := Ground.phase }, { on := 16, ground := Ground.phase }], guard := none }) (v := ?_) rfl (by kernel_rfl) (by kernel_rfl) (by kernel_rfl) (fun _ _ _ h => h) (Or.inl ⟨by rfl, ?_⟩) hHeld ?_
      rotate_left
      · (intro w hS; (clear hS; go_simp); try with_reducible rfl)
      try simp only [Act.put, List.setIfInBounds_toArray, List.set_cons_zero, List.set_cons_succ]
      refine wpAnyH_done (by kernel_rfl) ?_ _
      skip
      go_wp2
      go_roundw
      case rel => exact ⟨j + 1, _, _, by omega, by go_num, rfl, by rw [HT.out, ordB_snoc]; simpa [List.append_assoc, Nat.mul_add, Nat.add_assoc] using O, F, C⟩
      case measure => simp [intOf]; omega
    · have e : j = n := by omega
      subst e
      have hfull : xs.take j = xs := List.take_of_length_le (by rw [HL.out]; exact Nat.le_refl _)
      rw [hfull, ← HM.out] at O
      clear hfull
      go_wp2
      go_ret2
      exact ⟨_, _, rfl, O, F.out⟩
end
end Go.Proofs.Ytgloienpmikcfaa
