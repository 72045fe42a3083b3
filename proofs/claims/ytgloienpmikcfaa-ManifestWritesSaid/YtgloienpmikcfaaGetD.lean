/-
  Package manifest: Get (contract).
-/
import Derived.Test.YtgloienpmikcfaaGetC
import Derived.Test.YtgloienpmikcfaaCut
import Derived.Test.YtgloienpmikcfaaTake
import Derived.Test.YtgloienpmikcfaaOrd
import Derived.Test.YtgloienpmikcfaaManI
set_option linter.unusedVariables false
set_option linter.unusedSimpArgs false
namespace Go.Proofs.Ytgloienpmikcfaa
open Go.RowKit

theorem i64_info : (Try.prog.info? 3).map (fun i => (i.zero, i.size, i.bytes)) = some (some (.int .i64 0), 1, 8) := by kernel_rfl
/-- the order, and whether the bytes are a manifest's -/
def getO (xs : List Int) : List Int := if xs.getD 1 0 = 2 then ordL (xs.drop 118) else []
def getOK (xs : List Int) : Bool := decide (xs.getD 0 0 = 1) && (decide ((xs.drop 118).length = 2 * (getO xs).length) &&
  mayM (xs.getD 1 0) (numL ((xs.drop 10).take 4)) (numL ((xs.drop 14).take 4)) (numL ((xs.drop 18).take 4)) ((xs.drop 22).take 96) (getO xs))
def mfcZ : Array Value := mfc 0 0 0 0 0 (List.replicate 96 0) (.slice none 0 0)
section
variable (A : Option Addr) (n c : Nat) (xs : List Int) (a k : Nat) (x y : Int) (w : World)
theorem get1V (v : Int) (hv : numL ((xs.drop a).take k) = v) (g : Nat) (B : Blk w g #[.slice A n c] 44) (R : Rd w .u8 A n xs) (hx : x = a) (hy : y = k) (h1 : 1 ≤ k) (h8 : k ≤ 8) (hak : a + k ≤ n) (hc : n ≤ c) (hm : c ≤ 9223372036854775807) (hb : ∀ b ∈ xs, 0 ≤ b ∧ b ≤ 255) :
    Calls Try.prog 61 #[.int .i64 x, .int .i64 y, .pointer (some ⟨g, 0, none⟩)] w fun e w' => e = .returned (.int .u64 v) ∧ w = w' := by
  subst hv; exact get1_any A n c xs a k x y w g B R hx hy h1 h8 hak hc hm hb
set_option maxHeartbeats 400000 in
set_option maxRecDepth 100000 in
theorem mget_short (hn : n < 118) : Calls Try.prog 38 #[.slice A n c] w fun e w' => e = .returned (.tuple #[.agg mfcZ, .int .i64 2]) ∧ Below w.heap.size w w' := by
  have F := Fr.refl w
  go_enter Try.func38, Try.ntmps38
  go_wp2_with (first | ((with_reducible refine at_slot (N := 1) rfl ?_); refine ev_new rfl (cs := #[.slice A n c]) (t := 44) (by first | (go_simp; done) | (go_simp; rfl)) ?_; intro gB hgB wB B nbB; have GEB : w.heap.size ≤ gB := (by rw [hgB]; exact F.size); clear hgB; replace F := F.step nbB; clear nbB) | ((with_reducible refine at_slot (N := 2) rfl ?_); refine ev_new rfl (cs := mfcZ) (t := 41) (by first | (go_simp; done) | (go_simp; rfl)) ?_; intro gE hgE wE E nbE; have GEE : w.heap.size ≤ gE := (by rw [hgE]; exact F.size); have neBE : gB ≠ gE := (by have := B.lt; omega); have neEB : gE ≠ gB := Ne.symm neBE; clear hgE; replace F := F.step nbE; replace B := B.below nbE; clear nbE) | ((with_reducible refine at_load (t := 44) rfl ?_); refine ev_load_cell rfl 44 _ rfl B rfl (by kernel_rfl) (by kernel_rfl) rfl ?_) | ((with_reducible refine at_build (t := 41) rfl ?_); refine ev_build0 rfl 41 rfl ((show _ = Result.ok (Value.agg mfcZ) _ by kernel_rfl)) ?_) | ((with_reducible refine at_store (t := 41) rfl ?_); refine ev_store_row rfl 41 _ _ rfl E rfl rfl (by kernel_rfl) rfl (by kernel_rfl) ?_; intro w1 E np; replace F := F.put np GEE; replace B := B.put np neBE; clear np))
  exact bodyPost_ret (res_cell_tmp rfl _ E rfl Try.underlying41 rfl (by kernel_rfl)) rfl ⟨rfl, F.out⟩

set_option maxHeartbeats 3200000 in
set_option maxRecDepth 100000 in
theorem mget_any (R : Rd w .u8 A n xs) (hn : 118 ≤ n) (hc : n ≤ c) (hm : c ≤ 9223372036854775807) (hn40 : n ≤ 1099511627776) (hb : ∀ b ∈ xs, 0 ≤ b ∧ b ≤ 255)
    (mode ver blk ol nl : Int) (hmode : xs.getD 1 0 = mode) (hver : numL ((xs.drop 2).take 8) = ver) (hblk : numL ((xs.drop 10).take 4) = blk) (hol : numL ((xs.drop 14).take 4) = ol) (hnl : numL ((xs.drop 18).take 4) = nl)
    (D : List Int) (hD : (xs.drop 22).take 96 = D) :
    Calls Try.prog 38 #[.slice A n c] w fun e w' =>
      ((getOK xs = true ∧ ∃ QA j qc, e = .returned (.tuple #[.agg (mfc mode ver blk ol nl D (.slice QA j qc)), .int .i64 0]) ∧ Own w' w.heap.size 3 .i64 QA j qc (getO xs)) ∨
       (getOK xs = false ∧ e = .returned (.tuple #[.agg mfcZ, .int .i64 3]))) ∧ Below w.heap.size w w' := by
  have F := Fr.refl w
  have hl := R.len
  obtain ⟨b, off, rfl, hlt, hcell⟩ := R.form (by omega)
  have m1 := hcell 1 (by omega)
  obtain ⟨first, hfirst⟩ : ∃ z, xs.getD 0 0 = z := ⟨_, rfl⟩
  have m0 := hcell 0 (by omega)
  rw [hfirst, Nat.add_zero] at m0
  have HF := Lib.hid (fun (w' : World) (F' : Fr w w') => (F'.out.cell (p := ⟨b, off, none⟩) hlt).trans m0)
  rw [hmode] at m1
  have HM := Lib.hid (fun (w' : World) (F' : Fr w w') => (F'.out.cell (p := ⟨b, off + 1, none⟩) hlt).trans m1)
  have HB := Lib.hid hb
  have hbb : ∀ a k, ∀ c ∈ (xs.drop a).take k, 0 ≤ c ∧ c ≤ 255 := fun a k c h => hb c (List.mem_of_mem_drop (List.mem_of_mem_take h))
  have p4 : (256 : Int) ^ 4 = 4294967296 := by decide
  have q1 := numL_bound 4 ((xs.drop 10).take 4) (by simp; omega) (hbb 10 4)
  have q2 := numL_bound 4 ((xs.drop 14).take 4) (by simp; omega) (hbb 14 4)
  have q3 := numL_bound 4 ((xs.drop 18).take 4) (by simp; omega) (hbb 18 4)
  rw [hblk, p4] at q1
  rw [hol, p4] at q2
  rw [hnl, p4] at q3
  have i1 : (1 : Int) < (n : Int) := by omega
  have w1 := IntWalk.i64_in blk (by omega)
  have w2 := IntWalk.i64_in ol (by omega)
  have w3 := IntWalk.i64_in nl (by omega)
  have HG := Lib.hid (show getOK xs = (decide (first = 1) && (decide ((xs.drop 118).length = 2 * (getO xs).length) && mayM mode blk ol nl D (getO xs))) by rw [getOK, hfirst, hmode, hblk, hol, hnl, hD])
  have HO := Lib.hid (show getO xs = if mode = 2 then ordL (xs.drop 118) else [] by rw [getO, hmode])
  have Hver := Lib.hid hver; have Hblk := Lib.hid hblk; have Hol := Lib.hid hol; have Hnl := Lib.hid hnl; have HDD := Lib.hid hD; have Hmode := Lib.hid hmode
  have HBu := Lib.hid (fun (w : World) => (show (Instr.build 41 #[(0, .int .u8 mode), (1, .int .u64 ver), (2, .int .i64 blk), (3, .int .i64 ol), (4, .int .i64 nl)]).run Try.prog w = .ok (.agg (mfc mode ver blk ol nl (List.replicate 96 0) (.slice none 0 0))) w by kernel_rfl))
  clear hcell m1 m0 hfirst hb hbb p4 hmode hver hblk hol hnl hD
  go_enter Try.func38, Try.ntmps38
  go_wp2_with (first | ((with_reducible refine at_slot (N := 1) rfl ?_); refine ev_new rfl (cs := #[.slice (some ⟨b, off, none⟩) n c]) (t := 44) (by first | (go_simp; done) | (go_simp; rfl)) ?_; intro gB hgB wB B nbB; have GEB : w.heap.size ≤ gB := (by rw [hgB]; exact F.size); clear hgB; replace F := F.step nbB; clear nbB) | ((with_reducible refine at_slot (N := 2) rfl ?_); refine ev_new rfl (cs := mfcZ) (t := 41) (by first | (go_simp; done) | (go_simp; rfl)) ?_; intro gE hgE wE E nbE; have GEE : w.heap.size ≤ gE := (by rw [hgE]; exact F.size); have neBE : gB ≠ gE := (by have := B.lt; omega); have neEB : gE ≠ gB := Ne.symm neBE; clear hgE; replace F := F.step nbE; replace B := B.below nbE; clear nbE) | ((with_reducible refine at_load (t := 44) rfl ?_); refine ev_load_cell rfl 44 _ rfl B rfl (by kernel_rfl) (by kernel_rfl) rfl ?_))
  replace F := F.drew
  replace B := B.drew
  replace E := E.drew
  refine wp_region_held_drew (S := fun w' => Blk w' gB #[.slice (some ⟨b, off, none⟩) n c] 44 ∧ Fr w w') (by kernel_rfl) (⟨B, F⟩) (fun hHeld => ?_)
  refine wpAnyH_take (i := 0) (oi := { dst := some 15, op := Op.load 44 (Operand.tmp 1), type := 44, pos := "manifest.go:103", after := #[], guard := none }) (v := .slice (some ⟨b, off, none⟩) n c) rfl (by kernel_rfl) (by kernel_rfl) (by kernel_rfl) (fun _ _ _ h => h) (Or.inl ⟨by rfl, ?_⟩) hHeld ?_
  · (intro w hS; exact run_op_load_cell 44 (Operand.tmp 1) (by rfl) (i := 0) hS.1 (by rfl) (by kernel_rfl) (by kernel_rfl) ((by rfl)))
  try simp only [Act.put, List.setIfInBounds_toArray, List.set_cons_zero, List.set_cons_succ]
  refine wpAnyH_take (i := 1) (oi := { dst := some 16, op := Op.indexAddr 44 (Operand.tmp 15) (Operand.const (Value.int IntKind.i64 1)), type := 0, pos := "manifest.go:103", after := #[{ on := 0, ground := Ground.data }], guard := none }) (v := ?_) rfl (by kernel_rfl) (by kernel_rfl) (by kernel_rfl) (fun _ _ _ h => h) (Or.inl ⟨by rfl, ?_⟩) hHeld ?_
  rotate_left
  · (intro w hS; (clear hS; go_simp); try with_reducible rfl)
  try simp only [Act.put, List.setIfInBounds_toArray, List.set_cons_zero, List.set_cons_succ]
  refine wpAnyH_take (i := 2) (oi := { dst := some 17, op := Op.load 5 (Operand.tmp 16), type := 5, pos := "manifest.go:103", after := #[{ on := 1, ground := Ground.data }], guard := none }) (v := .int .u8 mode) rfl (by kernel_rfl) (by kernel_rfl) (by kernel_rfl) (fun _ _ _ h => h) (Or.inl ⟨by rfl, ?_⟩) hHeld ?_
  · (intro w hS; exact run_op_load_known 5 (Operand.tmp 16) (by rfl) (HM.out _ hS.2) (by rfl) (by kernel_rfl) (by kernel_rfl))
  try simp only [Act.put, List.setIfInBounds_toArray, List.set_cons_zero, List.set_cons_succ]
  refine wpAnyH_take (i := 3) (oi := { dst := some 18, op := Op.move (Operand.tmp 4), type := 88, pos := "manifest.go:103", after := #[], guard := none }) (v := ?_) rfl (by kernel_rfl) (by kernel_rfl) (by kernel_rfl) (fun _ _ _ h => h) (Or.inl ⟨by rfl, ?_⟩) hHeld ?_
  rotate_left
  · (intro w hS; (clear hS; go_simp); try with_reducible rfl)
  try simp only [Act.put, List.setIfInBounds_toArray, List.set_cons_zero, List.set_cons_succ]
  refine wpAnyH_takeC (i := 4) (x := { dst := some 19, op := Op.call { callee := Callee.value (Operand.tmp 18), args := #[Operand.const (Value.int IntKind.i64 2), Operand.const (Value.int IntKind.i64 8)], argTypes := #[3, 3] }, type := 36, pos := "manifest.go:103", after := #[{ on := 3, ground := Ground.data }], guard := none }) (v := .int .u64 ver) (f := 61) (args := ?_) rfl (by kernel_rfl) (by kernel_rfl) (by kernel_rfl) (fun _ _ _ h => h) (by rfl) ?_ ?_ hHeld ?_
  rotate_left
  · (intro w; go_simp; try with_reducible rfl)
  · (intro w hS; exact (get1V _ n c xs 2 8 _ _ _ _ Hver.out gB hS.1 (R.below hS.2.out) rfl rfl (by decide) (by decide) (by omega) hc (by omega) HB.out))
  try simp only [Act.put, List.setIfInBounds_toArray, List.set_cons_zero, List.set_cons_succ]
  refine wpAnyH_take (i := 5) (oi := { dst := some 20, op := Op.move (Operand.tmp 4), type := 88, pos := "manifest.go:103", after := #[], guard := none }) (v := ?_) rfl (by kernel_rfl) (by kernel_rfl) (by kernel_rfl) (fun _ _ _ h => h) (Or.inl ⟨by rfl, ?_⟩) hHeld ?_
  rotate_left
  · (intro w hS; (clear hS; go_simp); try with_reducible rfl)
  try simp only [Act.put, List.setIfInBounds_toArray, List.set_cons_zero, List.set_cons_succ]
  refine wpAnyH_takeC (i := 6) (x := { dst := some 21, op := Op.call { callee := Callee.value (Operand.tmp 20), args := #[Operand.const (Value.int IntKind.i64 10), Operand.const (Value.int IntKind.i64 4)], argTypes := #[3, 3] }, type := 36, pos := "manifest.go:103", after := #[{ on := 5, ground := Ground.data }, { on := 4, ground := Ground.chain }], guard := none }) (v := .int .u64 blk) (f := 61) (args := ?_) rfl (by kernel_rfl) (by kernel_rfl) (by kernel_rfl) (fun _ _ _ h => h) (by rfl) ?_ ?_ hHeld ?_
  rotate_left
  · (intro w; go_simp; try with_reducible rfl)
  · (intro w hS; exact (get1V _ n c xs 10 4 _ _ _ _ Hblk.out gB hS.1 (R.below hS.2.out) rfl rfl (by decide) (by decide) (by omega) hc (by omega) HB.out))
  try simp only [Act.put, List.setIfInBounds_toArray, List.set_cons_zero, List.set_cons_succ]
  refine wpAnyH_take (i := 7) (oi := { dst := some 22, op := Op.convert 36 3 (Operand.tmp 21), type := 3, pos := "manifest.go:103", after := #[{ on := 6, ground := Ground.data }], guard := none }) (v := ?_) rfl (by kernel_rfl) (by kernel_rfl) (by kernel_rfl) (fun _ _ _ h => h) (Or.inl ⟨by rfl, ?_⟩) hHeld ?_
  rotate_left
  · (intro w hS; (clear hS; go_simp); try with_reducible rfl)
  try simp only [Act.put, List.setIfInBounds_toArray, List.set_cons_zero, List.set_cons_succ]
  refine wpAnyH_take (i := 8) (oi := { dst := some 23, op := Op.move (Operand.tmp 4), type := 88, pos := "manifest.go:103", after := #[], guard := none }) (v := ?_) rfl (by kernel_rfl) (by kernel_rfl) (by kernel_rfl) (fun _ _ _ h => h) (Or.inl ⟨by rfl, ?_⟩) hHeld ?_
  rotate_left
  · (intro w hS; (clear hS; go_simp); try with_reducible rfl)
  try simp only [Act.put, List.setIfInBounds_toArray, List.set_cons_zero, List.set_cons_succ]
  refine wpAnyH_takeC (i := 9) (x := { dst := some 24, op := Op.call { callee := Callee.value (Operand.tmp 23), args := #[Operand.const (Value.int IntKind.i64 14), Operand.const (Value.int IntKind.i64 4)], argTypes := #[3, 3] }, type := 36, pos := "manifest.go:103", after := #[{ on := 8, ground := Ground.data }, { on := 6, ground := Ground.chain }], guard := none }) (v := .int .u64 ol) (f := 61) (args := ?_) rfl (by kernel_rfl) (by kernel_rfl) (by kernel_rfl) (fun _ _ _ h => h) (by rfl) ?_ ?_ hHeld ?_
  rotate_left
  · (intro w; go_simp; try with_reducible rfl)
  · (intro w hS; exact (get1V _ n c xs 14 4 _ _ _ _ Hol.out gB hS.1 (R.below hS.2.out) rfl rfl (by decide) (by decide) (by omega) hc (by omega) HB.out))
  try simp only [Act.put, List.setIfInBounds_toArray, List.set_cons_zero, List.set_cons_succ]
  refine wpAnyH_take (i := 10) (oi := { dst := some 25, op := Op.convert 36 3 (Operand.tmp 24), type := 3, pos := "manifest.go:103", after := #[{ on := 9, ground := Ground.data }], guard := none }) (v := ?_) rfl (by kernel_rfl) (by kernel_rfl) (by kernel_rfl) (fun _ _ _ h => h) (Or.inl ⟨by rfl, ?_⟩) hHeld ?_
  rotate_left
  · (intro w hS; (clear hS; go_simp); try with_reducible rfl)
  try simp only [Act.put, List.setIfInBounds_toArray, List.set_cons_zero, List.set_cons_succ]
  refine wpAnyH_take (i := 11) (oi := { dst := some 26, op := Op.move (Operand.tmp 4), type := 88, pos := "manifest.go:103", after := #[], guard := none }) (v := ?_) rfl (by kernel_rfl) (by kernel_rfl) (by kernel_rfl) (fun _ _ _ h => h) (Or.inl ⟨by rfl, ?_⟩) hHeld ?_
  rotate_left
  · (intro w hS; (clear hS; go_simp); try with_reducible rfl)
  try simp only [Act.put, List.setIfInBounds_toArray, List.set_cons_zero, List.set_cons_succ]
  refine wpAnyH_takeC (i := 12) (x := { dst := some 27, op := Op.call { callee := Callee.value (Operand.tmp 26), args := #[Operand.const (Value.int IntKind.i64 18), Operand.const (Value.int IntKind.i64 4)], argTypes := #[3, 3] }, type := 36, pos := "manifest.go:103", after := #[{ on := 11, ground := Ground.data }, { on := 9, ground := Ground.chain }], guard := none }) (v := .int .u64 nl) (f := 61) (args := ?_) rfl (by kernel_rfl) (by kernel_rfl) (by kernel_rfl) (fun _ _ _ h => h) (by rfl) ?_ ?_ hHeld ?_
  rotate_left
  · (intro w; go_simp; try with_reducible rfl)
  · (intro w hS; exact (get1V _ n c xs 18 4 _ _ _ _ Hnl.out gB hS.1 (R.below hS.2.out) rfl rfl (by decide) (by decide) (by omega) hc (by omega) HB.out))
  try simp only [Act.put, List.setIfInBounds_toArray, List.set_cons_zero, List.set_cons_succ]
  refine wpAnyH_take (i := 13) (oi := { dst := some 28, op := Op.convert 36 3 (Operand.tmp 27), type := 3, pos := "manifest.go:103", after := #[{ on := 12, ground := Ground.data }], guard := none }) (v := ?_) rfl (by kernel_rfl) (by kernel_rfl) (by kernel_rfl) (fun _ _ _ h => h) (Or.inl ⟨by rfl, ?_⟩) hHeld ?_
  rotate_left
  · (intro w hS; (clear hS; go_simp); try with_reducible rfl)
  try simp only [Act.put, List.setIfInBounds_toArray, List.set_cons_zero, List.set_cons_succ]
  refine wpAnyH_take (i := 14) (oi := { dst := some 29, op := Op.build 41 #[(0, Operand.tmp 17), (1, Operand.tmp 19), (2, Operand.tmp 22), (3, Operand.tmp 25), (4, Operand.tmp 28)], type := 41, pos := "manifest.go:103", after := #[{ on := 2, ground := Ground.data }, { on := 4, ground := Ground.data }, { on := 7, ground := Ground.data }, { on := 10, ground := Ground.data }, { on := 13, ground := Ground.data }], guard := none }) (v := .agg (mfc mode ver blk ol nl (List.replicate 96 0) (.slice none 0 0))) rfl (by kernel_rfl) (by kernel_rfl) (by kernel_rfl) (fun _ _ _ h => h) (Or.inl ⟨by rfl, ?_⟩) hHeld ?_
  · (intro w hS; exact run_op_build 41 (by rfl) (vals := #[(0, .int .u8 mode), (1, .int .u64 ver), (2, .int .i64 blk), (3, .int .i64 ol), (4, .int .i64 nl)]) (by first | rfl | (go_simp; done) | (go_simp; rfl)) (HBu.out _))
  try simp only [Act.put, List.setIfInBounds_toArray, List.set_cons_zero, List.set_cons_succ]
  refine wpAnyH_ready (rs := [15]) (by kernel_rfl) (by simp) ?_
  refine AllReadyH.cons (o := { dst := some 5, op := Op.alloc 41, type := 0, pos := "manifest.go:103", after := #[], guard := none }) rfl (fun K hK => ?_) ?_
  rotate_left
  · exact AllReadyH.nil
  refine st_new rfl (cs := mfcZ) (t := 41) (by first | (go_simp; done) | (go_simp; rfl)) ?_
  intro gM hgM wM M nb; have neBM : gB ≠ gM := (by have := B.lt; omega); have neEM : gE ≠ gM := (by have := E.lt; omega); have GEM : w.heap.size ≤ gM := (by rw [hgM]; exact F.size); clear hgM; replace F := F.step nb; replace B := B.below nb; replace E := E.below nb; clear nb
  refine hK.out _ _ (⟨B, F⟩) (fun hHeld => ?_)
  clear hK K
  try simp only [Act.put, List.setIfInBounds_toArray, List.set_cons_zero, List.set_cons_succ]
  refine wpAnyH_ready (rs := [16]) (by kernel_rfl) (by simp) ?_
  refine AllReadyH.cons (o := { dst := none, op := Op.store 41 (Operand.tmp 5) (Operand.tmp 29), type := 0, pos := "manifest.go:103", after := #[{ on := 15, ground := Ground.data }, { on := 14, ground := Ground.data }, { on := 12, ground := Ground.chain }, { on := 0, ground := Ground.phase }, { on := 1, ground := Ground.phase }, { on := 2, ground := Ground.phase }, { on := 3, ground := Ground.phase }, { on := 4, ground := Ground.phase }, { on := 5, ground := Ground.phase }, { on := 6, ground := Ground.phase }, { on := 7, ground := Ground.phase }, { on := 8, ground := Ground.phase }, { on := 9, ground := Ground.phase }, { on := 10, ground := Ground.phase }, { on := 11, ground := Ground.phase }, { on := 12, ground := Ground.phase }, { on := 13, ground := Ground.phase }, { on := 14, ground := Ground.phase }, { on := 15, ground := Ground.phase }], guard := none }) rfl (fun K hK => ?_) ?_
  rotate_left
  · exact AllReadyH.nil
  refine st_store_row rfl 41 _ _ rfl M rfl rfl (by kernel_rfl) (by kernel_rfl) (by kernel_rfl) ?_
  intro w1 M np; replace F := F.put np GEM; replace B := B.put np neBM; replace E := E.put np neEM; clear np
  refine hK.out _ _ (⟨B, F⟩) (fun hHeld => ?_)
  clear hK K
  try simp only [Act.put, List.setIfInBounds_toArray, List.set_cons_zero, List.set_cons_succ]
  refine wpAnyH_done (by kernel_rfl) ?_ _
  skip
  clear HBu Hver Hblk Hol Hnl
  have l0 : ((xs.drop 22).take 32).length = 32 := by simp; omega
  have l1 : ((xs.drop 54).take 32).length = 32 := by simp; omega
  have l2 : ((xs.drop 86).take 32).length = 32 := by simp; omega
  obtain ⟨d0, hd0⟩ : ∃ d, (xs.drop 22).take 32 = d := ⟨_, rfl⟩
  obtain ⟨d1, hd1⟩ : ∃ d, (xs.drop 54).take 32 = d := ⟨_, rfl⟩
  obtain ⟨d2, hd2⟩ : ∃ d, (xs.drop 86).take 32 = d := ⟨_, rfl⟩
  rw [hd0] at l0; rw [hd1] at l1; rw [hd2] at l2
  have L0 := Lib.hid l0; have L1 := Lib.hid l1; have L2 := Lib.hid l2; have H0 := Lib.hid hd0; have H1 := Lib.hid hd1; have H2 := Lib.hid hd2
  clear l0 l1 l2 hd0 hd1 hd2
  go_wp2
  have HZ0 := Lib.hid (show (List.replicate 96 (0 : Int)).length = 96 by simp)
  have HZ1 := Lib.hid (show (d0 ++ List.replicate 64 (0 : Int)).length = 96 by simp [L0.out])
  have HZ2 := Lib.hid (show (d0 ++ (d1 ++ List.replicate 32 (0 : Int))).length = 96 by simp [L0.out, L1.out])
  have k0 := IntWalk.i64_in 0 (by omega)
  have k1 := IntWalk.i64_in 1 (by omega)
  have k2 := IntWalk.i64_in 2 (by omega)
  have k32 := IntWalk.i64_in 32 (by omega)
  have k64 := IntWalk.i64_in 64 (by omega)
  have k22 := IntWalk.i64_in 22 (by omega)
  have k54 := IntWalk.i64_in 54 (by omega)
  have k86 := IntWalk.i64_in 86 (by omega)
  have c22 : ¬ (c = 22) := by omega
  have c54 : ¬ (c = 54) := by omega
  have c86 : ¬ (c = 86) := by omega
  have j0 : (22 : Int) ≤ (n : Int) := by omega
  have j1 : (54 : Int) ≤ (n : Int) := by omega
  have j2 : (86 : Int) ≤ (n : Int) := by omega
  refine wp_loop_rounds 4 ?_
  rw [rounds_succ]
  go_wp2_with (first | ((with_reducible refine at_index (t := 90) rfl ?_); refine ev_index rfl 90 rfl rfl rfl (v := .pointer (some ⟨gM, 5, none⟩)) (by kernel_rfl) ?_))
  replace F := F.drew
  replace B := B.drew
  replace E := E.drew
  replace M := M.drew
  refine wp_region_held_drew (S := fun w' => Blk w' gB #[.slice (some ⟨b, off, none⟩) n c] 44) (by kernel_rfl) (B) (fun hHeld => ?_)
  refine wpAnyH_take (i := 0) (oi := { dst := some 38, op := Op.move (Operand.tmp 7), type := 89, pos := "manifest.go:105", after := #[], guard := none }) (v := ?_) rfl (by kernel_rfl) (by kernel_rfl) (by kernel_rfl) (fun _ _ _ h => h) (Or.inl ⟨by rfl, ?_⟩) hHeld ?_
  rotate_left
  · (intro w hS; (clear hS; go_simp); try with_reducible rfl)
  try simp only [Act.put, List.setIfInBounds_toArray, List.set_cons_zero, List.set_cons_succ]
  refine wpAnyH_take (i := 1) (oi := { dst := some 39, op := Op.nilCheck (Operand.tmp 38), type := 89, pos := "manifest.go:105", after := #[{ on := 0, ground := Ground.data }], guard := none }) (v := ?_) rfl (by kernel_rfl) (by kernel_rfl) (by kernel_rfl) (fun _ _ _ h => h) (Or.inl ⟨by rfl, ?_⟩) hHeld ?_
  rotate_left
  · (intro w hS; (clear hS; go_simp); try with_reducible rfl)
  try simp only [Act.put, List.setIfInBounds_toArray, List.set_cons_zero, List.set_cons_succ]
  refine wpAnyH_take (i := 2) (oi := { dst := some 40, op := Op.slice 38 (Operand.tmp 39) none none none, type := 44, pos := "manifest.go:105", after := #[{ on := 1, ground := Ground.data }], guard := none }) (v := ?_) rfl (by kernel_rfl) (by kernel_rfl) (by kernel_rfl) (fun _ _ _ h => h) (Or.inl ⟨by rfl, ?_⟩) hHeld ?_
  rotate_left
  · (intro w hS; (clear hS; go_simp); try with_reducible rfl)
  try simp only [Act.put, List.setIfInBounds_toArray, List.set_cons_zero, List.set_cons_succ]
  refine wpAnyH_take (i := 3) (oi := { dst := some 41, op := Op.load 44 (Operand.tmp 1), type := 44, pos := "manifest.go:105", after := #[], guard := none }) (v := .slice (some ⟨b, off, none⟩) n c) rfl (by kernel_rfl) (by kernel_rfl) (by kernel_rfl) (fun _ _ _ h => h) (Or.inl ⟨by rfl, ?_⟩) hHeld ?_
  · (intro w hS; exact run_op_load_cell 44 (Operand.tmp 1) (by rfl) (i := 0) hS (by rfl) (by kernel_rfl) (by kernel_rfl) ((by rfl)))
  try simp only [Act.put, List.setIfInBounds_toArray, List.set_cons_zero, List.set_cons_succ]
  refine wpAnyH_take (i := 4) (oi := { dst := some 42, op := Op.move (Operand.tmp 6), type := 3, pos := "manifest.go:105", after := #[], guard := none }) (v := ?_) rfl (by kernel_rfl) (by kernel_rfl) (by kernel_rfl) (fun _ _ _ h => h) (Or.inl ⟨by rfl, ?_⟩) hHeld ?_
  rotate_left
  · (intro w hS; (clear hS; go_simp); try with_reducible rfl)
  try simp only [Act.put, List.setIfInBounds_toArray, List.set_cons_zero, List.set_cons_succ]
  refine wpAnyH_take (i := 5) (oi := { dst := some 43, op := Op.binOp BinOp.mul 3 (Operand.const (Value.int IntKind.i64 32)) (Operand.tmp 42) 3, type := 3, pos := "manifest.go:105", after := #[{ on := 4, ground := Ground.data }], guard := none }) (v := ?_) rfl (by kernel_rfl) (by kernel_rfl) (by kernel_rfl) (fun _ _ _ h => h) (Or.inl ⟨by rfl, ?_⟩) hHeld ?_
  rotate_left
  · (intro w hS; (clear hS; go_simp); try with_reducible rfl)
  try simp only [Act.put, List.setIfInBounds_toArray, List.set_cons_zero, List.set_cons_succ]
  refine wpAnyH_take (i := 6) (oi := { dst := some 44, op := Op.binOp BinOp.add 3 (Operand.const (Value.int IntKind.i64 22)) (Operand.tmp 43) 3, type := 3, pos := "manifest.go:105", after := #[{ on := 5, ground := Ground.data }], guard := none }) (v := ?_) rfl (by kernel_rfl) (by kernel_rfl) (by kernel_rfl) (fun _ _ _ h => h) (Or.inl ⟨by rfl, ?_⟩) hHeld ?_
  rotate_left
  · (intro w hS; (clear hS; go_simp); try with_reducible rfl)
  try simp only [Act.put, List.setIfInBounds_toArray, List.set_cons_zero, List.set_cons_succ]
  refine wpAnyH_take (i := 7) (oi := { dst := some 45, op := Op.slice 44 (Operand.tmp 41) (some (Operand.tmp 44)) none none, type := 44, pos := "manifest.go:105", after := #[{ on := 3, ground := Ground.data }, { on := 6, ground := Ground.data }], guard := none }) (v := ?_) rfl (by kernel_rfl) (by kernel_rfl) (by kernel_rfl) (fun _ _ _ h => h) (Or.inl ⟨by rfl, ?_⟩) hHeld ?_
  rotate_left
  · (intro w hS; (clear hS; go_simp); try with_reducible rfl)
  try simp only [Act.put, List.setIfInBounds_toArray, List.set_cons_zero, List.set_cons_succ]
  refine wpAnyH_ready (rs := [8]) (by kernel_rfl) (by simp) ?_
  refine AllReadyH.cons (o := { dst := some 46, op := Op.call { callee := Callee.builtin Builtin.copy, args := #[Operand.tmp 40, Operand.tmp 45], argTypes := #[44, 44] }, type := 3, pos := "manifest.go:105", after := #[{ on := 2, ground := Ground.data }, { on := 7, ground := Ground.data }], guard := none }) rfl (fun K hK => ?_) ?_
  rotate_left
  · exact AllReadyH.nil
  refine st_copy rfl 44 5 rfl Try.underlying44 (by kernel_rfl) M rfl rfl ((R.below F.out).cut 22 (by omega)) (by omega) (by omega) (by rw [mfc_size _ _ _ _ _ _ _ HZ0.out]; omega) ?_
  intro w1 Mn np; rw [H0.out, mfc_lay0 _ _ _ _ _ _ _ L0.out] at Mn; replace F := F.put np GEM; replace B := B.put np neBM; replace E := E.put np neEM; clear np M; have M := Mn; clear Mn
  refine hK.out _ _ (B) (fun hHeld => ?_)
  clear hK K
  try simp only [Act.put, List.setIfInBounds_toArray, List.set_cons_zero, List.set_cons_succ]
  refine wpAnyH_done (by kernel_rfl) ?_ _
  skip
  go_wp2
  rw [rounds_succ]
  go_wp2_with (first | ((with_reducible refine at_index (t := 90) rfl ?_); refine ev_index rfl 90 rfl rfl rfl (v := .pointer (some ⟨gM, 37, none⟩)) (by kernel_rfl) ?_))
  replace F := F.drew
  replace B := B.drew
  replace E := E.drew
  replace M := M.drew
  refine wp_region_held_drew (S := fun w' => Blk w' gB #[.slice (some ⟨b, off, none⟩) n c] 44) (by kernel_rfl) (B) (fun hHeld => ?_)
  refine wpAnyH_take (i := 0) (oi := { dst := some 38, op := Op.move (Operand.tmp 7), type := 89, pos := "manifest.go:105", after := #[], guard := none }) (v := ?_) rfl (by kernel_rfl) (by kernel_rfl) (by kernel_rfl) (fun _ _ _ h => h) (Or.inl ⟨by rfl, ?_⟩) hHeld ?_
  rotate_left
  · (intro w hS; (clear hS; go_simp); try with_reducible rfl)
  try simp only [Act.put, List.setIfInBounds_toArray, List.set_cons_zero, List.set_cons_succ]
  refine wpAnyH_take (i := 1) (oi := { dst := some 39, op := Op.nilCheck (Operand.tmp 38), type := 89, pos := "manifest.go:105", after := #[{ on := 0, ground := Ground.data }], guard := none }) (v := ?_) rfl (by kernel_rfl) (by kernel_rfl) (by kernel_rfl) (fun _ _ _ h => h) (Or.inl ⟨by rfl, ?_⟩) hHeld ?_
  rotate_left
  · (intro w hS; (clear hS; go_simp); try with_reducible rfl)
  try simp only [Act.put, List.setIfInBounds_toArray, List.set_cons_zero, List.set_cons_succ]
  refine wpAnyH_take (i := 2) (oi := { dst := some 40, op := Op.slice 38 (Operand.tmp 39) none none none, type := 44, pos := "manifest.go:105", after := #[{ on := 1, ground := Ground.data }], guard := none }) (v := ?_) rfl (by kernel_rfl) (by kernel_rfl) (by kernel_rfl) (fun _ _ _ h => h) (Or.inl ⟨by rfl, ?_⟩) hHeld ?_
  rotate_left
  · (intro w hS; (clear hS; go_simp); try with_reducible rfl)
  try simp only [Act.put, List.setIfInBounds_toArray, List.set_cons_zero, List.set_cons_succ]
  refine wpAnyH_take (i := 3) (oi := { dst := some 41, op := Op.load 44 (Operand.tmp 1), type := 44, pos := "manifest.go:105", after := #[], guard := none }) (v := .slice (some ⟨b, off, none⟩) n c) rfl (by kernel_rfl) (by kernel_rfl) (by kernel_rfl) (fun _ _ _ h => h) (Or.inl ⟨by rfl, ?_⟩) hHeld ?_
  · (intro w hS; exact run_op_load_cell 44 (Operand.tmp 1) (by rfl) (i := 0) hS (by rfl) (by kernel_rfl) (by kernel_rfl) ((by rfl)))
  try simp only [Act.put, List.setIfInBounds_toArray, List.set_cons_zero, List.set_cons_succ]
  refine wpAnyH_take (i := 4) (oi := { dst := some 42, op := Op.move (Operand.tmp 6), type := 3, pos := "manifest.go:105", after := #[], guard := none }) (v := ?_) rfl (by kernel_rfl) (by kernel_rfl) (by kernel_rfl) (fun _ _ _ h => h) (Or.inl ⟨by rfl, ?_⟩) hHeld ?_
  rotate_left
  · (intro w hS; (clear hS; go_simp); try with_reducible rfl)
  try simp only [Act.put, List.setIfInBounds_toArray, List.set_cons_zero, List.set_cons_succ]
  refine wpAnyH_take (i := 5) (oi := { dst := some 43, op := Op.binOp BinOp.mul 3 (Operand.const (Value.int IntKind.i64 32)) (Operand.tmp 42) 3, type := 3, pos := "manifest.go:105", after := #[{ on := 4, ground := Ground.data }], guard := none }) (v := ?_) rfl (by kernel_rfl) (by kernel_rfl) (by kernel_rfl) (fun _ _ _ h => h) (Or.inl ⟨by rfl, ?_⟩) hHeld ?_
  rotate_left
  · (intro w hS; (clear hS; go_simp); try with_reducible rfl)
  try simp only [Act.put, List.setIfInBounds_toArray, List.set_cons_zero, List.set_cons_succ]
  refine wpAnyH_take (i := 6) (oi := { dst := some 44, op := Op.binOp BinOp.add 3 (Operand.const (Value.int IntKind.i64 22)) (Operand.tmp 43) 3, type := 3, pos := "manifest.go:105", after := #[{ on := 5, ground := Ground.data }], guard := none }) (v := ?_) rfl (by kernel_rfl) (by kernel_rfl) (by kernel_rfl) (fun _ _ _ h => h) (Or.inl ⟨by rfl, ?_⟩) hHeld ?_
  rotate_left
  · (intro w hS; (clear hS; go_simp); try with_reducible rfl)
  try simp only [Act.put, List.setIfInBounds_toArray, List.set_cons_zero, List.set_cons_succ]
  refine wpAnyH_take (i := 7) (oi := { dst := some 45, op := Op.slice 44 (Operand.tmp 41) (some (Operand.tmp 44)) none none, type := 44, pos := "manifest.go:105", after := #[{ on := 3, ground := Ground.data }, { on := 6, ground := Ground.data }], guard := none }) (v := ?_) rfl (by kernel_rfl) (by kernel_rfl) (by kernel_rfl) (fun _ _ _ h => h) (Or.inl ⟨by rfl, ?_⟩) hHeld ?_
  rotate_left
  · (intro w hS; (clear hS; go_simp); try with_reducible rfl)
  try simp only [Act.put, List.setIfInBounds_toArray, List.set_cons_zero, List.set_cons_succ]
  refine wpAnyH_ready (rs := [8]) (by kernel_rfl) (by simp) ?_
  refine AllReadyH.cons (o := { dst := some 46, op := Op.call { callee := Callee.builtin Builtin.copy, args := #[Operand.tmp 40, Operand.tmp 45], argTypes := #[44, 44] }, type := 3, pos := "manifest.go:105", after := #[{ on := 2, ground := Ground.data }, { on := 7, ground := Ground.data }], guard := none }) rfl (fun K hK => ?_) ?_
  rotate_left
  · exact AllReadyH.nil
  refine st_copy rfl 44 5 rfl Try.underlying44 (by kernel_rfl) M rfl rfl ((R.below F.out).cut 54 (by omega)) (by omega) (by omega) (by rw [mfc_size _ _ _ _ _ _ _ HZ1.out]; omega) ?_
  intro w1 Mn np; rw [H1.out, mfc_lay1 _ _ _ _ _ _ _ _ L0.out L1.out] at Mn; replace F := F.put np GEM; replace B := B.put np neBM; replace E := E.put np neEM; clear np M; have M := Mn; clear Mn
  refine hK.out _ _ (B) (fun hHeld => ?_)
  clear hK K
  try simp only [Act.put, List.setIfInBounds_toArray, List.set_cons_zero, List.set_cons_succ]
  refine wpAnyH_done (by kernel_rfl) ?_ _
  skip
  go_wp2
  rw [rounds_succ]
  go_wp2_with (first | ((with_reducible refine at_index (t := 90) rfl ?_); refine ev_index rfl 90 rfl rfl rfl (v := .pointer (some ⟨gM, 69, none⟩)) (by kernel_rfl) ?_))
  replace F := F.drew
  replace B := B.drew
  replace E := E.drew
  replace M := M.drew
  refine wp_region_held_drew (S := fun w' => Blk w' gB #[.slice (some ⟨b, off, none⟩) n c] 44) (by kernel_rfl) (B) (fun hHeld => ?_)
  refine wpAnyH_take (i := 0) (oi := { dst := some 38, op := Op.move (Operand.tmp 7), type := 89, pos := "manifest.go:105", after := #[], guard := none }) (v := ?_) rfl (by kernel_rfl) (by kernel_rfl) (by kernel_rfl) (fun _ _ _ h => h) (Or.inl ⟨by rfl, ?_⟩) hHeld ?_
  rotate_left
  · (intro w hS; (clear hS; go_simp); try with_reducible rfl)
  try simp only [Act.put, List.setIfInBounds_toArray, List.set_cons_zero, List.set_cons_succ]
  refine wpAnyH_take (i := 1) (oi := { dst := some 39, op := Op.nilCheck (Operand.tmp 38), type := 89, pos := "manifest.go:105", after := #[{ on := 0, ground := Ground.data }], guard := none }) (v := ?_) rfl (by kernel_rfl) (by kernel_rfl) (by kernel_rfl) (fun _ _ _ h => h) (Or.inl ⟨by rfl, ?_⟩) hHeld ?_
  rotate_left
  · (intro w hS; (clear hS; go_simp); try with_reducible rfl)
  try simp only [Act.put, List.setIfInBounds_toArray, List.set_cons_zero, List.set_cons_succ]
  refine wpAnyH_take (i := 2) (oi := { dst := some 40, op := Op.slice 38 (Operand.tmp 39) none none none, type := 44, pos := "manifest.go:105", after := #[{ on := 1, ground := Ground.data }], guard := none }) (v := ?_) rfl (by kernel_rfl) (by kernel_rfl) (by kernel_rfl) (fun _ _ _ h => h) (Or.inl ⟨by rfl, ?_⟩) hHeld ?_
  rotate_left
  · (intro w hS; (clear hS; go_simp); try with_reducible rfl)
  try simp only [Act.put, List.setIfInBounds_toArray, List.set_cons_zero, List.set_cons_succ]
  refine wpAnyH_take (i := 3) (oi := { dst := some 41, op := Op.load 44 (Operand.tmp 1), type := 44, pos := "manifest.go:105", after := #[], guard := none }) (v := .slice (some ⟨b, off, none⟩) n c) rfl (by kernel_rfl) (by kernel_rfl) (by kernel_rfl) (fun _ _ _ h => h) (Or.inl ⟨by rfl, ?_⟩) hHeld ?_
  · (intro w hS; exact run_op_load_cell 44 (Operand.tmp 1) (by rfl) (i := 0) hS (by rfl) (by kernel_rfl) (by kernel_rfl) ((by rfl)))
  try simp only [Act.put, List.setIfInBounds_toArray, List.set_cons_zero, List.set_cons_succ]
  refine wpAnyH_take (i := 4) (oi := { dst := some 42, op := Op.move (Operand.tmp 6), type := 3, pos := "manifest.go:105", after := #[], guard := none }) (v := ?_) rfl (by kernel_rfl) (by kernel_rfl) (by kernel_rfl) (fun _ _ _ h => h) (Or.inl ⟨by rfl, ?_⟩) hHeld ?_
  rotate_left
  · (intro w hS; (clear hS; go_simp); try with_reducible rfl)
  try simp only [Act.put, List.setIfInBounds_toArray, List.set_cons_zero, List.set_cons_succ]
  refine wpAnyH_take (i := 5) (oi := { dst := some 43, op := Op.binOp BinOp.mul 3 (Operand.const (Value.int IntKind.i64 32)) (Operand.tmp 42) 3, type := 3, pos := "manifest.go:105", after := #[{ on := 4, ground := Ground.data }], guard := none }) (v := ?_) rfl (by kernel_rfl) (by kernel_rfl) (by kernel_rfl) (fun _ _ _ h => h) (Or.inl ⟨by rfl, ?_⟩) hHeld ?_
  rotate_left
  · (intro w hS; (clear hS; go_simp); try with_reducible rfl)
  try simp only [Act.put, List.setIfInBounds_toArray, List.set_cons_zero, List.set_cons_succ]
  refine wpAnyH_take (i := 6) (oi := { dst := some 44, op := Op.binOp BinOp.add 3 (Operand.const (Value.int IntKind.i64 22)) (Operand.tmp 43) 3, type := 3, pos := "manifest.go:105", after := #[{ on := 5, ground := Ground.data }], guard := none }) (v := ?_) rfl (by kernel_rfl) (by kernel_rfl) (by kernel_rfl) (fun _ _ _ h => h) (Or.inl ⟨by rfl, ?_⟩) hHeld ?_
  rotate_left
  · (intro w hS; (clear hS; go_simp); try with_reducible rfl)
  try simp only [Act.put, List.setIfInBounds_toArray, List.set_cons_zero, List.set_cons_succ]
  refine wpAnyH_take (i := 7) (oi := { dst := some 45, op := Op.slice 44 (Operand.tmp 41) (some (Operand.tmp 44)) none none, type := 44, pos := "manifest.go:105", after := #[{ on := 3, ground := Ground.data }, { on := 6, ground := Ground.data }], guard := none }) (v := ?_) rfl (by kernel_rfl) (by kernel_rfl) (by kernel_rfl) (fun _ _ _ h => h) (Or.inl ⟨by rfl, ?_⟩) hHeld ?_
  rotate_left
  · (intro w hS; (clear hS; go_simp); try with_reducible rfl)
  try simp only [Act.put, List.setIfInBounds_toArray, List.set_cons_zero, List.set_cons_succ]
  refine wpAnyH_ready (rs := [8]) (by kernel_rfl) (by simp) ?_
  refine AllReadyH.cons (o := { dst := some 46, op := Op.call { callee := Callee.builtin Builtin.copy, args := #[Operand.tmp 40, Operand.tmp 45], argTypes := #[44, 44] }, type := 3, pos := "manifest.go:105", after := #[{ on := 2, ground := Ground.data }, { on := 7, ground := Ground.data }], guard := none }) rfl (fun K hK => ?_) ?_
  rotate_left
  · exact AllReadyH.nil
  refine st_copy rfl 44 5 rfl Try.underlying44 (by kernel_rfl) M rfl rfl ((R.below F.out).cut 86 (by omega)) (by omega) (by omega) (by rw [mfc_size _ _ _ _ _ _ _ HZ2.out]; omega) ?_
  intro w1 Mn np; rw [H2.out, mfc_lay2 _ _ _ _ _ _ _ _ _ L0.out L1.out L2.out] at Mn; replace F := F.put np GEM; replace B := B.put np neBM; replace E := E.put np neEM; clear np M; have M := Mn; clear Mn
  refine hK.out _ _ (B) (fun hHeld => ?_)
  clear hK K
  try simp only [Act.put, List.setIfInBounds_toArray, List.set_cons_zero, List.set_cons_succ]
  refine wpAnyH_done (by kernel_rfl) ?_ _
  skip
  go_wp2
  have eD : d0 ++ (d1 ++ d2) = D := by
    rw [← H0.out, ← H1.out, ← H2.out, ← HDD.out]
    have z : ∀ (l : List Int), l.take 96 = l.take 32 ++ ((l.drop 32).take 32 ++ (l.drop 64).take 32) := fun l => by
      rw [show (96 : Nat) = 32 + 64 by rfl, List.take_add, show (64 : Nat) = 32 + 32 by rfl, List.take_add]
      simp
    rw [z]
    simp
  rw [eD] at M
  have hD96 : D.length = 96 := by rw [← eD]; simp [L0.out, L1.out, L2.out]
  clear eD L0 L1 L2 H0 H1 H2 HZ0 HZ1 HZ2 k0 k1 k2 k32 k64 k22 k54 k86 HDD hHeld w2 w3 c22 c54 c86 j0 j1 j2
  obtain ⟨m, hmm⟩ : ∃ m, n - 118 = m := ⟨_, rfl⟩
  have HMM := Lib.hid hmm
  have hmB : m ≤ 1099511627776 := by omega
  have hlm : (xs.drop 118).length = m := by simp; omega
  rw [hlm] at HG
  clear hmm hlm
  by_cases hm2 : mode = 2
  · subst hm2
    have eO : getO xs = ordL (xs.drop 118) := by rw [HO.out, if_pos rfl]
    rw [eO] at HG
    have HO2 := Lib.hid eO
    clear eO
    obtain ⟨rest, hrest⟩ : ∃ r, xs.drop 118 = r := ⟨_, rfl⟩
    rw [hrest] at HG HO2
    have HRS := Lib.hid hrest
    clear hrest
    rw [rounds_succ]
    go_wp2_with (first | ((with_reducible refine at_load (t := 44) rfl ?_); refine ev_load_cell rfl 44 _ rfl B rfl (by kernel_rfl) (by kernel_rfl) rfl ?_) | ((with_reducible refine at_load (t := 5) rfl ?_); refine ev_load_cell rfl 5 _ rfl (i := 0) M rfl (by kernel_rfl) (by kernel_rfl) (mfc_0 _ _ _ _ _ _ _) ?_) | ((with_reducible refine at_cut (t := 44) rfl ?_); refine ev_cut (i := 118) rfl 44 5 rfl Try.underlying44 (by kernel_rfl) R rfl rfl hn hc ?_; intro RA HR; rw [HMM.out] at HR ⊢) | ((with_reducible refine at_slot (N := 56) rfl ?_); refine ev_make0 rfl 39 3 rfl (z := .int .i64 0) (bytes := 8) Try.underlying39 (by kernel_rfl) rfl (m / 2) rfl rfl (by omega) (by omega) (by omega) ?_; intro gQ hgQ wQ Qb nb; have GEQ : w.heap.size ≤ gQ := (by rw [hgQ]; exact F.size); clear hgQ; replace F := F.step nb; replace B := B.below nb; replace E := E.below nb; replace M := M.below nb; clear nb; have O : Own _ w.heap.size 3 .i64 _ 0 (m / 2) [] := Own.ofBlk Qb GEQ (by simp) (by unfold maxLen; omega) (Nat.zero_le _) rfl rfl; clear Qb; have neOM := O.ne M (by decide)) | ((with_reducible refine at_store (t := 39) rfl ?_); refine ev_store_cell rfl 39 _ _ rfl M rfl ((.slice (some ⟨gQ, 0, none⟩) 0 (m / 2))) rfl rfl rfl (by kernel_rfl) (by rw [mfc_size _ _ _ _ _ _ _ hD96]; omega) ?_; intro w1 M np; replace F := F.put np GEM; replace B := B.put np neBM; replace E := E.put np neEM; replace O := O.put np neOM; clear np))
    rw [mfc_set _ _ _ _ _ _ _ _ hD96] at M
    rw [HRS.out] at HR
    have hrl := Lib.hid HR.len
    have HB8 := Lib.hid (show ∀ v ∈ rest, 0 ≤ v ∧ v ≤ 255 from fun v hv => HB.out v (by rw [← HRS.out] at hv; exact List.mem_of_mem_drop hv))
    go_loopw [9] (fun i wr => ∃ (j t : Nat) (QA : Option Addr) (qc : Nat), Hid (t = 2 * j) ∧ i = .int .i64 (t : Int) ∧ t ≤ m ∧ Fr w wr ∧ Blk wr gB #[.slice (some ⟨b, off, none⟩) n c] 44 ∧ Blk wr gE mfcZ 41 ∧ Blk wr gM (mfc 2 ver blk ol nl D (.slice QA j qc)) 41 ∧ Own wr w.heap.size 3 .i64 QA j qc (ordL (rest.take (2 * j)))) (fun i _ => m + 2 - (intOf i).toNat)
    case atStart => exact ⟨0, 0, _, _, Lib.hid rfl, rfl, Nat.zero_le _, F, B, E, M, O⟩
    case round =>
      clear F B E M O neOM
      obtain ⟨j, t, QA, qc, HTT, rfl, hj, F, B, E, M, O⟩ := hrel
      have htt := HTT.out
      by_cases hlt2 : t + 1 < m
      · have hlt3 : (t : Int) + 1 < (m : Int) := by omega
        obtain ⟨rb, ro, rfl, hrb, hrc⟩ := HR.form (by omega)
        obtain ⟨v0, hv0⟩ : ∃ v, v = rest.getD t 0 := ⟨_, rfl⟩
        obtain ⟨v1, hv1⟩ : ∃ v, v = rest.getD (t + 1) 0 := ⟨_, rfl⟩
        have c0 := hrc t (by omega)
        have c1 := hrc (t + 1) (by omega)
        rw [← hv0] at c0
        rw [← hv1] at c1
        have HC0 := Lib.hid (fun (w' : World) (F' : Fr w w') => (F'.out.cell (p := ⟨rb, ro + t, none⟩) hrb).trans c0)
        have HC1 := Lib.hid (fun (w' : World) (F' : Fr w w') => (F'.out.cell (p := ⟨rb, ro + (t + 1), none⟩) hrb).trans c1)
        have b0 := HB8.out v0 (by rw [hv0, List.getD, List.getElem?_eq_getElem (by rw [hrl.out]; omega)]; exact List.getElem_mem _)
        have b1 := HB8.out v1 (by rw [hv1, List.getD, List.getElem?_eq_getElem (by rw [hrl.out]; omega)]; exact List.getElem_mem _)
        have HT := Lib.hid (show ordL (rest.take (2 * (j + 1))) = ordL (rest.take (2 * j)) ++ [v0 * 256 + v1] by rw [ordL_step j rest (by rw [hrl.out]; omega), hv0, hv1, htt])
        clear hv0 hv1 c0 c1 hrc
        obtain ⟨b00, b01⟩ := b0
        obtain ⟨b10, b11⟩ := b1
        clear htt hlt2
        go_wp2
        replace F := F.drew
        replace B := B.drew
        replace E := E.drew
        replace M := M.drew
        replace O := O.drew
        have kt := IntWalk.i64_in ((t : Int) + 1) (by omega)
        have kv := IntWalk.i64_in (v0 * 256) (by omega)
        have kj : j ≤ 1099511627776 := by have := HTT.out; omega
        have KO := Lib.hid (or_i64 v0 v1 b00 b01 b10 b11)
        have hlt4 : (t : Int) < (m : Int) := by omega
        have hlt5 : 0 ≤ (t : Int) + 1 := by omega
        have kw0 := IntWalk.i64_in v0 (by omega)
        have kw1 := IntWalk.i64_in v1 (by omega)
        refine wp_region_held_drew (S := fun w' => Fr w w') (by kernel_rfl) (F) (fun hHeld => ?_)
        refine wpAnyH_take (i := 0) (oi := { dst := some 65, op := Op.fieldAddr 41 (Operand.tmp 5) 8, type := 0, pos := "manifest.go:111", after := #[], guard := none }) (v := ?_) rfl (by kernel_rfl) (by kernel_rfl) (by kernel_rfl) (fun _ _ _ h => h) (Or.inl ⟨by rfl, ?_⟩) hHeld ?_
        rotate_left
        · (intro w hS; (clear hS; go_simp); try with_reducible rfl)
        try simp only [Act.put, List.setIfInBounds_toArray, List.set_cons_zero, List.set_cons_succ]
        refine wpAnyH_take (i := 2) (oi := { dst := some 67, op := Op.move (Operand.tmp 8), type := 44, pos := "manifest.go:111", after := #[], guard := none }) (v := ?_) rfl (by kernel_rfl) (by kernel_rfl) (by kernel_rfl) (fun _ _ _ h => h) (Or.inl ⟨by rfl, ?_⟩) hHeld ?_
        rotate_left
        · (intro w hS; (clear hS; go_simp); try with_reducible rfl)
        try simp only [Act.put, List.setIfInBounds_toArray, List.set_cons_zero, List.set_cons_succ]
        refine wpAnyH_take (i := 3) (oi := { dst := some 68, op := Op.move (Operand.tmp 9), type := 3, pos := "manifest.go:111", after := #[], guard := none }) (v := ?_) rfl (by kernel_rfl) (by kernel_rfl) (by kernel_rfl) (fun _ _ _ h => h) (Or.inl ⟨by rfl, ?_⟩) hHeld ?_
        rotate_left
        · (intro w hS; (clear hS; go_simp); try with_reducible rfl)
        try simp only [Act.put, List.setIfInBounds_toArray, List.set_cons_zero, List.set_cons_succ]
        refine wpAnyH_take (i := 4) (oi := { dst := some 69, op := Op.indexAddr 44 (Operand.tmp 67) (Operand.tmp 68), type := 0, pos := "manifest.go:111", after := #[{ on := 2, ground := Ground.data }, { on := 3, ground := Ground.data }], guard := none }) (v := ?_) rfl (by kernel_rfl) (by kernel_rfl) (by kernel_rfl) (fun _ _ _ h => h) (Or.inl ⟨by rfl, ?_⟩) hHeld ?_
        rotate_left
        · (intro w hS; (clear hS; go_simp); try with_reducible rfl)
        try simp only [Act.put, List.setIfInBounds_toArray, List.set_cons_zero, List.set_cons_succ]
        refine wpAnyH_take (i := 5) (oi := { dst := some 70, op := Op.load 5 (Operand.tmp 69), type := 5, pos := "manifest.go:111", after := #[{ on := 4, ground := Ground.data }], guard := none }) (v := .int .u8 v0) rfl (by kernel_rfl) (by kernel_rfl) (by kernel_rfl) (fun _ _ _ h => h) (Or.inl ⟨by rfl, ?_⟩) hHeld ?_
        · (intro w hS; exact run_op_load_known 5 (Operand.tmp 69) (by rfl) (HC0.out _ hS) (by rfl) (by kernel_rfl) (by kernel_rfl))
        try simp only [Act.put, List.setIfInBounds_toArray, List.set_cons_zero, List.set_cons_succ]
        refine wpAnyH_take (i := 6) (oi := { dst := some 71, op := Op.convert 5 3 (Operand.tmp 70), type := 3, pos := "manifest.go:111", after := #[{ on := 5, ground := Ground.data }], guard := none }) (v := ?_) rfl (by kernel_rfl) (by kernel_rfl) (by kernel_rfl) (fun _ _ _ h => h) (Or.inl ⟨by rfl, ?_⟩) hHeld ?_
        rotate_left
        · (intro w hS; (clear hS; go_simp); try with_reducible rfl)
        try simp only [Act.put, List.setIfInBounds_toArray, List.set_cons_zero, List.set_cons_succ]
        refine wpAnyH_take (i := 7) (oi := { dst := some 72, op := Op.binOp BinOp.shl 3 (Operand.tmp 71) (Operand.const (Value.int IntKind.u64 8)) 83, type := 3, pos := "manifest.go:111", after := #[{ on := 6, ground := Ground.data }], guard := none }) (v := ?_) rfl (by kernel_rfl) (by kernel_rfl) (by kernel_rfl) (fun _ _ _ h => h) (Or.inl ⟨by rfl, ?_⟩) hHeld ?_
        rotate_left
        · (intro w hS; (clear hS; go_simp); try with_reducible rfl)
        try simp only [Act.put, List.setIfInBounds_toArray, List.set_cons_zero, List.set_cons_succ]
        refine wpAnyH_take (i := 8) (oi := { dst := some 73, op := Op.move (Operand.tmp 8), type := 44, pos := "manifest.go:111", after := #[], guard := none }) (v := ?_) rfl (by kernel_rfl) (by kernel_rfl) (by kernel_rfl) (fun _ _ _ h => h) (Or.inl ⟨by rfl, ?_⟩) hHeld ?_
        rotate_left
        · (intro w hS; (clear hS; go_simp); try with_reducible rfl)
        try simp only [Act.put, List.setIfInBounds_toArray, List.set_cons_zero, List.set_cons_succ]
        refine wpAnyH_take (i := 9) (oi := { dst := some 74, op := Op.move (Operand.tmp 9), type := 3, pos := "manifest.go:111", after := #[], guard := none }) (v := ?_) rfl (by kernel_rfl) (by kernel_rfl) (by kernel_rfl) (fun _ _ _ h => h) (Or.inl ⟨by rfl, ?_⟩) hHeld ?_
        rotate_left
        · (intro w hS; (clear hS; go_simp); try with_reducible rfl)
        try simp only [Act.put, List.setIfInBounds_toArray, List.set_cons_zero, List.set_cons_succ]
        refine wpAnyH_take (i := 10) (oi := { dst := some 75, op := Op.binOp BinOp.add 3 (Operand.tmp 74) (Operand.const (Value.int IntKind.i64 1)) 3, type := 3, pos := "manifest.go:111", after := #[{ on := 9, ground := Ground.data }], guard := none }) (v := ?_) rfl (by kernel_rfl) (by kernel_rfl) (by kernel_rfl) (fun _ _ _ h => h) (Or.inl ⟨by rfl, ?_⟩) hHeld ?_
        rotate_left
        · (intro w hS; (clear hS; go_simp); try with_reducible rfl)
        try simp only [Act.put, List.setIfInBounds_toArray, List.set_cons_zero, List.set_cons_succ]
        refine wpAnyH_take (i := 11) (oi := { dst := some 76, op := Op.indexAddr 44 (Operand.tmp 73) (Operand.tmp 75), type := 0, pos := "manifest.go:111", after := #[{ on := 8, ground := Ground.data }, { on := 10, ground := Ground.data }], guard := none }) (v := ?_) rfl (by kernel_rfl) (by kernel_rfl) (by kernel_rfl) (fun _ _ _ h => h) (Or.inl ⟨by rfl, ?_⟩) hHeld ?_
        rotate_left
        · (intro w hS; (clear hS; go_simp); try with_reducible rfl)
        try simp only [Act.put, List.setIfInBounds_toArray, List.set_cons_zero, List.set_cons_succ]
        refine wpAnyH_take (i := 12) (oi := { dst := some 77, op := Op.load 5 (Operand.tmp 76), type := 5, pos := "manifest.go:111", after := #[{ on := 11, ground := Ground.data }], guard := none }) (v := .int .u8 v1) rfl (by kernel_rfl) (by kernel_rfl) (by kernel_rfl) (fun _ _ _ h => h) (Or.inl ⟨by rfl, ?_⟩) hHeld ?_
        · (intro w hS; exact run_op_load_known 5 (Operand.tmp 76) (by rfl) (HC1.out _ hS) (by rfl) (by kernel_rfl) (by kernel_rfl))
        try simp only [Act.put, List.setIfInBounds_toArray, List.set_cons_zero, List.set_cons_succ]
        refine wpAnyH_take (i := 13) (oi := { dst := some 78, op := Op.convert 5 3 (Operand.tmp 77), type := 3, pos := "manifest.go:111", after := #[{ on := 12, ground := Ground.data }], guard := none }) (v := ?_) rfl (by kernel_rfl) (by kernel_rfl) (by kernel_rfl) (fun _ _ _ h => h) (Or.inl ⟨by rfl, ?_⟩) hHeld ?_
        rotate_left
        · (intro w hS; (clear hS; go_simp); try with_reducible rfl)
        try simp only [Act.put, List.setIfInBounds_toArray, List.set_cons_zero, List.set_cons_succ]
        refine wpAnyH_take (i := 14) (oi := { dst := some 79, op := Op.binOp BinOp.or 3 (Operand.tmp 72) (Operand.tmp 78) 3, type := 3, pos := "manifest.go:111", after := #[{ on := 7, ground := Ground.data }, { on := 13, ground := Ground.data }], guard := none }) (v := ?_) rfl (by kernel_rfl) (by kernel_rfl) (by kernel_rfl) (fun _ _ _ h => h) (Or.inl ⟨by rfl, ?_⟩) hHeld ?_
        rotate_left
        · (intro w hS; (clear hS; go_simp); try with_reducible rfl)
        try simp only [Act.put, List.setIfInBounds_toArray, List.set_cons_zero, List.set_cons_succ]
        refine wpAnyH_ready (rs := [1, 15]) (by kernel_rfl) (by simp) ?_
        refine AllReadyH.cons (o := { dst := some 66, op := Op.load 39 (Operand.tmp 65), type := 39, pos := "manifest.go:111", after := #[{ on := 0, ground := Ground.data }], guard := none }) rfl (fun K hK => ?_) ?_
        · refine st_load_cell rfl 39 _ rfl (i := 101) M rfl (by kernel_rfl) (by kernel_rfl) (mfc_o _ _ _ _ _ _ _ hD96) ?_
          refine hK.out _ _ (F) (fun hHeld => ?_)
          clear hK K
          try simp only [Act.put, List.setIfInBounds_toArray, List.set_cons_zero, List.set_cons_succ]
          refine wpAnyH_ready (rs := [15]) (by kernel_rfl) (by simp) ?_
          refine AllReadyH.cons (o := { dst := some 80, op := Op.buildSlice 39 1 #[(0, Operand.tmp 79)], type := 39, pos := "manifest.go:111", after := #[{ on := 14, ground := Ground.data }], guard := none }) rfl (fun K hK => ?_) ?_
          rotate_left
          · exact AllReadyH.nil
          refine st_new_slice rfl (cs := #[.int .i64 (v0 * 256 + v1)]) (t := 3) (n := 1) (c := 1) (by go_simp; rw [KO.out]) ?_
          intro gS hgS w1 S nb; clear hgS; replace F := F.step nb; replace B := B.below nb; replace E := E.below nb; replace M := M.below nb; replace O := O.below nb; clear nb
          refine hK.out _ _ (F) (fun hHeld => ?_)
          clear hK K
          try simp only [Act.put, List.setIfInBounds_toArray, List.set_cons_zero, List.set_cons_succ]
          refine wpAnyH_ready (rs := [16]) (by kernel_rfl) (by simp) ?_
          refine AllReadyH.cons (o := { dst := some 81, op := Op.call { callee := Callee.builtin Builtin.append, args := #[Operand.tmp 66, Operand.tmp 80], argTypes := #[39, 39] }, type := 39, pos := "manifest.go:111", after := #[{ on := 1, ground := Ground.data }, { on := 15, ground := Ground.data }], guard := none }) rfl (fun K hK => ?_) ?_
          rotate_left
          · exact AllReadyH.nil
          refine st_append rfl 39 3 rfl Try.underlying39 i64_info rfl O (Rd.ofBlk (n := 1) (xs := [v0 * 256 + v1]) S rfl rfl) rfl rfl (by unfold maxLen; omega) F.size ?_
          intro A1 c1 w2 ON gr; replace F := F.grew gr (fun a ha => (O.lt a ha).1); replace B := B.grew gr (O.ne B (by decide)); replace E := E.grew gr (O.ne E (by decide)); replace M := M.grew gr (O.ne M (by decide)); replace O := ON; clear ON gr S; have neOM := O.ne M (by decide)
          refine hK.out _ _ (F) (fun hHeld => ?_)
          clear hK K
          try simp only [Act.put, List.setIfInBounds_toArray, List.set_cons_zero, List.set_cons_succ]
          refine wpAnyH_take (i := 17) (oi := { dst := some 82, op := Op.fieldAddr 41 (Operand.tmp 5) 8, type := 0, pos := "manifest.go:111", after := #[{ on := 0, ground := Ground.phase }, { on := 1, ground := Ground.phase }, { on := 2, ground := Ground.phase }, { on := 3, ground := Ground.phase }, { on := 4, ground := Ground.phase }, { on := 5, ground := Ground.phase }, { on := 6, ground := Ground.phase }, { on := 7, ground := Ground.phase }, { on := 8, ground := Ground.phase }, { on := 9, ground := Ground.phase }, { on := 10, ground := Ground.phase }, { on := 11, ground := Ground.phase }, { on := 12, ground := Ground.phase }, { on := 13, ground := Ground.phase }, { on := 14, ground := Ground.phase }, { on := 15, ground := Ground.phase }, { on := 16, ground := Ground.phase }], guard := none }) (v := ?_) rfl (by kernel_rfl) (by kernel_rfl) (by kernel_rfl) (fun _ _ _ h => h) (Or.inl ⟨by rfl, ?_⟩) hHeld ?_
          rotate_left
          · (intro w hS; (clear hS; go_simp); try with_reducible rfl)
          try simp only [Act.put, List.setIfInBounds_toArray, List.set_cons_zero, List.set_cons_succ]
          refine wpAnyH_ready (rs := [18]) (by kernel_rfl) (by simp) ?_
          refine AllReadyH.cons (o := { dst := none, op := Op.store 39 (Operand.tmp 82) (Operand.tmp 81), type := 0, pos := "manifest.go:111", after := #[{ on := 17, ground := Ground.data }, { on := 16, ground := Ground.data }, { on := 16, ground := Ground.chain }, { on := 0, ground := Ground.phase }, { on := 1, ground := Ground.phase }, { on := 2, ground := Ground.phase }, { on := 3, ground := Ground.phase }, { on := 4, ground := Ground.phase }, { on := 5, ground := Ground.phase }, { on := 6, ground := Ground.phase }, { on := 7, ground := Ground.phase }, { on := 8, ground := Ground.phase }, { on := 9, ground := Ground.phase }, { on := 10, ground := Ground.phase }, { on := 11, ground := Ground.phase }, { on := 12, ground := Ground.phase }, { on := 13, ground := Ground.phase }, { on := 14, ground := Ground.phase }, { on := 15, ground := Ground.phase }, { on := 16, ground := Ground.phase }], guard := none }) rfl (fun K hK => ?_) ?_
          rotate_left
          · exact AllReadyH.nil
          refine st_store_cell rfl 39 _ _ rfl M rfl (.slice A1 (j + 1) c1) rfl rfl rfl (by kernel_rfl) (by rw [mfc_size _ _ _ _ _ _ _ hD96]; omega) ?_
          intro w3 M np; rw [mfc_set _ _ _ _ _ _ _ _ hD96] at M; replace F := F.put np GEM; replace B := B.put np neBM; replace E := E.put np neEM; replace O := O.put np neOM; clear np
          refine hK.out _ _ (F) (fun hHeld => ?_)
          clear hK K
          try simp only [Act.put, List.setIfInBounds_toArray, List.set_cons_zero, List.set_cons_succ]
          refine wpAnyH_done (by kernel_rfl) ?_ _
          clear kt kv kw0 kw1
          go_wp2
          go_roundw
          case rel => exact ⟨j + 1, t + 2, _, _, Lib.hid (by have := HTT.out; omega), by go_num, by omega, F, B, E, M, by rw [HT.out]; exact O⟩
          case measure => simp [intOf]; omega
        refine AllReadyH.cons (o := { dst := some 80, op := Op.buildSlice 39 1 #[(0, Operand.tmp 79)], type := 39, pos := "manifest.go:111", after := #[{ on := 14, ground := Ground.data }], guard := none }) rfl (fun K hK => ?_) ?_
        · refine st_new_slice rfl (cs := #[.int .i64 (v0 * 256 + v1)]) (t := 3) (n := 1) (c := 1) (by go_simp; rw [KO.out]) ?_
          intro gS hgS w1 S nb; clear hgS; replace F := F.step nb; replace B := B.below nb; replace E := E.below nb; replace M := M.below nb; replace O := O.below nb; clear nb
          refine hK.out _ _ (F) (fun hHeld => ?_)
          clear hK K
          try simp only [Act.put, List.setIfInBounds_toArray, List.set_cons_zero, List.set_cons_succ]
          refine wpAnyH_ready (rs := [1]) (by kernel_rfl) (by simp) ?_
          refine AllReadyH.cons (o := { dst := some 66, op := Op.load 39 (Operand.tmp 65), type := 39, pos := "manifest.go:111", after := #[{ on := 0, ground := Ground.data }], guard := none }) rfl (fun K hK => ?_) ?_
          rotate_left
          · exact AllReadyH.nil
          refine st_load_cell rfl 39 _ rfl (i := 101) M rfl (by kernel_rfl) (by kernel_rfl) (mfc_o _ _ _ _ _ _ _ hD96) ?_
          refine hK.out _ _ (F) (fun hHeld => ?_)
          clear hK K
          try simp only [Act.put, List.setIfInBounds_toArray, List.set_cons_zero, List.set_cons_succ]
          refine wpAnyH_ready (rs := [16]) (by kernel_rfl) (by simp) ?_
          refine AllReadyH.cons (o := { dst := some 81, op := Op.call { callee := Callee.builtin Builtin.append, args := #[Operand.tmp 66, Operand.tmp 80], argTypes := #[39, 39] }, type := 39, pos := "manifest.go:111", after := #[{ on := 1, ground := Ground.data }, { on := 15, ground := Ground.data }], guard := none }) rfl (fun K hK => ?_) ?_
          rotate_left
          · exact AllReadyH.nil
          refine st_append rfl 39 3 rfl Try.underlying39 i64_info rfl O (Rd.ofBlk (n := 1) (xs := [v0 * 256 + v1]) S rfl rfl) rfl rfl (by unfold maxLen; omega) F.size ?_
          intro A1 c1 w2 ON gr; replace F := F.grew gr (fun a ha => (O.lt a ha).1); replace B := B.grew gr (O.ne B (by decide)); replace E := E.grew gr (O.ne E (by decide)); replace M := M.grew gr (O.ne M (by decide)); replace O := ON; clear ON gr S; have neOM := O.ne M (by decide)
          refine hK.out _ _ (F) (fun hHeld => ?_)
          clear hK K
          try simp only [Act.put, List.setIfInBounds_toArray, List.set_cons_zero, List.set_cons_succ]
          refine wpAnyH_take (i := 17) (oi := { dst := some 82, op := Op.fieldAddr 41 (Operand.tmp 5) 8, type := 0, pos := "manifest.go:111", after := #[{ on := 0, ground := Ground.phase }, { on := 1, ground := Ground.phase }, { on := 2, ground := Ground.phase }, { on := 3, ground := Ground.phase }, { on := 4, ground := Ground.phase }, { on := 5, ground := Ground.phase }, { on := 6, ground := Ground.phase }, { on := 7, ground := Ground.phase }, { on := 8, ground := Ground.phase }, { on := 9, ground := Ground.phase }, { on := 10, ground := Ground.phase }, { on := 11, ground := Ground.phase }, { on := 12, ground := Ground.phase }, { on := 13, ground := Ground.phase }, { on := 14, ground := Ground.phase }, { on := 15, ground := Ground.phase }, { on := 16, ground := Ground.phase }], guard := none }) (v := ?_) rfl (by kernel_rfl) (by kernel_rfl) (by kernel_rfl) (fun _ _ _ h => h) (Or.inl ⟨by rfl, ?_⟩) hHeld ?_
          rotate_left
          · (intro w hS; (clear hS; go_simp); try with_reducible rfl)
          try simp only [Act.put, List.setIfInBounds_toArray, List.set_cons_zero, List.set_cons_succ]
          refine wpAnyH_ready (rs := [18]) (by kernel_rfl) (by simp) ?_
          refine AllReadyH.cons (o := { dst := none, op := Op.store 39 (Operand.tmp 82) (Operand.tmp 81), type := 0, pos := "manifest.go:111", after := #[{ on := 17, ground := Ground.data }, { on := 16, ground := Ground.data }, { on := 16, ground := Ground.chain }, { on := 0, ground := Ground.phase }, { on := 1, ground := Ground.phase }, { on := 2, ground := Ground.phase }, { on := 3, ground := Ground.phase }, { on := 4, ground := Ground.phase }, { on := 5, ground := Ground.phase }, { on := 6, ground := Ground.phase }, { on := 7, ground := Ground.phase }, { on := 8, ground := Ground.phase }, { on := 9, ground := Ground.phase }, { on := 10, ground := Ground.phase }, { on := 11, ground := Ground.phase }, { on := 12, ground := Ground.phase }, { on := 13, ground := Ground.phase }, { on := 14, ground := Ground.phase }, { on := 15, ground := Ground.phase }, { on := 16, ground := Ground.phase }], guard := none }) rfl (fun K hK => ?_) ?_
          rotate_left
          · exact AllReadyH.nil
          refine st_store_cell rfl 39 _ _ rfl M rfl (.slice A1 (j + 1) c1) rfl rfl rfl (by kernel_rfl) (by rw [mfc_size _ _ _ _ _ _ _ hD96]; omega) ?_
          intro w3 M np; rw [mfc_set _ _ _ _ _ _ _ _ hD96] at M; replace F := F.put np GEM; replace B := B.put np neBM; replace E := E.put np neEM; replace O := O.put np neOM; clear np
          refine hK.out _ _ (F) (fun hHeld => ?_)
          clear hK K
          try simp only [Act.put, List.setIfInBounds_toArray, List.set_cons_zero, List.set_cons_succ]
          refine wpAnyH_done (by kernel_rfl) ?_ _
          clear kt kv kw0 kw1
          go_wp2
          go_roundw
          case rel => exact ⟨j + 1, t + 2, _, _, Lib.hid (by have := HTT.out; omega), by go_num, by omega, F, B, E, M, by rw [HT.out]; exact O⟩
          case measure => simp [intOf]; omega
        exact AllReadyH.nil
      · have hlt3 : ¬ ((t : Int) + 1 < (m : Int)) := by omega
        rw [ordL_full j rest (by rw [hrl.out]; omega)] at O
        have hjl := O.len
        have kj : j ≤ 1152921504606846976 := by omega
        have hjq := O.nz
        have neOE := O.ne E (by decide)
        rw [hjl] at HG
        clear hlt2 htt hjl
        by_cases hf : first = 1
        · have e1 : (first != 1) = false := by simp [hf]
          by_cases hl2 : m = 2 * j
          · have e2 : ((m : Int) != 2 * (j : Int)) = false := by simp; omega
            cases hv : mayM 2 blk ol nl D (ordL rest)
            · rw [show (decide (first = 1) && (decide (m = 2 * j) && mayM 2 blk ol nl D (ordL rest))) = false by simp [hv]] at HG
              have HV := Lib.hid hv
              clear hv hf hl2
              go_wp2_with (first | ((with_reducible refine at_load (t := 44) rfl ?_); refine ev_load_cell rfl 44 _ rfl B rfl (by kernel_rfl) (by kernel_rfl) rfl ?_) | ((with_reducible refine at_load (t := 5) rfl ?_); refine ev_load_cell rfl 5 _ rfl (i := 0) M rfl (by kernel_rfl) (by kernel_rfl) (mfc_0 _ _ _ _ _ _ _) ?_) | ((with_reducible refine at_load (t := 39) rfl ?_); refine ev_load_cell rfl 39 _ rfl (i := 101) M rfl (by kernel_rfl) (by kernel_rfl) (mfc_o _ _ _ _ _ _ _ hD96) ?_) | ((with_reducible refine at_cut (t := 44) rfl ?_); refine ev_cut (i := 118) rfl 44 5 rfl Try.underlying44 (by kernel_rfl) R rfl rfl hn hc ?_; intro RA HR; rw [HMM.out] at HR ⊢) | ((with_reducible refine at_load (t := 5) rfl ?_); refine ev_load_known rfl 5 _ rfl (HF.out _ F) rfl (by kernel_rfl) (by kernel_rfl) ?_) | ((with_reducible refine at_load (t := 41) rfl ?_); refine ev_load_row rfl 41 _ rfl M rfl Try.underlying41 rfl (by rw [mfc_size _ _ _ _ _ _ _ hD96]; kernel_rfl) ?_) | (go_at_call 37; (with_reducible refine (mmay_any _ _ _ _ _ _ _ _ _ _ _ _ HV.out O.rd hD96 kj hjq (by omega)).mono ?_); rintro e w1 ⟨rfl, nb⟩; replace F := F.step nb; replace M := M.below nb; replace E := E.below nb; replace O := O.below nb; clear nb) | ((with_reducible refine at_build (t := 41) rfl ?_); refine ev_build0 rfl 41 rfl ((show _ = Result.ok (Value.agg mfcZ) _ by kernel_rfl)) ?_) | ((with_reducible refine at_store (t := 41) rfl ?_); refine ev_store_row rfl 41 _ _ rfl E rfl rfl (by kernel_rfl) rfl (by kernel_rfl) ?_; intro w1 E np; replace F := F.put np GEE; clear np))
              exact bodyPost_ret (res_cell_tmp rfl _ E rfl Try.underlying41 rfl (by kernel_rfl)) rfl ⟨.inr ⟨HG.out, rfl⟩, F.out⟩
            · rw [show (decide (first = 1) && (decide (m = 2 * j) && mayM 2 blk ol nl D (ordL rest))) = true by simp [hv, hf, hl2]] at HG
              have HV := Lib.hid hv
              clear hv hf hl2
              go_wp2_with (first | ((with_reducible refine at_load (t := 44) rfl ?_); refine ev_load_cell rfl 44 _ rfl B rfl (by kernel_rfl) (by kernel_rfl) rfl ?_) | ((with_reducible refine at_load (t := 5) rfl ?_); refine ev_load_cell rfl 5 _ rfl (i := 0) M rfl (by kernel_rfl) (by kernel_rfl) (mfc_0 _ _ _ _ _ _ _) ?_) | ((with_reducible refine at_load (t := 39) rfl ?_); refine ev_load_cell rfl 39 _ rfl (i := 101) M rfl (by kernel_rfl) (by kernel_rfl) (mfc_o _ _ _ _ _ _ _ hD96) ?_) | ((with_reducible refine at_cut (t := 44) rfl ?_); refine ev_cut (i := 118) rfl 44 5 rfl Try.underlying44 (by kernel_rfl) R rfl rfl hn hc ?_; intro RA HR; rw [HMM.out] at HR ⊢) | ((with_reducible refine at_load (t := 5) rfl ?_); refine ev_load_known rfl 5 _ rfl (HF.out _ F) rfl (by kernel_rfl) (by kernel_rfl) ?_) | ((with_reducible refine at_load (t := 41) rfl ?_); refine ev_load_row rfl 41 _ rfl M rfl Try.underlying41 rfl (by rw [mfc_size _ _ _ _ _ _ _ hD96]; kernel_rfl) ?_) | (go_at_call 37; (with_reducible refine (mmay_any _ _ _ _ _ _ _ _ _ _ _ _ HV.out O.rd hD96 kj hjq (by omega)).mono ?_); rintro e w1 ⟨rfl, nb⟩; replace F := F.step nb; replace M := M.below nb; replace E := E.below nb; replace O := O.below nb; clear nb) | ((with_reducible refine at_store (t := 41) rfl ?_); refine ev_store_row rfl 41 _ _ rfl E rfl rfl (by rw [mfc_size _ _ _ _ _ _ _ hD96]; kernel_rfl) (by rw [mfc_size _ _ _ _ _ _ _ hD96]; kernel_rfl) (mfc_one _ _ _ _ _ _ _ _ _) ?_; intro w1 E np; replace F := F.put np GEE; replace O := O.put np neOE; clear np))
              exact bodyPost_ret (res_cell_tmp rfl _ E rfl Try.underlying41 rfl (by rw [mfc_size _ _ _ _ _ _ _ hD96]; kernel_rfl)) rfl ⟨.inl ⟨HG.out, _, _, _, rfl, (by rw [HO2.out]; exact O)⟩, F.out⟩
          · have e2 : ((m : Int) != 2 * (j : Int)) = true := by simp; omega
            rw [show (decide (first = 1) && (decide (m = 2 * j) && mayM 2 blk ol nl D (ordL rest))) = false by simp [hl2]] at HG
            clear hf hl2
            go_wp2_with (first | ((with_reducible refine at_load (t := 44) rfl ?_); refine ev_load_cell rfl 44 _ rfl B rfl (by kernel_rfl) (by kernel_rfl) rfl ?_) | ((with_reducible refine at_load (t := 5) rfl ?_); refine ev_load_cell rfl 5 _ rfl (i := 0) M rfl (by kernel_rfl) (by kernel_rfl) (mfc_0 _ _ _ _ _ _ _) ?_) | ((with_reducible refine at_load (t := 39) rfl ?_); refine ev_load_cell rfl 39 _ rfl (i := 101) M rfl (by kernel_rfl) (by kernel_rfl) (mfc_o _ _ _ _ _ _ _ hD96) ?_) | ((with_reducible refine at_cut (t := 44) rfl ?_); refine ev_cut (i := 118) rfl 44 5 rfl Try.underlying44 (by kernel_rfl) R rfl rfl hn hc ?_; intro RA HR; rw [HMM.out] at HR ⊢) | ((with_reducible refine at_load (t := 5) rfl ?_); refine ev_load_known rfl 5 _ rfl (HF.out _ F) rfl (by kernel_rfl) (by kernel_rfl) ?_) | ((with_reducible refine at_load (t := 41) rfl ?_); refine ev_load_row rfl 41 _ rfl M rfl Try.underlying41 rfl (by rw [mfc_size _ _ _ _ _ _ _ hD96]; kernel_rfl) ?_) | (go_at_call 37; (with_reducible refine (mmay_any _ _ _ _ _ _ _ _ _ _ _ _ HV.out O.rd hD96 kj hjq (by omega)).mono ?_); rintro e w1 ⟨rfl, nb⟩; replace F := F.step nb; replace M := M.below nb; replace E := E.below nb; replace O := O.below nb; clear nb) | ((with_reducible refine at_build (t := 41) rfl ?_); refine ev_build0 rfl 41 rfl ((show _ = Result.ok (Value.agg mfcZ) _ by kernel_rfl)) ?_) | ((with_reducible refine at_store (t := 41) rfl ?_); refine ev_store_row rfl 41 _ _ rfl E rfl rfl (by kernel_rfl) rfl (by kernel_rfl) ?_; intro w1 E np; replace F := F.put np GEE; clear np))
            exact bodyPost_ret (res_cell_tmp rfl _ E rfl Try.underlying41 rfl (by kernel_rfl)) rfl ⟨.inr ⟨HG.out, rfl⟩, F.out⟩
        · have e1 : (first != 1) = true := by simp [hf]
          rw [show (decide (first = 1) && (decide (m = 2 * j) && mayM 2 blk ol nl D (ordL rest))) = false by simp [hf]] at HG
          clear hf
          go_wp2_with (first | ((with_reducible refine at_load (t := 44) rfl ?_); refine ev_load_cell rfl 44 _ rfl B rfl (by kernel_rfl) (by kernel_rfl) rfl ?_) | ((with_reducible refine at_load (t := 5) rfl ?_); refine ev_load_cell rfl 5 _ rfl (i := 0) M rfl (by kernel_rfl) (by kernel_rfl) (mfc_0 _ _ _ _ _ _ _) ?_) | ((with_reducible refine at_load (t := 39) rfl ?_); refine ev_load_cell rfl 39 _ rfl (i := 101) M rfl (by kernel_rfl) (by kernel_rfl) (mfc_o _ _ _ _ _ _ _ hD96) ?_) | ((with_reducible refine at_cut (t := 44) rfl ?_); refine ev_cut (i := 118) rfl 44 5 rfl Try.underlying44 (by kernel_rfl) R rfl rfl hn hc ?_; intro RA HR; rw [HMM.out] at HR ⊢) | ((with_reducible refine at_load (t := 5) rfl ?_); refine ev_load_known rfl 5 _ rfl (HF.out _ F) rfl (by kernel_rfl) (by kernel_rfl) ?_) | ((with_reducible refine at_load (t := 41) rfl ?_); refine ev_load_row rfl 41 _ rfl M rfl Try.underlying41 rfl (by rw [mfc_size _ _ _ _ _ _ _ hD96]; kernel_rfl) ?_) | (go_at_call 37; (with_reducible refine (mmay_any _ _ _ _ _ _ _ _ _ _ _ _ HV.out O.rd hD96 kj hjq (by omega)).mono ?_); rintro e w1 ⟨rfl, nb⟩; replace F := F.step nb; replace M := M.below nb; replace E := E.below nb; replace O := O.below nb; clear nb) | ((with_reducible refine at_build (t := 41) rfl ?_); refine ev_build0 rfl 41 rfl ((show _ = Result.ok (Value.agg mfcZ) _ by kernel_rfl)) ?_) | ((with_reducible refine at_store (t := 41) rfl ?_); refine ev_store_row rfl 41 _ _ rfl E rfl rfl (by kernel_rfl) rfl (by kernel_rfl) ?_; intro w1 E np; replace F := F.put np GEE; clear np))
          exact bodyPost_ret (res_cell_tmp rfl _ E rfl Try.underlying41 rfl (by kernel_rfl)) rfl ⟨.inr ⟨HG.out, rfl⟩, F.out⟩
  · have eO : getO xs = [] := by rw [HO.out, if_neg hm2]
    rw [eO] at HG
    have HO2 := Lib.hid eO
    have m2 : (mode == 2) = false := by simpa using hm2
    clear eO hm2
    by_cases hf : first = 1
    · have e1 : (first != 1) = false := by simp [hf]
      by_cases hl2 : m = 0
      · have e2 : ((m : Int) != 0) = false := by simp [hl2]
        cases hv : mayM mode blk ol nl D []
        · rw [show (decide (first = 1) && (decide (m = 2 * ([] : List Int).length) && mayM mode blk ol nl D [])) = false by simp [hv]] at HG
          have HV := Lib.hid hv
          clear hv hf hl2
          rw [rounds_succ]
          go_wp2_with (first | ((with_reducible refine at_load (t := 44) rfl ?_); refine ev_load_cell rfl 44 _ rfl B rfl (by kernel_rfl) (by kernel_rfl) rfl ?_) | ((with_reducible refine at_load (t := 5) rfl ?_); refine ev_load_cell rfl 5 _ rfl (i := 0) M rfl (by kernel_rfl) (by kernel_rfl) (mfc_0 _ _ _ _ _ _ _) ?_) | ((with_reducible refine at_load (t := 39) rfl ?_); refine ev_load_cell rfl 39 _ rfl (i := 101) M rfl (by kernel_rfl) (by kernel_rfl) (mfc_o _ _ _ _ _ _ _ hD96) ?_) | ((with_reducible refine at_cut (t := 44) rfl ?_); refine ev_cut (i := 118) rfl 44 5 rfl Try.underlying44 (by kernel_rfl) R rfl rfl hn hc ?_; intro RA HR; rw [HMM.out] at HR ⊢) | ((with_reducible refine at_load (t := 5) rfl ?_); refine ev_load_known rfl 5 _ rfl (HF.out _ F) rfl (by kernel_rfl) (by kernel_rfl) ?_) | ((with_reducible refine at_load (t := 41) rfl ?_); refine ev_load_row rfl 41 _ rfl M rfl Try.underlying41 rfl (by rw [mfc_size _ _ _ _ _ _ _ hD96]; kernel_rfl) ?_) | (go_at_call 37; (with_reducible refine (mmay_any _ _ _ _ _ _ _ _ _ _ _ _ HV.out (Rd.nil _ _ _) hD96 (by omega) (by omega) (by omega)).mono ?_); rintro e w1 ⟨rfl, nb⟩; replace F := F.step nb; replace M := M.below nb; replace E := E.below nb; clear nb) | ((with_reducible refine at_build (t := 41) rfl ?_); refine ev_build0 rfl 41 rfl ((show _ = Result.ok (Value.agg mfcZ) _ by kernel_rfl)) ?_) | ((with_reducible refine at_store (t := 41) rfl ?_); refine ev_store_row rfl 41 _ _ rfl E rfl rfl (by kernel_rfl) rfl (by kernel_rfl) ?_; intro w1 E np; replace F := F.put np GEE; clear np))
          exact bodyPost_ret (res_cell_tmp rfl _ E rfl Try.underlying41 rfl (by kernel_rfl)) rfl ⟨.inr ⟨HG.out, rfl⟩, F.out⟩
        · rw [show (decide (first = 1) && (decide (m = 2 * ([] : List Int).length) && mayM mode blk ol nl D [])) = true by simp [hv, hf, hl2]] at HG
          have HV := Lib.hid hv
          clear hv hf hl2
          rw [rounds_succ]
          go_wp2_with (first | ((with_reducible refine at_load (t := 44) rfl ?_); refine ev_load_cell rfl 44 _ rfl B rfl (by kernel_rfl) (by kernel_rfl) rfl ?_) | ((with_reducible refine at_load (t := 5) rfl ?_); refine ev_load_cell rfl 5 _ rfl (i := 0) M rfl (by kernel_rfl) (by kernel_rfl) (mfc_0 _ _ _ _ _ _ _) ?_) | ((with_reducible refine at_load (t := 39) rfl ?_); refine ev_load_cell rfl 39 _ rfl (i := 101) M rfl (by kernel_rfl) (by kernel_rfl) (mfc_o _ _ _ _ _ _ _ hD96) ?_) | ((with_reducible refine at_cut (t := 44) rfl ?_); refine ev_cut (i := 118) rfl 44 5 rfl Try.underlying44 (by kernel_rfl) R rfl rfl hn hc ?_; intro RA HR; rw [HMM.out] at HR ⊢) | ((with_reducible refine at_load (t := 5) rfl ?_); refine ev_load_known rfl 5 _ rfl (HF.out _ F) rfl (by kernel_rfl) (by kernel_rfl) ?_) | ((with_reducible refine at_load (t := 41) rfl ?_); refine ev_load_row rfl 41 _ rfl M rfl Try.underlying41 rfl (by rw [mfc_size _ _ _ _ _ _ _ hD96]; kernel_rfl) ?_) | (go_at_call 37; (with_reducible refine (mmay_any _ _ _ _ _ _ _ _ _ _ _ _ HV.out (Rd.nil _ _ _) hD96 (by omega) (by omega) (by omega)).mono ?_); rintro e w1 ⟨rfl, nb⟩; replace F := F.step nb; replace M := M.below nb; replace E := E.below nb; clear nb) | ((with_reducible refine at_store (t := 41) rfl ?_); refine ev_store_row rfl 41 _ _ rfl E rfl rfl (by rw [mfc_size _ _ _ _ _ _ _ hD96]; kernel_rfl) (by rw [mfc_size _ _ _ _ _ _ _ hD96]; kernel_rfl) (mfc_one _ _ _ _ _ _ _ _ _) ?_; intro w1 E np; replace F := F.put np GEE; clear np))
          exact bodyPost_ret (res_cell_tmp rfl _ E rfl Try.underlying41 rfl (by rw [mfc_size _ _ _ _ _ _ _ hD96]; kernel_rfl)) rfl ⟨.inl ⟨HG.out, _, _, _, rfl, (by rw [HO2.out]; exact Own.nil _ _ _ _)⟩, F.out⟩
      · have e2 : ((m : Int) != 0) = true := by simp; omega
        rw [show (decide (first = 1) && (decide (m = 2 * ([] : List Int).length) && mayM mode blk ol nl D [])) = false by simp [hl2]] at HG
        clear hf hl2
        rw [rounds_succ]
        go_wp2_with (first | ((with_reducible refine at_load (t := 44) rfl ?_); refine ev_load_cell rfl 44 _ rfl B rfl (by kernel_rfl) (by kernel_rfl) rfl ?_) | ((with_reducible refine at_load (t := 5) rfl ?_); refine ev_load_cell rfl 5 _ rfl (i := 0) M rfl (by kernel_rfl) (by kernel_rfl) (mfc_0 _ _ _ _ _ _ _) ?_) | ((with_reducible refine at_load (t := 39) rfl ?_); refine ev_load_cell rfl 39 _ rfl (i := 101) M rfl (by kernel_rfl) (by kernel_rfl) (mfc_o _ _ _ _ _ _ _ hD96) ?_) | ((with_reducible refine at_cut (t := 44) rfl ?_); refine ev_cut (i := 118) rfl 44 5 rfl Try.underlying44 (by kernel_rfl) R rfl rfl hn hc ?_; intro RA HR; rw [HMM.out] at HR ⊢) | ((with_reducible refine at_load (t := 5) rfl ?_); refine ev_load_known rfl 5 _ rfl (HF.out _ F) rfl (by kernel_rfl) (by kernel_rfl) ?_) | ((with_reducible refine at_load (t := 41) rfl ?_); refine ev_load_row rfl 41 _ rfl M rfl Try.underlying41 rfl (by rw [mfc_size _ _ _ _ _ _ _ hD96]; kernel_rfl) ?_) | (go_at_call 37; (with_reducible refine (mmay_any _ _ _ _ _ _ _ _ _ _ _ _ HV.out (Rd.nil _ _ _) hD96 (by omega) (by omega) (by omega)).mono ?_); rintro e w1 ⟨rfl, nb⟩; replace F := F.step nb; replace M := M.below nb; replace E := E.below nb; clear nb) | ((with_reducible refine at_build (t := 41) rfl ?_); refine ev_build0 rfl 41 rfl ((show _ = Result.ok (Value.agg mfcZ) _ by kernel_rfl)) ?_) | ((with_reducible refine at_store (t := 41) rfl ?_); refine ev_store_row rfl 41 _ _ rfl E rfl rfl (by kernel_rfl) rfl (by kernel_rfl) ?_; intro w1 E np; replace F := F.put np GEE; clear np))
        exact bodyPost_ret (res_cell_tmp rfl _ E rfl Try.underlying41 rfl (by kernel_rfl)) rfl ⟨.inr ⟨HG.out, rfl⟩, F.out⟩
    · have e1 : (first != 1) = true := by simp [hf]
      rw [show (decide (first = 1) && (decide (m = 2 * ([] : List Int).length) && mayM mode blk ol nl D [])) = false by simp [hf]] at HG
      clear hf
      rw [rounds_succ]
      go_wp2_with (first | ((with_reducible refine at_load (t := 44) rfl ?_); refine ev_load_cell rfl 44 _ rfl B rfl (by kernel_rfl) (by kernel_rfl) rfl ?_) | ((with_reducible refine at_load (t := 5) rfl ?_); refine ev_load_cell rfl 5 _ rfl (i := 0) M rfl (by kernel_rfl) (by kernel_rfl) (mfc_0 _ _ _ _ _ _ _) ?_) | ((with_reducible refine at_load (t := 39) rfl ?_); refine ev_load_cell rfl 39 _ rfl (i := 101) M rfl (by kernel_rfl) (by kernel_rfl) (mfc_o _ _ _ _ _ _ _ hD96) ?_) | ((with_reducible refine at_cut (t := 44) rfl ?_); refine ev_cut (i := 118) rfl 44 5 rfl Try.underlying44 (by kernel_rfl) R rfl rfl hn hc ?_; intro RA HR; rw [HMM.out] at HR ⊢) | ((with_reducible refine at_load (t := 5) rfl ?_); refine ev_load_known rfl 5 _ rfl (HF.out _ F) rfl (by kernel_rfl) (by kernel_rfl) ?_) | ((with_reducible refine at_load (t := 41) rfl ?_); refine ev_load_row rfl 41 _ rfl M rfl Try.underlying41 rfl (by rw [mfc_size _ _ _ _ _ _ _ hD96]; kernel_rfl) ?_) | (go_at_call 37; (with_reducible refine (mmay_any _ _ _ _ _ _ _ _ _ _ _ _ HV.out (Rd.nil _ _ _) hD96 (by omega) (by omega) (by omega)).mono ?_); rintro e w1 ⟨rfl, nb⟩; replace F := F.step nb; replace M := M.below nb; replace E := E.below nb; clear nb) | ((with_reducible refine at_build (t := 41) rfl ?_); refine ev_build0 rfl 41 rfl ((show _ = Result.ok (Value.agg mfcZ) _ by kernel_rfl)) ?_) | ((with_reducible refine at_store (t := 41) rfl ?_); refine ev_store_row rfl 41 _ _ rfl E rfl rfl (by kernel_rfl) rfl (by kernel_rfl) ?_; intro w1 E np; replace F := F.put np GEE; clear np))
      exact bodyPost_ret (res_cell_tmp rfl _ E rfl Try.underlying41 rfl (by kernel_rfl)) rfl ⟨.inr ⟨HG.out, rfl⟩, F.out⟩
end
end Go.Proofs.Ytgloienpmikcfaa
