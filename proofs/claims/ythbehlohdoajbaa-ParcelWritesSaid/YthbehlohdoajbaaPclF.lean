/-
  parcel, drogherref23: a whole package (contracts).
-/
import Derived.Test.YthbehlohdoajbaaPclE
import Derived.Test.YthbehlohdoajbaaSlices
set_option linter.unusedVariables false
set_option linter.unusedSimpArgs false
namespace Go.Proofs.Ythbehlohdoajbaa
open Go.RowKit
def okS (s : Chk) : Bool := putOK s.blk s.wn s.pn
def putS (s : Chk) : List Int := putL s.blk s.way s.pay s.wn s.pn
/-- a package: the error, the bytes -/
def wholeE (l : List Chk) : Int := if l.all okS then 0 else 3
def wholeB (h : List Int) (l : List Chk) : List Int := if l.all okS then h ++ (l.map putS).flatten else []
theorem whole_all {h : List Int} {l : List Chk} (ha : ∀ s ∈ l, okS s = true) : wholeE l = 0 ∧ wholeB h l = h ++ (l.map putS).flatten := by
  have : l.all okS = true := List.all_eq_true.2 ha
  simp [wholeE, wholeB, this]
theorem whole_bad {h : List Int} {l : List Chk} {s : Chk} (hs : s ∈ l) (ha : okS s = false) : wholeE l = 3 ∧ wholeB h l = [] := by
  have : l.all okS = false := by
    rw [← Bool.not_eq_true]
    intro hc
    have := List.all_eq_true.1 hc s hs
    rw [ha] at this
    cases this
  simp [wholeE, wholeB, this]
theorem putS_len {w : World} {s : Chk} (h : ChOk w s) (hk : okS s = true) : (putS s).length = 9 + 32 * s.wn + s.pn ∧ 9 + 32 * s.wn + s.pn ≤ 80000 := by
  have h1 := putOK_yes hk
  have h2 : ∀ l : List (List Int), (∀ d ∈ l, d.length = 32) → l.flatten.length = 32 * l.length := by
    intro l hl
    induction l with
    | nil => rfl
    | cons a l ih =>
      rw [List.flatten_cons, List.length_append, hl a (List.mem_cons_self ..), ih fun d hd => hl d (List.mem_cons_of_mem _ hd), List.length_cons]
      omega
  have h3 := h2 s.way fun d hd => (h.wd d hd).1
  have h4 := h.RW.len
  have h5 := h.RP.len
  refine ⟨?_, by omega⟩
  rw [putS, putL, putH]
  simp only [List.length_append, h3, h4, h5, beN_length, List.length_cons, List.length_nil]

section
variable {w0 w : World} {L : List Ent} {H A : Option Addr} {hn hc n c : Nat} {hs : List Int} {l : List Chk}
set_option maxHeartbeats 1600000 in
set_option maxRecDepth 100000 in
theorem pwhole_any (K : Known w0 w L) (RH : RdS w0 [] .u8 H hn hs) (hh : hn ≤ 1000) (R : RdM w0 [] chC 3 A n l) (h40 : n ≤ 40) (hso : ∀ s ∈ l, ChOk w0 s) : Calls Try.prog 21 #[.slice H hn hc, .slice A n c] w fun e w' => ∃ A' n' c', e = .returned (.tuple #[.slice A' n' c', .int .i64 (wholeE l)]) ∧ ∃ X, OwnL 5 1 A' n' c' ((wholeB hs l).map (Value.int .u8)) X ∧ Known w0 w' (X ++ L) := by
  have hl := R.len
  go_enter Try.func21, Try.ntmps21
  go_upto_region 3 with ((first | (go_at_call 32; (with_reducible refine (clone_any K (RH.cov (Cov.nil _)) (by omega)).mono ?_); clear K; rintro e w1 ⟨A1, c1, X1, rfl, O1, K⟩)))
  go_loopg [6, 15] n (fun q v6 v15 wr => ∃ (i : Nat) (A2 : Option Addr) (n2 c2 : Nat) (X2 : List Ent), v6 = .slice A2 n2 c2 ∧ v15 = .int .i64 i ∧ i + q = n ∧ n2 ≤ 1000 + 80000 * i ∧ (∀ s ∈ l.take i, okS s = true) ∧ OwnL 5 1 A2 n2 c2 ((hs ++ ((l.take i).map putS).flatten).map (Value.int .u8)) X2 ∧ Known w0 wr (X2 ++ L))
  case atStart => exact ⟨0, A1, hn, c1, X1, rfl, by go_num, by omega, by omega, by simp, by simpa using O1, K⟩
  case round =>
    clear O1
    clear K
    obtain ⟨i, A2, n2, c2, X2, rfl, rfl, hi, hn2, hall, O, K⟩ := hrel
    by_cases hin : i < n
    · have h2 : (i : Int) < (n : Int) := by omega
      obtain ⟨b, off, rfl⟩ := R.form (K.cov (Cov.nil _)) (by omega)
      obtain ⟨p, hp⟩ : ∃ p, p = l[i]'(by omega) := ⟨_, rfl⟩
      have hpm : p ∈ l := by rw [hp]; exact List.getElem_mem _
      have HP := Lib.hid (show encAt chC l i = [.int .i64 p.blk, .slice p.W p.wn p.wc, .slice p.P p.pn p.pc] by rw [encAt_get (by omega), ← hp]; rfl)
      have HSO := Lib.hid (hso p hpm)
      have HWD := Lib.hid (show ∀ d ∈ p.way, d.length = 32 from fun d hd => (HSO.out.wd d hd).1)
      have htk : l.take (i + 1) = l.take i ++ [p] := by rw [List.take_add_one, List.getElem?_eq_getElem (by omega), ← hp]; rfl
      have i1 := IntWalk.i64_in ((i : Int) + 1) (by omega)
      cases hok : okS p
      · have HW := Lib.hid (whole_bad (h := hs) hpm hok)
        have HOK := Lib.hid (show putOK p.blk p.wn p.pn = false from hok)
        clear hok hp htk
        go_wp2_with (first | ((with_reducible refine at_load rfl ?_); refine wpList_reads (by rfl) (kr_load_rec K _ _ (by rfl) (i) [.int .i64 p.blk, .slice p.W p.wn p.wc, .slice p.P p.pn p.pc] (by rfl) (R.cov (Cov.nil _)) (by omega) HP.out (by omega) (by kernel_rfl) (by kernel_rfl) (by rfl)) ?_) | ((with_reducible refine at_slot (N := 8) rfl ?_); (with_reducible refine at_alloc rfl ?_); refine wpList_does rfl (kd_alloc (z := (.agg #[.int .i64 0, .slice none 0 0, .slice none 0 0])) K _ rfl (by kernel_rfl)) ?_; clear K; rintro _ w1 ⟨gc, rfl, K⟩; (try dsimp only [Value.cells] at K)) | ((with_reducible refine at_store (t := 38) rfl ?_); refine wpList_does (by rfl) (kd_store_row K _ _ _ (by rfl) (by rfl) (by rfl) Repl.auto (by kernel_rfl) (by kernel_rfl) (by kernel_rfl)) ?_; clear K; intro _ w1 K; (try simp only [Act.put])) | ((with_reducible refine at_load (t := 38) rfl ?_); refine wpList_reads (by rfl) (kr_load_row K _ _ (by rfl) (by rfl) Has.auto (by kernel_rfl) (by kernel_rfl)) ?_) | (go_at_call 17; (with_reducible refine (pput_no K HOK.out).mono ?_); clear K; rintro e w1 ⟨rfl, K⟩))
        go_ret2
        exact ⟨none, 0, 0, by rw [HW.out.1]; rfl, [], by rw [HW.out.2]; exact OwnL.nil _ _, K.cov Cov.auto⟩
      · have hpl := (putS_len HSO.out hok).2
        have hal2 : ∀ s ∈ l.take (i + 1), okS s = true := by
          rw [htk]
          intro s hs
          rcases List.mem_append.1 hs with h | h
          · exact hall s h
          · rw [List.mem_singleton.1 h]; exact hok
        have HOK := Lib.hid (show putOK p.blk p.wn p.pn = true from hok)
        have HT := Lib.hid (show ((l.take (i + 1)).map putS).flatten = ((l.take i).map putS).flatten ++ putS p by rw [htk]; simp)
        have HAL := Lib.hid hal2
        clear hok hp htk hal2 hall
        go_wp2_with (first | ((with_reducible refine at_load rfl ?_); refine wpList_reads (by rfl) (kr_load_rec K _ _ (by rfl) (i) [.int .i64 p.blk, .slice p.W p.wn p.wc, .slice p.P p.pn p.pc] (by rfl) (R.cov (Cov.nil _)) (by omega) HP.out (by omega) (by kernel_rfl) (by kernel_rfl) (by rfl)) ?_) | ((with_reducible refine at_slot (N := 8) rfl ?_); (with_reducible refine at_alloc rfl ?_); refine wpList_does rfl (kd_alloc (z := (.agg #[.int .i64 0, .slice none 0 0, .slice none 0 0])) K _ rfl (by kernel_rfl)) ?_; clear K; rintro _ w1 ⟨gc, rfl, K⟩; (try dsimp only [Value.cells] at K)) | ((with_reducible refine at_store (t := 38) rfl ?_); refine wpList_does (by rfl) (kd_store_row K _ _ _ (by rfl) (by rfl) (by rfl) Repl.auto (by kernel_rfl) (by kernel_rfl) (by kernel_rfl)) ?_; clear K; intro _ w1 K; (try simp only [Act.put])) | ((with_reducible refine at_load (t := 38) rfl ?_); refine wpList_reads (by rfl) (kr_load_row K _ _ (by rfl) (by rfl) Has.auto (by kernel_rfl) (by kernel_rfl)) ?_) | (go_at_call 17; (with_reducible refine (pput_yes K HOK.out (HSO.out.RW.cov (Cov.nil _)) HWD.out (HSO.out.RP.cov (Cov.nil _))).mono ?_); clear K; rintro e w1 ⟨A3, c3, rfl, X3, O3, K⟩) | (at_builtin; refine wpList_does rfl (kd_appendN K _ _ rfl rfl rfl O Seg.auto ((RdS.own (w0 := w0) (L := X3) (xs := putS p) O3 (Seg.all X3)).at_ _ (K.cov Cov.auto)) (by kernel_rfl) (by kernel_rfl) (by omega)) ?_; clear K; rintro _ w1 ⟨A4, c4, X4, rfl, O4, K⟩; (try simp only [Nat.zero_add, List.nil_append] at O4)))
        replace O4 : OwnL 5 1 A4 (n2 + (9 + 32 * p.wn + p.pn)) c4 ((hs ++ ((l.take (i + 1)).map putS).flatten).map (Value.int .u8)) X4 := by rw [HT.out]; simpa using O4
        go_roundg (gk - 1)
        case measure => omega
        case rel => exact ⟨i + 1, A4, n2 + (9 + 32 * p.wn + p.pn), c4, X4, rfl, by go_num, by omega, by omega, HAL.out, O4, K.cov Cov.auto⟩
    · have h2 : ¬ (i : Int) < (n : Int) := by omega
      have htk : l.take i = l := List.take_of_length_le (by omega)
      rw [htk] at O hall
      have HW := Lib.hid (whole_all (h := hs) hall)
      clear htk hall
      go_wp2
      go_ret2
      exact ⟨A2, n2, c2, by rw [HW.out.1]; rfl, X2, by rw [HW.out.2]; exact O, K.cov Cov.auto⟩
set_option maxHeartbeats 1600000 in
set_option maxRecDepth 100000 in
theorem rwhole_any (K : Known w0 w L) (RH : RdS w0 [] .u8 H hn hs) (hh : hn ≤ 1000) (R : RdM w0 [] chC 3 A n l) (h40 : n ≤ 40) (hso : ∀ s ∈ l, ChOk w0 s) : Calls Try.prog 22 #[.slice H hn hc, .slice A n c] w fun e w' => ∃ A' n' c', e = .returned (.tuple #[.slice A' n' c', .int .i64 (wholeE l)]) ∧ ∃ X, OwnL 5 1 A' n' c' ((wholeB hs l).map (Value.int .u8)) X ∧ Known w0 w' (X ++ L) := by
  have hl := R.len
  go_enter Try.func22, Try.ntmps22
  go_upto_region 4 with ((first | ((with_reducible refine at_buildSlice (n := 0) rfl ?_); refine wpList_does rfl (kd_lit0 K _ 5 1 rfl Try.underlying22 (by kernel_rfl)) ?_; clear K; rintro _ w1 ⟨g0, rfl, K⟩; have O : OwnL 5 1 (some ⟨g0, 0, none⟩) 0 0 (([] : List Int).map (Value.int .u8)) [row g0 #[] 5] := OwnL.lit0 _ _) | (at_builtin; refine wpList_does rfl (kd_appendN K _ _ rfl rfl rfl O Seg.auto ((RH.cov (Cov.nil _)).at_ _ K) (by kernel_rfl) (by kernel_rfl) (by omega)) ?_; clear K; rintro _ w1 ⟨A1, c1, X1, rfl, O1, K⟩; (try simp only [Nat.zero_add, List.nil_append] at O1))))
  go_loopg [6, 16] n (fun q v6 v15 wr => ∃ (i : Nat) (A2 : Option Addr) (n2 c2 : Nat) (X2 : List Ent), v6 = .slice A2 n2 c2 ∧ v15 = .int .i64 i ∧ i + q = n ∧ n2 ≤ 1000 + 80000 * i ∧ (∀ s ∈ l.take i, okS s = true) ∧ OwnL 5 1 A2 n2 c2 ((hs ++ ((l.take i).map putS).flatten).map (Value.int .u8)) X2 ∧ Known w0 wr (X2 ++ L))
  case atStart => exact ⟨0, A1, hn, c1, X1, rfl, by go_num, by omega, by omega, by simp, by simpa using O1, K.cov Cov.auto⟩
  case round =>
    clear O1 O
    clear K
    obtain ⟨i, A2, n2, c2, X2, rfl, rfl, hi, hn2, hall, O, K⟩ := hrel
    by_cases hin : i < n
    · have h2 : (i : Int) < (n : Int) := by omega
      obtain ⟨b, off, rfl⟩ := R.form (K.cov (Cov.nil _)) (by omega)
      obtain ⟨p, hp⟩ : ∃ p, p = l[i]'(by omega) := ⟨_, rfl⟩
      have hpm : p ∈ l := by rw [hp]; exact List.getElem_mem _
      have HP := Lib.hid (show encAt chC l i = [.int .i64 p.blk, .slice p.W p.wn p.wc, .slice p.P p.pn p.pc] by rw [encAt_get (by omega), ← hp]; rfl)
      have HSO := Lib.hid (hso p hpm)
      have HWD := Lib.hid (show ∀ d ∈ p.way, d.length = 32 from fun d hd => (HSO.out.wd d hd).1)
      have htk : l.take (i + 1) = l.take i ++ [p] := by rw [List.take_add_one, List.getElem?_eq_getElem (by omega), ← hp]; rfl
      have i1 := IntWalk.i64_in ((i : Int) + 1) (by omega)
      cases hok : okS p
      · have HW := Lib.hid (whole_bad (h := hs) hpm hok)
        have HOK := Lib.hid (show putOK p.blk p.wn p.pn = false from hok)
        clear hok hp htk
        go_wp2_with (first | ((with_reducible refine at_load rfl ?_); refine wpList_reads (by rfl) (kr_load_rec K _ _ (by rfl) (i) [.int .i64 p.blk, .slice p.W p.wn p.wc, .slice p.P p.pn p.pc] (by rfl) (R.cov (Cov.nil _)) (by omega) HP.out (by omega) (by kernel_rfl) (by kernel_rfl) (by rfl)) ?_) | (go_at_call 18; (with_reducible refine (rpput_no K HOK.out).mono ?_); clear K; rintro e w1 ⟨⟨gn, rfl⟩, K⟩) | ((with_reducible refine at_buildSlice (n := 0) rfl ?_); refine wpList_does rfl (kd_lit0 K _ 5 1 rfl Try.underlying22 (by kernel_rfl)) ?_; clear K; rintro _ w1 ⟨g9, rfl, K⟩; have O9 : OwnL 5 1 (some ⟨g9, 0, none⟩) 0 0 (([] : List Int).map (Value.int .u8)) [row g9 #[] 5] := OwnL.lit0 _ _))
        go_ret2
        exact ⟨some ⟨g9, 0, none⟩, 0, 0, by rw [HW.out.1]; rfl, [row g9 #[] 5], by rw [HW.out.2]; exact O9, K.cov Cov.auto⟩
      · have hpl := (putS_len HSO.out hok).2
        have hal2 : ∀ s ∈ l.take (i + 1), okS s = true := by
          rw [htk]
          intro s hs
          rcases List.mem_append.1 hs with h | h
          · exact hall s h
          · rw [List.mem_singleton.1 h]; exact hok
        have HOK := Lib.hid (show putOK p.blk p.wn p.pn = true from hok)
        have HT := Lib.hid (show ((l.take (i + 1)).map putS).flatten = ((l.take i).map putS).flatten ++ putS p by rw [htk]; simp)
        have HAL := Lib.hid hal2
        clear hok hp htk hal2 hall
        go_wp2_with (first | ((with_reducible refine at_load rfl ?_); refine wpList_reads (by rfl) (kr_load_rec K _ _ (by rfl) (i) [.int .i64 p.blk, .slice p.W p.wn p.wc, .slice p.P p.pn p.pc] (by rfl) (R.cov (Cov.nil _)) (by omega) HP.out (by omega) (by kernel_rfl) (by kernel_rfl) (by rfl)) ?_) | (go_at_call 18; (with_reducible refine (rpput_yes K HOK.out (HSO.out.RW.cov (Cov.nil _)) HWD.out (HSO.out.RP.cov (Cov.nil _))).mono ?_); clear K; rintro e w1 ⟨A3, c3, rfl, X3, O3, K⟩) | (at_builtin; refine wpList_does rfl (kd_appendN K _ _ rfl rfl rfl O Seg.auto ((RdS.own (w0 := w0) (L := X3) (xs := putS p) O3 (Seg.all X3)).at_ _ (K.cov Cov.auto)) (by kernel_rfl) (by kernel_rfl) (by omega)) ?_; clear K; rintro _ w1 ⟨A4, c4, X4, rfl, O4, K⟩; (try simp only [Nat.zero_add, List.nil_append] at O4)))
        replace O4 : OwnL 5 1 A4 (n2 + (9 + 32 * p.wn + p.pn)) c4 ((hs ++ ((l.take (i + 1)).map putS).flatten).map (Value.int .u8)) X4 := by rw [HT.out]; simpa using O4
        go_roundg (gk - 1)
        case measure => omega
        case rel => exact ⟨i + 1, A4, n2 + (9 + 32 * p.wn + p.pn), c4, X4, rfl, by go_num, by omega, by omega, HAL.out, O4, K.cov Cov.auto⟩
    · have h2 : ¬ (i : Int) < (n : Int) := by omega
      have htk : l.take i = l := List.take_of_length_le (by omega)
      rw [htk] at O hall
      have HW := Lib.hid (whole_all (h := hs) hall)
      clear htk hall
      go_wp2
      go_ret2
      exact ⟨A2, n2, c2, by rw [HW.out.1]; rfl, X2, by rw [HW.out.2]; exact O, K.cov Cov.auto⟩
end
end Go.Proofs.Ythbehlohdoajbaa
