/-
  journal: a writing and what it tells; equality of records; the statements' walks.
-/
import Derived.Test.YtokbloddaoakgaaJouE
import Derived.Test.YtokbloddaoakgaaOpenG
set_option linter.unusedVariables false
set_option linter.unusedSimpArgs false
namespace Go.Proofs.Ytokbloddaoakgaa
open Go.RowKit
theorem beN_succ_last : ∀ (k : Nat) (x : Int), 0 ≤ x → beN (k + 1) x = beN k (x / 256) ++ [x % 256]
  | 0, x, h => by simp [beN]
  | k + 1, x, h => by
    have e : (2 : Int) ^ (8 * (k + 1)) = 256 * 2 ^ (8 * k) := by rw [Nat.mul_add, Int.pow_add, Int.mul_comm]; rfl
    have ih := beN_succ_last k x h
    rw [beN, ih, beN, e, ← Int.ediv_ediv_of_nonneg (by omega)]
    rfl
theorem numL_beN : ∀ (k : Nat) (x : Int), 0 ≤ x → x < 256 ^ k → numL (beN k x) = x
  | 0, x, h, h2 => by simp at h2; simp [beN, numL]; omega
  | k + 1, x, h, h2 => by
    rw [beN_succ_last k x h, numL_snoc, numL_beN k (x / 256) (by omega) (by rw [Int.pow_succ] at h2; omega)]
    omega
theorem beN_numLn : ∀ (n : Nat) (l : List Int), l.length = n → (∀ c ∈ l, 0 ≤ c ∧ c ≤ 255) → beN n (numL l) = l
  | 0, l, hn, _ => by rw [List.eq_nil_of_length_eq_zero hn]; rfl
  | n + 1, l, hn, h => by
    rcases List.eq_nil_or_concat l with rfl | ⟨l, c, rfl⟩
    · simp at hn
    · have hc := h c (by simp)
      have hl : ∀ x ∈ l, 0 ≤ x ∧ x ≤ 255 := fun x hx => h x (by simp [hx])
      have hb := numL_bound l.length l (Nat.le_refl _) hl
      simp only [List.concat_eq_append, List.length_append, List.length_singleton] at hn ⊢
      rw [numL_snoc, beN_succ_last _ _ (by omega), show (numL l * 256 + c) / 256 = numL l by omega, show (numL l * 256 + c) % 256 = c by omega, beN_numLn n l (by omega) hl]
theorem beN_numL (l : List Int) (h : ∀ c ∈ l, 0 ≤ c ∧ c ≤ 255) : beN l.length (numL l) = l := beN_numLn _ l rfl h

theorem recW_take91 (r : Rec) (hm : r.man.length = 32) : (recW r).take 91 = recB r := by
  unfold recW
  rw [List.take_left' (recB_len r hm)]
theorem recW_cut0 (r : Rec) (hm : r.man.length = 32) : ((recW r).drop 0).take 4 = markL := by
  have e : recW r = ([]) ++ (markL ++ (beN 8 r.seq ++ [r.act] ++ beN 8 r.ver ++ beN 4 r.len ++ [r.st] ++ [r.md] ++ r.man ++ beN 8 r.nver ++ beN 4 r.nlen ++ beN 4 r.done ++ beN 8 r.pos ++ beN 4 r.blk ++ beN 4 r.asz ++ (shaL (recB r)).take 8)) := by simp only [recW, recB, List.append_assoc, List.append_nil, List.nil_append]
  rw [e, List.drop_left' (by simp [markL, beN_length, hm]), List.take_left' (by simp [beN_length, hm, markL, shaL_len])]
theorem recW_cut1 (r : Rec) (hm : r.man.length = 32) : ((recW r).drop 4).take 8 = beN 8 r.seq := by
  have e : recW r = (markL) ++ (beN 8 r.seq ++ ([r.act] ++ beN 8 r.ver ++ beN 4 r.len ++ [r.st] ++ [r.md] ++ r.man ++ beN 8 r.nver ++ beN 4 r.nlen ++ beN 4 r.done ++ beN 8 r.pos ++ beN 4 r.blk ++ beN 4 r.asz ++ (shaL (recB r)).take 8)) := by simp only [recW, recB, List.append_assoc, List.append_nil, List.nil_append]
  rw [e, List.drop_left' (by simp [markL, beN_length, hm]), List.take_left' (by simp [beN_length, hm, markL, shaL_len])]
theorem recW_cut2 (r : Rec) (hm : r.man.length = 32) : ((recW r).drop 12).take 1 = [r.act] := by
  have e : recW r = (markL ++ beN 8 r.seq) ++ ([r.act] ++ (beN 8 r.ver ++ beN 4 r.len ++ [r.st] ++ [r.md] ++ r.man ++ beN 8 r.nver ++ beN 4 r.nlen ++ beN 4 r.done ++ beN 8 r.pos ++ beN 4 r.blk ++ beN 4 r.asz ++ (shaL (recB r)).take 8)) := by simp only [recW, recB, List.append_assoc, List.append_nil, List.nil_append]
  rw [e, List.drop_left' (by simp [markL, beN_length, hm]), List.take_left' (by simp [beN_length, hm, markL, shaL_len])]
theorem recW_cut3 (r : Rec) (hm : r.man.length = 32) : ((recW r).drop 13).take 8 = beN 8 r.ver := by
  have e : recW r = (markL ++ beN 8 r.seq ++ [r.act]) ++ (beN 8 r.ver ++ (beN 4 r.len ++ [r.st] ++ [r.md] ++ r.man ++ beN 8 r.nver ++ beN 4 r.nlen ++ beN 4 r.done ++ beN 8 r.pos ++ beN 4 r.blk ++ beN 4 r.asz ++ (shaL (recB r)).take 8)) := by simp only [recW, recB, List.append_assoc, List.append_nil, List.nil_append]
  rw [e, List.drop_left' (by simp [markL, beN_length, hm]), List.take_left' (by simp [beN_length, hm, markL, shaL_len])]
theorem recW_cut4 (r : Rec) (hm : r.man.length = 32) : ((recW r).drop 21).take 4 = beN 4 r.len := by
  have e : recW r = (markL ++ beN 8 r.seq ++ [r.act] ++ beN 8 r.ver) ++ (beN 4 r.len ++ ([r.st] ++ [r.md] ++ r.man ++ beN 8 r.nver ++ beN 4 r.nlen ++ beN 4 r.done ++ beN 8 r.pos ++ beN 4 r.blk ++ beN 4 r.asz ++ (shaL (recB r)).take 8)) := by simp only [recW, recB, List.append_assoc, List.append_nil, List.nil_append]
  rw [e, List.drop_left' (by simp [markL, beN_length, hm]), List.take_left' (by simp [beN_length, hm, markL, shaL_len])]
theorem recW_cut5 (r : Rec) (hm : r.man.length = 32) : ((recW r).drop 25).take 1 = [r.st] := by
  have e : recW r = (markL ++ beN 8 r.seq ++ [r.act] ++ beN 8 r.ver ++ beN 4 r.len) ++ ([r.st] ++ ([r.md] ++ r.man ++ beN 8 r.nver ++ beN 4 r.nlen ++ beN 4 r.done ++ beN 8 r.pos ++ beN 4 r.blk ++ beN 4 r.asz ++ (shaL (recB r)).take 8)) := by simp only [recW, recB, List.append_assoc, List.append_nil, List.nil_append]
  rw [e, List.drop_left' (by simp [markL, beN_length, hm]), List.take_left' (by simp [beN_length, hm, markL, shaL_len])]
theorem recW_cut6 (r : Rec) (hm : r.man.length = 32) : ((recW r).drop 26).take 1 = [r.md] := by
  have e : recW r = (markL ++ beN 8 r.seq ++ [r.act] ++ beN 8 r.ver ++ beN 4 r.len ++ [r.st]) ++ ([r.md] ++ (r.man ++ beN 8 r.nver ++ beN 4 r.nlen ++ beN 4 r.done ++ beN 8 r.pos ++ beN 4 r.blk ++ beN 4 r.asz ++ (shaL (recB r)).take 8)) := by simp only [recW, recB, List.append_assoc, List.append_nil, List.nil_append]
  rw [e, List.drop_left' (by simp [markL, beN_length, hm]), List.take_left' (by simp [beN_length, hm, markL, shaL_len])]
theorem recW_cut7 (r : Rec) (hm : r.man.length = 32) : ((recW r).drop 27).take 32 = r.man := by
  have e : recW r = (markL ++ beN 8 r.seq ++ [r.act] ++ beN 8 r.ver ++ beN 4 r.len ++ [r.st] ++ [r.md]) ++ (r.man ++ (beN 8 r.nver ++ beN 4 r.nlen ++ beN 4 r.done ++ beN 8 r.pos ++ beN 4 r.blk ++ beN 4 r.asz ++ (shaL (recB r)).take 8)) := by simp only [recW, recB, List.append_assoc, List.append_nil, List.nil_append]
  rw [e, List.drop_left' (by simp [markL, beN_length, hm]), List.take_left' (by simp [beN_length, hm, markL, shaL_len])]
theorem recW_cut8 (r : Rec) (hm : r.man.length = 32) : ((recW r).drop 59).take 8 = beN 8 r.nver := by
  have e : recW r = (markL ++ beN 8 r.seq ++ [r.act] ++ beN 8 r.ver ++ beN 4 r.len ++ [r.st] ++ [r.md] ++ r.man) ++ (beN 8 r.nver ++ (beN 4 r.nlen ++ beN 4 r.done ++ beN 8 r.pos ++ beN 4 r.blk ++ beN 4 r.asz ++ (shaL (recB r)).take 8)) := by simp only [recW, recB, List.append_assoc, List.append_nil, List.nil_append]
  rw [e, List.drop_left' (by simp [markL, beN_length, hm]), List.take_left' (by simp [beN_length, hm, markL, shaL_len])]
theorem recW_cut9 (r : Rec) (hm : r.man.length = 32) : ((recW r).drop 67).take 4 = beN 4 r.nlen := by
  have e : recW r = (markL ++ beN 8 r.seq ++ [r.act] ++ beN 8 r.ver ++ beN 4 r.len ++ [r.st] ++ [r.md] ++ r.man ++ beN 8 r.nver) ++ (beN 4 r.nlen ++ (beN 4 r.done ++ beN 8 r.pos ++ beN 4 r.blk ++ beN 4 r.asz ++ (shaL (recB r)).take 8)) := by simp only [recW, recB, List.append_assoc, List.append_nil, List.nil_append]
  rw [e, List.drop_left' (by simp [markL, beN_length, hm]), List.take_left' (by simp [beN_length, hm, markL, shaL_len])]
theorem recW_cut10 (r : Rec) (hm : r.man.length = 32) : ((recW r).drop 71).take 4 = beN 4 r.done := by
  have e : recW r = (markL ++ beN 8 r.seq ++ [r.act] ++ beN 8 r.ver ++ beN 4 r.len ++ [r.st] ++ [r.md] ++ r.man ++ beN 8 r.nver ++ beN 4 r.nlen) ++ (beN 4 r.done ++ (beN 8 r.pos ++ beN 4 r.blk ++ beN 4 r.asz ++ (shaL (recB r)).take 8)) := by simp only [recW, recB, List.append_assoc, List.append_nil, List.nil_append]
  rw [e, List.drop_left' (by simp [markL, beN_length, hm]), List.take_left' (by simp [beN_length, hm, markL, shaL_len])]
theorem recW_cut11 (r : Rec) (hm : r.man.length = 32) : ((recW r).drop 75).take 8 = beN 8 r.pos := by
  have e : recW r = (markL ++ beN 8 r.seq ++ [r.act] ++ beN 8 r.ver ++ beN 4 r.len ++ [r.st] ++ [r.md] ++ r.man ++ beN 8 r.nver ++ beN 4 r.nlen ++ beN 4 r.done) ++ (beN 8 r.pos ++ (beN 4 r.blk ++ beN 4 r.asz ++ (shaL (recB r)).take 8)) := by simp only [recW, recB, List.append_assoc, List.append_nil, List.nil_append]
  rw [e, List.drop_left' (by simp [markL, beN_length, hm]), List.take_left' (by simp [beN_length, hm, markL, shaL_len])]
theorem recW_cut12 (r : Rec) (hm : r.man.length = 32) : ((recW r).drop 83).take 4 = beN 4 r.blk := by
  have e : recW r = (markL ++ beN 8 r.seq ++ [r.act] ++ beN 8 r.ver ++ beN 4 r.len ++ [r.st] ++ [r.md] ++ r.man ++ beN 8 r.nver ++ beN 4 r.nlen ++ beN 4 r.done ++ beN 8 r.pos) ++ (beN 4 r.blk ++ (beN 4 r.asz ++ (shaL (recB r)).take 8)) := by simp only [recW, recB, List.append_assoc, List.append_nil, List.nil_append]
  rw [e, List.drop_left' (by simp [markL, beN_length, hm]), List.take_left' (by simp [beN_length, hm, markL, shaL_len])]
theorem recW_cut13 (r : Rec) (hm : r.man.length = 32) : ((recW r).drop 87).take 4 = beN 4 r.asz := by
  have e : recW r = (markL ++ beN 8 r.seq ++ [r.act] ++ beN 8 r.ver ++ beN 4 r.len ++ [r.st] ++ [r.md] ++ r.man ++ beN 8 r.nver ++ beN 4 r.nlen ++ beN 4 r.done ++ beN 8 r.pos ++ beN 4 r.blk) ++ (beN 4 r.asz ++ ((shaL (recB r)).take 8)) := by simp only [recW, recB, List.append_assoc, List.append_nil, List.nil_append]
  rw [e, List.drop_left' (by simp [markL, beN_length, hm]), List.take_left' (by simp [beN_length, hm, markL, shaL_len])]
theorem recW_cut14 (r : Rec) (hm : r.man.length = 32) : ((recW r).drop 91).take 8 = (shaL (recB r)).take 8 := by
  have e : recW r = (markL ++ beN 8 r.seq ++ [r.act] ++ beN 8 r.ver ++ beN 4 r.len ++ [r.st] ++ [r.md] ++ r.man ++ beN 8 r.nver ++ beN 4 r.nlen ++ beN 4 r.done ++ beN 8 r.pos ++ beN 4 r.blk ++ beN 4 r.asz) ++ ((shaL (recB r)).take 8 ++ ([])) := by simp only [recW, recB, List.append_assoc, List.append_nil, List.nil_append]
  rw [e, List.drop_left' (by simp [markL, beN_length, hm]), List.take_left' (by simp [beN_length, hm, markL, shaL_len])]

theorem getD_cut {xs : List Int} {i : Nat} {x : Int} (h : (xs.drop i).take 1 = [x]) : xs.getD i 0 = x := by
  have h2 : ((xs.drop i).take 1)[0]? = some x := by rw [h]; rfl
  rw [List.getElem?_take_of_lt (by omega), List.getElem?_drop] at h2
  simpa [List.getD] using congrArg (·.getD 0) h2
theorem getRec_recW (r : Rec) (h : RecOk r) (hv : mayR r = true) : getRec (recW r) = r := by
  have hm := h.man
  rw [mayR_lt] at hv
  simp only [Bool.and_eq_true] at hv
  obtain ⟨_, _, _, v1, v2, v3, v4, v5⟩ := hv
  have e8 : (256 : Int) ^ 8 = 18446744073709551616 := by decide
  have e4 : (256 : Int) ^ 4 = 4294967296 := by decide
  have n8 : ∀ x : Int, 0 ≤ x ∧ x ≤ 18446744073709551615 → numL (beN 8 x) = x := fun x hx => numL_beN 8 x hx.1 (by omega)
  have n4 : ∀ x : Int, inR x = true → numL (beN 4 x) = x := fun x hx => by
    simp only [inR, Bool.and_eq_true, decide_eq_true_eq] at hx
    exact numL_beN 4 x hx.1 (by omega)
  obtain ⟨u1, u2, u3, u4⟩ := h.u64
  unfold getRec
  rw [recW_cut1 r hm, getD_cut (recW_cut2 r hm), recW_cut3 r hm, recW_cut4 r hm, getD_cut (recW_cut5 r hm), getD_cut (recW_cut6 r hm), recW_cut7 r hm, recW_cut8 r hm, recW_cut9 r hm, recW_cut10 r hm, recW_cut11 r hm, recW_cut12 r hm, recW_cut13 r hm,
    n8 _ u1, n8 _ u2, n8 _ u3, n8 _ u4, n4 _ v1, n4 _ v2, n4 _ v3, n4 _ v4, n4 _ v5]
theorem resG_recW (r : Rec) (h : RecOk r) (hv : mayR r = true) : resG (recW r) = (r, 0) := by
  have hm := h.man
  have h4 : (recW r).take 4 = markL := by have := recW_cut0 r hm; rwa [List.drop_zero] at this
  rw [resG, if_neg (by rw [recW_len r hm]; omega), if_neg (by rw [h4]; simp), if_neg (by rw [recW_take91 r hm, recW_cut14 r hm]; simp), getRec_recW r h hv, if_pos hv]
theorem recC_ext_man (r : Rec) (h : r.man.length = 32) : (recC r).extract 6 (6 + 32) = u8s r.man := by
  apply Array.ext'
  rw [Array.toList_extract]
  simpa [u8s, List.extract_eq_take_drop] using recC_man r h
def recEq (r s : Rec) : Bool := r.seq == s.seq && (r.act == s.act && (r.ver == s.ver && (r.len == s.len && (r.st == s.st && (r.md == s.md && (r.man == s.man && (r.nver == s.nver && (r.nlen == s.nlen && (r.done == s.done && (r.pos == s.pos && (r.blk == s.blk && (r.asz == s.asz && true))))))))))))
theorem recEq_iff (r s : Rec) : recEq r s = true ↔ r = s := by
  obtain ⟨a0, a1, a2, a3, a4, a5, a6, a7, a8, a9, a10, a11, a12⟩ := r
  obtain ⟨b0, b1, b2, b3, b4, b5, b6, b7, b8, b9, b10, b11, b12⟩ := s
  simp [recEq]
theorem recEq_self (r : Rec) : recEq r r = true := (recEq_iff r r).2 rfl
theorem eql_rec (r s : Rec) (hr : r.man.length = 32) (hs : s.man.length = 32) (w : World) : (binOp .eql 44 (.agg (recC r)) (.agg (recC s))).run Try.prog w = .ok (.bool (recEq r s)) w := by
  rw [run_eql_struct, eq_struct w (d := 9999) Try.underlying44 (by kernel_rfl) (r := recEq r s)]
  · rfl
  · unfold recEq
    refine eq_fields_cons w rfl (part_cell w (by kernel_rfl) (recC_0 _)) (part_cell w (by kernel_rfl) (recC_0 _)) (eq_int w _ _ _ _ Try.underlying40) ?_
    refine eq_fields_cons w rfl (part_cell w (by kernel_rfl) (recC_1 _)) (part_cell w (by kernel_rfl) (recC_1 _)) (eq_int w _ _ _ _ Try.underlying5) ?_
    refine eq_fields_cons w rfl (part_cell w (by kernel_rfl) (recC_2 _)) (part_cell w (by kernel_rfl) (recC_2 _)) (eq_int w _ _ _ _ Try.underlying40) ?_
    refine eq_fields_cons w rfl (part_cell w (by kernel_rfl) (recC_3 _)) (part_cell w (by kernel_rfl) (recC_3 _)) (eq_int w _ _ _ _ Try.underlying3) ?_
    refine eq_fields_cons w rfl (part_cell w (by kernel_rfl) (recC_4 _)) (part_cell w (by kernel_rfl) (recC_4 _)) (eq_int w _ _ _ _ Try.underlying5) ?_
    refine eq_fields_cons w rfl (part_cell w (by kernel_rfl) (recC_5 _)) (part_cell w (by kernel_rfl) (recC_5 _)) (eq_int w _ _ _ _ Try.underlying5) ?_
    refine eq_fields_cons w rfl (part_agg (n := 32) w (by kernel_rfl) (by kernel_rfl) (recC_ext_man r hr)) (part_agg (n := 32) w (by kernel_rfl) (by kernel_rfl) (recC_ext_man s hs)) (eq_u8s w _ 32 Try.underlying42 Try.underlying5 (sizeIs_run (by kernel_rfl) w) _ _ hr hs) ?_
    refine eq_fields_cons w rfl (part_cell w (by kernel_rfl) (recC_38 _ hr)) (part_cell w (by kernel_rfl) (recC_38 _ hs)) (eq_int w _ _ _ _ Try.underlying40) ?_
    refine eq_fields_cons w rfl (part_cell w (by kernel_rfl) (recC_39 _ hr)) (part_cell w (by kernel_rfl) (recC_39 _ hs)) (eq_int w _ _ _ _ Try.underlying3) ?_
    refine eq_fields_cons w rfl (part_cell w (by kernel_rfl) (recC_40 _ hr)) (part_cell w (by kernel_rfl) (recC_40 _ hs)) (eq_int w _ _ _ _ Try.underlying3) ?_
    refine eq_fields_cons w rfl (part_cell w (by kernel_rfl) (recC_41 _ hr)) (part_cell w (by kernel_rfl) (recC_41 _ hs)) (eq_int w _ _ _ _ Try.underlying40) ?_
    refine eq_fields_cons w rfl (part_cell w (by kernel_rfl) (recC_42 _ hr)) (part_cell w (by kernel_rfl) (recC_42 _ hs)) (eq_int w _ _ _ _ Try.underlying3) ?_
    refine eq_fields_cons w rfl (part_cell w (by kernel_rfl) (recC_43 _ hr)) (part_cell w (by kernel_rfl) (recC_43 _ hs)) (eq_int w _ _ _ _ Try.underlying3) ?_

    exact eq_fields_nil w
end Go.Proofs.Ytokbloddaoakgaa
