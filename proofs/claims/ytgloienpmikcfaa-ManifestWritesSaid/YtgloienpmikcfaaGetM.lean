/-
  A manifest's bytes and what they tell (plain mathematics).
-/
import Derived.Test.YtgloienpmikcfaaGetD
set_option linter.unusedVariables false
set_option linter.unusedSimpArgs false
namespace Go.Proofs.Ytgloienpmikcfaa
open Go.RowKit
theorem beN_succ_last : ∀ (k : Nat) (x : Int), 0 ≤ x → beN (k + 1) x = beN k (x / 256) ++ [x % 256]
  | 0, x, h => by simp [beN]
  | k + 1, x, h => by
    have e : (2 : Int) ^ (8 * (k + 1)) = 256 * 2 ^ (8 * k) := by rw [Nat.mul_add, Int.pow_add, Int.mul_comm]; rfl
    have ih := beN_succ_last k x h
    rw [beN, ih, beN, e, ← Int.ediv_ediv_of_nonneg (by omega)]
    rfl
theorem numL_beN : ∀ (k : Nat) (x : Int), 0 ≤ x → x < 256 ^ k → numL (beN k x) = x
  | 0, x, h, h2 => by simp at h2; simp [beN, numL]; omega
  | k + 1, x, h, h2 => by
    rw [beN_succ_last k x h, numL_snoc, numL_beN k (x / 256) (by omega) (by rw [Int.pow_succ] at h2; omega)]
    omega
theorem beN_numLn : ∀ (n : Nat) (l : List Int), l.length = n → (∀ c ∈ l, 0 ≤ c ∧ c ≤ 255) → beN n (numL l) = l
  | 0, l, hn, _ => by rw [List.eq_nil_of_length_eq_zero hn]; rfl
  | n + 1, l, hn, h => by
    rcases List.eq_nil_or_concat l with rfl | ⟨l, c, rfl⟩
    · simp at hn
    · have hc := h c (by simp)
      have hl : ∀ x ∈ l, 0 ≤ x ∧ x ≤ 255 := fun x hx => h x (by simp [hx])
      have hb := numL_bound l.length l (Nat.le_refl _) hl
      simp only [List.concat_eq_append, List.length_append, List.length_singleton] at hn ⊢
      rw [numL_snoc, beN_succ_last _ _ (by omega), show (numL l * 256 + c) / 256 = numL l by omega, show (numL l * 256 + c) % 256 = c by omega, beN_numLn n l (by omega) hl]
theorem beN_numL (l : List Int) (h : ∀ c ∈ l, 0 ≤ c ∧ c ≤ 255) : beN l.length (numL l) = l := beN_numLn _ l rfl h
theorem beN_byte : ∀ (k : Nat) (x : Int), ∀ c ∈ beN k x, 0 ≤ c ∧ c ≤ 255
  | 0, x, c, h => by simp [beN] at h
  | k + 1, x, c, h => by
    rw [beN, List.mem_cons] at h
    rcases h with rfl | h
    · omega
    · exact beN_byte k x c h
theorem ordL_ordB : ∀ xs : List Int, (∀ x ∈ xs, 0 ≤ x ∧ x < 65536) → ordL (ordB xs) = xs
  | [], _ => rfl
  | x :: xs, h => by
    have hx := h x (List.mem_cons_self ..)
    rw [ordB, ordL, ordL_ordB xs (fun y hy => h y (List.mem_cons_of_mem _ hy))]
    congr 1
    omega
theorem ordB_ordL : ∀ l : List Int, (∀ c ∈ l, 0 ≤ c ∧ c ≤ 255) → l.length = 2 * (ordL l).length → ordB (ordL l) = l
  | [], _, _ => rfl
  | [a], _, h => by simp [ordL] at h
  | a :: b :: l, hb, h => by
    have ha := hb a (by simp)
    have hbb := hb b (by simp)
    rw [ordL, ordB, ordB_ordL l (fun c hc => hb c (by simp [hc])) (by simp [ordL] at h; omega)]
    have e1 : (a * 256 + b) / 256 % 256 = a := by omega
    have e2 : (a * 256 + b) % 256 = b := by omega
    rw [e1, e2]
theorem ordB_byte : ∀ xs : List Int, ∀ c ∈ ordB xs, 0 ≤ c ∧ c ≤ 255
  | [], c, h => by simp [ordB] at h
  | x :: xs, c, h => by
    rw [ordB, List.mem_cons, List.mem_cons] at h
    rcases h with rfl | rfl | h
    · omega
    · omega
    · exact ordB_byte xs c h
/-- the head is read off the bytes -/
theorem head_parse (mode ver blk ol nl : Int) (D xs : List Int) (hD : D.length = 96) :
    let b := mbytes mode ver blk ol nl D xs
    b.getD 0 0 = 1 ∧ b.getD 1 0 = mode ∧ (b.drop 2).take 8 = beN 8 ver ∧ (b.drop 10).take 4 = beN 4 blk ∧ (b.drop 14).take 4 = beN 4 ol ∧ (b.drop 18).take 4 = beN 4 nl ∧ (b.drop 22).take 96 = D ∧ b.drop 118 = ordB xs := by
  have l8 := beN_length 8 ver
  have l4 := beN_length 4 blk
  have l5 := beN_length 4 ol
  have l6 := beN_length 4 nl
  have hd : D.take 32 ++ ((D.drop 32).take 32 ++ (D.drop 64).take 32) = D := by
    have h1 : D.drop 64 = (D.drop 64).take 32 := by rw [List.take_of_length_le (by simp [hD])]
    have h2 : D.drop 32 = (D.drop 32).take 32 ++ D.drop 64 := by
      have := (List.take_append_drop 32 (D.drop 32)).symm
      simpa [List.drop_drop] using this
    rw [← h1, ← h2, List.take_append_drop]
  have hb : mbytes mode ver blk ol nl D xs = 1 :: mode :: (beN 8 ver ++ (beN 4 blk ++ (beN 4 ol ++ (beN 4 nl ++ (D ++ ordB xs))))) := by
    rw [mbytes, headB]
    conv => rhs; rw [← hd]
    simp
  simp only [hb]
  have dr : ∀ (a r : List Int) (k j : Nat), a.length = k → (a ++ r).drop (k + j) = r.drop j := fun a r k j h => by
    rw [List.drop_append, h, List.drop_eq_nil_of_le (by omega)]; simp
  have tk : ∀ (a r : List Int) (k : Nat), a.length = k → (a ++ r).take k = a := fun a r k h => by rw [← h]; simp
  refine ⟨rfl, rfl, ?_, ?_, ?_, ?_, ?_, ?_⟩
  · simp only [List.drop_succ_cons, List.drop_zero]; exact tk _ _ _ l8
  · simp only [List.drop_succ_cons]; rw [dr _ _ 8 0 l8, List.drop_zero]; exact tk _ _ _ l4
  · simp only [List.drop_succ_cons]; rw [show 12 = 8 + 4 by rfl, dr _ _ 8 4 l8, show 4 = 4 + 0 by rfl, dr _ _ 4 0 l4, List.drop_zero]; exact tk _ _ _ l5
  · simp only [List.drop_succ_cons]; rw [show 16 = 8 + 8 by rfl, dr _ _ 8 8 l8, show 8 = 4 + 4 by rfl, dr _ _ 4 4 l4, show 4 = 4 + 0 by rfl, dr _ _ 4 0 l5, List.drop_zero]; exact tk _ _ _ l6
  · simp only [List.drop_succ_cons]; rw [show 20 = 8 + 12 by rfl, dr _ _ 8 12 l8, show 12 = 4 + 8 by rfl, dr _ _ 4 8 l4, show 8 = 4 + 4 by rfl, dr _ _ 4 4 l5, show 4 = 4 + 0 by rfl, dr _ _ 4 0 l6, List.drop_zero]; exact tk _ _ _ hD
  · simp only [List.drop_succ_cons]; rw [show 116 = 8 + 108 by rfl, dr _ _ 8 108 l8, show 108 = 4 + 104 by rfl, dr _ _ 4 104 l4, show 104 = 4 + 100 by rfl, dr _ _ 4 100 l5, show 100 = 4 + 96 by rfl, dr _ _ 4 96 l6, show 96 = 96 + 0 by rfl, dr _ _ 96 0 hD, List.drop_zero]
theorem mayM_mode {mode blk ol nl : Int} {D xs : List Int} (h : mayM mode blk ol nl D xs = true) (hm : mode ≠ 2) : xs = [] := by
  simp only [mayM, Bool.and_eq_true, if_neg hm] at h
  have h4 := h.2.2.2
  split at h4
  · simp only [Bool.and_eq_true, decide_eq_true_eq] at h4; exact List.eq_nil_of_length_eq_zero h4.1
  · simp only [Bool.and_eq_true, decide_eq_true_eq] at h4; exact List.eq_nil_of_length_eq_zero h4.2
/-- a manifest that may be is read off its bytes -/
theorem parse_ok (mode ver blk ol nl : Int) (D xs : List Int) (hD : D.length = 96) (hv : mayM mode blk ol nl D xs = true) (h0 : 0 ≤ ver) (h1 : ver ≤ 18446744073709551615) :
    let b := mbytes mode ver blk ol nl D xs
    getOK b = true ∧ b.getD 1 0 = mode ∧ numL ((b.drop 2).take 8) = ver ∧ numL ((b.drop 10).take 4) = blk ∧ numL ((b.drop 14).take 4) = ol ∧ numL ((b.drop 18).take 4) = nl ∧ (b.drop 22).take 96 = D ∧ getO b = xs := by
  have hp := head_parse mode ver blk ol nl D xs hD
  obtain ⟨b1, b2, b3, b4, b5, b6, b7⟩ := mayM_bounds hv
  simp only at hp ⊢
  obtain ⟨p0, p1, p2, p3, p4, p5, p6, p7⟩ := hp
  have n8 := numL_beN 8 ver h0 (by have : (256 : Int) ^ 8 = 18446744073709551616 := by decide
                                   omega)
  have e4 : (256 : Int) ^ 4 = 4294967296 := by decide
  have n4 := numL_beN 4 blk (by omega) (by omega)
  have n5 := numL_beN 4 ol (by omega) (by omega)
  have n6 := numL_beN 4 nl (by omega) (by omega)
  have ho : getO (mbytes mode ver blk ol nl D xs) = xs := by
    rw [getO, p1, p7]
    split
    · exact ordL_ordB xs (fun x hx => by have := (mayM_order hv).2 x hx; omega)
    · rw [mayM_mode hv (by assumption)]
  refine ⟨?_, p1, by rw [p2, n8], by rw [p3, n4], by rw [p4, n5], by rw [p5, n6], p6, ho⟩
  rw [getOK, ho, p0, p1, p3, p4, p5, p6, p7, n4, n5, n6, hv, ordB_length]
  simp
/-- whether the bytes are a manifest's: it is put as they stand -/
theorem getOK_iff (b : List Int) (hb : ∀ c ∈ b, 0 ≤ c ∧ c ≤ 255) (hl : 118 ≤ b.length) (mode ver blk ol nl : Int) (D xs : List Int) (h1 : b.getD 1 0 = mode) (h2 : numL ((b.drop 2).take 8) = ver) (h3 : numL ((b.drop 10).take 4) = blk)
    (h4 : numL ((b.drop 14).take 4) = ol) (h5 : numL ((b.drop 18).take 4) = nl) (h6 : (b.drop 22).take 96 = D) (h7 : getO b = xs) :
    getOK b = true ↔ mayM mode blk ol nl D xs = true ∧ mbytes mode ver blk ol nl D xs = b := by
  have hD : D.length = 96 := by rw [← h6]; simp; omega
  have hp := head_parse mode ver blk ol nl D xs hD
  simp only at hp
  obtain ⟨p0, p1, p2, p3, p4, p5, p6, p7⟩ := hp
  rw [getOK, h1, h3, h4, h5, h6, h7]
  simp only [Bool.and_eq_true, decide_eq_true_eq]
  constructor
  · rintro ⟨q0, q1, q2⟩
    refine ⟨q2, ?_⟩
    have hbb : ∀ i k, ∀ c ∈ (b.drop i).take k, 0 ≤ c ∧ c ≤ 255 := fun i k c h => hb c (List.mem_of_mem_drop (List.mem_of_mem_take h))
    have n8 := beN_numL _ (hbb 2 8)
    have n4 := beN_numL _ (hbb 10 4)
    have n5 := beN_numL _ (hbb 14 4)
    have n6 := beN_numL _ (hbb 18 4)
    rw [show ((b.drop 2).take 8).length = 8 by simp; omega, h2] at n8
    rw [show ((b.drop 10).take 4).length = 4 by simp; omega, h3] at n4
    rw [show ((b.drop 14).take 4).length = 4 by simp; omega, h4] at n5
    rw [show ((b.drop 18).take 4).length = 4 by simp; omega, h5] at n6
    have no : ordB xs = b.drop 118 := by
      by_cases hm : mode = 2
      · rw [getO, h1, if_pos hm] at h7
        rw [← h7]
        refine ordB_ordL _ (fun c hc => hb c (List.mem_of_mem_drop hc)) ?_
        rw [h7]; exact q1
      · rw [getO, h1, if_neg hm] at h7
        rw [← h7] at q1 ⊢
        exact (List.eq_nil_of_length_eq_zero (by simpa using q1)).symm
    have key : ∀ a : List Int, 118 ≤ a.length → a = a.getD 0 0 :: a.getD 1 0 :: ((a.drop 2).take 8 ++ ((a.drop 10).take 4 ++ ((a.drop 14).take 4 ++ ((a.drop 18).take 4 ++ ((a.drop 22).take 96 ++ a.drop 118))))) := by
      intro a ha
      match a, ha with
      | x :: y :: a, ha =>
        simp only [List.getD_cons_zero, List.getD_cons_succ, List.drop_succ_cons, List.drop_zero]
        congr 2
        have st : ∀ i k, a.drop i = (a.drop i).take k ++ a.drop (i + k) := fun i k => by
          have := (List.take_append_drop k (a.drop i)).symm
          simpa [List.drop_drop] using this
        conv => lhs; rw [show a = a.drop 0 by simp, st 0 8, st 8 4, st 12 4, st 16 4, st 20 96]
        simp
    have hml : 118 ≤ (mbytes mode ver blk ol nl D xs).length := by
      have := congrArg List.length p6
      simp [hD] at this
      omega
    rw [key _ hml, key b hl, p0, p1, p2, p3, p4, p5, p6, p7, q0, h1, n8, n4, n5, n6, h6, no]
  · rintro ⟨q1, q2⟩
    rw [q2] at p0 p7
    exact ⟨p0, by rw [p7, ordB_length], q1⟩
end Go.Proofs.Ytgloienpmikcfaa
