/-
  part: what a device holds as a row of bytes (plain law).
-/
import Derived.Test.YtokbloddaoakgaaPrtC
set_option linter.unusedVariables false
set_option linter.unusedSimpArgs false
namespace Go.Proofs.Ytokbloddaoakgaa
open Go.RowKit
def rng (f : Nat → Int) (a n : Nat) : List Int := (List.range n).map fun x => f (a + x)
@[simp] theorem rng_len (f : Nat → Int) (a n : Nat) : (rng f a n).length = n := by simp [rng]
theorem rng_get {f : Nat → Int} {a n x : Nat} (h : x < (rng f a n).length) : (rng f a n)[x] = f (a + x) := by simp [rng]
theorem rng_cut (f : Nat → Int) (a n r m : Nat) : ((rng f a n).drop r).take m = rng f (a + r) (min m (n - r)) := by
  apply List.ext_getElem
  · simp
  · intro x h1 h2
    simp [rng, Nat.add_assoc]
theorem rng_app (f : Nat → Int) (a m n : Nat) : rng f a m ++ rng f (a + m) n = rng f a (m + n) := by
  simp [rng, List.range_add, Nat.add_assoc, Function.comp_def]
theorem rng_congr {f g : Nat → Int} {a n : Nat} (h : ∀ x, x < n → f (a + x) = g (a + x)) : rng f a n = rng g a n := by
  apply List.map_congr_left
  intro x hx
  exact h x (by simpa using hx)
/-- the device is on and holds these bytes -/
structure Flat (D : Dev) (f : Nat → Int) : Prop where mk ::
  (on : D.off = false) (fuse : D.fuse = -1) (rd : ∀ j : Nat, j < D.count → dread D j = (rng f (j * D.size) D.size, 0))
theorem Flat.congr {D : Dev} {f g : Nat → Int} (h : Flat D f) (hfg : ∀ p, p < D.count * D.size → f p = g p) : Flat D g :=
  ⟨h.on, h.fuse, fun j hj => by
    rw [h.rd j hj, rng_congr]
    intro x hx
    apply hfg
    have := Nat.mul_le_mul_right D.size (show j + 1 ≤ D.count from hj)
    rw [Nat.add_mul] at this
    omega⟩
theorem flat_new (size count : Nat) : Flat (Dev.new size count) (fun _ => 0) :=
  ⟨rfl, rfl, fun j hj => by
    have h0 : dmay (Dev.new size count) j = 0 := by simp [dmay, Dev.new]; simpa [Dev.new] using hj
    have h1 : dface (Dev.new size count) j = none := rfl
    simp only [dread, h0, h1]
    simp [rng, Dev.new, List.map_const']⟩
theorem dwrite_flat {D : Dev} {f : Nat → Int} (h : Flat D f) (i : Nat) (hi : i < D.count) {b : List Int} (hb : b.length = D.size) :
    (dwrite D i b).1 = 0 ∧ Flat (dwrite D i b).2 (fun p => if i * D.size ≤ p ∧ p < i * D.size + D.size then b.getD (p - i * D.size) 0 else f p) := by
  have hm : dmay D i = 0 := by simp [dmay, h.on]; omega
  have he : dwrite D i b = (0, { dput D i b with fuse := if 0 < D.fuse then D.fuse - 1 else D.fuse, writes := D.writes + 1 }) := by
    unfold dwrite
    rw [if_neg (by simp [hm]), if_neg (by simp [hb]), if_neg (by rw [h.fuse]; decide)]
  rw [he]
  refine ⟨rfl, h.on, ?_, fun j hj => ?_⟩
  · simp [dput, h.fuse]
  · have hj2 : j < D.count := hj
    have hr := h.rd j hj2
    unfold dread at hr ⊢
    have hmj : dmay D j = 0 := by simp [dmay, h.on]; omega
    have hm2 : dmay { dput D i b with fuse := if 0 < D.fuse then D.fuse - 1 else D.fuse, writes := D.writes + 1 } j = 0 := by simp [dmay, dput, h.on]; omega
    rw [if_neg (by simp [hmj])] at hr
    rw [if_neg (by simp [hm2])]
    have hf : dface { dput D i b with fuse := if 0 < D.fuse then D.fuse - 1 else D.fuse, writes := D.writes + 1 } j = if j = i then some ⟨b, false⟩ else dface D j := by
      simp only [dface, dput, afind_put]
      by_cases e : j = i
      · simp [e]
      · rw [if_neg e, if_neg (by omega)]
    rw [hf]
    by_cases e : j = i
    · subst e
      rw [if_pos rfl]
      simp only [Bool.false_eq_true, if_false, dput]
      congr 1
      apply List.ext_getElem
      · simp [hb]
      · intro x h1 h2
        rw [rng_get, if_pos (by rw [rng_len] at h2; omega)]
        simp [List.getD, h1]
    · rw [if_neg e]
      have key : rng (fun p => if i * D.size ≤ p ∧ p < i * D.size + D.size then b.getD (p - i * D.size) 0 else f p) (j * D.size) D.size = rng f (j * D.size) D.size := by
        apply rng_congr
        intro x hx
        rw [if_neg]
        rcases Nat.lt_or_gt_of_ne e with h1 | h1
        · have := Nat.mul_le_mul_right D.size (show j + 1 ≤ i from h1)
          rw [Nat.add_mul] at this
          omega
        · have := Nat.mul_le_mul_right D.size (show i + 1 ≤ j from h1)
          rw [Nat.add_mul] at this
          omega
      simp only [dput] at key ⊢
      rw [key]
      exact hr
/-- to the end of the last sector -/
def upto (s n : Nat) : Nat := (n + s - 1) / s * s
theorem upto_zero {s : Nat} (h : 0 < s) : upto s 0 = 0 := by
  unfold upto
  rw [Nat.div_eq_of_lt (by omega), Nat.zero_mul]
theorem upto_small {s n : Nat} (h : 0 < n) (h2 : n ≤ s) : upto s n = s := by
  unfold upto
  rw [show n + s - 1 = (n - 1) + s by omega, Nat.add_div_right _ (by omega), Nat.div_eq_of_lt (by omega)]
  omega
theorem upto_big {s n : Nat} (h0 : 0 < s) (h : s ≤ n) : upto s n = upto s (n - s) + s := by
  unfold upto
  rw [show n + s - 1 = (n - s + s - 1) + s by omega, Nat.add_div_right _ (by omega), Nat.succ_mul]
theorem upto_ge {s : Nat} (h0 : 0 < s) (n : Nat) : n ≤ upto s n := by
  unfold upto
  have h1 := Nat.div_add_mod (n + s - 1) s
  have h2 := Nat.mod_lt (n + s - 1) h0
  rw [Nat.mul_comm] at h1
  omega
theorem upto_le {s n m : Nat} (h0 : 0 < s) (h : n ≤ m * s) : upto s n ≤ m * s := by
  unfold upto
  apply Nat.mul_le_mul_right
  apply Nat.le_of_lt_succ
  rw [Nat.div_lt_iff_lt_mul h0, Nat.succ_mul]
  omega
theorem zpad_getD (s : Nat) (bs : List Int) (x : Nat) (h : x < s) : (zpad s bs).getD x 0 = bs.getD x 0 := by
  unfold zpad
  by_cases hx : x < bs.length
  · simp only [List.getD, List.getElem?_append, List.length_take]
    rw [if_pos (by omega), List.getElem?_take, if_pos h]
  · simp only [List.getD, List.getElem?_append, List.length_take]
    rw [if_neg (by omega), List.getElem?_eq_none (l := bs) (by omega), List.getElem?_replicate]
    split <;> rfl
theorem getD_dropp (bs : List Int) (s x : Nat) : (bs.drop s).getD x 0 = bs.getD (s + x) 0 := by
  simp [List.getD, List.getElem?_drop]
theorem pwl_flat : ∀ (k : Nat) {D : Dev} {f : Nat → Int} (i : Nat) (bs : List Int), 0 < D.size → Flat D f → bs.length ≤ k → i * D.size + bs.length ≤ D.count * D.size →
    (pwl k D i bs).1 = 0 ∧ (pwl k D i bs).2.size = D.size ∧ (pwl k D i bs).2.count = D.count ∧ Flat (pwl k D i bs).2 (fun p => if i * D.size ≤ p ∧ p < i * D.size + upto D.size bs.length then bs.getD (p - i * D.size) 0 else f p)
  | 0, D, f, i, bs, hs0, h, hk, hb => by
    have e : bs = [] := List.eq_nil_of_length_eq_zero (by omega)
    subst e
    refine ⟨rfl, rfl, rfl, h.congr fun p hp => ?_⟩
    simp only [List.length_nil, upto_zero hs0]
    rw [if_neg (by omega)]
  | k + 1, D, f, i, bs, hs0, h, hk, hb => by
    by_cases e : bs = []
    · subst e
      rw [pwl_nil]
      refine ⟨rfl, rfl, rfl, h.congr fun p hp => ?_⟩
      simp only [List.length_nil, upto_zero hs0]
      rw [if_neg (by omega)]
    · have hl : 0 < bs.length := List.length_pos_iff.2 e
      have hi : i < D.count := by
        apply Nat.lt_of_mul_lt_mul_right (a := D.size)
        omega
      obtain ⟨h1, h2⟩ := dwrite_flat h i hi (zpad_len D.size bs)
      have hsame := dwrite_same D i (zpad D.size bs)
      rw [pwl, if_neg e, if_neg (by simp [h1])]
      have ei : (i : Int) + 1 = ((i + 1 : Nat) : Int) := by omega
      rw [ei]
      generalize dwrite D i (zpad D.size bs) = r at h1 h2 hsame ⊢
      obtain ⟨e1, e2⟩ := hsame
      have hms := Nat.succ_mul i D.size
      have hmc := Nat.mul_le_mul_right D.size (show i + 1 ≤ D.count from hi)
      obtain ⟨g1, g2, g3, g4⟩ := pwl_flat k (D := r.2) (i + 1) (bs.drop D.size) (by omega) h2 (by rw [List.length_drop]; omega) (by
        rw [e1, e2, List.length_drop]
        simp only [Nat.succ_mul] at *
        omega)
      refine ⟨g1, by omega, by omega, g4.congr fun p hp => ?_⟩
      rw [e1, List.length_drop]
      simp only [Nat.succ_mul] at *
      have hu : upto D.size bs.length = D.size + upto D.size (bs.length - D.size) := by
        rcases Nat.le_total D.size bs.length with hle | hle
        · rw [upto_big hs0 hle]; omega
        · rw [upto_small hl hle, Nat.sub_eq_zero_of_le hle, upto_zero hs0]; omega
      rw [hu, getD_dropp]
      by_cases c1 : i * D.size ≤ p
      · by_cases c2 : p < i * D.size + D.size
        · rw [if_neg (by omega), if_pos (by omega), if_pos (by omega), zpad_getD _ _ _ (by omega)]
        · by_cases c3 : p < i * D.size + D.size + upto D.size (bs.length - D.size)
          · rw [if_pos (by omega), if_pos (by omega)]
            congr 1
            omega
          · rw [if_neg (by omega), if_neg (by omega), if_neg (by omega)]
      · rw [if_neg (by omega), if_neg (by omega), if_neg (by omega)]
theorem prl_flat : ∀ (k : Nat) {D : Dev} {f : Nat → Int} (a need : Nat) (acc : List Int), 0 < D.size → Flat D f → need ≤ k → a + need ≤ D.count * D.size →
    prl k D 0 a need acc = (acc ++ rng f a need, 0)
  | 0, D, f, a, need, acc, hs0, h, hk, hb => by
    have e : need = 0 := by omega
    subst e
    simp [prl, rng]
  | k + 1, D, f, a, need, acc, hs0, h, hk, hb => by
    by_cases e : need = 0
    · subst e
      simp [prl, rng]
    · have hq : a / D.size < D.count := (Nat.div_lt_iff_lt_mul hs0).2 (by omega)
      have eq : (0 : Int) + (a : Int) / (D.size : Int) = ((a / D.size : Nat) : Int) := by rw [Int.zero_add]; exact (Int.natCast_ediv ..).symm
      have em : ((a : Int) % (D.size : Int)).toNat = a % D.size := by rw [← Int.natCast_emod]; rfl
      have hr := Nat.mod_lt a hs0
      have hdm := Nat.div_add_mod a D.size
      rw [Nat.mul_comm] at hdm
      rw [prl, if_neg e, eq, h.rd _ hq, if_neg (by simp), em, rng_cut]
      simp only [rng_len]
      rw [hdm, show (a : Int) + ((min need (D.size - a % D.size) : Nat) : Int) = ((a + min need (D.size - a % D.size) : Nat) : Int) by omega,
        prl_flat k (a + min need (D.size - a % D.size)) (need - min need (D.size - a % D.size)) _ hs0 h (by omega) (by omega), List.append_assoc, rng_app]
      congr 3
      omega
/-- all of the device written with 201 -/
theorem fill_flat {D : Dev} {f : Nat → Int} (hs0 : 0 < D.size) (h : Flat D f) : (pwrite D 0 D.count 0 (List.replicate (D.size * D.count) 201)).1 = 0 ∧ (pwrite D 0 D.count 0 (List.replicate (D.size * D.count) 201)).2.size = D.size ∧
    (pwrite D 0 D.count 0 (List.replicate (D.size * D.count) 201)).2.count = D.count ∧ Flat (pwrite D 0 D.count 0 (List.replicate (D.size * D.count) 201)).2 (fun _ => 201) := by
  have hc : ((D.size * D.count : Nat) : Int) = (D.count : Int) * (D.size : Int) := by rw [Nat.mul_comm, Int.natCast_mul]
  have h0 : (0 : Int) ≤ (D.count : Int) * (D.size : Int) := by rw [← hc]; omega
  have hf : fitsB ((D.count : Int) * (D.size : Int)) 0 (List.replicate (D.size * D.count) (201 : Int)).length = true := by
    rw [List.length_replicate, hc]
    simp [fitsB, h0]
  rw [pwrite, if_neg (by simp), hf, if_neg (by simp), Int.zero_ediv, Int.zero_add]
  obtain ⟨h1, h2, h3, h4⟩ := pwl_flat (List.replicate (D.size * D.count) (201 : Int)).length 0 (List.replicate (D.size * D.count) 201) hs0 h (Nat.le_refl _) (by rw [List.length_replicate, Nat.zero_mul, Nat.zero_add, Nat.mul_comm]; exact Nat.le_refl _)
  refine ⟨h1, h2, h3, h4.congr fun p hp => ?_⟩
  rw [h2, h3] at hp
  have hu := upto_ge hs0 (List.replicate (D.size * D.count) (201 : Int)).length
  rw [Nat.mul_comm] at hp
  rw [List.length_replicate] at hu
  simp only [List.length_replicate, Nat.zero_mul, Nat.zero_add, Nat.sub_zero, List.getD, List.getElem?_replicate]
  rw [if_pos ⟨Nat.zero_le _, by omega⟩, if_pos hp]
  rfl
/-- a row written into a part of a device full of 201 -/
theorem back_flat {D : Dev} (hs0 : 0 < D.size) (h : Flat D (fun _ => 201)) {first count at_ : Int} (hon : onR D.count first count = true) (bs : List Int) :
    ((pwrite D first count at_ bs).1 ≠ 0 ∧ (pwrite D first count at_ bs).2 = D) ∨
    (∃ p0 : Nat, first * D.size + at_ = p0 ∧ p0 + upto D.size bs.length ≤ D.count * D.size ∧ (pwrite D first count at_ bs).1 = 0 ∧ (pwrite D first count at_ bs).2.size = D.size ∧ (pwrite D first count at_ bs).2.count = D.count ∧
      Flat (pwrite D first count at_ bs).2 (fun p => if p0 ≤ p ∧ p < p0 + upto D.size bs.length then bs.getD (p - p0) 0 else 201)) := by
  unfold pwrite
  by_cases h1 : Int.tmod at_ D.size = 0
  · rw [if_neg (by simp [h1])]
    by_cases h2 : fitsB (count * D.size) at_ bs.length = true
    · right
      rw [h2, if_neg (by simp)]
      simp only [fitsB, Bool.and_eq_true, decide_eq_true_eq] at h2
      obtain ⟨f1, f2, f3, f4⟩ := h2
      simp only [onR, Bool.and_eq_true, decide_eq_true_eq] at hon
      obtain ⟨o1, o2, o3, o4⟩ := hon
      obtain ⟨F, rfl⟩ := Int.eq_ofNat_of_zero_le o1
      obtain ⟨C, rfl⟩ := Int.eq_ofNat_of_zero_le (show 0 ≤ count by omega)
      obtain ⟨a, rfl⟩ := Int.eq_ofNat_of_zero_le f1
      rw [Int.tmod_eq_emod_of_nonneg f1, ← Int.natCast_emod] at h1
      have hm : a % D.size = 0 := by omega
      have hdm := Nat.div_add_mod a D.size
      rw [hm, Nat.add_zero, Nat.mul_comm] at hdm
      rw [← Int.natCast_mul] at f3 f4
      have eq : ((F : Nat) : Int) + (a : Int) / (D.size : Int) = ((F + a / D.size : Nat) : Int) := by rw [← Int.natCast_ediv]; omega
      have hFC : (F + C) * D.size ≤ D.count * D.size := Nat.mul_le_mul_right _ (by omega)
      rw [Nat.add_mul] at hFC
      have hp0 : (F + a / D.size) * D.size = F * D.size + a := by rw [Nat.add_mul, hdm]
      have hq : a / D.size + (bs.length + D.size - 1) / D.size ≤ C := by
        have := upto_le (n := a + bs.length) (m := C) hs0 (by omega)
        unfold upto at this
        rw [show a + bs.length + D.size - 1 = (bs.length + D.size - 1) + (a / D.size) * D.size by omega, Nat.add_mul_div_right _ _ hs0] at this
        have := Nat.le_of_mul_le_mul_right this hs0
        omega
      have hq2 := Nat.mul_le_mul_right D.size hq
      rw [Nat.add_mul, hdm] at hq2
      rw [eq]
      obtain ⟨g1, g2, g3, g4⟩ := pwl_flat bs.length (F + a / D.size) bs hs0 h (Nat.le_refl _) (by rw [hp0]; omega)
      rw [hp0] at g4
      refine ⟨F * D.size + a, by rw [Int.natCast_add, Int.natCast_mul], ?_, g1, g2, g3, g4⟩
      unfold upto
      omega
    · left
      have h2' : fitsB (count * D.size) at_ bs.length = false := by simpa using h2
      rw [if_pos h2']
      exact ⟨by simp, rfl⟩
  · left
    rw [if_pos h1]
    exact ⟨by simp, rfl⟩
theorem all_read {D : Dev} {f : Nat → Int} (hs0 : 0 < D.size) (h : Flat D f) : pread D 0 D.count 0 ((D.size : Int) * (D.count : Int)) = (rng f 0 (D.size * D.count), 0) := by
  have h0 : (0 : Int) ≤ (D.count : Int) * (D.size : Int) := by rw [← Int.natCast_mul]; omega
  have hf : fitsB ((D.count : Int) * (D.size : Int)) 0 ((D.size : Int) * (D.count : Int)) = true := by
    rw [Int.mul_comm (D.size : Int)]
    simp [fitsB, h0]
  rw [pread, hf, if_neg (by simp), ← Int.natCast_mul, Int.toNat_natCast]
  exact prl_flat (D.size * D.count) 0 (D.size * D.count) [] hs0 h (Nat.le_refl _) (by rw [Nat.zero_add, Nat.mul_comm]; exact Nat.le_refl _)
end Go.Proofs.Ytokbloddaoakgaa
