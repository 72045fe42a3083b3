/-
  Package inflate: the document's example, and a byte.
-/
import Derived.Test.YtemnahimheffgaaInfF
set_option linter.unusedVariables false
set_option linter.unusedSimpArgs false
namespace Go.Proofs.Ytemnahimheffgaa
open Go.RowKit

def bsA : List Int := [3, 0]
def bsB : List Int := [1, 1, 0, 254, 255, 77]
def same3 (x y : Ifl) : Prop := x.R = y.R ∧ x.rn = y.rn ∧ x.rc = y.rc
structure Fst (gr : Nat) (bs : List Int) (x : Ifl) (Z : List Ent) : Prop where
  (rd : Rdr gr bs 0 Z) (r : x.r = ptr' gr) (next : x.next = fnI 23) (most : x.most = 5) (O : x.O = none) (on : x.on = 0) (oc : x.oc = 0) (e : x.e = 0)
def StA (gr k : Nat) (x : Ifl) (Z : List Ent) : Prop :=
  if k = 2 then Fst gr bsA x Z
  else k = 1 ∧ (x.r = ptr' gr ∧ x.next = fnI 44 ∧ x.last = true ∧ x.O = none ∧ x.on = 0 ∧ x.oc = 0 ∧ x.e = 0) ∧ ∃ gt T1 T2 Xr, x.lit = ptr' gt ∧ TbIs gt fixL T1 ∧ Rdr gr bsA 3 Xr ∧ Z = T1 ++ (Xr ++ T2)
section
variable {w0 w : World} {L : List Ent} {gx : Nat}
theorem a_bits1 : bitsAt (ofBytes bsA) 0 1 = (1 : Nat) := by decide +kernel
theorem a_bits2 : bitsAt (ofBytes bsA) (0 + 1) 2 = 1 := by decide +kernel
theorem a_next : nextT fixL (ofBytes bsA) 3 = (256, 10, 0) := by decide +kernel
theorem runA : Run w0 gx bsA (fun gr k x Z => StA gr k x Z) (Told []) where
  on := by
    intro gr k x Z w E hs hk K
    by_cases h2 : k = 2
    · subst h2
      have F : Fst gr bsA x Z := by simpa [StA] using hs
      refine ⟨⟨_, F.next⟩, ?_⟩
      refine (istep_begins (x := x) (M := E) (f2 := 44) (Q := fun x' Z' => ∃ Z0, Z' = Z0 ++ E ∧ StA gr 1 { x' with next := fnI 44 } Z0 ∧ same3 x' x) (K.cov Cov.auto) F.rd F.r F.next ?_).mono ?_
      · intro w1 E1 K1
        refine (ibegins_fixed (x := x) (L := E ++ E1) K1 F.rd F.r (by decide) 1 a_bits1 a_bits2 true (by decide)).mono ?_
        rintro e w2 ⟨rfl, g1, g2, T1, T2, X', h1, h2, h3, K2⟩
        exact ⟨rfl, { x with lit := ptr' g1, dist := ptr' g2, last := true }, (T1 ++ (X' ++ T2)) ++ E, ⟨_, rfl, by rw [StA, if_neg (show ¬ (1 : Nat) = 2 by decide)]; exact ⟨rfl, ⟨F.r, rfl, rfl, F.O, F.on, F.oc, F.e⟩, g1, T1, T2, X', rfl, h1, h3, rfl⟩, rfl, rfl, rfl⟩, by simp only [List.append_assoc]; exact K2.cov Cov.auto⟩
      · rintro e w2 ⟨rfl, x', Z', ⟨Z0, rfl, h3, h4⟩, E2, K2⟩
        exact ⟨rfl, _, Z0, E2, ⟨h3, h4.1, h4.2.1, h4.2.2⟩, by simpa only [List.append_assoc] using K2⟩
    · exfalso
      simp only [StA, if_neg h2] at hs
      omega
  off := by
    intro gr x Z w E hs K
    simp only [StA, if_neg (show ¬ (1 : Nat) = 2 by decide)] at hs
    obtain ⟨_, ⟨hr, hnx, hla, hO, hon, hoc, he⟩, gt, T1, T2, Xr, hlit, hT, hR, rfl⟩ := hs
    refine ⟨⟨_, hnx⟩, ?_⟩
    simp only [List.append_assoc] at K
    refine (istep_symbols_end (x := x) (f2 := 0) (M := T1 ++ (T2 ++ E)) (Q := fun x' Z' => x' = x ∧ ∃ X', Rdr gr bsA (8 * bsA.length) X' ∧ Z' = X' ++ (T2 ++ E)) (K.cov Cov.auto) hR hr hnx ?_).mono ?_
    · intro w1 E1 K1
      refine (isymbols_end (x := x) (L := T2 ++ (E ++ E1)) (by simp only [List.append_assoc] at K1; exact K1.cov Cov.auto) hT (by decide +kernel) hR hr hlit hla 10 a_next).mono ?_
      rintro e w2 ⟨rfl, X', h1, K2⟩
      exact ⟨rfl, x, _, ⟨rfl, X', h1, rfl⟩, by simp only [List.append_assoc]; exact K2.cov Cov.auto⟩
    · rintro e w2 ⟨rfl, x', Z', ⟨rfl, X', h1, rfl⟩, E2, K2⟩
      refine ⟨rfl, { x' with next := .nilFunc }, X', T2, E2, ⟨⟨[], T2, rfl, ?_, rfl, he⟩, rfl, rfl, rfl, rfl, he, hr, h1⟩, by simpa only [List.append_assoc] using K2⟩
      show OwnL _ 1 x'.O x'.on x'.oc _ _
      rw [hO, hon, hoc]
      exact OwnL.nil _ _
def StB (gr k : Nat) (x : Ifl) (Z : List Ent) : Prop :=
  if k = 3 then Fst gr bsB x Z
  else if k = 2 then (x.r = ptr' gr ∧ x.next = fnI 41 ∧ x.last = true ∧ x.left = ((1 : Nat) : Int) ∧ x.O = none ∧ x.on = 0 ∧ x.oc = 0 ∧ x.e = 0) ∧ Rdr gr bsB 40 Z
  else k = 1 ∧ (x.r = ptr' gr ∧ x.next = fnI 41 ∧ x.last = true ∧ x.left = 0 ∧ x.e = 0) ∧ ∃ XO Xr, OwnL 5 1 x.O x.on x.oc (([77] : List Int).map (Value.int .u8)) XO ∧ Rdr gr bsB 48 Xr ∧ Z = Xr ++ XO
theorem b_bits1 : bitsAt (ofBytes bsB) 0 1 = (1 : Nat) := by decide +kernel
theorem b_bits2 : bitsAt (ofBytes bsB) (0 + 1) 2 = 0 := by decide +kernel
theorem b_bits3 : bitsAt (ofBytes bsB) 8 16 = (1 : Nat) := by decide +kernel
theorem b_bits4 : bitsAt (ofBytes bsB) (8 + 16) 16 = 65535 - 1 := by decide +kernel
theorem runB : Run w0 gx bsB (fun gr k x Z => StB gr k x Z) (Told [77]) where
  on := by
    intro gr k x Z w E hs hk K
    by_cases h3 : k = 3
    · subst h3
      have F : Fst gr bsB x Z := by simpa [StB] using hs
      refine ⟨⟨_, F.next⟩, ?_⟩
      refine (istep_begins (x := x) (M := E) (f2 := 41) (Q := fun x' Z' => ∃ Z0, Z' = Z0 ++ E ∧ StB gr 2 { x' with next := fnI 41 } Z0 ∧ same3 x' x) (K.cov Cov.auto) F.rd F.r F.next ?_).mono ?_
      · intro w1 E1 K1
        refine (ibegins_stored (x := x) (L := E ++ E1) K1 F.rd F.r 8 (by decide) (by decide) 1 1 b_bits1 b_bits2 b_bits3 b_bits4 (by decide) (by rw [F.most]; decide) (by rw [F.on]; decide) (by rw [F.most, F.on]; decide) true (by decide)).mono ?_
        rintro e w2 ⟨rfl, X', h1, K2⟩
        exact ⟨rfl, { x with last := true, left := ((1 : Nat) : Int) }, X' ++ E, ⟨_, rfl, by rw [StB, if_neg (show ¬ (2 : Nat) = 3 by decide), if_pos rfl]; exact ⟨⟨F.r, rfl, rfl, rfl, F.O, F.on, F.oc, F.e⟩, h1⟩, rfl, rfl, rfl⟩, by simp only [List.append_assoc]; exact K2.cov Cov.auto⟩
      · rintro e w2 ⟨rfl, x', Z', ⟨Z0, rfl, h3, h4⟩, E2, K2⟩
        exact ⟨rfl, _, Z0, E2, ⟨h3, h4.1, h4.2.1, h4.2.2⟩, by simpa only [List.append_assoc] using K2⟩
    · by_cases h2 : k = 2
      · subst h2
        rw [StB, if_neg h3, if_pos rfl] at hs
        obtain ⟨⟨hr, hnx, hla, hlf, hO, hon, hoc, he⟩, hR⟩ := hs
        refine ⟨⟨_, hnx⟩, ?_⟩
        have O : OwnL 5 1 x.O x.on x.oc (([] : List Int).map (Value.int .u8)) [] := by rw [hO, hon, hoc]; exact OwnL.nil _ _
        refine (istep_raw (x := x) (M := E) (f2 := 41) (Q := fun x' Z' => ∃ Z0, Z' = Z0 ++ E ∧ StB gr 1 { x' with next := fnI 41 } Z0 ∧ same3 x' x) (K.cov Cov.auto) hR hr hnx ?_).mono ?_
        · intro w1 E1 K1
          refine (iraw_some (x := x) (XO := []) (L := E ++ E1) K1 hR hr O 1 hlf (by decide) (by decide) (by rw [hon]; decide)).mono ?_
          rintro e w2 ⟨rfl, A, c, XO', X', h1, h2, K2⟩
          exact ⟨rfl, { x with O := A, on := x.on + 1, oc := c, left := 0 }, (X' ++ XO') ++ E, ⟨_, rfl, by rw [StB, if_neg (show ¬ (1 : Nat) = 3 by decide), if_neg (show ¬ (1 : Nat) = 2 by decide)]; exact ⟨rfl, ⟨hr, rfl, hla, rfl, he⟩, XO', X', h1, h2, rfl⟩, rfl, rfl, rfl⟩, by simp only [List.append_assoc]; exact K2.cov Cov.auto⟩
        · rintro e w2 ⟨rfl, x', Z', ⟨Z0, rfl, h3, h4⟩, E2, K2⟩
          exact ⟨rfl, _, Z0, E2, ⟨h3, h4.1, h4.2.1, h4.2.2⟩, by simpa only [List.append_assoc] using K2⟩
      · exfalso
        rw [StB, if_neg h3, if_neg h2] at hs
        omega
  off := by
    intro gr x Z w E hs K
    simp only [StB, if_neg (show ¬ (1 : Nat) = 2 by decide), if_neg (show ¬ (1 : Nat) = 3 by decide)] at hs
    obtain ⟨_, ⟨hr, hnx, hla, hlf, he⟩, XO, Xr, O, hR, rfl⟩ := hs
    refine ⟨⟨_, hnx⟩, ?_⟩
    simp only [List.append_assoc] at K
    refine (istep_raw_end (x := x) (f2 := 0) (M := XO ++ E) (Q := fun x' Z' => x' = x ∧ ∃ X', Rdr gr bsB (8 * bsB.length) X' ∧ Z' = X' ++ (XO ++ E)) (K.cov Cov.auto) hR hr hnx ?_).mono ?_
    · intro w1 E1 K1
      refine (iraw_end (x := x) (L := XO ++ (E ++ E1)) (by simp only [List.append_assoc] at K1; exact K1.cov Cov.auto) hR hr hla hlf).mono ?_
      rintro e w2 ⟨rfl, X', h1, K2⟩
      exact ⟨rfl, x, _, ⟨rfl, X', h1, rfl⟩, by simp only [List.append_assoc]; exact K2.cov Cov.auto⟩
    · rintro e w2 ⟨rfl, x', Z', ⟨rfl, X', h1, rfl⟩, E2, K2⟩
      refine ⟨rfl, { x' with next := .nilFunc }, X', XO, E2, ⟨⟨XO, [], by simp, O, rfl, he⟩, rfl, rfl, rfl, rfl, he, hr, h1⟩, by simpa only [List.append_assoc] using K2⟩
end
end Go.Proofs.Ytemnahimheffgaa
