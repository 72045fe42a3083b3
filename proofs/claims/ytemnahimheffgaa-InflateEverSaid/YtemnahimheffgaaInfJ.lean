/-
  Package inflate: lens (contract).
-/
import Derived.Test.YtemnahimheffgaaInfI
set_option linter.unusedVariables false
set_option linter.unusedSimpArgs false
namespace Go.Proofs.Ytemnahimheffgaa
open Go.RowKit


theorem byte_rep {out : List Int} {n : Nat} {a : Int} (h : ∀ v ∈ out, 0 ≤ v ∧ v ≤ 255) (ha : 0 ≤ a ∧ a ≤ 255) : ∀ v ∈ out ++ List.replicate n a, 0 ≤ v ∧ v ≤ 255 := by
  intro v hv
  rcases List.mem_append.1 hv with h1 | h1
  · exact h v h1
  · rw [List.eq_of_mem_replicate h1]
    exact ha
theorem byte_getD {out : List Int} (h : ∀ v ∈ out, 0 ≤ v ∧ v ≤ 255) (i : Nat) : 0 ≤ out.getD i 0 ∧ out.getD i 0 ≤ 255 := by
  rw [List.getD_eq_getElem?_getD]
  cases hg : out[i]? with
  | none => simp
  | some v => exact h v (List.mem_of_getElem? hg)
theorem getLastD_getD {out : List Int} {m : Nat} (h : out.length = m + 1) : out.getLastD 0 = out.getD m 0 := by
  rw [List.getLastD_eq_getLast?, List.getLast?_eq_getElem?, h, List.getD_eq_getElem?_getD]
  rfl
def LensP (w0 : World) (gr gt gx : Nat) (x : Ifl) (bs l : List Int) (Xt L : List Ent) (R : Rs (List Int)) (e : Ending) (w' : World) : Prop :=
  match R with
  | .ok out q => (∃ A c, e = .returned (.slice A out.length c) ∧ ∃ X X', OwnL 5 1 A out.length c (out.map (Value.int .u8)) X ∧ Rdr gr bs q X' ∧ (∀ v ∈ out, 0 ≤ v ∧ v ≤ 255) ∧ Known w0 w' (X ++ (Xt ++ (X' ++ L))))
  | .th c => e = stopE c ∧ ∃ q X', Rdr gr bs q X' ∧ Known w0 w' (Xt ++ (X' ++ L))
section
variable {w0 w : World} {L Xr Xt : List Ent} {gx gr gt p : Nat} {x : Ifl} {bs l : List Int}
set_option maxHeartbeats 1600000 in
set_option maxRecDepth 100000 in
theorem ilens_any (K : Known w0 w (Xt ++ (Xr ++ L))) (hx : Has (row gx (ifC x) 53) L) (hr : x.r = ptr' gr) (hT : TbIs gt l Xt) (hR : Rdr gr bs p Xr) (hl : l.length ≤ 300) (many : Nat) (z : Int) (hz : z = many) (hm : many ≤ 400) :
    Calls Try.prog 57 #[ptr' gx, ptr' gt, .int .i64 z] w (LensP w0 gr gt gx x bs l Xt L (lensM l (ofBytes bs) many (many + 1) [] p)) := by
  subst hz
  obtain ⟨R0, hR0⟩ : ∃ R0, lensM l (ofBytes bs) many (many + 1) [] p = R0 := ⟨_, rfl⟩
  have H0 := Lib.hid hR0
  rw [hR0]
  clear hR0
  have HXX := Lib.hid hx
  go_enter Try.func57, Try.ntmps57
  go_upto_region 2 with (fail)
  go_loopg [7] many (fun d v wr => ∃ (A : Option Addr) (n c : Nat) (out : List Int) (X Xq : List Ent) (q : Nat), (v = .slice A n c ∧ OwnL 5 1 A n c (out.map (Value.int .u8)) X ∧ Rdr gr bs q Xq ∧ Hid (∀ v ∈ out, 0 ≤ v ∧ v ≤ 255) ∧ many ≤ n + d ∧ n ≤ 400 ∧ Hid (lensM l (ofBytes bs) many (d + 1) out q = R0)) ∧ Known w0 wr (Xt ++ (Xq ++ (X ++ L))))
  case atStart => exact ⟨none, 0, 0, [], [], Xr, p, ⟨rfl, OwnL.nil _ _, hR, Lib.hid (by simp), by omega, by omega, H0⟩, K⟩
  case round =>
    clear K hR
    obtain ⟨A, n, c, out, X, Xq, q, ⟨rfl, O, hR, HB, hd, hn, HL⟩, K⟩ := hrel
    have hon : out.length = n := by have := O.len; simpa using this
    by_cases hin : n < many
    · have h2 : (n : Int) < (many : Int) := by omega
      obtain ⟨d, rfl⟩ : ∃ d, gk = d + 1 := ⟨gk - 1, by omega⟩
      cases hsy : symM l (ofBytes bs) q with
      | th cc =>
        have HSY := Lib.hid hsy
        have HF := Lib.hid (show R0 = .th cc by rw [← HL.out, lensM, if_neg (by omega), lenE, hsy]; rfl)
        clear hsy
        go_wp2_with (first | (go_at_call 59; (with_reducible refine (isym_th K (by exact (HXX.out.ap _)) hr hT hR hl HSY.out).mono ?_); clear K; rintro e w1 ⟨rfl, X2, hR2, K⟩))
        rw [HF.out]; exact ⟨rfl, rfl, _, X2, hR2, K.cov Cov.auto⟩
      | ok s q2 =>
        have HSY := Lib.hid hsy
        by_cases h16 : s = 16
        · subst h16
          by_cases h0 : n = 0
          · have HF := Lib.hid (show R0 = .th 11 by rw [← HL.out, lensM, if_neg (show ¬ many ≤ out.length by omega), lenE, hsy, Rs.andThen_ok, if_pos rfl, if_pos (by omega)]; rfl)
            subst h0
            clear hsy
            go_wp2_with (first | (go_at_call 59; (with_reducible refine (isym_ok K (by exact (HXX.out.ap _)) hr hT hR hl HSY.out).mono ?_); clear K; rintro e w1 ⟨rfl, X2, hR2, K⟩) | (go_at_call 38; (with_reducible refine (ibad_yes K _).mono ?_); clear K; rintro e w1 ⟨rfl, K⟩))
            rw [HF.out]; exact ⟨rfl, rfl, _, X2, hR2, K.cov Cov.auto⟩
          · cases hnu : numM (ofBytes bs) q2 2 with
            | th cc =>
              have HNU := Lib.hid hnu
              have HF := Lib.hid (show R0 = .th cc by rw [← HL.out, lensM, if_neg (show ¬ many ≤ out.length by omega), lenE, hsy, Rs.andThen_ok, if_pos rfl, if_neg (by omega), hnu]; rfl)
              clear hsy hnu
              have RO : RdS w0 X .u8 A n out := RdS.own O (Seg.all X)
              obtain ⟨b9, f9, rfl, _⟩ := (RO.at_ wr (K.cov Cov.auto)).form (by omega)
              obtain ⟨m, rfl⟩ : ∃ m, n = m + 1 := ⟨n - 1, by omega⟩
              obtain ⟨ag, hag⟩ : ∃ ag, out.getD m 0 = ag := ⟨_, rfl⟩
              have HAG := Lib.hid hag
              have hagb := byte_getD HB.out m
              rw [hag] at hagb
              have e9 : ((m : Int) + 1 == 0) = false := beq_eq_false_iff_ne.2 (by omega)
              have k9 : (m : Int) < (m : Int) + 1 := by omega
              have i9 := IntWalk.i64_in ((m : Int)) (by omega)
              clear hag
              go_upto_region 9 with ((first | (go_at_call 59; (with_reducible refine (isym_ok K (by exact (HXX.out.ap _)) hr hT hR hl HSY.out).mono ?_); clear K; rintro e w1 ⟨rfl, X2, hR2, K⟩) | (go_at_call 38; (with_reducible refine (ibad_no K _).mono ?_); clear K; rintro e w1 ⟨rfl, K⟩)))
              refine wp_region_GK (X := (X ++ L)) K Cov.auto (by kernel_rfl) (by kernel_rfl) (by kernel_rfl) (fun K hHeld => ?_)
              refine wpG_takeA 0 (v := ?_) ?_ hHeld ?_
              rotate_left
              · (intro w hS; (clear hS; go_simp); try with_reducible rfl)
              try simp only [Act.put, List.setIfInBounds_toArray, List.set_cons_zero, List.set_cons_succ]
              refine wpG_takeA 1 (v := ?_) ?_ hHeld ?_
              rotate_left
              · (intro w hS; (clear hS; go_simp); try with_reducible rfl)
              try simp only [Act.put, List.setIfInBounds_toArray, List.set_cons_zero, List.set_cons_succ]
              refine wpG_takeA 2 (v := ?_) ?_ hHeld ?_
              rotate_left
              · (intro w hS; (clear hS; go_simp); try with_reducible rfl)
              try simp only [Act.put, List.setIfInBounds_toArray, List.set_cons_zero, List.set_cons_succ]
              refine wpG_takeA 3 (v := ?_) ?_ hHeld ?_
              rotate_left
              · (intro w hS; (clear hS; go_simp); try with_reducible rfl)
              try simp only [Act.put, List.setIfInBounds_toArray, List.set_cons_zero, List.set_cons_succ]
              refine wpG_takeA 4 (v := ?_) ?_ hHeld ?_
              rotate_left
              · (intro w hS; (clear hS; go_simp); try with_reducible rfl)
              try simp only [Act.put, List.setIfInBounds_toArray, List.set_cons_zero, List.set_cons_succ]
              refine wpG_takeA 5 (v := .int .u8 ag) ?_ hHeld ?_
              · (intro w hS; first | exact kr_load_fact _ _ (by rfl) (by rfl) (RO.cell (hS.cov Cov.auto) (j := m) (by omega) HAG.out (by omega)) (by kernel_rfl))
              try simp only [Act.put, List.setIfInBounds_toArray, List.set_cons_zero, List.set_cons_succ]
              refine wpG_takeA 6 (v := ?_) ?_ hHeld ?_
              rotate_left
              · (intro w hS; (clear hS; go_simp); try with_reducible rfl)
              try simp only [Act.put, List.setIfInBounds_toArray, List.set_cons_zero, List.set_cons_succ]
              refine wpG_oneA 7 (fun K9 hK => ?_)
              go_simp
              (go_at_call 37; (with_reducible refine (inum_th (L := Xt ++ (X ++ L)) (K.cov Cov.auto) (by exact ((HXX.out.ap _).ap _)) hr hR2 2 _ (by omega) (by omega) HNU.out).mono ?_); clear K; rintro e w1 ⟨rfl, K⟩)
              rw [HF.out]; exact ⟨rfl, rfl, _, X2, hR2, K.cov Cov.auto⟩
            | ok k q3 =>
              have HNU := Lib.hid hnu
              have hk : k < 2 ^ 2 := by rw [← (numM_ok hnu).2.1]; exact bitsAt_lt _ _ _
              have RO : RdS w0 X .u8 A n out := RdS.own O (Seg.all X)
              obtain ⟨b9, f9, rfl, _⟩ := (RO.at_ wr (K.cov Cov.auto)).form (by omega)
              obtain ⟨m, rfl⟩ : ∃ m, n = m + 1 := ⟨n - 1, by omega⟩
              obtain ⟨ag, hag⟩ : ∃ ag, out.getD m 0 = ag := ⟨_, rfl⟩
              have HAG := Lib.hid hag
              have hagb := byte_getD HB.out m
              rw [hag] at hagb
              have e9 : ((m : Int) + 1 == 0) = false := beq_eq_false_iff_ne.2 (by omega)
              have k9 : (m : Int) < (m : Int) + 1 := by omega
              have i9 := IntWalk.i64_in ((m : Int)) (by omega)
              have hgl := (getLastD_getD hon).trans hag
              clear hag
              obtain ⟨ne, hne⟩ : ∃ ne, 3 + k = ne := ⟨_, rfl⟩
              have hneI : 3 + (k : Int) = (ne : Int) := by omega
              have j8 := IntWalk.i64_in (ne : Int) (by omega)
              have j9 := IntWalk.i64_in ((many : Int) - ((m : Int) + 1)) (by omega)
              by_cases hmany : many < ne + out.length
              · have HF := Lib.hid (show R0 = .th 11 by rw [← HL.out, lensM, if_neg (show ¬ many ≤ out.length by omega), lenE, hsy, Rs.andThen_ok, if_pos rfl, if_neg (by omega), hnu, hgl]; simp only [Rs.andThen_ok]; simp only [hne]; rw [if_pos hmany])
                have hd1 : (many : Int) - ((m : Int) + 1) < (ne : Int) := by omega
                clear hsy
                clear hnu hne
                go_upto_region 9 with ((first | (go_at_call 59; (with_reducible refine (isym_ok K (by exact (HXX.out.ap _)) hr hT hR hl HSY.out).mono ?_); clear K; rintro e w1 ⟨rfl, X2, hR2, K⟩) | (go_at_call 38; (with_reducible refine (ibad_no K _).mono ?_); clear K; rintro e w1 ⟨rfl, K⟩)))
                refine wp_region_GK (X := (X ++ L)) K Cov.auto (by kernel_rfl) (by kernel_rfl) (by kernel_rfl) (fun K hHeld => ?_)
                refine wpG_takeA 0 (v := ?_) ?_ hHeld ?_
                rotate_left
                · (intro w hS; (clear hS; go_simp); try with_reducible rfl)
                try simp only [Act.put, List.setIfInBounds_toArray, List.set_cons_zero, List.set_cons_succ]
                refine wpG_takeA 1 (v := ?_) ?_ hHeld ?_
                rotate_left
                · (intro w hS; (clear hS; go_simp); try with_reducible rfl)
                try simp only [Act.put, List.setIfInBounds_toArray, List.set_cons_zero, List.set_cons_succ]
                refine wpG_takeA 2 (v := ?_) ?_ hHeld ?_
                rotate_left
                · (intro w hS; (clear hS; go_simp); try with_reducible rfl)
                try simp only [Act.put, List.setIfInBounds_toArray, List.set_cons_zero, List.set_cons_succ]
                refine wpG_takeA 3 (v := ?_) ?_ hHeld ?_
                rotate_left
                · (intro w hS; (clear hS; go_simp); try with_reducible rfl)
                try simp only [Act.put, List.setIfInBounds_toArray, List.set_cons_zero, List.set_cons_succ]
                refine wpG_takeA 4 (v := ?_) ?_ hHeld ?_
                rotate_left
                · (intro w hS; (clear hS; go_simp); try with_reducible rfl)
                try simp only [Act.put, List.setIfInBounds_toArray, List.set_cons_zero, List.set_cons_succ]
                refine wpG_takeA 5 (v := .int .u8 ag) ?_ hHeld ?_
                · (intro w hS; first | exact kr_load_fact _ _ (by rfl) (by rfl) (RO.cell (hS.cov Cov.auto) (j := m) (by omega) HAG.out (by omega)) (by kernel_rfl))
                try simp only [Act.put, List.setIfInBounds_toArray, List.set_cons_zero, List.set_cons_succ]
                refine wpG_takeA 6 (v := ?_) ?_ hHeld ?_
                rotate_left
                · (intro w hS; (clear hS; go_simp); try with_reducible rfl)
                try simp only [Act.put, List.setIfInBounds_toArray, List.set_cons_zero, List.set_cons_succ]
                refine wpG_oneA 7 (fun K9 hK => ?_)
                go_simp
                (go_at_call 37; (with_reducible refine (inum_ok (L := Xt ++ (X ++ L)) (K.cov Cov.auto) (by exact ((HXX.out.ap _).ap _)) hr hR2 2 _ (by omega) (by omega) HNU.out).mono ?_); clear K; rintro e w1 ⟨rfl, X3, hR3, K⟩)
                refine hK.out _ _ (K.cov Cov.auto) (fun hHeld => ?_)
                clear hK K9
                try simp only [Act.put, List.setIfInBounds_toArray, List.set_cons_zero, List.set_cons_succ]
                refine wpG_takeA 8 (v := ?_) ?_ hHeld ?_
                rotate_left
                · (intro w hS; (clear hS; go_simp); try with_reducible rfl)
                try simp only [Act.put, List.setIfInBounds_toArray, List.set_cons_zero, List.set_cons_succ]
                refine wpG_takeA 9 (v := ?_) ?_ hHeld ?_
                rotate_left
                · (intro w hS; (clear hS; go_simp); try with_reducible rfl)
                try simp only [Act.put, List.setIfInBounds_toArray, List.set_cons_zero, List.set_cons_succ]
                refine wpG_takeA 10 (v := ?_) ?_ hHeld ?_
                rotate_left
                · (intro w hS; (clear hS; go_simp); try with_reducible rfl)
                try simp only [Act.put, List.setIfInBounds_toArray, List.set_cons_zero, List.set_cons_succ]
                refine wpG_done (by kernel_rfl) ?_
                skip
                go_wp2_with (first | (go_at_call 38; (with_reducible refine (ibad_yes K _).mono ?_); clear K; rintro e w1 ⟨rfl, K⟩))
                rw [HF.out]; exact ⟨rfl, rfl, _, X3, hR3, K.cov Cov.auto⟩
              · have HF := Lib.hid (show lensM l (ofBytes bs) many (d + 1) (out ++ List.replicate ne (ag)) q3 = R0 from (HL.out.symm.trans (by rw [lensM, if_neg (show ¬ many ≤ out.length by omega), lenE, hsy, Rs.andThen_ok, if_pos rfl, if_neg (by omega), hnu, hgl]; simp only [Rs.andThen_ok]; simp only [hne]; rw [if_neg hmany])).symm)
                have hd1 : decide ((many : Int) - ((m : Int) + 1) < (ne : Int)) = false := decide_eq_false (by omega)
                have HB5 := Lib.hid (byte_rep (n := ne) (a := ag) HB.out (hagb))
                have HM := Lib.hid hmany
                have hn9 : ne ≤ 1000 := by omega
                clear hsy
                clear hnu hne
                go_upto_region 9 with ((first | (go_at_call 59; (with_reducible refine (isym_ok K (by exact (HXX.out.ap _)) hr hT hR hl HSY.out).mono ?_); clear K; rintro e w1 ⟨rfl, X2, hR2, K⟩) | (go_at_call 38; (with_reducible refine (ibad_no K _).mono ?_); clear K; rintro e w1 ⟨rfl, K⟩)))
                refine wp_region_GK (X := (X ++ L)) K Cov.auto (by kernel_rfl) (by kernel_rfl) (by kernel_rfl) (fun K hHeld => ?_)
                refine wpG_takeA 0 (v := ?_) ?_ hHeld ?_
                rotate_left
                · (intro w hS; (clear hS; go_simp); try with_reducible rfl)
                try simp only [Act.put, List.setIfInBounds_toArray, List.set_cons_zero, List.set_cons_succ]
                refine wpG_takeA 1 (v := ?_) ?_ hHeld ?_
                rotate_left
                · (intro w hS; (clear hS; go_simp); try with_reducible rfl)
                try simp only [Act.put, List.setIfInBounds_toArray, List.set_cons_zero, List.set_cons_succ]
                refine wpG_takeA 2 (v := ?_) ?_ hHeld ?_
                rotate_left
                · (intro w hS; (clear hS; go_simp); try with_reducible rfl)
                try simp only [Act.put, List.setIfInBounds_toArray, List.set_cons_zero, List.set_cons_succ]
                refine wpG_takeA 3 (v := ?_) ?_ hHeld ?_
                rotate_left
                · (intro w hS; (clear hS; go_simp); try with_reducible rfl)
                try simp only [Act.put, List.setIfInBounds_toArray, List.set_cons_zero, List.set_cons_succ]
                refine wpG_takeA 4 (v := ?_) ?_ hHeld ?_
                rotate_left
                · (intro w hS; (clear hS; go_simp); try with_reducible rfl)
                try simp only [Act.put, List.setIfInBounds_toArray, List.set_cons_zero, List.set_cons_succ]
                refine wpG_takeA 5 (v := .int .u8 ag) ?_ hHeld ?_
                · (intro w hS; first | exact kr_load_fact _ _ (by rfl) (by rfl) (RO.cell (hS.cov Cov.auto) (j := m) (by omega) HAG.out (by omega)) (by kernel_rfl))
                try simp only [Act.put, List.setIfInBounds_toArray, List.set_cons_zero, List.set_cons_succ]
                refine wpG_takeA 6 (v := ?_) ?_ hHeld ?_
                rotate_left
                · (intro w hS; (clear hS; go_simp); try with_reducible rfl)
                try simp only [Act.put, List.setIfInBounds_toArray, List.set_cons_zero, List.set_cons_succ]
                refine wpG_oneA 7 (fun K9 hK => ?_)
                go_simp
                (go_at_call 37; (with_reducible refine (inum_ok (L := Xt ++ (X ++ L)) (K.cov Cov.auto) (by exact ((HXX.out.ap _).ap _)) hr hR2 2 _ (by omega) (by omega) HNU.out).mono ?_); clear K; rintro e w1 ⟨rfl, X3, hR3, K⟩)
                refine hK.out _ _ (K.cov Cov.auto) (fun hHeld => ?_)
                clear hK K9
                try simp only [Act.put, List.setIfInBounds_toArray, List.set_cons_zero, List.set_cons_succ]
                refine wpG_takeA 8 (v := ?_) ?_ hHeld ?_
                rotate_left
                · (intro w hS; (clear hS; go_simp); try with_reducible rfl)
                try simp only [Act.put, List.setIfInBounds_toArray, List.set_cons_zero, List.set_cons_succ]
                refine wpG_takeA 9 (v := ?_) ?_ hHeld ?_
                rotate_left
                · (intro w hS; (clear hS; go_simp); try with_reducible rfl)
                try simp only [Act.put, List.setIfInBounds_toArray, List.set_cons_zero, List.set_cons_succ]
                refine wpG_takeA 10 (v := ?_) ?_ hHeld ?_
                rotate_left
                · (intro w hS; (clear hS; go_simp); try with_reducible rfl)
                try simp only [Act.put, List.setIfInBounds_toArray, List.set_cons_zero, List.set_cons_succ]
                refine wpG_done (by kernel_rfl) ?_
                skip
                go_wp2_with (first | (go_at_call 38; (with_reducible refine (ibad_no K _).mono ?_); clear K; rintro e w1 ⟨rfl, K⟩) | (go_at_call 55; (with_reducible refine (irow_any K _ ne _ (by first | rfl | omega) (by first | exact hn9 | omega)).mono ?_); clear K; rintro e w1 ⟨A4, c4, rfl, X4, O4, K⟩) | (at_builtin; refine wpList_does rfl (kd_appendN K _ _ rfl rfl rfl O Seg.auto ((RdS.own (w0 := w0) O4 Seg.auto).at_ _ K) (by kernel_rfl) (by kernel_rfl) (by omega)) ?_; clear K; rintro _ w1 ⟨A5, c5, X5, rfl, O5, K⟩; (try simp only [Nat.zero_add, List.nil_append] at O5)))
                have hM := HM.out
                go_roundg d
                case measure => omega
                case rel => exact ⟨A5, _, c5, out ++ List.replicate ne (ag), X5, X3, q3, ⟨rfl, by first | exact O5 | (rw [List.map_append]; exact O5), hR3, HB5, by omega, by omega, HF⟩, K.cov Cov.auto⟩
        · have e16 : ((s : Int) == 16) = false := beq_eq_false_iff_ne.2 (by omega)
          by_cases h17 : s = 17
          · subst h17
            clear e16
            cases hnu : numM (ofBytes bs) q2 3 with
            | th cc =>
              have HNU := Lib.hid hnu
              have HF := Lib.hid (show R0 = .th cc by rw [← HL.out, lensM, if_neg (show ¬ many ≤ out.length by omega), lenE, hsy, Rs.andThen_ok, if_neg (by omega), if_pos rfl, hnu]; rfl)
              clear hsy hnu
              go_wp2_with (first | (go_at_call 59; (with_reducible refine (isym_ok K (by exact (HXX.out.ap _)) hr hT hR hl HSY.out).mono ?_); clear K; rintro e w1 ⟨rfl, X2, hR2, K⟩) | (go_at_call 37; (with_reducible refine (inum_th (L := Xt ++ (X ++ L)) (K.cov Cov.auto) (by exact ((HXX.out.ap _).ap _)) hr hR2 3 _ (by omega) (by omega) HNU.out).mono ?_); clear K; rintro e w1 ⟨rfl, K⟩))
              rw [HF.out]; exact ⟨rfl, rfl, _, X2, hR2, K.cov Cov.auto⟩
            | ok k q3 =>
              have HNU := Lib.hid hnu
              have hk : k < 2 ^ 3 := by rw [← (numM_ok hnu).2.1]; exact bitsAt_lt _ _ _
              obtain ⟨ne, hne⟩ : ∃ ne, 3 + k = ne := ⟨_, rfl⟩
              have hneI : 3 + (k : Int) = (ne : Int) := by omega
              have j8 := IntWalk.i64_in (ne : Int) (by omega)
              have j9 := IntWalk.i64_in ((many : Int) - (n : Int)) (by omega)
              by_cases hmany : many < ne + out.length
              · have HF := Lib.hid (show R0 = .th 11 by rw [← HL.out, lensM, if_neg (show ¬ many ≤ out.length by omega), lenE, hsy, Rs.andThen_ok, if_neg (by omega), if_pos rfl, hnu]; simp only [Rs.andThen_ok]; simp only [hne]; rw [if_pos hmany])
                have hd1 : (many : Int) - (n : Int) < (ne : Int) := by omega
                clear hsy
                clear hnu hne
                go_upto_region 14 with ((first | (go_at_call 59; (with_reducible refine (isym_ok K (by exact (HXX.out.ap _)) hr hT hR hl HSY.out).mono ?_); clear K; rintro e w1 ⟨rfl, X2, hR2, K⟩) | (go_at_call 37; (with_reducible refine (inum_ok (L := Xt ++ (X ++ L)) (K.cov Cov.auto) (by exact ((HXX.out.ap _).ap _)) hr hR2 3 _ (by omega) (by omega) HNU.out).mono ?_); clear K; rintro e w1 ⟨rfl, X3, hR3, K⟩)))
                go_wp2_with (first | (go_at_call 38; (with_reducible refine (ibad_yes K _).mono ?_); clear K; rintro e w1 ⟨rfl, K⟩))
                rw [HF.out]; exact ⟨rfl, rfl, _, X3, hR3, K.cov Cov.auto⟩
              · have HF := Lib.hid (show lensM l (ofBytes bs) many (d + 1) (out ++ List.replicate ne (0)) q3 = R0 from (HL.out.symm.trans (by rw [lensM, if_neg (show ¬ many ≤ out.length by omega), lenE, hsy, Rs.andThen_ok, if_neg (by omega), if_pos rfl, hnu]; simp only [Rs.andThen_ok]; simp only [hne]; rw [if_neg hmany])).symm)
                have hd1 : decide ((many : Int) - (n : Int) < (ne : Int)) = false := decide_eq_false (by omega)
                have HB5 := Lib.hid (byte_rep (n := ne) (a := 0) HB.out (by omega))
                have HM := Lib.hid hmany
                have hn9 : ne ≤ 1000 := by omega
                clear hsy
                clear hnu hne
                go_upto_region 14 with ((first | (go_at_call 59; (with_reducible refine (isym_ok K (by exact (HXX.out.ap _)) hr hT hR hl HSY.out).mono ?_); clear K; rintro e w1 ⟨rfl, X2, hR2, K⟩) | (go_at_call 37; (with_reducible refine (inum_ok (L := Xt ++ (X ++ L)) (K.cov Cov.auto) (by exact ((HXX.out.ap _).ap _)) hr hR2 3 _ (by omega) (by omega) HNU.out).mono ?_); clear K; rintro e w1 ⟨rfl, X3, hR3, K⟩)))
                go_wp2_with (first | (go_at_call 38; (with_reducible refine (ibad_no K _).mono ?_); clear K; rintro e w1 ⟨rfl, K⟩) | (go_at_call 55; (with_reducible refine (irow_any K _ ne _ (by first | rfl | omega) (by first | exact hn9 | omega)).mono ?_); clear K; rintro e w1 ⟨A4, c4, rfl, X4, O4, K⟩) | (at_builtin; refine wpList_does rfl (kd_appendN K _ _ rfl rfl rfl O Seg.auto ((RdS.own (w0 := w0) O4 Seg.auto).at_ _ K) (by kernel_rfl) (by kernel_rfl) (by omega)) ?_; clear K; rintro _ w1 ⟨A5, c5, X5, rfl, O5, K⟩; (try simp only [Nat.zero_add, List.nil_append] at O5)))
                have hM := HM.out
                go_roundg d
                case measure => omega
                case rel => exact ⟨A5, _, c5, out ++ List.replicate ne (0), X5, X3, q3, ⟨rfl, by first | exact O5 | (rw [List.map_append]; exact O5), hR3, HB5, by omega, by omega, HF⟩, K.cov Cov.auto⟩
          · have e17 : ((s : Int) == 17) = false := beq_eq_false_iff_ne.2 (by omega)
            by_cases h18 : s = 18
            · subst h18
              clear e16 e17
              cases hnu : numM (ofBytes bs) q2 7 with
              | th cc =>
                have HNU := Lib.hid hnu
                have HF := Lib.hid (show R0 = .th cc by rw [← HL.out, lensM, if_neg (show ¬ many ≤ out.length by omega), lenE, hsy, Rs.andThen_ok, if_neg (by omega), if_neg (by omega), if_pos rfl, hnu]; rfl)
                clear hsy hnu
                go_wp2_with (first | (go_at_call 59; (with_reducible refine (isym_ok K (by exact (HXX.out.ap _)) hr hT hR hl HSY.out).mono ?_); clear K; rintro e w1 ⟨rfl, X2, hR2, K⟩) | (go_at_call 37; (with_reducible refine (inum_th (L := Xt ++ (X ++ L)) (K.cov Cov.auto) (by exact ((HXX.out.ap _).ap _)) hr hR2 7 _ (by omega) (by omega) HNU.out).mono ?_); clear K; rintro e w1 ⟨rfl, K⟩))
                rw [HF.out]; exact ⟨rfl, rfl, _, X2, hR2, K.cov Cov.auto⟩
              | ok k q3 =>
                have HNU := Lib.hid hnu
                have hk : k < 2 ^ 7 := by rw [← (numM_ok hnu).2.1]; exact bitsAt_lt _ _ _
                obtain ⟨ne, hne⟩ : ∃ ne, 11 + k = ne := ⟨_, rfl⟩
                have hneI : 11 + (k : Int) = (ne : Int) := by omega
                have j8 := IntWalk.i64_in (ne : Int) (by omega)
                have j9 := IntWalk.i64_in ((many : Int) - (n : Int)) (by omega)
                by_cases hmany : many < ne + out.length
                · have HF := Lib.hid (show R0 = .th 11 by rw [← HL.out, lensM, if_neg (show ¬ many ≤ out.length by omega), lenE, hsy, Rs.andThen_ok, if_neg (by omega), if_neg (by omega), if_pos rfl, hnu]; simp only [Rs.andThen_ok]; simp only [hne]; rw [if_pos hmany])
                  have hd1 : (many : Int) - (n : Int) < (ne : Int) := by omega
                  clear hsy
                  clear hnu hne
                  go_upto_region 14 with ((first | (go_at_call 59; (with_reducible refine (isym_ok K (by exact (HXX.out.ap _)) hr hT hR hl HSY.out).mono ?_); clear K; rintro e w1 ⟨rfl, X2, hR2, K⟩) | (go_at_call 37; (with_reducible refine (inum_ok (L := Xt ++ (X ++ L)) (K.cov Cov.auto) (by exact ((HXX.out.ap _).ap _)) hr hR2 7 _ (by omega) (by omega) HNU.out).mono ?_); clear K; rintro e w1 ⟨rfl, X3, hR3, K⟩)))
                  go_wp2_with (first | (go_at_call 38; (with_reducible refine (ibad_yes K _).mono ?_); clear K; rintro e w1 ⟨rfl, K⟩))
                  rw [HF.out]; exact ⟨rfl, rfl, _, X3, hR3, K.cov Cov.auto⟩
                · have HF := Lib.hid (show lensM l (ofBytes bs) many (d + 1) (out ++ List.replicate ne (0)) q3 = R0 from (HL.out.symm.trans (by rw [lensM, if_neg (show ¬ many ≤ out.length by omega), lenE, hsy, Rs.andThen_ok, if_neg (by omega), if_neg (by omega), if_pos rfl, hnu]; simp only [Rs.andThen_ok]; simp only [hne]; rw [if_neg hmany])).symm)
                  have hd1 : decide ((many : Int) - (n : Int) < (ne : Int)) = false := decide_eq_false (by omega)
                  have HB5 := Lib.hid (byte_rep (n := ne) (a := 0) HB.out (by omega))
                  have HM := Lib.hid hmany
                  have hn9 : ne ≤ 1000 := by omega
                  clear hsy
                  clear hnu hne
                  go_upto_region 14 with ((first | (go_at_call 59; (with_reducible refine (isym_ok K (by exact (HXX.out.ap _)) hr hT hR hl HSY.out).mono ?_); clear K; rintro e w1 ⟨rfl, X2, hR2, K⟩) | (go_at_call 37; (with_reducible refine (inum_ok (L := Xt ++ (X ++ L)) (K.cov Cov.auto) (by exact ((HXX.out.ap _).ap _)) hr hR2 7 _ (by omega) (by omega) HNU.out).mono ?_); clear K; rintro e w1 ⟨rfl, X3, hR3, K⟩)))
                  go_wp2_with (first | (go_at_call 38; (with_reducible refine (ibad_no K _).mono ?_); clear K; rintro e w1 ⟨rfl, K⟩) | (go_at_call 55; (with_reducible refine (irow_any K _ ne _ (by first | rfl | omega) (by first | exact hn9 | omega)).mono ?_); clear K; rintro e w1 ⟨A4, c4, rfl, X4, O4, K⟩) | (at_builtin; refine wpList_does rfl (kd_appendN K _ _ rfl rfl rfl O Seg.auto ((RdS.own (w0 := w0) O4 Seg.auto).at_ _ K) (by kernel_rfl) (by kernel_rfl) (by omega)) ?_; clear K; rintro _ w1 ⟨A5, c5, X5, rfl, O5, K⟩; (try simp only [Nat.zero_add, List.nil_append] at O5)))
                  have hM := HM.out
                  go_roundg d
                  case measure => omega
                  case rel => exact ⟨A5, _, c5, out ++ List.replicate ne (0), X5, X3, q3, ⟨rfl, by first | exact O5 | (rw [List.map_append]; exact O5), hR3, HB5, by omega, by omega, HF⟩, K.cov Cov.auto⟩
            · have e18 : ((s : Int) == 18) = false := beq_eq_false_iff_ne.2 (by omega)
              have hs9 := (symM_ok hsy).2.1
              have j9 := IntWalk.i64_in ((many : Int) - (n : Int)) (by omega)
              by_cases hmany : many < 1 + out.length
              · have HF := Lib.hid (show R0 = .th 11 by rw [← HL.out, lensM, if_neg (show ¬ many ≤ out.length by omega), lenE, hsy, Rs.andThen_ok, if_neg h16, if_neg h17, if_neg h18]; simp only [Rs.andThen_ok]; rw [if_pos hmany])
                have hd1 : (many : Int) - (n : Int) < 1 := by omega
                clear hsy
                go_upto_region 14 with ((first | (go_at_call 59; (with_reducible refine (isym_ok K (by exact (HXX.out.ap _)) hr hT hR hl HSY.out).mono ?_); clear K; rintro e w1 ⟨rfl, X2, hR2, K⟩)))
                go_wp2_with (first | (go_at_call 38; (with_reducible refine (ibad_yes K _).mono ?_); clear K; rintro e w1 ⟨rfl, K⟩))
                rw [HF.out]; exact ⟨rfl, rfl, _, X2, hR2, K.cov Cov.auto⟩
              · have HF := Lib.hid (show lensM l (ofBytes bs) many (d + 1) (out ++ List.replicate 1 ((s : Int) % 256)) q2 = R0 from (HL.out.symm.trans (by rw [lensM, if_neg (show ¬ many ≤ out.length by omega), lenE, hsy, Rs.andThen_ok, if_neg h16, if_neg h17, if_neg h18]; simp only [Rs.andThen_ok]; rw [if_neg hmany])).symm)
                have hd1 : decide ((many : Int) - (n : Int) < 1) = false := decide_eq_false (by omega)
                have HB5 := Lib.hid (byte_rep (n := 1) (a := (s : Int) % 256) HB.out (by omega))
                have HM := Lib.hid hmany
                have hn9 : 1 ≤ 1000 := by omega
                clear hsy
                go_upto_region 14 with ((first | (go_at_call 59; (with_reducible refine (isym_ok K (by exact (HXX.out.ap _)) hr hT hR hl HSY.out).mono ?_); clear K; rintro e w1 ⟨rfl, X2, hR2, K⟩)))
                go_wp2_with (first | (go_at_call 38; (with_reducible refine (ibad_no K _).mono ?_); clear K; rintro e w1 ⟨rfl, K⟩) | (go_at_call 55; (with_reducible refine (irow_any K _ 1 _ (by first | rfl | omega) (by first | exact hn9 | omega)).mono ?_); clear K; rintro e w1 ⟨A4, c4, rfl, X4, O4, K⟩) | (at_builtin; refine wpList_does rfl (kd_appendN K _ _ rfl rfl rfl O Seg.auto ((RdS.own (w0 := w0) O4 Seg.auto).at_ _ K) (by kernel_rfl) (by kernel_rfl) (by omega)) ?_; clear K; rintro _ w1 ⟨A5, c5, X5, rfl, O5, K⟩; (try simp only [Nat.zero_add, List.nil_append] at O5)))
                have hM := HM.out
                go_roundg d
                case measure => omega
                case rel => exact ⟨A5, _, c5, out ++ List.replicate 1 ((s : Int) % 256), X5, X2, q2, ⟨rfl, by first | exact O5 | (rw [List.map_append]; exact O5), hR2, HB5, by omega, by omega, HF⟩, K.cov Cov.auto⟩
    · have h2 : ¬ (n : Int) < (many : Int) := by omega
      have HF := Lib.hid (show R0 = .ok out q by rw [← HL.out, lensM, if_pos (by omega)])
      go_wp2
      go_ret
      rw [HF.out]
      subst hon
      exact ⟨A, c, rfl, X, Xq, O, hR, HB.out, K.cov Cov.auto⟩
end
end Go.Proofs.Ytemnahimheffgaa
