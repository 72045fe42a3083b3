/-
  Package inflate: dynamic (contract).
-/
import Derived.Test.YtemnahimheffgaaInfJ
set_option linter.unusedVariables false
set_option linter.unusedSimpArgs false
namespace Go.Proofs.Ytemnahimheffgaa
open Go.RowKit

def ordA : Array Value := (ordL.map fun k => Value.int .i64 ((k : Nat) : Int)).toArray
theorem ord_get {i : Nat} (h : i < 19) : ordA[i]? = some (.int .i64 ((ordL.getD i 0 : Nat) : Int)) := by
  have hl : ordL.length = 19 := by decide
  rw [ordA, List.getElem?_toArray, List.getElem?_map, List.getD_eq_getElem?_getD, List.getElem?_eq_getElem (by omega)]
  rfl
theorem ord_lt (i : Nat) : ordL.getD i 0 < 19 := by
  rw [List.getD_eq_getElem?_getD]
  cases hg : ordL[i]? with
  | none => decide
  | some v =>
    have h : ∀ v ∈ ordL, v < 19 := by decide
    exact h v (List.mem_of_getElem? hg)
theorem ord_drop {M i : Nat} (h : i < M) (hM : M ≤ 19) : (ordL.take M).drop i = ordL.getD i 0 :: (ordL.take M).drop (i + 1) := by
  have hl : ordL.length = 19 := by decide
  have hi : i < (ordL.take M).length := by rw [List.length_take]; omega
  rw [List.drop_eq_getElem_cons hi, List.getElem_take, List.getD_eq_getElem?_getD, List.getElem?_eq_getElem (by omega)]
  rfl
theorem lensM_len {l : List Int} {b : List Bool} {many : Nat} : ∀ {f : Nat} {out : List Int} {p : Nat} {r : List Int} {q : Nat}, out.length ≤ many → lensM l b many f out p = .ok r q → r.length = many
  | 0, _, _, _, _, _, h => by cases h
  | f + 1, out, p, r, q, ho, h => by
    rw [lensM] at h
    split at h
    · cases h
      omega
    · rcases he : lenE l b out p with ⟨na, p2⟩ | c
      · rw [he, Rs.andThen_ok] at h
        split at h
        · cases h
        · exact lensM_len (by simp; omega) h
      · rw [he] at h
        cases h
def DynP (w0 : World) (gr gx : Nat) (bs : List Int) (L : List Ent) (R : Rs (List Int × List Int)) (e : Ending) (w' : World) : Prop :=
  match R with
  | .ok ld q => ∃ g1 g2, e = .returned (.tuple #[ptr' g1, ptr' g2]) ∧ ∃ T1 T2 X', TbIs g1 ld.1 T1 ∧ TbIs g2 ld.2 T2 ∧ Rdr gr bs q X' ∧ ld.1.length ≤ 300 ∧ ld.2.length ≤ 300 ∧ Known w0 w' (T1 ++ (T2 ++ (X' ++ L)))
  | .th c => e = stopE c ∧ ∃ q X', Rdr gr bs q X' ∧ Known w0 w' (X' ++ L)
theorem RdS.takeC {k : IntKind} {w0 : World} {L : List Ent} {A : Option Addr} {n c : Nat} {xs : List Int} (hR : RdS w0 L k A n xs) (m : Nat) (h : m ≤ n) (hc : n ≤ c) : RdS w0 L k (cutA A c 0) m (xs.take m) := by
  have := hR.cut 0 m (by omega) hc
  rwa [List.drop_zero] at this
section
variable {w0 w : World} {L Xr : List Ent} {gx gr p : Nat} {x : Ifl} {bs : List Int}
set_option maxHeartbeats 1600000 in
set_option maxRecDepth 100000 in
theorem idyn_any (K : Known w0 w (Xr ++ L)) (hx : Has (row gx (ifC x) 53) L) (hr : x.r = ptr' gr) (hR : Rdr gr bs p Xr) :
    Calls Try.prog 43 #[ptr' gx] w (DynP w0 gr gx bs L (dynM (ofBytes bs) p)) := by
  obtain ⟨R0, hR0⟩ : ∃ R0, dynM (ofBytes bs) p = R0 := ⟨_, rfl⟩
  have H0 := Lib.hid hR0
  rw [hR0]
  clear hR0
  have HXX := Lib.hid hx
  cases h1 : numM (ofBytes bs) p 5 with
  | th cc =>
    have H1 := Lib.hid h1
    have HF := Lib.hid (show R0 = .th cc by rw [← H0.out, dynM, h1]; rfl)
    clear h1
    go_enter Try.func43, Try.ntmps43
    go_wp2_with (first | (go_at_call 37; (with_reducible refine (inum_th K HXX.out hr hR 5 _ (by omega) (by omega) H1.out).mono ?_); clear K; rintro e w1 ⟨rfl, K⟩))
    rw [HF.out]; exact ⟨rfl, rfl, _, Xr, hR, K.cov Cov.auto⟩
  | ok a p1 =>
  have H1 := Lib.hid h1
  have ha : a < 2 ^ 5 := by rw [← (numM_ok h1).2.1]; exact bitsAt_lt _ _ _
  obtain ⟨LT, hLT⟩ : ∃ LT, 257 + a = LT := ⟨_, rfl⟩
  have hLTI : 257 + (a : Int) = (LT : Int) := by omega
  have i1 := IntWalk.i64_in (LT : Int) (by omega)
  cases h2 : numM (ofBytes bs) p1 5 with
  | th cc =>
    have H2 := Lib.hid h2
    have HF := Lib.hid (show R0 = .th cc by rw [← H0.out, dynM, h1, Rs.andThen_ok, h2]; rfl)
    clear h1 h2
    go_enter Try.func43, Try.ntmps43
    go_wp2_with (first | (go_at_call 37; (with_reducible refine (inum_th K HXX.out hr hX1 5 _ (by omega) (by omega) H2.out).mono ?_); clear K; rintro e w1 ⟨rfl, K⟩) | (go_at_call 37; (with_reducible refine (inum_ok K HXX.out hr hR 5 _ (by omega) (by omega) H1.out).mono ?_); clear K; rintro e w1 ⟨rfl, X1, hX1, K⟩))
    rw [HF.out]; exact ⟨rfl, rfl, _, X1, hX1, K.cov Cov.auto⟩
  | ok d p2 =>
  have H2 := Lib.hid h2
  have hd : d < 2 ^ 5 := by rw [← (numM_ok h2).2.1]; exact bitsAt_lt _ _ _
  obtain ⟨DT, hDT⟩ : ∃ DT, 1 + d = DT := ⟨_, rfl⟩
  have hDTI : 1 + (d : Int) = (DT : Int) := by omega
  have i2 := IntWalk.i64_in (DT : Int) (by omega)
  cases h3 : numM (ofBytes bs) p2 4 with
  | th cc =>
    have H3 := Lib.hid h3
    have HF := Lib.hid (show R0 = .th cc by rw [← H0.out, dynM, h1, Rs.andThen_ok, h2, Rs.andThen_ok, h3]; rfl)
    clear h1 h2 h3 hLT hDT
    go_enter Try.func43, Try.ntmps43
    go_wp2_with (first | (go_at_call 37; (with_reducible refine (inum_th K HXX.out hr hX2 4 _ (by omega) (by omega) H3.out).mono ?_); clear K; rintro e w1 ⟨rfl, K⟩) | (go_at_call 37; (with_reducible refine (inum_ok K HXX.out hr hX1 5 _ (by omega) (by omega) H2.out).mono ?_); clear K; rintro e w1 ⟨rfl, X2, hX2, K⟩) | (go_at_call 37; (with_reducible refine (inum_ok K HXX.out hr hR 5 _ (by omega) (by omega) H1.out).mono ?_); clear K; rintro e w1 ⟨rfl, X1, hX1, K⟩))
    rw [HF.out]; exact ⟨rfl, rfl, _, X2, hX2, K.cov Cov.auto⟩
  | ok m p3 =>
  have H3 := Lib.hid h3
  have hm : m < 2 ^ 4 := by rw [← (numM_ok h3).2.1]; exact bitsAt_lt _ _ _
  obtain ⟨M, hM⟩ : ∃ M, 4 + m = M := ⟨_, rfl⟩
  have hMI : 4 + (m : Int) = (M : Int) := by omega
  have i3 := IntWalk.i64_in (M : Int) (by omega)
  have HD0 : dynM (ofBytes bs) p = dynT (ofBytes bs) LT DT M p3 := by rw [dynM, h1, Rs.andThen_ok, h2, Rs.andThen_ok, h3, Rs.andThen_ok, hLT, hDT, hM]
  by_cases hA : 286 < LT
  · have HF := Lib.hid (show R0 = .th 11 by rw [← H0.out, HD0, dynT, if_pos (.inl hA)])
    have d1 : decide ((286 : Int) < (LT : Int)) = true := decide_eq_true (by omega)
    clear h1 h2 h3 hLT hDT hM HD0
    go_enter Try.func43, Try.ntmps43
    go_wp2_with (first | (go_at_call 37; (with_reducible refine (inum_ok K HXX.out hr hX2 4 _ (by omega) (by omega) H3.out).mono ?_); clear K; rintro e w1 ⟨rfl, X3, hX3, K⟩) | (go_at_call 37; (with_reducible refine (inum_ok K HXX.out hr hX1 5 _ (by omega) (by omega) H2.out).mono ?_); clear K; rintro e w1 ⟨rfl, X2, hX2, K⟩) | (go_at_call 37; (with_reducible refine (inum_ok K HXX.out hr hR 5 _ (by omega) (by omega) H1.out).mono ?_); clear K; rintro e w1 ⟨rfl, X1, hX1, K⟩) | (go_at_call 38; (with_reducible refine (ibad_yes K _).mono ?_); clear K; rintro e w1 ⟨rfl, K⟩))
    rw [HF.out]; exact ⟨rfl, rfl, _, X3, hX3, K.cov Cov.auto⟩
  by_cases hB : 30 < DT
  · have HF := Lib.hid (show R0 = .th 11 by rw [← H0.out, HD0, dynT, if_pos (.inr hB)])
    have d1 : decide ((286 : Int) < (LT : Int)) = false := decide_eq_false (by omega)
    have d2 : decide ((30 : Int) < (DT : Int)) = true := decide_eq_true (by omega)
    clear h1 h2 h3 hLT hDT hM HD0
    go_enter Try.func43, Try.ntmps43
    go_wp2_with (first | (go_at_call 37; (with_reducible refine (inum_ok K HXX.out hr hX2 4 _ (by omega) (by omega) H3.out).mono ?_); clear K; rintro e w1 ⟨rfl, X3, hX3, K⟩) | (go_at_call 37; (with_reducible refine (inum_ok K HXX.out hr hX1 5 _ (by omega) (by omega) H2.out).mono ?_); clear K; rintro e w1 ⟨rfl, X2, hX2, K⟩) | (go_at_call 37; (with_reducible refine (inum_ok K HXX.out hr hR 5 _ (by omega) (by omega) H1.out).mono ?_); clear K; rintro e w1 ⟨rfl, X1, hX1, K⟩) | (go_at_call 38; (with_reducible refine (ibad_yes K _).mono ?_); clear K; rintro e w1 ⟨rfl, K⟩))
    rw [HF.out]; exact ⟨rfl, rfl, _, X3, hX3, K.cov Cov.auto⟩
  rw [dynT, if_neg (by omega)] at HD0
  have HD := Lib.hid (H0.out.symm.trans HD0)
  have d1 : decide ((286 : Int) < (LT : Int)) = false := decide_eq_false (by omega)
  have d2 : decide ((30 : Int) < (DT : Int)) = false := decide_eq_false (by omega)
  have hM19 : M ≤ 19 := by omega
  clear h1 h2 h3 hLT hDT hM HD0
  go_enter Try.func43, Try.ntmps43
  go_upto_region 6 with ((first | (go_at_call 37; (with_reducible refine (inum_ok K HXX.out hr hX2 4 _ (by omega) (by omega) H3.out).mono ?_); clear K; rintro e w1 ⟨rfl, X3, hX3, K⟩) | (go_at_call 37; (with_reducible refine (inum_ok K HXX.out hr hX1 5 _ (by omega) (by omega) H2.out).mono ?_); clear K; rintro e w1 ⟨rfl, X2, hX2, K⟩) | (go_at_call 37; (with_reducible refine (inum_ok K HXX.out hr hR 5 _ (by omega) (by omega) H1.out).mono ?_); clear K; rintro e w1 ⟨rfl, X1, hX1, K⟩) | (go_at_call 38; (with_reducible refine (ibad_no K _).mono ?_); clear K; rintro e w1 ⟨rfl, K⟩) | ((with_reducible refine at_build (t := 92) rfl ?_); refine ev_build rfl 92 rfl (vals := _) (by first | rfl | (go_simp; done) | (go_simp; rfl)) (show (Instr.build _ _).run Try.prog _ = .ok (.agg ordA) _ by kernel_rfl) ?_) | ((with_reducible refine at_slot (N := 7) rfl ?_); (with_reducible refine at_alloc rfl ?_); refine wpList_does rfl (kd_alloc (z := (.agg (fcells 19 fun _ => .int .i64 0))) K _ rfl (by kernel_rfl)) ?_; clear K; rintro _ w1 ⟨g7, rfl, K⟩; (try dsimp only [Value.cells] at K)) | ((with_reducible refine at_store rfl ?_); refine wpList_does (by rfl) (kd_store_row K _ _ _ (by rfl) (by rfl) (by rfl) Repl.auto (by kernel_rfl) (by simp only [fcells_size]; rfl) (by kernel_rfl)) ?_; clear K; intro _ w1 K; (try simp only [Act.put])) | ((with_reducible refine at_slot (N := 29) rfl ?_); refine wpList_does rfl (kd_make K 22 5 rfl (z := .int .u8 0) (bytes := 1) Try.underlying22 (by kernel_rfl) rfl 19 19 rfl rfl (Nat.le_refl 19) (by omega) (by omega)) ?_; clear K; rintro _ w1 ⟨g8, rfl, K⟩) | ((with_reducible refine at_slice (l := none) (h := some _) rfl ?_); refine wpList_reads rfl (kr_slice_arr rfl rfl (0) (M) (.inl ⟨rfl, rfl⟩) (.inr rfl) (by omega) (by omega) Try.underlying92 (by kernel_rfl)) ?_)))
  have HZ := Lib.hid (show Array.replicate 19 (Value.int .u8 0) = u8s (List.replicate 19 0) by kernel_rfl)
  have hl0 : (List.replicate 19 (0 : Int)).length = 19 := by decide
  have hb0 := Lib.hid (show ∀ v ∈ List.replicate 19 (0 : Int), 0 ≤ v ∧ v ≤ 255 by decide)
  obtain ⟨lz, hlz⟩ : ∃ lz, lz = List.replicate 19 (0 : Int) := ⟨_, rfl⟩
  rw [← hlz] at HZ hl0 hb0 HD
  rw [HZ.out] at K
  obtain ⟨R1, hR1⟩ : ∃ R1, ofM (ofBytes bs) (ordL.take M) lz p3 = R1 := ⟨_, rfl⟩
  have H9 := Lib.hid hR1
  rw [hR1] at HD
  clear hR1 hlz
  go_loopg [33] M (fun d v wr => ∃ (i : Nat) (l0 : List Int) (Xq : List Ent) (q : Nat), (v = .int .i64 i ∧ i + d = M ∧ l0.length = 19 ∧ Hid (∀ v ∈ l0, 0 ≤ v ∧ v ≤ 255) ∧ Rdr gr bs q Xq ∧ Hid (ofM (ofBytes bs) ((ordL.take M).drop i) l0 q = R1)) ∧ Known w0 wr (Xq ++ (row g8 (u8s l0) 5 :: row g7 ordA 92 :: L)))
  case atStart => exact ⟨0, lz, X3, p3, ⟨by go_num, by omega, hl0, hb0, hX3, H9⟩, K.cov Cov.auto⟩
  case round =>
    clear K hX3 hX2 hX1 hR hl0 hb0
    obtain ⟨i, l0, Xq, q, ⟨rfl, hi, hl0, hb0, hRq, HO⟩, K⟩ := hrel
    by_cases hin : i < M
    · have h2 : (i : Int) < (M : Int) := by omega
      obtain ⟨si, hsi⟩ : ∃ si, ordL.getD i 0 = si := ⟨_, rfl⟩
      have hsl : si < 19 := by rw [← hsi]; exact ord_lt i
      have HG := Lib.hid (show ordA[i]? = some (.int .i64 (si : Int)) by rw [← hsi]; exact ord_get (by omega))
      cases hnu : numM (ofBytes bs) q 3 with
      | th cc =>
        have HNU := Lib.hid hnu
        have HR1 := Lib.hid (show R1 = .th cc by rw [← HO.out, ord_drop hin hM19, ofM, hnu]; rfl)
        have HF := Lib.hid (show R0 = .th cc by rw [HD.out, HR1.out]; rfl)
        clear hnu hsi
        go_wp2_with (first | ((with_reducible refine at_load rfl ?_); refine wpList_reads (by rfl) (kr_load_cell K _ _ (by rfl) (by rfl) Has.auto (by kernel_rfl) (HG.out)) ?_) | (go_at_call 37; (with_reducible refine (inum_th K (by exact (HXX.out.tl _).tl _) hr hRq 3 _ (by omega) (by omega) HNU.out).mono ?_); clear K; rintro e w1 ⟨rfl, K⟩))
        rw [HF.out]; exact ⟨rfl, rfl, _, Xq, hRq, K.cov Cov.auto⟩
      | ok k q2 =>
        have HNU := Lib.hid hnu
        have hk : k < 2 ^ 3 := by rw [← (numM_ok hnu).2.1]; exact bitsAt_lt _ _ _
        have HF := Lib.hid (show ofM (ofBytes bs) ((ordL.take M).drop (i + 1)) (l0.set si (k : Int)) q2 = R1 from (HO.out.symm.trans (by rw [ord_drop hin hM19, ofM, hnu, hsi]; rfl)).symm)
        have e8 : (k : Int) % 256 = (k : Int) := by omega
        have HIL := Lib.hid (show decide (si < l0.length) = true from decide_eq_true (by omega))
        have HB := Lib.hid (show ∀ v ∈ l0.set si (k : Int), 0 ≤ v ∧ v ≤ 255 from fun v hv => (List.mem_or_eq_of_mem_set hv).elim (hb0.out v) (fun e => by omega))
        have hset : (l0.set si (k : Int)).length = 19 := by simpa using hl0
        have i4 := IntWalk.i64_in ((i : Int) + 1) (by omega)
        clear hnu hsi
        go_wp2_with (first | ((with_reducible refine at_load rfl ?_); refine wpList_reads (by rfl) (kr_load_cell K _ _ (by rfl) (by rfl) Has.auto (by kernel_rfl) (HG.out)) ?_) | (go_at_call 37; (with_reducible refine (inum_ok K (by exact (HXX.out.tl _).tl _) hr hRq 3 _ (by omega) (by omega) HNU.out).mono ?_); clear K; rintro e w1 ⟨rfl, X4, hX4, K⟩) | ((with_reducible refine at_store rfl ?_); refine wpList_does rfl (kd_store_cell K _ _ _ rfl rfl (by conv => lhs; whnf) Repl.auto rfl rfl (by kernel_rfl) (by rw [u8s_size]; exact HIL.out) (u8s_setI _ _ _)) ?_; clear K; intro _ w1 K))
        go_roundg (gk - 1)
        case measure => omega
        case rel => exact ⟨i + 1, _, X4, q2, ⟨by go_num, by omega, hset, HB, hX4, HF⟩, K.cov Cov.auto⟩
    · have h2 : ¬ (i : Int) < (M : Int) := by omega
      obtain rfl : i = M := by omega
      have hR1 : R1 = .ok l0 q := by rw [← HO.out, List.drop_eq_nil_of_le (by rw [List.length_take]; omega), ofM]
      have HD2 := Lib.hid (show R0 = dynZ (ofBytes bs) LT DT l0 q by rw [HD.out, hR1]; rfl)
      have O0 : OwnL 5 1 (some ⟨g8, 0, none⟩) 19 19 (l0.map (Value.int .u8)) [row g8 (u8s l0) 5] := OwnL.ofLit (by simp [u8s]) hl0 (by omega)
      cases hma : mayH l0 with
      | false =>
        have HF := Lib.hid (show R0 = .th 11 by rw [HD2.out, dynZ, if_pos hma])
        have HM := Lib.hid hma
        clear hma
        go_wp2_with (first | (go_at_call 58; (with_reducible refine (itable_th K (RdS.own O0 Seg.auto) hb0.out (by omega) HM.out).mono ?_); clear K; rintro e w1 ⟨rfl, K⟩))
        rw [HF.out]; exact ⟨rfl, rfl, _, Xq, hRq, K.cov Cov.auto⟩
      | true =>
      have HM := Lib.hid hma
      have HD3 := Lib.hid (show R0 = (lensM l0 (ofBytes bs) (LT + DT) (LT + DT + 1) [] q).andThen (fun l p => if mayH (l.take LT) = false then .th 11 else if mayH (l.drop LT) = false then .th 11 else .ok (l.take LT, l.drop LT) p) by rw [HD2.out, dynZ, if_neg (by rw [hma]; decide)])
      clear hma hR1
      have i6 := IntWalk.i64_in ((i : Int)) (by omega)
      have i7 := IntWalk.i64_in ((LT : Int) + (DT : Int)) (by omega)
      cases hlm : lensM l0 (ofBytes bs) (LT + DT) (LT + DT + 1) [] q with
      | th cc =>
        have HLM := Lib.hid hlm
        have HF := Lib.hid (show R0 = .th cc by rw [HD3.out, hlm]; rfl)
        clear hlm
        go_wp2_with (first | (go_at_call 58; (with_reducible refine (itable_ok K (RdS.own O0 Seg.auto) hb0.out HM.out).mono ?_); clear K; rintro e w1 ⟨g46, rfl, X5, hT5, K⟩) | (go_at_call 57; (with_reducible refine (ilens_any K (by exact (HXX.out.tl _).tl _) hr hT5 hRq (by omega) (LT + DT) _ (by omega) (by omega)).mono ?_); clear K; rintro e w1 hLP; rw [HLM.out] at hLP; obtain ⟨rfl, q9, X9, hR9, K⟩ := hLP))
        rw [HF.out]; exact ⟨rfl, rfl, _, X9, hR9, K.cov Cov.auto⟩
      | ok l q2 =>
      have HLM := Lib.hid hlm
      have hll := lensM_len (by simp) hlm
      have HD4 := Lib.hid (show R0 = if mayH (l.take LT) = false then .th 11 else if mayH (l.drop LT) = false then .th 11 else .ok (l.take LT, l.drop LT) q2 by rw [HD3.out, hlm]; rfl)
      clear hlm
      go_upto_region 11 with ((first | (go_at_call 58; (with_reducible refine (itable_ok K (RdS.own O0 Seg.auto) hb0.out HM.out).mono ?_); clear K; rintro e w1 ⟨g46, rfl, X5, hT5, K⟩) | (go_at_call 57; (with_reducible refine (ilens_any K (by exact (HXX.out.tl _).tl _) hr hT5 hRq (by omega) (LT + DT) _ (by omega) (by omega)).mono ?_); clear K; rintro e w1 hLP; rw [HLM.out] at hLP; obtain ⟨A9, c9, rfl, X9, X9', O9, hR9, hb9, K⟩ := hLP)))
      have hc9 : l.length ≤ c9 := O9.le
      have RT := Lib.hid (show RdS w0 X9 .u8 (cutA A9 c9 0) LT (l.take LT) from RdS.takeC (RdS.own O9 (Seg.all X9)) LT (by omega) (by omega))
      have RD := Lib.hid (show RdS w0 X9 .u8 (cutA A9 c9 LT) DT (l.drop LT) from (RdS.own (k := .u8) (xs := l) O9 (Seg.all X9)).cutE LT DT (by omega) (by omega))
      have HB9 := Lib.hid hb9
      have HBT := Lib.hid (show ∀ v ∈ l.take LT, 0 ≤ v ∧ v ≤ 255 from fun v hv => hb9 v (List.mem_of_mem_take hv))
      have HBD := Lib.hid (show ∀ v ∈ l.drop LT, 0 ≤ v ∧ v ≤ 255 from fun v hv => hb9 v (List.mem_of_mem_drop hv))
      have htl : (l.take LT).length ≤ 300 := by rw [List.length_take]; omega
      have hdl : (l.drop LT).length ≤ 300 := by rw [List.length_drop]; omega
      clear hb9
      cases hm1 : mayH (l.take LT) with
      | false =>
        have HM1 := Lib.hid hm1
        have HF := Lib.hid (show R0 = .th 11 by rw [HD4.out, if_pos hm1])
        clear hm1
        refine wp_region_GK (X := X9) K Cov.auto (by kernel_rfl) (by kernel_rfl) (by kernel_rfl) (fun K hHeld => ?_)
        refine wpG_takeA 0 (v := ?_) ?_ hHeld ?_
        rotate_left
        · (intro w hS; (clear hS; go_simp); try with_reducible rfl)
        try simp only [Act.put, List.setIfInBounds_toArray, List.set_cons_zero, List.set_cons_succ]
        refine wpG_takeA 1 (v := ?_) ?_ hHeld ?_
        rotate_left
        · (intro w hS; (clear hS; go_simp); try with_reducible rfl)
        try simp only [Act.put, List.setIfInBounds_toArray, List.set_cons_zero, List.set_cons_succ]
        refine wpG_takeA 2 (v := .slice (cutA (A9) (c9) (0)) (LT) (c9 - (0))) ?_ hHeld ?_
        · (intro w hS; first | exact kr_cut (by rfl) (by rfl) (0) (LT) (.inl ⟨by rfl, by omega⟩) (.inr ⟨_, _, by rfl, by rfl, by omega⟩) (by omega) (by omega) Try.underlying22 (by kernel_rfl))
        try simp only [Act.put, List.setIfInBounds_toArray, List.set_cons_zero, List.set_cons_succ]
        refine wpG_takeA 4 (v := ?_) ?_ hHeld ?_
        rotate_left
        · (intro w hS; (clear hS; go_simp); try with_reducible rfl)
        try simp only [Act.put, List.setIfInBounds_toArray, List.set_cons_zero, List.set_cons_succ]
        refine wpG_takeA 5 (v := ?_) ?_ hHeld ?_
        rotate_left
        · (intro w hS; (clear hS; go_simp); try with_reducible rfl)
        try simp only [Act.put, List.setIfInBounds_toArray, List.set_cons_zero, List.set_cons_succ]
        refine wpG_takeA 6 (v := .slice (cutA (A9) (c9) (LT)) (DT) (c9 - (LT))) ?_ hHeld ?_
        · (intro w hS; first | exact kr_cut (by rfl) (by rfl) (LT) (DT) (.inr ⟨_, _, by rfl, by rfl, by omega⟩) (.inl ⟨by rfl, by omega⟩) (by omega) (by omega) Try.underlying22 (by kernel_rfl))
        try simp only [Act.put, List.setIfInBounds_toArray, List.set_cons_zero, List.set_cons_succ]
        refine wpG_oneA 3 (fun K9 hK => ?_)
        go_simp
        (go_at_call 58; (with_reducible refine (itable_th K (RT.out.cov Cov.auto) HBT.out (by omega) HM1.out).mono ?_); clear K; rintro e w1 ⟨rfl, K⟩)
        rw [HF.out]; exact ⟨rfl, rfl, _, X9', hR9, K.cov Cov.auto⟩
      | true =>
      have HM1 := Lib.hid hm1
      cases hm2 : mayH (l.drop LT) with
      | false =>
        have HM2 := Lib.hid hm2
        have HF := Lib.hid (show R0 = .th 11 by rw [HD4.out, if_neg (by rw [hm1]; decide), if_pos hm2])
        clear hm1 hm2
        refine wp_region_GK (X := X9) K Cov.auto (by kernel_rfl) (by kernel_rfl) (by kernel_rfl) (fun K hHeld => ?_)
        refine wpG_takeA 0 (v := ?_) ?_ hHeld ?_
        rotate_left
        · (intro w hS; (clear hS; go_simp); try with_reducible rfl)
        try simp only [Act.put, List.setIfInBounds_toArray, List.set_cons_zero, List.set_cons_succ]
        refine wpG_takeA 1 (v := ?_) ?_ hHeld ?_
        rotate_left
        · (intro w hS; (clear hS; go_simp); try with_reducible rfl)
        try simp only [Act.put, List.setIfInBounds_toArray, List.set_cons_zero, List.set_cons_succ]
        refine wpG_takeA 2 (v := .slice (cutA (A9) (c9) (0)) (LT) (c9 - (0))) ?_ hHeld ?_
        · (intro w hS; first | exact kr_cut (by rfl) (by rfl) (0) (LT) (.inl ⟨by rfl, by omega⟩) (.inr ⟨_, _, by rfl, by rfl, by omega⟩) (by omega) (by omega) Try.underlying22 (by kernel_rfl))
        try simp only [Act.put, List.setIfInBounds_toArray, List.set_cons_zero, List.set_cons_succ]
        refine wpG_takeA 4 (v := ?_) ?_ hHeld ?_
        rotate_left
        · (intro w hS; (clear hS; go_simp); try with_reducible rfl)
        try simp only [Act.put, List.setIfInBounds_toArray, List.set_cons_zero, List.set_cons_succ]
        refine wpG_takeA 5 (v := ?_) ?_ hHeld ?_
        rotate_left
        · (intro w hS; (clear hS; go_simp); try with_reducible rfl)
        try simp only [Act.put, List.setIfInBounds_toArray, List.set_cons_zero, List.set_cons_succ]
        refine wpG_takeA 6 (v := .slice (cutA (A9) (c9) (LT)) (DT) (c9 - (LT))) ?_ hHeld ?_
        · (intro w hS; first | exact kr_cut (by rfl) (by rfl) (LT) (DT) (.inr ⟨_, _, by rfl, by rfl, by omega⟩) (.inl ⟨by rfl, by omega⟩) (by omega) (by omega) Try.underlying22 (by kernel_rfl))
        try simp only [Act.put, List.setIfInBounds_toArray, List.set_cons_zero, List.set_cons_succ]
        refine wpG_oneA 3 (fun K9 hK => ?_)
        go_simp
        (go_at_call 58; (with_reducible refine (itable_ok K (RT.out.cov Cov.auto) HBT.out HM1.out).mono ?_); clear K; rintro e w1 ⟨g54, rfl, T1, hT1, K⟩)
        refine hK.out _ _ (K.cov Cov.auto) (fun hHeld => ?_)
        clear hK K9
        try simp only [Act.put, List.setIfInBounds_toArray, List.set_cons_zero, List.set_cons_succ]
        refine wpG_oneA 7 (fun K9 hK => ?_)
        go_simp
        (go_at_call 58; (with_reducible refine (itable_th K (RD.out.cov Cov.auto) HBD.out (by omega) HM2.out).mono ?_); clear K; rintro e w1 ⟨rfl, K⟩)
        rw [HF.out]; exact ⟨rfl, rfl, _, X9', hR9, K.cov Cov.auto⟩
      | true =>
        have HM2 := Lib.hid hm2
        have HF := Lib.hid (show R0 = .ok (l.take LT, l.drop LT) q2 by rw [HD4.out, if_neg (by rw [hm1]; decide), if_neg (by rw [hm2]; decide)])
        clear hm1 hm2
        refine wp_region_GK (X := X9) K Cov.auto (by kernel_rfl) (by kernel_rfl) (by kernel_rfl) (fun K hHeld => ?_)
        refine wpG_takeA 0 (v := ?_) ?_ hHeld ?_
        rotate_left
        · (intro w hS; (clear hS; go_simp); try with_reducible rfl)
        try simp only [Act.put, List.setIfInBounds_toArray, List.set_cons_zero, List.set_cons_succ]
        refine wpG_takeA 1 (v := ?_) ?_ hHeld ?_
        rotate_left
        · (intro w hS; (clear hS; go_simp); try with_reducible rfl)
        try simp only [Act.put, List.setIfInBounds_toArray, List.set_cons_zero, List.set_cons_succ]
        refine wpG_takeA 2 (v := .slice (cutA (A9) (c9) (0)) (LT) (c9 - (0))) ?_ hHeld ?_
        · (intro w hS; first | exact kr_cut (by rfl) (by rfl) (0) (LT) (.inl ⟨by rfl, by omega⟩) (.inr ⟨_, _, by rfl, by rfl, by omega⟩) (by omega) (by omega) Try.underlying22 (by kernel_rfl))
        try simp only [Act.put, List.setIfInBounds_toArray, List.set_cons_zero, List.set_cons_succ]
        refine wpG_takeA 4 (v := ?_) ?_ hHeld ?_
        rotate_left
        · (intro w hS; (clear hS; go_simp); try with_reducible rfl)
        try simp only [Act.put, List.setIfInBounds_toArray, List.set_cons_zero, List.set_cons_succ]
        refine wpG_takeA 5 (v := ?_) ?_ hHeld ?_
        rotate_left
        · (intro w hS; (clear hS; go_simp); try with_reducible rfl)
        try simp only [Act.put, List.setIfInBounds_toArray, List.set_cons_zero, List.set_cons_succ]
        refine wpG_takeA 6 (v := .slice (cutA (A9) (c9) (LT)) (DT) (c9 - (LT))) ?_ hHeld ?_
        · (intro w hS; first | exact kr_cut (by rfl) (by rfl) (LT) (DT) (.inr ⟨_, _, by rfl, by rfl, by omega⟩) (.inl ⟨by rfl, by omega⟩) (by omega) (by omega) Try.underlying22 (by kernel_rfl))
        try simp only [Act.put, List.setIfInBounds_toArray, List.set_cons_zero, List.set_cons_succ]
        refine wpG_oneA 3 (fun K9 hK => ?_)
        go_simp
        (go_at_call 58; (with_reducible refine (itable_ok K (RT.out.cov Cov.auto) HBT.out HM1.out).mono ?_); clear K; rintro e w1 ⟨g54, rfl, T1, hT1, K⟩)
        refine hK.out _ _ (K.cov Cov.auto) (fun hHeld => ?_)
        clear hK K9
        try simp only [Act.put, List.setIfInBounds_toArray, List.set_cons_zero, List.set_cons_succ]
        refine wpG_oneA 7 (fun K9 hK => ?_)
        go_simp
        (go_at_call 58; (with_reducible refine (itable_ok K (RD.out.cov Cov.auto) HBD.out HM2.out).mono ?_); clear K; rintro e w1 ⟨g58, rfl, T2, hT2, K⟩)
        refine hK.out _ _ (K.cov Cov.auto) (fun hHeld => ?_)
        clear hK K9
        try simp only [Act.put, List.setIfInBounds_toArray, List.set_cons_zero, List.set_cons_succ]
        refine wpG_takeA 8 (v := ?_) ?_ hHeld ?_
        rotate_left
        · (intro w hS; (clear hS; go_simp); try with_reducible rfl)
        try simp only [Act.put, List.setIfInBounds_toArray, List.set_cons_zero, List.set_cons_succ]
        refine wpG_takeA 9 (v := ?_) ?_ hHeld ?_
        rotate_left
        · (intro w hS; (clear hS; go_simp); try with_reducible rfl)
        try simp only [Act.put, List.setIfInBounds_toArray, List.set_cons_zero, List.set_cons_succ]
        refine wpG_done (by kernel_rfl) ?_
        skip
        go_wp2
        go_ret2
        rw [HF.out]
        exact ⟨_, _, rfl, T1, T2, X9', hT1, hT2, hR9, htl, hdl, K.cov Cov.auto⟩
end
end Go.Proofs.Ytemnahimheffgaa
