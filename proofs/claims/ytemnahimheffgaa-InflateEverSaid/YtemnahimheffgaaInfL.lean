/-
  Package inflate: a state's relation to the model; begins (contract).
-/
import Derived.Test.YtemnahimheffgaaInfC
import Derived.Test.YtemnahimheffgaaInfK
set_option linter.unusedVariables false
set_option linter.unusedSimpArgs false
namespace Go.Proofs.Ytemnahimheffgaa
open Go.RowKit

def nxtV (n : Nat) : Value := match n with
  | 0 => .nilFunc
  | 1 => fnI 23
  | 2 => fnI 41
  | _ => fnI 44
structure Cells (m : Mo) (x : Ifl) : Prop where
  (most : x.most = m.most) (h0 : 0 ≤ m.most) (h5 : m.most ≤ 5000) (on : x.on = m.out.length) (room : (m.out.length : Int) ≤ m.most) (byte : ∀ v ∈ m.out, 0 ≤ v ∧ v ≤ 255)
  (last : x.last = m.last) (left : x.left = (m.left : Int)) (fit : m.next = 2 → (m.out.length : Int) + m.left ≤ m.most) (e : x.e = m.e)
def Tabs (m : Mo) (x : Ifl) (T : List Ent) : Prop := (m.next ≠ 3 ∧ T = []) ∨ (m.next = 3 ∧ ∃ g1 g2 T1 T2, x.lit = ptr' g1 ∧ x.dist = ptr' g2 ∧ TbIs g1 m.lit T1 ∧ TbIs g2 m.dist T2 ∧ m.lit.length ≤ 300 ∧ m.dist.length ≤ 300 ∧ T = T1 ++ T2)
def Is (m : Mo) (x : Ifl) (Z : List Ent) : Prop := Cells m x ∧ ∃ XO T, OwnL 5 1 x.O x.on x.oc (m.out.map (Value.int .u8)) XO ∧ Tabs m x T ∧ Z = XO ++ T
def Keeps (x x' : Ifl) : Prop := x'.r = x.r ∧ x'.R = x.R ∧ x'.rn = x.rn ∧ x'.rc = x.rc ∧ x'.from_ = x.from_
def StP (w0 : World) (gx gr : Nat) (bs : List Int) (x : Ifl) (Z L : List Ent) (R : Rs Mo) (e : Ending) (w' : World) : Prop :=
  match R with
  | .ok m' q => e = .returned (nxtV m'.next) ∧ ∃ x' X' Z', Rdr gr bs q X' ∧ Is m' x' Z' ∧ Keeps x x' ∧ Known w0 w' (X' ++ (row gx (ifC x') 53 :: (Z' ++ L)))
  | .th c => e = stopE c ∧ ∃ q X', Rdr gr bs q X' ∧ Known w0 w' (X' ++ (row gx (ifC x) 53 :: (Z ++ L)))
section
variable {w0 w : World} {L Xr Z : List Ent} {gx gr p : Nat} {x : Ifl} {bs : List Int} {m : Mo}
set_option maxHeartbeats 1600000 in
set_option maxRecDepth 100000 in
theorem ibegins_any (K : Known w0 w (Xr ++ (row gx (ifC x) 53 :: (Z ++ L)))) (hR : Rdr gr bs p Xr) (hr : x.r = ptr' gr) (hI : Is m x Z) (hn1 : m.next = 1) :
    Calls Try.prog 23 #[ptr' gx] w (StP w0 gx gr bs x Z L (beginsM (ofBytes bs) m p)) := by
  obtain ⟨R0, hR0⟩ : ∃ R0, beginsM (ofBytes bs) m p = R0 := ⟨_, rfl⟩
  have H0 := Lib.hid hR0
  rw [hR0]
  clear hR0
  obtain ⟨hC, XO, T, hO, hT, rfl⟩ := hI
  obtain ⟨-, rfl⟩ : m.next ≠ 3 ∧ T = [] := by
    rcases hT with h | ⟨h, -⟩
    · exact h
    · omega
  rw [List.append_nil] at K ⊢
  have HN1 := Lib.hid hn1
  clear hn1 hT
  cases h1 : numM (ofBytes bs) p 1 with
  | th cc =>
    have H1 := Lib.hid h1
    have HF := Lib.hid (show R0 = .th cc by rw [← H0.out, beginsM, h1]; rfl)
    clear h1
    go_enter Try.func23, Try.ntmps23
    go_wp2_with (first | (go_at_call 37; (with_reducible refine (inum_th K Has.auto hr hR 1 _ (by omega) (by omega) H1.out).mono ?_); clear K; rintro e w1 ⟨rfl, K⟩))
    rw [HF.out]; exact ⟨rfl, rfl, _, Xr, hR, K.cov Cov.auto⟩
  | ok la p1 =>
  have H1 := Lib.hid h1
  obtain ⟨b, hb⟩ : ∃ b, ((la : Int) == 1) = b := ⟨_, rfl⟩
  have HB := Lib.hid (show b = decide (la = 1) by rw [← hb]; by_cases h : la = 1 <;> simp [h] <;> omega)
  cases h2 : numM (ofBytes bs) p1 2 with
  | th cc =>
    have H2 := Lib.hid h2
    have HF := Lib.hid (show R0 = .th cc by rw [← H0.out, beginsM, h1, Rs.andThen_ok, h2]; rfl)
    clear h1 h2
    go_enter Try.func23, Try.ntmps23
    go_wp2_with (first | (go_at_call 37; (with_reducible refine (inum_ok K Has.auto hr hR 1 _ (by omega) (by omega) H1.out).mono ?_); clear K; rintro e w1 ⟨rfl, X1, hX1, K⟩) | (go_at_call 37; (with_reducible refine (inum_th K Has.auto hr hX1 2 _ (by omega) (by omega) H2.out).mono ?_); clear K; rintro e w1 ⟨rfl, K⟩))
    rw [HF.out]; exact ⟨rfl, rfl, _, X1, hX1, K.cov Cov.auto⟩
  | ok k p2 =>
  have H2 := Lib.hid h2
  have hk : k < 2 ^ 2 := by rw [← (numM_ok h2).2.1]; exact bitsAt_lt _ _ _
  have HA := Lib.hid (show R0 = _ from (H0.out.symm.trans (by rw [beginsM, h1, Rs.andThen_ok, h2, Rs.andThen_ok])))
  clear h1 h2
  by_cases hk3 : k = 3
  · subst hk3
    have HF := Lib.hid (show R0 = .th 11 by rw [HA.out]; rfl)
    go_enter Try.func23, Try.ntmps23
    go_wp2_with (first | (go_at_call 37; (with_reducible refine (inum_ok K Has.auto hr hX1 2 _ (by omega) (by omega) H2.out).mono ?_); clear K; rintro e w1 ⟨rfl, X2, hX2, K⟩) | (go_at_call 37; (with_reducible refine (inum_ok K Has.auto hr hR 1 _ (by omega) (by omega) H1.out).mono ?_); clear K; rintro e w1 ⟨rfl, X1, hX1, K⟩) | (go_at_call 38; (with_reducible refine (ibad_yes K _).mono ?_); clear K; rintro e w1 ⟨rfl, K⟩))
    rw [HF.out]; exact ⟨rfl, rfl, _, X2, hX2, K.cov Cov.auto⟩
  by_cases hk0 : k = 0
  · subst hk0
    have HA2 := Lib.hid (show R0 = (numM (ofBytes bs) ((p2 + 7) / 8 * 8) 16).andThen (fun n p => (numM (ofBytes bs) p 16).andThen fun t p =>
        if n + t ≠ 65535 then .th 11 else if m.most - m.out.length < n then .th 12 else .ok { m with last := decide (la = 1), left := n, next := 2 } p) by rw [HA.out]; rfl)
    clear HA
    cases h4 : numM (ofBytes bs) ((p2 + 7) / 8 * 8) 16 with
    | th cc =>
      have H4 := Lib.hid h4
      have HF := Lib.hid (show R0 = .th cc by rw [HA2.out, h4]; rfl)
      clear h4
      go_enter Try.func23, Try.ntmps23
      go_wp2_with (first | (go_at_call 37; (with_reducible refine (inum_ok K Has.auto hr hX1 2 _ (by omega) (by omega) H2.out).mono ?_); clear K; rintro e w1 ⟨rfl, X2, hX2, K⟩) | (go_at_call 37; (with_reducible refine (inum_ok K Has.auto hr hR 1 _ (by omega) (by omega) H1.out).mono ?_); clear K; rintro e w1 ⟨rfl, X1, hX1, K⟩) | (go_at_call 38; (with_reducible refine (ibad_no K _).mono ?_); clear K; rintro e w1 ⟨rfl, K⟩) | (((with_reducible refine at_load rfl ?_); first | (refine wpList_reads (by rfl) (kr_load_cell K _ _ (by rfl) (by rfl) Has.auto (by decide +kernel) (if_most _)) ?_) | (refine wpList_reads (by rfl) (kr_load_cell K _ _ (by rfl) (by rfl) Has.auto (by decide +kernel) (if_out _)) ?_) | (refine wpList_reads (by rfl) (kr_load_cell K _ _ (by rfl) (by rfl) Has.auto (by decide +kernel) (if_rest _)) ?_) | (refine wpList_reads (by rfl) (kr_load_cell K _ _ (by rfl) (by rfl) Has.auto (by decide +kernel) (if_from _)) ?_) | (refine wpList_reads (by rfl) (kr_load_cell K _ _ (by rfl) (by rfl) Has.auto (by decide +kernel) (if_r _)) ?_) | (refine wpList_reads (by rfl) (kr_load_cell K _ _ (by rfl) (by rfl) Has.auto (by decide +kernel) (if_next _)) ?_) | (refine wpList_reads (by rfl) (kr_load_cell K _ _ (by rfl) (by rfl) Has.auto (by decide +kernel) (if_last _)) ?_) | (refine wpList_reads (by rfl) (kr_load_cell K _ _ (by rfl) (by rfl) Has.auto (by decide +kernel) (if_left _)) ?_) | (refine wpList_reads (by rfl) (kr_load_cell K _ _ (by rfl) (by rfl) Has.auto (by decide +kernel) (if_lit _)) ?_) | (refine wpList_reads (by rfl) (kr_load_cell K _ _ (by rfl) (by rfl) Has.auto (by decide +kernel) (if_dist _)) ?_) | (refine wpList_reads (by rfl) (kr_load_cell K _ _ (by rfl) (by rfl) Has.auto (by decide +kernel) (if_e _)) ?_)); (try dsimp only)) | (go_at_call 39; (with_reducible refine (ralign_any K hX2).mono ?_); clear K; rintro e w1 ⟨rfl, X3, hX3, K⟩) | (go_at_call 37; (with_reducible refine (inum_th K Has.auto hr hX3 16 _ (by omega) (by omega) H4.out).mono ?_); clear K; rintro e w1 ⟨rfl, K⟩))
      rw [HF.out]; exact ⟨rfl, rfl, _, X3, hX3, K.cov Cov.auto⟩
    | ok n p4 =>
    have H4 := Lib.hid h4
    have hn : n < 2 ^ 16 := by rw [← (numM_ok h4).2.1]; exact bitsAt_lt _ _ _
    cases h5 : numM (ofBytes bs) p4 16 with
    | th cc =>
      have H5 := Lib.hid h5
      have HF := Lib.hid (show R0 = .th cc by rw [HA2.out, h4, Rs.andThen_ok, h5]; rfl)
      clear h4 h5
      go_enter Try.func23, Try.ntmps23
      go_wp2_with (first | (go_at_call 37; (with_reducible refine (inum_ok K Has.auto hr hX1 2 _ (by omega) (by omega) H2.out).mono ?_); clear K; rintro e w1 ⟨rfl, X2, hX2, K⟩) | (go_at_call 37; (with_reducible refine (inum_ok K Has.auto hr hR 1 _ (by omega) (by omega) H1.out).mono ?_); clear K; rintro e w1 ⟨rfl, X1, hX1, K⟩) | (go_at_call 38; (with_reducible refine (ibad_no K _).mono ?_); clear K; rintro e w1 ⟨rfl, K⟩) | (((with_reducible refine at_load rfl ?_); first | (refine wpList_reads (by rfl) (kr_load_cell K _ _ (by rfl) (by rfl) Has.auto (by decide +kernel) (if_most _)) ?_) | (refine wpList_reads (by rfl) (kr_load_cell K _ _ (by rfl) (by rfl) Has.auto (by decide +kernel) (if_out _)) ?_) | (refine wpList_reads (by rfl) (kr_load_cell K _ _ (by rfl) (by rfl) Has.auto (by decide +kernel) (if_rest _)) ?_) | (refine wpList_reads (by rfl) (kr_load_cell K _ _ (by rfl) (by rfl) Has.auto (by decide +kernel) (if_from _)) ?_) | (refine wpList_reads (by rfl) (kr_load_cell K _ _ (by rfl) (by rfl) Has.auto (by decide +kernel) (if_r _)) ?_) | (refine wpList_reads (by rfl) (kr_load_cell K _ _ (by rfl) (by rfl) Has.auto (by decide +kernel) (if_next _)) ?_) | (refine wpList_reads (by rfl) (kr_load_cell K _ _ (by rfl) (by rfl) Has.auto (by decide +kernel) (if_last _)) ?_) | (refine wpList_reads (by rfl) (kr_load_cell K _ _ (by rfl) (by rfl) Has.auto (by decide +kernel) (if_left _)) ?_) | (refine wpList_reads (by rfl) (kr_load_cell K _ _ (by rfl) (by rfl) Has.auto (by decide +kernel) (if_lit _)) ?_) | (refine wpList_reads (by rfl) (kr_load_cell K _ _ (by rfl) (by rfl) Has.auto (by decide +kernel) (if_dist _)) ?_) | (refine wpList_reads (by rfl) (kr_load_cell K _ _ (by rfl) (by rfl) Has.auto (by decide +kernel) (if_e _)) ?_)); (try dsimp only)) | (go_at_call 39; (with_reducible refine (ralign_any K hX2).mono ?_); clear K; rintro e w1 ⟨rfl, X3, hX3, K⟩) | (go_at_call 37; (with_reducible refine (inum_th K Has.auto hr hX4 16 _ (by omega) (by omega) H5.out).mono ?_); clear K; rintro e w1 ⟨rfl, K⟩) | (go_at_call 37; (with_reducible refine (inum_ok K Has.auto hr hX3 16 _ (by omega) (by omega) H4.out).mono ?_); clear K; rintro e w1 ⟨rfl, X4, hX4, K⟩))
      rw [HF.out]; exact ⟨rfl, rfl, _, X4, hX4, K.cov Cov.auto⟩
    | ok t p5 =>
    have H5 := Lib.hid h5
    have ht : t < 2 ^ 16 := by rw [← (numM_ok h5).2.1]; exact bitsAt_lt _ _ _
    have HA3 := Lib.hid (show R0 = if n + t ≠ 65535 then .th 11 else if m.most - m.out.length < n then .th 12 else .ok { m with last := decide (la = 1), left := n, next := 2 } p5 by rw [HA2.out, h4, Rs.andThen_ok, h5, Rs.andThen_ok])
    have j1 := IntWalk.i64_in ((n : Int) + (t : Int)) (by omega)
    clear h4 h5
    by_cases hs : n + t = 65535
    · have j2 : (n : Int) + (t : Int) = 65535 := by omega
      have HM0 := Lib.hid (show 0 ≤ x.most ∧ x.most ≤ 9223372036854775807 by rw [hC.most]; have := hC.h0; have := hC.h5; omega)
      have HON := Lib.hid (show x.on ≤ 9223372036854775807 by rw [hC.on]; have := hC.room; have := hC.h5; omega)
      by_cases hm : m.most - m.out.length < n
      · have HF := Lib.hid (show R0 = .th 12 by rw [HA3.out, if_neg (by omega), if_pos hm])
        have HRM := Lib.hid (show x.most - x.on < (n : Int) by rw [hC.most, hC.on]; exact hm)
        clear hs hm
        go_enter Try.func23, Try.ntmps23
        go_wp2_with (first | (go_at_call 37; (with_reducible refine (inum_ok K Has.auto hr hX4 16 _ (by omega) (by omega) H5.out).mono ?_); clear K; rintro e w1 ⟨rfl, X5, hX5, K⟩) | (go_at_call 37; (with_reducible refine (inum_ok K Has.auto hr hX3 16 _ (by omega) (by omega) H4.out).mono ?_); clear K; rintro e w1 ⟨rfl, X4, hX4, K⟩) | (go_at_call 37; (with_reducible refine (inum_ok K Has.auto hr hX1 2 _ (by omega) (by omega) H2.out).mono ?_); clear K; rintro e w1 ⟨rfl, X2, hX2, K⟩) | (go_at_call 37; (with_reducible refine (inum_ok K Has.auto hr hR 1 _ (by omega) (by omega) H1.out).mono ?_); clear K; rintro e w1 ⟨rfl, X1, hX1, K⟩) | (go_at_call 38; (with_reducible refine (ibad_no K _).mono ?_); clear K; rintro e w1 ⟨rfl, K⟩) | (((with_reducible refine at_load rfl ?_); first | (refine wpList_reads (by rfl) (kr_load_cell K _ _ (by rfl) (by rfl) Has.auto (by decide +kernel) (if_most _)) ?_) | (refine wpList_reads (by rfl) (kr_load_cell K _ _ (by rfl) (by rfl) Has.auto (by decide +kernel) (if_out _)) ?_) | (refine wpList_reads (by rfl) (kr_load_cell K _ _ (by rfl) (by rfl) Has.auto (by decide +kernel) (if_rest _)) ?_) | (refine wpList_reads (by rfl) (kr_load_cell K _ _ (by rfl) (by rfl) Has.auto (by decide +kernel) (if_from _)) ?_) | (refine wpList_reads (by rfl) (kr_load_cell K _ _ (by rfl) (by rfl) Has.auto (by decide +kernel) (if_r _)) ?_) | (refine wpList_reads (by rfl) (kr_load_cell K _ _ (by rfl) (by rfl) Has.auto (by decide +kernel) (if_next _)) ?_) | (refine wpList_reads (by rfl) (kr_load_cell K _ _ (by rfl) (by rfl) Has.auto (by decide +kernel) (if_last _)) ?_) | (refine wpList_reads (by rfl) (kr_load_cell K _ _ (by rfl) (by rfl) Has.auto (by decide +kernel) (if_left _)) ?_) | (refine wpList_reads (by rfl) (kr_load_cell K _ _ (by rfl) (by rfl) Has.auto (by decide +kernel) (if_lit _)) ?_) | (refine wpList_reads (by rfl) (kr_load_cell K _ _ (by rfl) (by rfl) Has.auto (by decide +kernel) (if_dist _)) ?_) | (refine wpList_reads (by rfl) (kr_load_cell K _ _ (by rfl) (by rfl) Has.auto (by decide +kernel) (if_e _)) ?_)); (try dsimp only)) | (go_at_call 39; (with_reducible refine (ralign_any K hX2).mono ?_); clear K; rintro e w1 ⟨rfl, X3, hX3, K⟩) | (go_at_call 40; (with_reducible refine (iroom_th K Has.auto _ HM0.out HON.out HRM.out).mono ?_); clear K; rintro e w1 ⟨rfl, K⟩))
        rw [HF.out]; exact ⟨rfl, rfl, _, X5, hX5, K.cov Cov.auto⟩
      · have HF := Lib.hid (show R0 = .ok { m with last := b, left := n, next := 2 } p5 by rw [HA3.out, if_neg (by omega), if_neg hm, HB.out])
        have HRM := Lib.hid (show (n : Int) ≤ x.most - x.on by rw [hC.most, hC.on]; omega)
        have HFIT := Lib.hid (show (m.out.length : Int) + n ≤ m.most by omega)
        clear hs hm
        go_enter Try.func23, Try.ntmps23
        go_wp2_with (first | (go_at_call 37; (with_reducible refine (inum_ok K Has.auto hr hX4 16 _ (by omega) (by omega) H5.out).mono ?_); clear K; rintro e w1 ⟨rfl, X5, hX5, K⟩) | (go_at_call 37; (with_reducible refine (inum_ok K Has.auto hr hX3 16 _ (by omega) (by omega) H4.out).mono ?_); clear K; rintro e w1 ⟨rfl, X4, hX4, K⟩) | (go_at_call 37; (with_reducible refine (inum_ok K Has.auto hr hX1 2 _ (by omega) (by omega) H2.out).mono ?_); clear K; rintro e w1 ⟨rfl, X2, hX2, K⟩) | (go_at_call 37; (with_reducible refine (inum_ok K Has.auto hr hR 1 _ (by omega) (by omega) H1.out).mono ?_); clear K; rintro e w1 ⟨rfl, X1, hX1, K⟩) | (go_at_call 38; (with_reducible refine (ibad_no K _).mono ?_); clear K; rintro e w1 ⟨rfl, K⟩) | (((with_reducible refine at_load rfl ?_); first | (refine wpList_reads (by rfl) (kr_load_cell K _ _ (by rfl) (by rfl) Has.auto (by decide +kernel) (if_most _)) ?_) | (refine wpList_reads (by rfl) (kr_load_cell K _ _ (by rfl) (by rfl) Has.auto (by decide +kernel) (if_out _)) ?_) | (refine wpList_reads (by rfl) (kr_load_cell K _ _ (by rfl) (by rfl) Has.auto (by decide +kernel) (if_rest _)) ?_) | (refine wpList_reads (by rfl) (kr_load_cell K _ _ (by rfl) (by rfl) Has.auto (by decide +kernel) (if_from _)) ?_) | (refine wpList_reads (by rfl) (kr_load_cell K _ _ (by rfl) (by rfl) Has.auto (by decide +kernel) (if_r _)) ?_) | (refine wpList_reads (by rfl) (kr_load_cell K _ _ (by rfl) (by rfl) Has.auto (by decide +kernel) (if_next _)) ?_) | (refine wpList_reads (by rfl) (kr_load_cell K _ _ (by rfl) (by rfl) Has.auto (by decide +kernel) (if_last _)) ?_) | (refine wpList_reads (by rfl) (kr_load_cell K _ _ (by rfl) (by rfl) Has.auto (by decide +kernel) (if_left _)) ?_) | (refine wpList_reads (by rfl) (kr_load_cell K _ _ (by rfl) (by rfl) Has.auto (by decide +kernel) (if_lit _)) ?_) | (refine wpList_reads (by rfl) (kr_load_cell K _ _ (by rfl) (by rfl) Has.auto (by decide +kernel) (if_dist _)) ?_) | (refine wpList_reads (by rfl) (kr_load_cell K _ _ (by rfl) (by rfl) Has.auto (by decide +kernel) (if_e _)) ?_)); (try dsimp only)) | (go_at_call 39; (with_reducible refine (ralign_any K hX2).mono ?_); clear K; rintro e w1 ⟨rfl, X3, hX3, K⟩) | (go_at_call 40; (with_reducible refine (iroom_yes K Has.auto _ HM0.out HON.out HRM.out).mono ?_); clear K; rintro e w1 ⟨rfl, K⟩) | (((with_reducible refine at_store rfl ?_); first | (refine wpList_does (by rfl) (kd_store_cell K _ _ _ (by rfl) (by rfl) (by conv => lhs; whnf) Repl.auto (by rfl) (by rfl) (by decide +kernel) (by rfl) (if_s_out _ _ _ _)) ?_) | (refine wpList_does (by rfl) (kd_store_cell K _ _ _ (by rfl) (by rfl) (by conv => lhs; whnf) Repl.auto (by rfl) (by rfl) (by decide +kernel) (by rfl) (if_s_rest _ _ _ _)) ?_) | (refine wpList_does (by rfl) (kd_store_cell K _ _ _ (by rfl) (by rfl) (by conv => lhs; whnf) Repl.auto (by rfl) (by rfl) (by decide +kernel) (by rfl) (if_s_from _ _)) ?_) | (refine wpList_does (by rfl) (kd_store_cell K _ _ _ (by rfl) (by rfl) (by conv => lhs; whnf) Repl.auto (by rfl) (by rfl) (by decide +kernel) (by rfl) (if_s_r _ _)) ?_) | (refine wpList_does (by rfl) (kd_store_cell K _ _ _ (by rfl) (by rfl) (by conv => lhs; whnf) Repl.auto (by rfl) (by rfl) (by decide +kernel) (by rfl) (if_s_next _ _)) ?_) | (refine wpList_does (by rfl) (kd_store_cell K _ _ _ (by rfl) (by rfl) (by conv => lhs; whnf) Repl.auto (by rfl) (by rfl) (by decide +kernel) (by rfl) (if_s_last _ _)) ?_) | (refine wpList_does (by rfl) (kd_store_cell K _ _ _ (by rfl) (by rfl) (by conv => lhs; whnf) Repl.auto (by rfl) (by rfl) (by decide +kernel) (by rfl) (if_s_left _ _)) ?_) | (refine wpList_does (by rfl) (kd_store_cell K _ _ _ (by rfl) (by rfl) (by conv => lhs; whnf) Repl.auto (by rfl) (by rfl) (by decide +kernel) (by rfl) (if_s_lit _ _)) ?_) | (refine wpList_does (by rfl) (kd_store_cell K _ _ _ (by rfl) (by rfl) (by conv => lhs; whnf) Repl.auto (by rfl) (by rfl) (by decide +kernel) (by rfl) (if_s_dist _ _)) ?_) | (refine wpList_does (by rfl) (kd_store_cell K _ _ _ (by rfl) (by rfl) (by conv => lhs; whnf) Repl.auto (by rfl) (by rfl) (by decide +kernel) (by rfl) (if_s_e _ _)) ?_)); clear K; intro _ w1 K; (try dsimp only at K)))
        go_ret
        rw [HF.out]
        exact ⟨rfl, { x with last := b, left := (n : Int) }, X5, XO ++ [], hX5, ⟨⟨hC.most, hC.h0, hC.h5, hC.on, hC.room, hC.byte, rfl, rfl, fun _ => HFIT.out, hC.e⟩, XO, [], hO, .inl ⟨(show (2 : Nat) ≠ 3 by decide), rfl⟩, rfl⟩, ⟨rfl, rfl, rfl, rfl, rfl⟩, by rw [List.append_nil]; exact K.cov Cov.auto⟩
    · have HF := Lib.hid (show R0 = .th 11 by rw [HA3.out, if_pos hs])
      have j2 : ((n : Int) + (t : Int) == 65535) = false := beq_eq_false_iff_ne.2 (by omega)
      have j3 : ((n : Int) + (t : Int) != 65535) = true := by simp [bne, j2]
      clear hs
      go_enter Try.func23, Try.ntmps23
      go_wp2_with (first | (go_at_call 37; (with_reducible refine (inum_ok K Has.auto hr hX4 16 _ (by omega) (by omega) H5.out).mono ?_); clear K; rintro e w1 ⟨rfl, X5, hX5, K⟩) | (go_at_call 37; (with_reducible refine (inum_ok K Has.auto hr hX3 16 _ (by omega) (by omega) H4.out).mono ?_); clear K; rintro e w1 ⟨rfl, X4, hX4, K⟩) | (go_at_call 37; (with_reducible refine (inum_ok K Has.auto hr hX1 2 _ (by omega) (by omega) H2.out).mono ?_); clear K; rintro e w1 ⟨rfl, X2, hX2, K⟩) | (go_at_call 37; (with_reducible refine (inum_ok K Has.auto hr hR 1 _ (by omega) (by omega) H1.out).mono ?_); clear K; rintro e w1 ⟨rfl, X1, hX1, K⟩) | (go_at_call 38; (with_reducible refine (ibad_no K _).mono ?_); clear K; rintro e w1 ⟨rfl, K⟩) | (((with_reducible refine at_load rfl ?_); first | (refine wpList_reads (by rfl) (kr_load_cell K _ _ (by rfl) (by rfl) Has.auto (by decide +kernel) (if_most _)) ?_) | (refine wpList_reads (by rfl) (kr_load_cell K _ _ (by rfl) (by rfl) Has.auto (by decide +kernel) (if_out _)) ?_) | (refine wpList_reads (by rfl) (kr_load_cell K _ _ (by rfl) (by rfl) Has.auto (by decide +kernel) (if_rest _)) ?_) | (refine wpList_reads (by rfl) (kr_load_cell K _ _ (by rfl) (by rfl) Has.auto (by decide +kernel) (if_from _)) ?_) | (refine wpList_reads (by rfl) (kr_load_cell K _ _ (by rfl) (by rfl) Has.auto (by decide +kernel) (if_r _)) ?_) | (refine wpList_reads (by rfl) (kr_load_cell K _ _ (by rfl) (by rfl) Has.auto (by decide +kernel) (if_next _)) ?_) | (refine wpList_reads (by rfl) (kr_load_cell K _ _ (by rfl) (by rfl) Has.auto (by decide +kernel) (if_last _)) ?_) | (refine wpList_reads (by rfl) (kr_load_cell K _ _ (by rfl) (by rfl) Has.auto (by decide +kernel) (if_left _)) ?_) | (refine wpList_reads (by rfl) (kr_load_cell K _ _ (by rfl) (by rfl) Has.auto (by decide +kernel) (if_lit _)) ?_) | (refine wpList_reads (by rfl) (kr_load_cell K _ _ (by rfl) (by rfl) Has.auto (by decide +kernel) (if_dist _)) ?_) | (refine wpList_reads (by rfl) (kr_load_cell K _ _ (by rfl) (by rfl) Has.auto (by decide +kernel) (if_e _)) ?_)); (try dsimp only)) | (go_at_call 39; (with_reducible refine (ralign_any K hX2).mono ?_); clear K; rintro e w1 ⟨rfl, X3, hX3, K⟩) | (go_at_call 38; (with_reducible refine (ibad_yes K _).mono ?_); clear K; rintro e w1 ⟨rfl, K⟩))
      rw [HF.out]; exact ⟨rfl, rfl, _, X5, hX5, K.cov Cov.auto⟩
  have e3 : ((k : Int) == 3) = false := beq_eq_false_iff_ne.2 (by omega)
  by_cases hk1 : k = 1
  · subst hk1
    have HF := Lib.hid (show R0 = .ok { m with lit := fixL, dist := fixD, last := b, next := 3 } p2 by rw [HA.out, HB.out]; rfl)
    go_enter Try.func23, Try.ntmps23
    go_wp2_with (first | (go_at_call 37; (with_reducible refine (inum_ok K Has.auto hr hX1 2 _ (by omega) (by omega) H2.out).mono ?_); clear K; rintro e w1 ⟨rfl, X2, hX2, K⟩) | (go_at_call 37; (with_reducible refine (inum_ok K Has.auto hr hR 1 _ (by omega) (by omega) H1.out).mono ?_); clear K; rintro e w1 ⟨rfl, X1, hX1, K⟩) | (go_at_call 38; (with_reducible refine (ibad_no K _).mono ?_); clear K; rintro e w1 ⟨rfl, K⟩) | (go_at_call 42; (with_reducible refine (fixed_any K).mono ?_); clear K; rintro e w1 ⟨g1, g2, rfl, T1, T2, hT1, hT2, K⟩) | (((with_reducible refine at_load rfl ?_); first | (refine wpList_reads (by rfl) (kr_load_cell K _ _ (by rfl) (by rfl) Has.auto (by decide +kernel) (if_most _)) ?_) | (refine wpList_reads (by rfl) (kr_load_cell K _ _ (by rfl) (by rfl) Has.auto (by decide +kernel) (if_out _)) ?_) | (refine wpList_reads (by rfl) (kr_load_cell K _ _ (by rfl) (by rfl) Has.auto (by decide +kernel) (if_rest _)) ?_) | (refine wpList_reads (by rfl) (kr_load_cell K _ _ (by rfl) (by rfl) Has.auto (by decide +kernel) (if_from _)) ?_) | (refine wpList_reads (by rfl) (kr_load_cell K _ _ (by rfl) (by rfl) Has.auto (by decide +kernel) (if_r _)) ?_) | (refine wpList_reads (by rfl) (kr_load_cell K _ _ (by rfl) (by rfl) Has.auto (by decide +kernel) (if_next _)) ?_) | (refine wpList_reads (by rfl) (kr_load_cell K _ _ (by rfl) (by rfl) Has.auto (by decide +kernel) (if_last _)) ?_) | (refine wpList_reads (by rfl) (kr_load_cell K _ _ (by rfl) (by rfl) Has.auto (by decide +kernel) (if_left _)) ?_) | (refine wpList_reads (by rfl) (kr_load_cell K _ _ (by rfl) (by rfl) Has.auto (by decide +kernel) (if_lit _)) ?_) | (refine wpList_reads (by rfl) (kr_load_cell K _ _ (by rfl) (by rfl) Has.auto (by decide +kernel) (if_dist _)) ?_) | (refine wpList_reads (by rfl) (kr_load_cell K _ _ (by rfl) (by rfl) Has.auto (by decide +kernel) (if_e _)) ?_)); (try dsimp only)) | (((with_reducible refine at_store rfl ?_); first | (refine wpList_does (by rfl) (kd_store_cell K _ _ _ (by rfl) (by rfl) (by conv => lhs; whnf) Repl.auto (by rfl) (by rfl) (by decide +kernel) (by rfl) (if_s_out _ _ _ _)) ?_) | (refine wpList_does (by rfl) (kd_store_cell K _ _ _ (by rfl) (by rfl) (by conv => lhs; whnf) Repl.auto (by rfl) (by rfl) (by decide +kernel) (by rfl) (if_s_rest _ _ _ _)) ?_) | (refine wpList_does (by rfl) (kd_store_cell K _ _ _ (by rfl) (by rfl) (by conv => lhs; whnf) Repl.auto (by rfl) (by rfl) (by decide +kernel) (by rfl) (if_s_from _ _)) ?_) | (refine wpList_does (by rfl) (kd_store_cell K _ _ _ (by rfl) (by rfl) (by conv => lhs; whnf) Repl.auto (by rfl) (by rfl) (by decide +kernel) (by rfl) (if_s_r _ _)) ?_) | (refine wpList_does (by rfl) (kd_store_cell K _ _ _ (by rfl) (by rfl) (by conv => lhs; whnf) Repl.auto (by rfl) (by rfl) (by decide +kernel) (by rfl) (if_s_next _ _)) ?_) | (refine wpList_does (by rfl) (kd_store_cell K _ _ _ (by rfl) (by rfl) (by conv => lhs; whnf) Repl.auto (by rfl) (by rfl) (by decide +kernel) (by rfl) (if_s_last _ _)) ?_) | (refine wpList_does (by rfl) (kd_store_cell K _ _ _ (by rfl) (by rfl) (by conv => lhs; whnf) Repl.auto (by rfl) (by rfl) (by decide +kernel) (by rfl) (if_s_left _ _)) ?_) | (refine wpList_does (by rfl) (kd_store_cell K _ _ _ (by rfl) (by rfl) (by conv => lhs; whnf) Repl.auto (by rfl) (by rfl) (by decide +kernel) (by rfl) (if_s_lit _ _)) ?_) | (refine wpList_does (by rfl) (kd_store_cell K _ _ _ (by rfl) (by rfl) (by conv => lhs; whnf) Repl.auto (by rfl) (by rfl) (by decide +kernel) (by rfl) (if_s_dist _ _)) ?_) | (refine wpList_does (by rfl) (kd_store_cell K _ _ _ (by rfl) (by rfl) (by conv => lhs; whnf) Repl.auto (by rfl) (by rfl) (by decide +kernel) (by rfl) (if_s_e _ _)) ?_)); clear K; intro _ w1 K; (try dsimp only at K)))
    go_ret
    rw [HF.out]
    exact ⟨rfl, { x with lit := ptr' g1, dist := ptr' g2, last := b }, X2, XO ++ (T1 ++ T2), hX2, ⟨⟨hC.most, hC.h0, hC.h5, hC.on, hC.room, hC.byte, rfl, hC.left, (fun h => by cases h), hC.e⟩, XO, T1 ++ T2, hO, .inr ⟨rfl, g1, g2, T1, T2, rfl, rfl, hT1, hT2, (show fixL.length ≤ 300 by decide +kernel), (show fixD.length ≤ 300 by decide +kernel), rfl⟩, rfl⟩, ⟨rfl, rfl, rfl, rfl, rfl⟩, by simp only [List.append_assoc]; exact K.cov Cov.auto⟩
  obtain rfl : k = 2 := by omega
  cases hd : dynM (ofBytes bs) p2 with
  | th cc =>
    have HD := Lib.hid hd
    have HF := Lib.hid (show R0 = .th cc by rw [HA.out, if_neg (by omega), if_neg (by omega), if_neg (by omega), hd]; rfl)
    clear hd
    go_enter Try.func23, Try.ntmps23
    go_wp2_with (first | (go_at_call 37; (with_reducible refine (inum_ok K Has.auto hr hX1 2 _ (by omega) (by omega) H2.out).mono ?_); clear K; rintro e w1 ⟨rfl, X2, hX2, K⟩) | (go_at_call 37; (with_reducible refine (inum_ok K Has.auto hr hR 1 _ (by omega) (by omega) H1.out).mono ?_); clear K; rintro e w1 ⟨rfl, X1, hX1, K⟩) | (go_at_call 38; (with_reducible refine (ibad_no K _).mono ?_); clear K; rintro e w1 ⟨rfl, K⟩) | (go_at_call 43; (with_reducible refine (idyn_any K Has.auto hr hX2).mono ?_); clear K; rintro e w1 hDP; rw [HD.out] at hDP; obtain ⟨rfl, q9, X9, hX9, K⟩ := hDP))
    rw [HF.out]; exact ⟨rfl, rfl, _, X9, hX9, K.cov Cov.auto⟩
  | ok ld p3 =>
    have HD := Lib.hid hd
    have HF := Lib.hid (show R0 = .ok { m with lit := ld.1, dist := ld.2, last := b, next := 3 } p3 by rw [HA.out, HB.out, if_neg (by omega), if_neg (by omega), if_neg (by omega), hd]; rfl)
    clear hd
    go_enter Try.func23, Try.ntmps23
    go_wp2_with (first | (go_at_call 37; (with_reducible refine (inum_ok K Has.auto hr hX1 2 _ (by omega) (by omega) H2.out).mono ?_); clear K; rintro e w1 ⟨rfl, X2, hX2, K⟩) | (go_at_call 37; (with_reducible refine (inum_ok K Has.auto hr hR 1 _ (by omega) (by omega) H1.out).mono ?_); clear K; rintro e w1 ⟨rfl, X1, hX1, K⟩) | (go_at_call 38; (with_reducible refine (ibad_no K _).mono ?_); clear K; rintro e w1 ⟨rfl, K⟩) | (go_at_call 43; (with_reducible refine (idyn_any K Has.auto hr hX2).mono ?_); clear K; rintro e w1 hDP; rw [HD.out] at hDP; obtain ⟨g1, g2, rfl, T1, T2, X9, hT1, hT2, hX9, hl1, hl2, K⟩ := hDP) | (((with_reducible refine at_load rfl ?_); first | (refine wpList_reads (by rfl) (kr_load_cell K _ _ (by rfl) (by rfl) Has.auto (by decide +kernel) (if_most _)) ?_) | (refine wpList_reads (by rfl) (kr_load_cell K _ _ (by rfl) (by rfl) Has.auto (by decide +kernel) (if_out _)) ?_) | (refine wpList_reads (by rfl) (kr_load_cell K _ _ (by rfl) (by rfl) Has.auto (by decide +kernel) (if_rest _)) ?_) | (refine wpList_reads (by rfl) (kr_load_cell K _ _ (by rfl) (by rfl) Has.auto (by decide +kernel) (if_from _)) ?_) | (refine wpList_reads (by rfl) (kr_load_cell K _ _ (by rfl) (by rfl) Has.auto (by decide +kernel) (if_r _)) ?_) | (refine wpList_reads (by rfl) (kr_load_cell K _ _ (by rfl) (by rfl) Has.auto (by decide +kernel) (if_next _)) ?_) | (refine wpList_reads (by rfl) (kr_load_cell K _ _ (by rfl) (by rfl) Has.auto (by decide +kernel) (if_last _)) ?_) | (refine wpList_reads (by rfl) (kr_load_cell K _ _ (by rfl) (by rfl) Has.auto (by decide +kernel) (if_left _)) ?_) | (refine wpList_reads (by rfl) (kr_load_cell K _ _ (by rfl) (by rfl) Has.auto (by decide +kernel) (if_lit _)) ?_) | (refine wpList_reads (by rfl) (kr_load_cell K _ _ (by rfl) (by rfl) Has.auto (by decide +kernel) (if_dist _)) ?_) | (refine wpList_reads (by rfl) (kr_load_cell K _ _ (by rfl) (by rfl) Has.auto (by decide +kernel) (if_e _)) ?_)); (try dsimp only)) | (((with_reducible refine at_store rfl ?_); first | (refine wpList_does (by rfl) (kd_store_cell K _ _ _ (by rfl) (by rfl) (by conv => lhs; whnf) Repl.auto (by rfl) (by rfl) (by decide +kernel) (by rfl) (if_s_out _ _ _ _)) ?_) | (refine wpList_does (by rfl) (kd_store_cell K _ _ _ (by rfl) (by rfl) (by conv => lhs; whnf) Repl.auto (by rfl) (by rfl) (by decide +kernel) (by rfl) (if_s_rest _ _ _ _)) ?_) | (refine wpList_does (by rfl) (kd_store_cell K _ _ _ (by rfl) (by rfl) (by conv => lhs; whnf) Repl.auto (by rfl) (by rfl) (by decide +kernel) (by rfl) (if_s_from _ _)) ?_) | (refine wpList_does (by rfl) (kd_store_cell K _ _ _ (by rfl) (by rfl) (by conv => lhs; whnf) Repl.auto (by rfl) (by rfl) (by decide +kernel) (by rfl) (if_s_r _ _)) ?_) | (refine wpList_does (by rfl) (kd_store_cell K _ _ _ (by rfl) (by rfl) (by conv => lhs; whnf) Repl.auto (by rfl) (by rfl) (by decide +kernel) (by rfl) (if_s_next _ _)) ?_) | (refine wpList_does (by rfl) (kd_store_cell K _ _ _ (by rfl) (by rfl) (by conv => lhs; whnf) Repl.auto (by rfl) (by rfl) (by decide +kernel) (by rfl) (if_s_last _ _)) ?_) | (refine wpList_does (by rfl) (kd_store_cell K _ _ _ (by rfl) (by rfl) (by conv => lhs; whnf) Repl.auto (by rfl) (by rfl) (by decide +kernel) (by rfl) (if_s_left _ _)) ?_) | (refine wpList_does (by rfl) (kd_store_cell K _ _ _ (by rfl) (by rfl) (by conv => lhs; whnf) Repl.auto (by rfl) (by rfl) (by decide +kernel) (by rfl) (if_s_lit _ _)) ?_) | (refine wpList_does (by rfl) (kd_store_cell K _ _ _ (by rfl) (by rfl) (by conv => lhs; whnf) Repl.auto (by rfl) (by rfl) (by decide +kernel) (by rfl) (if_s_dist _ _)) ?_) | (refine wpList_does (by rfl) (kd_store_cell K _ _ _ (by rfl) (by rfl) (by conv => lhs; whnf) Repl.auto (by rfl) (by rfl) (by decide +kernel) (by rfl) (if_s_e _ _)) ?_)); clear K; intro _ w1 K; (try dsimp only at K)))
    go_ret
    rw [HF.out]
    exact ⟨rfl, { x with lit := ptr' g1, dist := ptr' g2, last := b }, X9, XO ++ (T1 ++ T2), hX9, ⟨⟨hC.most, hC.h0, hC.h5, hC.on, hC.room, hC.byte, rfl, hC.left, (fun h => by cases h), hC.e⟩, XO, T1 ++ T2, hO, .inr ⟨rfl, g1, g2, T1, T2, rfl, rfl, hT1, hT2, hl1, hl2, rfl⟩, rfl⟩, ⟨rfl, rfl, rfl, rfl, rfl⟩, by simp only [List.append_assoc]; exact K.cov Cov.auto⟩
end
end Go.Proofs.Ytemnahimheffgaa
