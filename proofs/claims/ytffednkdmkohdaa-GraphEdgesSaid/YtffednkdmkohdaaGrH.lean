/-
  graph: the document's Turned, SameAll (contracts).
-/
import Derived.Test.YtffednkdmkohdaaGrG
set_option linter.unusedVariables false
set_option linter.unusedSimpArgs false
namespace Go.Proofs.Ytffednkdmkohdaa
open Go.RowKit
/-- by which others number k is read, of the first i -/
def readers (rs : List (List Int)) (k : Nat) (i : Nat) : List Int := ((List.range i).filter fun j => decide ((k : Int) ∈ rs.getD j [])).map fun (j : Nat) => (j : Int)
theorem readers_succ (rs : List (List Int)) (k i : Nat) : readers rs k (i + 1) = readers rs k i ++ (if (k : Int) ∈ rs.getD i [] then [(i : Int)] else []) := by
  unfold readers
  rw [List.range_succ, List.filter_append, List.map_append]
  congr 1
  by_cases h : (k : Int) ∈ rs.getD i []
  · rw [if_pos h]
    simp only [List.filter_cons, h, decide_true, if_true, List.filter_nil, List.map_cons, List.map_nil]
  · rw [if_neg h]
    simp only [List.filter_cons, h, decide_false, Bool.false_eq_true, if_false, List.filter_nil, List.map_nil]
theorem readers_len (rs : List (List Int)) (k i : Nat) : (readers rs k i).length ≤ i := by
  unfold readers
  rw [List.length_map]
  exact Nat.le_trans (List.length_filter_le _ _) (by simp)
def turned (rs : List (List Int)) : List (List Int) := (List.range rs.length).map fun k => readers rs k rs.length
theorem arC_one {α : Type} (r : Arow α) : ∀ u ∈ arC r, u.oneCell' = true := by simp [arC, Value.oneCell']

section
variable {w0 w : World} {L : List Ent} {A : Option Addr} {n c : Nat} {rows : List (Arow Int)}
set_option maxHeartbeats 3200000 in
set_option maxRecDepth 100000 in
theorem rturned_any (K : Known w0 w L) (G : Grid w0 L A n rows) (hc : n ≤ c) (hn : n ≤ 4096) (hr9 : ∀ r ∈ rows, r.n ≤ 1000000) : Calls Try.prog 23 #[.slice A n c] w fun e w' => ∃ A' c', e = .returned (.slice A' n c') ∧ n ≤ c' ∧ ∃ (rows' : List (Arow Int)) (X : List Ent), rows'.map (·.l) = turned (rows.map (·.l)) ∧ Grid w0 X A' n rows' ∧ (∀ r ∈ rows', r.n ≤ n) ∧ Known w0 w' (X ++ L) := by
  have hl := G.R.len
  have HLR := Lib.hid (show (rows.map (·.l)).length = n by rw [List.length_map, hl])
  go_enter Try.func23, Try.ntmps23
  go_upto_region 3 with ((first | ((with_reducible refine at_slot (N := 7) rfl ?_); (with_reducible refine at_buildSlice (n := 0) rfl ?_); refine wpList_does rfl (kd_lit0 K _ 25 1 rfl Try.underlying33 (by kernel_rfl)) ?_; clear K; rintro _ w1 ⟨go, rfl, K⟩)))
  have OO : OwnL 25 1 (some ⟨go, 0, none⟩) 0 0 (([] : List (Arow Int)).flatMap arC) [row go #[] 25] := OwnL.lit0 _ _
  go_loopg [3, 10] n (fun q v3 v10 wr => ∃ (k : Nat) (ro : List (Arow Int)) (Ao : Option Addr) (co : Nat) (Xo Xr : List Ent), v3 = .slice Ao k co ∧ v10 = .int .i64 k ∧ k + q = n ∧ OwnL 25 1 Ao k co (ro.flatMap arC) Xo ∧ Hid (ro.map (·.l) = (List.range k).map fun k => readers (rows.map (·.l)) k n) ∧ (∀ r ∈ ro, (RdS w0 Xr .i64 r.A r.n r.l ∧ r.n ≤ r.c) ∧ r.n ≤ n) ∧ Known w0 wr (Xo ++ (Xr ++ L)))
  case atStart => exact ⟨0, [], _, _, _, [], rfl, by go_num, by omega, OO, Lib.hid rfl, by simp, K⟩
  case round =>
    clear K OO
    obtain ⟨k, ro, Ao, co, Xo, Xr, rfl, rfl, hdk, OO, HRO, hro, K⟩ := hrel
    by_cases hk : k < n
    · have hk2 : decide ((k : Int) < (n : Int)) = true := decide_eq_true (by omega)
      have i1 := IntWalk.i64_in ((k : Int) + 1) (by omega)
      go_upto_region 7 with ((first | ((with_reducible refine at_slot (N := 13) rfl ?_); (with_reducible refine at_buildSlice (n := 0) rfl ?_); refine wpList_does rfl (kd_lit0 K _ 3 1 rfl Try.underlying25 (by kernel_rfl)) ?_; clear K; rintro _ w1 ⟨gr, rfl, K⟩)))
      have OR : OwnL 3 1 (some ⟨gr, 0, none⟩) 0 0 ((readers (rows.map (·.l)) k 0).map (Value.int .i64)) [row gr #[] 3] := OwnL.lit0 _ _
      obtain ⟨og, hog⟩ : ∃ og, og = gk := ⟨_, rfl⟩
      go_loopg [5, 16] n (fun q v5 v16 w2 => ∃ (i nr : Nat) (Ar : Option Addr) (cr : Nat) (X5 : List Ent), v5 = .slice Ar nr cr ∧ v16 = .int .i64 i ∧ i + q = n ∧ nr ≤ i ∧ OwnL 3 1 Ar nr cr ((readers (rows.map (·.l)) k i).map (Value.int .i64)) X5 ∧ Known w0 w2 (X5 ++ (Xo ++ (Xr ++ L))))
      case atStart => exact ⟨0, 0, _, _, _, rfl, by go_num, by omega, by omega, OR, K⟩
      case round =>
        clear K OR
        obtain ⟨i, nr, Ar, cr, X5, rfl, rfl, hdi, hnr, O, K⟩ := hrel
        by_cases hi : i < n
        · have hi2 : decide ((i : Int) < (n : Int)) = true := decide_eq_true (by omega)
          have hii : (0 : Int) ≤ (i : Int) ∧ (i : Int) < (n : Int) := by omega
          have i2 := IntWalk.i64_in ((i : Int) + 1) (by omega)
          obtain ⟨b, off, rfl⟩ := G.R.form (K.cov Cov.auto) (by omega)
          obtain ⟨⟨rA, rn, rc, rl⟩, hp⟩ : ∃ r, r = rows[i]'(by omega) := ⟨_, rfl⟩
          have hpm : (⟨rA, rn, rc, rl⟩ : Arow Int) ∈ rows := by rw [hp]; exact List.getElem_mem _
          have HP := Lib.hid (show encAt arC rows i = [.slice rA rn rc] by rw [encAt_get (by omega), ← hp]; rfl)
          have HRL := Lib.hid (show (rows.map (·.l)).getD i [] = rl by simp [List.getD, show i < rows.length by omega, ← hp])
          have RR := (G.row _ hpm).1
          have hrc := (G.row _ hpm).2
          have hrn := hr9 _ hpm
          simp only at RR hrc hrn
          have hrn9 : rn ≤ 1000000000 := by omega
          have HSU := Lib.hid (readers_succ (rows.map (·.l)) k i)
          clear hp hpm
          by_cases hx : (k : Int) ∈ rl
          · have HX := Lib.hid (show decide ((k : Int) ∈ rl) = true from decide_eq_true hx)
            have HXX := Lib.hid hx
            clear hx
            go_wp2_with (first | ((with_reducible refine at_load rfl ?_); refine wpList_reads (by rfl) (kr_load_rcell K _ _ (by rfl) (i) 0 (by rfl) (G.R.cov Cov.auto) (by omega) HP.out (by rfl) (by omega) (by kernel_rfl)) ?_) | (go_at_call 52; (with_reducible refine (rhas_any K (RR.cov Cov.auto) hrc hrn9 _).mono ?_); rintro e w' ⟨rfl, rfl⟩; rw [HX.out]) | (at_builtin; refine wpList_does rfl (kd_appendN K _ _ rfl rfl rfl (by with_reducible assumption) Seg.auto (Rd.ofBlk (n := 1) (xs := [_]) (K.blk Has.auto) rfl rfl) (by kernel_rfl) (by kernel_rfl) (by omega)) ?_; clear K; rintro _ w1 ⟨A1, c1, X1, rfl, O, K⟩; (try simp only [Nat.zero_add, List.nil_append] at O)) | ((with_reducible refine at_eqnil rfl ?_); refine wpList_reads rfl (kr_eqnil rfl rfl (by kernel_rfl)) ?_) | ((with_reducible refine at_box rfl ?_); refine wpList_does rfl (kd_box K _ _ rfl (by conv => lhs; whnf)) ?_; clear K; rintro _ w1 ⟨g, rfl, K⟩; (try dsimp only [Value.cells] at K)) | ((with_reducible refine at_alloc rfl ?_); refine wpList_does rfl (kd_alloc K _ rfl rfl) ?_; clear K; rintro _ w1 ⟨g, rfl, K⟩; (try dsimp only [Value.cells] at K)) | ((with_reducible refine at_buildSlice rfl ?_); refine wpList_does rfl (kd_lits (cs := _) K _ _ _ rfl (by first | rfl | (go_simp; done) | (go_simp; rfl)) (by first | rfl | (go_simp; done) | (go_simp; rfl))) ?_; clear K; rintro _ w1 ⟨g, rfl, K⟩) | ((with_reducible refine at_load rfl ?_); first | (refine wpList_reads (by rfl) (kr_load_cell K _ _ (by rfl) (by rfl) Has.auto (by decide +kernel) (by (try simp only [List.getElem?_toArray, List.getElem?_cons_succ, List.getElem?_cons_zero]); exact rfl)) ?_) | (refine wpList_reads (by rfl) (kr_load_row K _ _ (by rfl) (by rfl) Has.auto (by decide +kernel) (by kernel_rfl)) ?_)) | ((with_reducible refine at_store rfl ?_); (first | (refine wpList_does rfl (kd_store_cell K _ _ _ rfl rfl (by conv => lhs; whnf) Repl.auto rfl rfl (by kernel_rfl) (by kernel_rfl) (by first | (simp only [List.setIfInBounds_toArray, List.set_cons_succ, List.set_cons_zero]; rfl) | rfl)) ?_) | (refine wpList_does rfl (kd_store_row K _ _ _ rfl rfl rfl Repl.auto (by kernel_rfl) (by kernel_rfl) (by kernel_rfl)) ?_)); clear K; intro _ w1 K; (try simp only [Act.put])))
            go_roundg (gk - 1)
            case measure => omega
            case rel => exact ⟨i + 1, nr + 1, _, _, _, rfl, by go_num, by omega, by omega, by rw [HSU.out, HRL.out, if_pos HXX.out]; exact O, K.cov Cov.auto⟩
          · have HX := Lib.hid (show decide ((k : Int) ∈ rl) = false from decide_eq_false hx)
            have HXX := Lib.hid hx
            clear hx
            go_wp2_with (first | ((with_reducible refine at_load rfl ?_); refine wpList_reads (by rfl) (kr_load_rcell K _ _ (by rfl) (i) 0 (by rfl) (G.R.cov Cov.auto) (by omega) HP.out (by rfl) (by omega) (by kernel_rfl)) ?_) | (go_at_call 52; (with_reducible refine (rhas_any K (RR.cov Cov.auto) hrc hrn9 _).mono ?_); rintro e w' ⟨rfl, rfl⟩; rw [HX.out]))
            go_roundg (gk - 1)
            case measure => omega
            case rel => exact ⟨i + 1, nr, _, _, X5, rfl, by go_num, by omega, by omega, by rw [HSU.out, HRL.out, if_neg HXX.out, List.append_nil]; exact O, K⟩
        · have hi2 : decide ((i : Int) < (n : Int)) = false := decide_eq_false (by omega)
          obtain rfl : n = i := by omega
          go_wp2_with (first | (at_builtin; refine wpList_does rfl (kd_appendR (r := (⟨Ar, nr, cr, readers (rows.map (·.l)) k n⟩ : Arow Int)) K 33 25 rfl rfl rfl OO Seg.auto Has.auto (by rfl) Try.underlying33 (by kernel_rfl) (by omega) rfl (arC_one _) (by omega)) ?_; clear K OO; rintro _ w1 ⟨Ao2, co2, Xo2, rfl, OO, K⟩) | ((with_reducible refine at_eqnil rfl ?_); refine wpList_reads rfl (kr_eqnil rfl rfl (by kernel_rfl)) ?_) | ((with_reducible refine at_box rfl ?_); refine wpList_does rfl (kd_box K _ _ rfl (by conv => lhs; whnf)) ?_; clear K; rintro _ w1 ⟨g, rfl, K⟩; (try dsimp only [Value.cells] at K)) | ((with_reducible refine at_alloc rfl ?_); refine wpList_does rfl (kd_alloc K _ rfl rfl) ?_; clear K; rintro _ w1 ⟨g, rfl, K⟩; (try dsimp only [Value.cells] at K)) | ((with_reducible refine at_buildSlice rfl ?_); refine wpList_does rfl (kd_lits (cs := _) K _ _ _ rfl (by first | rfl | (go_simp; done) | (go_simp; rfl)) (by first | rfl | (go_simp; done) | (go_simp; rfl))) ?_; clear K; rintro _ w1 ⟨g, rfl, K⟩) | ((with_reducible refine at_load rfl ?_); first | (refine wpList_reads (by rfl) (kr_load_cell K _ _ (by rfl) (by rfl) Has.auto (by decide +kernel) (by (try simp only [List.getElem?_toArray, List.getElem?_cons_succ, List.getElem?_cons_zero]); exact rfl)) ?_) | (refine wpList_reads (by rfl) (kr_load_row K _ _ (by rfl) (by rfl) Has.auto (by decide +kernel) (by kernel_rfl)) ?_)) | ((with_reducible refine at_store rfl ?_); (first | (refine wpList_does rfl (kd_store_cell K _ _ _ rfl rfl (by conv => lhs; whnf) Repl.auto rfl rfl (by kernel_rfl) (by kernel_rfl) (by first | (simp only [List.setIfInBounds_toArray, List.set_cons_succ, List.set_cons_zero]; rfl) | rfl)) ?_) | (refine wpList_does rfl (kd_store_row K _ _ _ rfl rfl rfl Repl.auto (by kernel_rfl) (by kernel_rfl) (by kernel_rfl)) ?_)); clear K; intro _ w1 K; (try simp only [Act.put])))
          have RN := RdS.own (w0 := w0) (L := X5 ++ Xr) O (Seg.ap X5 Xr)
          have hle := O.le
          go_roundg (og - 1)
          case measure => omega
          case rel => exact ⟨k + 1, ro ++ [(⟨Ar, nr, cr, readers (rows.map (·.l)) k n⟩ : Arow Int)], _, _, Xo2, X5 ++ Xr, rfl, by go_num, by omega, OO, Lib.hid (by rw [List.map_append, HRO.out, List.range_succ, List.map_append]; rfl), (by
            intro r hr
            rcases List.mem_append.1 hr with hr | hr
            · exact ⟨⟨(hro r hr).1.1.cov (Cov.skip X5 (Cov.all Xr)), (hro r hr).1.2⟩, (hro r hr).2⟩
            · rw [List.mem_singleton.1 hr]
              exact ⟨⟨RN, hle⟩, hnr⟩), by rw [List.append_assoc]; exact K.cov Cov.auto⟩
    · have hk2 : decide ((k : Int) < (n : Int)) = false := decide_eq_false (by omega)
      obtain rfl : n = k := by omega
      go_wp2
      go_ret
      have RO := RdM.own (w0 := w0) (L := Xo ++ Xr) OO (Seg.ap Xo Xr) arC_len (by omega)
      exact ⟨Ao, co, rfl, OO.le, ro, by rw [HRO.out, turned, HLR.out], Xo ++ Xr, ⟨RO, fun r hr => ⟨(hro r hr).1.1.cov (Cov.skip Xo (Cov.all Xr)), (hro r hr).1.2⟩⟩, fun r hr => (hro r hr).2, by rw [List.append_assoc]; exact K⟩
end
end Go.Proofs.Ytffednkdmkohdaa
