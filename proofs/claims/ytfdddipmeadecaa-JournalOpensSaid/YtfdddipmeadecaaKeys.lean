/-
  slices.Sorted(maps.Keys(m)): a map's keys, rising (contracts over what is known).
-/
import Derived.Test.YtfdddipmeadecaaSecB
import Derived.Test.YtfdddipmeadecaaLayC
set_option linter.unusedVariables false
set_option linter.unusedSimpArgs false
namespace Go.Proofs.Ytfdddipmeadecaa
open Go.RowKit Go.Maps Go.Sort Go.Shelf
/-- reads anything -/
noncomputable def anyR : Value → Option (DataW Unit × List MemPlace) := fun _ => some (.nil, [])
/-- a map's datum: of the keys alone -/
noncomputable def mdat (l : List ME) : DataW Unit := .map (((mes l).toList.map (WideElems.rg Try.prog 3 anyR)).foldr DataW.insert [])
theorem rg_ent (e : ME) (h : (Lit.int .i64 e.k).wf = true) : WideElems.rg Try.prog 3 anyR e.ent = (.int .i64 e.k, .nil) := by
  simp [WideElems.rg, WideElems.rd, anyR, ME.ent, keyOf, Try.underlying3, mapKey, h]
theorem insert_perm (x : Lit × DataW Unit) : ∀ l, (DataW.insert x l).Perm (x :: l)
  | [] => by simp [DataW.insert]
  | y :: l => by
    unfold DataW.insert
    split
    · exact List.Perm.refl _
    · exact ((insert_perm x l).cons y).trans (List.Perm.swap x y l)
theorem sort_perm : ∀ l : List (Lit × DataW Unit), (l.foldr DataW.insert []).Perm l
  | [] => List.Perm.refl _
  | x :: l => (insert_perm x _).trans ((sort_perm l).cons x)
theorem intKeys_mdat {l : List ME} (h : ∀ e ∈ l, (Lit.int .i64 e.k).wf = true) : (intKeys (mdat l)).Perm (l.map ME.k) := by
  unfold mdat intKeys
  refine ((sort_perm _).map _).trans (List.Perm.of_eq ?_)
  rw [List.map_map, mes, List.map_map]
  apply List.map_congr_left
  intro e he
  simp only [Function.comp, rg_ent e (h e he)]
  rfl
theorem size_mdat (l : List ME) : Maps.size (mdat l) = l.length := by
  show (((mes l).toList.map (WideElems.rg Try.prog 3 anyR)).foldr DataW.insert []).length = l.length
  rw [(sort_perm _).length_eq]
  simp [mes]
theorem owns_mes {w : World} {g c : Nat} {l : List ME} (hb : w.heap[g]? = some (.map (mes l) c)) (hl : l.length ≤ maxLen) (hc : ∀ e ∈ l, e.b < c) (hbn : l.Pairwise (fun p q => p.b < q.b)) (hk : (l.map ME.k).Nodup) (hw : ∀ e ∈ l, (Lit.int .i64 e.k).wf = true) :
    w.ownsMap Try.prog 3 anyR g l.length (mdat l) := by
  refine ⟨mes l, c, hb, ⟨by simpa [mes] using hl, ⟨?_, ?_, ?_⟩, ?_⟩, by simp [mes], rfl⟩
  · intro x hx
    obtain ⟨e, he, rfl⟩ := List.mem_map.1 (by simpa [mes] using hx)
    exact hc e he
  · simp only [mes, List.map_map]
    exact List.pairwise_map.2 (hbn.imp fun h => Nat.ne_of_lt h)
  · simp only [mes, List.map_map]
    refine List.pairwise_map.2 ((List.pairwise_map.1 hk).imp fun h e => h ?_)
    simpa [ME.ent] using e
  · intro x hx
    obtain ⟨e, he, rfl⟩ := List.mem_map.1 (by simpa [mes] using hx)
    exact ⟨_, by simp [WideElems.rd, anyR, ME.ent, keyOf, Try.underlying3, mapKey, hw e he]; rfl⟩
section
variable {w0 w : World} {L : List Ent}
theorem sortsA (m : Nat) : AnyZI.SortsIn Try.prog sortedA_ren Fence.wide m :=
  ⟨fun blk off cap ss W hH hblk hsz => callsIn_wide.2 (AnyM.slices_Sort_int sortA blk off cap ss W hH hblk hsz),
   fun p cap W => callsIn_wide.2 (AnyM.slices_Sort_int_none sortA p cap W)⟩
theorem mkeys_any (K : Known w0 w L) (g : Nat) : Calls Try.prog 36 #[.map (some g)] w fun e w' => ∃ gb, e = .returned (.func (.func 51) #[] #[.pointer (some ⟨gb, 0, none⟩)]) ∧ Known w0 w' (row gb #[.map (some g)] 60 :: L) := by
  refine ((callsIn_wide (n := 5)).1 (AnyZI.keys_in keysA Fence.wide 5 trivial rfl (some g) w)).mono ?_
  rintro e w' ⟨rfl, rfl⟩
  exact ⟨w.heap.size, rfl, K.new _⟩
theorem msorted_any (K : Known w0 w L) {g gb c : Nat} {l : List ME} (hr : Has (row gb #[.map (some g)] 60) L) (hm : Has (mrow g l c) L) (hl : l.length ≤ 100000000) (hc : ∀ e ∈ l, e.b < c) (hbn : l.Pairwise (fun p q => p.b < q.b)) (hk : (l.map ME.k).Nodup) (hw : ∀ e ∈ l, (Lit.int .i64 e.k).wf = true) :
    Calls Try.prog 35 #[.func (.func 51) #[] #[.pointer (some ⟨gb, 0, none⟩)]] w fun e w' => ∃ A n c', e = .returned (.slice A n c') ∧ ∃ X, n = l.length ∧ OwnL 3 1 A n c' (((l.map ME.k).mergeSort (fun x y => decide (x ≤ y))).map (Value.int .i64)) X ∧ Known w0 w' (X ++ L) := by
  have hrow := K.at_ _ hr.out
  have hmap := K.at_ _ hm.out
  have hown := owns_mes hmap (by have : (100000000 : Nat) ≤ maxLen := by decide
                                 omega) hc hbn hk hw
  have hseq : SeqGives Fence.wide 2 Try.prog 51 #[.pointer (some ⟨gb, 0, none⟩)] encZ (fun ss => ss.Perm (intKeys (mdat l))) (Maps.size (mdat l)) w :=
    AnyZI.keys_gives (ρ := keysA_ren) { keysA with } Fence.wide _ trivial rfl (by omega) gb g l.length (mdat l) _ (Array.getElem?_eq_some_iff.1 hrow).1 (((K.blk hr).cell 0).trans rfl) hown
  have hS0 := size_mdat l
  have hmx : (100000000 : Nat) ≤ maxLen := by decide
  have hs1 : Maps.size (mdat l) ≤ maxLen := by rw [hS0]; omega
  have hs2 : Maps.size (mdat l) * 8 ≤ 140737488355328 := by rw [hS0]; omega
  have cS := AnyZI.sorted_in sortedA Fence.wide 5 trivial trivial trivial trivial rfl (by omega) (sortsA _) (enters_of Try.func50 (by kernel_rfl) rfl) 51 #[.pointer (some ⟨gb, 0, none⟩)] trivial (enters_of Try.func51 (by kernel_rfl) rfl) _ _ hs1 hs2 _ hseq
  refine ((callsIn_wide (n := 5)).1 cS).mono ?_
  rintro e w' ⟨v, ss, rfl, hS, hro, hnil, hb⟩
  have hp : ss.Perm (l.map ME.k) := hS.trans (intKeys_mdat hw)
  have hlen : ss.length = l.length := by rw [hp.length_eq, List.length_map]
  have hsort : ss.mergeSort (fun x y => decide (x ≤ y)) = (l.map ME.k).mergeSort (fun x y => decide (x ≤ y)) := mergeSort_of_perm_i hp
  rw [hsort] at hro
  obtain ⟨A, c', rfl⟩ : ∃ A c', v = .slice A ss.length c' := by
    rcases hro.2 with ⟨rfl, hz⟩ | ⟨gq, cap, cur, rfl, _⟩
    · exact ⟨none, 0, by rw [hz]⟩
    · exact ⟨_, _, rfl⟩
  obtain ⟨X, O, K2⟩ := Own.toL (k := .i64) (xs := (l.map ME.k).mergeSort (fun x y => decide (x ≤ y))) ⟨hro⟩ K hb
  exact ⟨A, ss.length, c', rfl, X, hlen, O, K2⟩
end
end Go.Proofs.Ytfdddipmeadecaa
