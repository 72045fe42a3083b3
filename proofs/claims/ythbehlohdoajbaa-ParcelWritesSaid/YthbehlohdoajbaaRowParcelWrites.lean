/- Proved: ParcelWrites: the row and the writing of any chunks, the whole of them, or the error, and how long a packed plan may be, are the document's. No condition beyond the statement's own. -/
import Derived.Test.YthbehlohdoajbaaRows
import Derived.Test.YthbehlohdoajbaaPclG
set_option linter.unusedVariables false
set_option linter.unusedSimpArgs false
namespace Go.Proofs.Ythbehlohdoajbaa.parcelWrites
open Go.ChangeShapes Go.WideShapes Go.ChangeAt Go.RowKit Go.Joins
set_option maxRecDepth 100000 in
theorem lifted (os : Os) (started : os.Started) (H : Type) (enc : TypeId × Value → H) :
    ReturnsInHanded {} Try.checked os 4 .any (Rows.parcelWritesSpec.pre6 enc Try.prog Try.f4 Rows.parcelWritesRow.domain false) (Rows.parcelWritesSpec.post enc Try.prog Try.f4 false true false false) := by
  refine returnsInHanded_of_change (C := Try.checked) Try.own started (by kernel_rfl) Try.func4
    (ChangeSpec.witness6 (enc := enc) (C := Try.checked) false ⟨#[], #[.slice none 0 0, .slice none 0 0, .int .i64 0], []⟩ 8 (by kernel_rfl) (by kernel_rfl) (by kernel_rfl) (by kernel_rfl)) ?_
  intro W base args ds gs before hval0 hW _ _
  have hval : ∀ (j : Nat) t v, Try.f4.params[j]? = some t → args[j]? = some v → Value.okWide Try.prog W .any base t v := hval0
  clear hval0
  have hW' := hW
  obtain ⟨p, q, hA0, hV, rfl, hfz, hnd⟩ := hW
  obtain ⟨rfl, rfl⟩ := trodVars_none hV
  have hA : DataW.TrodAll enc Try.prog W 0 (fun _ => true) true Try.f4.params.toList args.toList ds p := hA0
  rw [Try.params4] at hA hval
  clear hA0 hV
  obtain ⟨v0, v1, v2, d0, d1, d2, p0, p1, p2, rfl, rfl, rfl, h0, h1, h2⟩ := trodAll_three hA
  obtain ⟨H, hn, hc0, hs, rfl, RH, hhc, hhm, hhb⟩ := open_bytes (hval 0 22 v0 rfl rfl) h0
  obtain ⟨A, n, c, l, rfl, R, hc, hm, hso⟩ := open_chunks (hval 1 44 v1 rfl rfl) h1
  obtain ⟨f, rfl, rfl, rfl, wf⟩ := open_int Try.underlying3 (hval 2 3 v2 rfl rfl) h2
  refine (parcelWrites_any (Known.start W) (RdS.base RH _) hhb R hc hso (bounds_i64 wf)).mono fun e W' ⟨he, K⟩ => ?_
  have hb := K.fr
  subst he
  exact ⟨_, rfl, post_law Try.laidOut (by kernel_rfl) rfl (tb := 4) (by kernel_rfl) Try.underlying4 hW' rfl hb⟩

theorem over : Rows.parcelWritesRow.holds Try.pinned (OpenSpec.ofChange Rows.parcelWritesSpec) :=
  OpenClaim.holds_of_wide 4 Try.f4 rfl rfl rfl rfl rfl rfl rfl ⟨rfl, rfl, rfl, rfl, rfl⟩ rfl rfl rfl rfl rfl (by kernel_rfl) Try.func4 (by kernel_rfl)
    (of_decide_eq_true (by kernel_rfl)) (by unfold Func.isWrapper; first | (rw [if_pos (by decide +kernel)]; kernel_rfl) | (rw [if_neg (by decide +kernel)]; exact ⟨rfl, rfl⟩))
    (fun os started H enc _ => lifted os started H enc)

theorem proved : Rows.ParcelWritesSaid := over
#print axioms proved
end Go.Proofs.Ythbehlohdoajbaa.parcelWrites

