/- Proved: ManifestHeads: the header of any manifest and any signature, or the error, is the document's. No condition beyond the statement's own (orders of at most 60 blocks, signatures of at most 140000 bytes are compared). -/
import Derived.Test.YtgloienpmikcfaaRows
import Derived.Test.YtgloienpmikcfaaOpenB
import Derived.Test.YtgloienpmikcfaaHeadC
set_option linter.unusedVariables false
set_option linter.unusedSimpArgs false
namespace Go.Proofs.Ytgloienpmikcfaa.manifestHeads
open Go.ChangeShapes Go.WideShapes Go.ChangeAt Go.RowKit

set_option maxRecDepth 100000 in
theorem lifted (os : Os) (started : os.Started) (H : Type) (enc : TypeId × Value → H) :
    ReturnsInHanded {} Try.checked os 7 .any (Rows.manifestHeadsSpec.pre6 enc Try.prog Try.f7 Rows.manifestHeadsRow.domain false) (Rows.manifestHeadsSpec.post enc Try.prog Try.f7 false true false false) := by
  refine returnsInHanded_of_change (C := Try.checked) Try.own started (by kernel_rfl) Try.func7
    (ChangeSpec.witness6 (enc := enc) (C := Try.checked) false ⟨#[], #[.agg (mfc 0 0 0 0 0 (List.replicate 96 0) (.slice none 0 0)), .slice none 0 0], []⟩ 8 (by kernel_rfl) (by kernel_rfl) (by kernel_rfl) (by kernel_rfl)) ?_
  intro W base args ds gs before hval0 hW _ _
  have hval : ∀ (j : Nat) t v, Try.f7.params[j]? = some t → args[j]? = some v → Value.okWide Try.prog W .any base t v := hval0
  clear hval0
  have hW' := hW
  obtain ⟨p, q, hA0, hV, rfl, hfz, hnd⟩ := hW
  obtain ⟨rfl, rfl⟩ := trodVars_none hV
  have hA : DataW.TrodAll enc Try.prog W 0 (fun _ => true) true Try.f7.params.toList args.toList ds p := hA0
  rw [Try.params7] at hA hval
  clear hA0 hV
  obtain ⟨v0, v1, d0, d1, p0, p1, rfl, rfl, rfl, h0, h1⟩ := trodAll_two hA
  obtain ⟨mode, ver, blk, ol, nl, D, A, n, c, xs, rfl, hD, R, hc, hm, -, -, hnl, -, -⟩ := open_manifest (hval 0 41 v0 rfl rfl) h0
  obtain ⟨B, m, c2, ys, rfl, R2, hc2, hm2, -⟩ := open_bytes (hval 1 44 v1 rfl rfl) h1
  refine (manifestHeads_walk mode ver blk ol nl D A n c xs B m c2 ys W R hD hc hnl R2).mono fun e W' ⟨he, hb⟩ => ?_
  subst he
  exact ⟨_, rfl, post_law Try.laidOut (by kernel_rfl) rfl (tb := 4) (by kernel_rfl) Try.underlying4 hW' rfl hb⟩

theorem over : Rows.manifestHeadsRow.holds Try.pinned (OpenSpec.ofChange Rows.manifestHeadsSpec) :=
  OpenClaim.holds_of_wide 7 Try.f7 rfl rfl rfl rfl rfl rfl rfl ⟨rfl, rfl, rfl, rfl, rfl⟩ rfl rfl rfl rfl rfl (by kernel_rfl) Try.func7 (by kernel_rfl)
    (of_decide_eq_true (by kernel_rfl)) (by unfold Func.isWrapper; first | (rw [if_pos (by decide +kernel)]; kernel_rfl) | (rw [if_neg (by decide +kernel)]; exact ⟨rfl, rfl⟩))
    (fun os started H enc _ => lifted os started H enc)

theorem proved : Rows.ManifestHeadsSaid := over
#print axioms proved
end Go.Proofs.Ytgloienpmikcfaa.manifestHeads

