/- Proved: SectorFalls: behind a fall each sector is as it was when it was synced last, as it was written last, or torn, if that was picked for one. No condition beyond the statement's own. -/
import Derived.Test.YtokbloddaoakgaaRows
import Derived.Test.YtokbloddaoakgaaLawF
import Derived.Test.YtokbloddaoakgaaLawM
set_option linter.unusedVariables false
set_option linter.unusedSimpArgs false
namespace Go.Proofs.Ytokbloddaoakgaa.sectorFalls
open Go.ChangeShapes Go.WideShapes Go.ChangeAt Go.RowKit Go.Joins
set_option maxRecDepth 100000 in
theorem lifted (os : Os) (started : os.Started) (H : Type) (enc : TypeId × Value → H) :
    ReturnsInHanded {} Try.checked os 10 .any (Rows.sectorFallsSpec.pre6 enc Try.prog Try.f10 Rows.sectorFallsRow.domain false) (Rows.sectorFallsSpec.post enc Try.prog Try.f10 false true false false) := by
  refine returnsInHanded_of_change (C := Try.checked) Try.own started (by kernel_rfl) Try.func10
    (ChangeSpec.witness6 (enc := enc) (C := Try.checked) false ⟨#[], #[.slice none 0 0, .slice none 0 0], []⟩ 8 (by kernel_rfl) (by kernel_rfl) (by kernel_rfl) (by kernel_rfl)) ?_
  intro W base args ds gs before hval0 hW _ _
  have hval : ∀ (j : Nat) t v, Try.f10.params[j]? = some t → args[j]? = some v → Value.okWide Try.prog W .any base t v := hval0
  clear hval0
  have hW' := hW
  obtain ⟨p, q, hA0, hV, rfl, hfz, hnd⟩ := hW
  obtain ⟨rfl, rfl⟩ := trodVars_none hV
  have hA : DataW.TrodAll enc Try.prog W 0 (fun _ => true) true Try.f10.params.toList args.toList ds p := hA0
  rw [Try.params10] at hA hval
  clear hA0 hV
  obtain ⟨v0, v1, d0, d1, p0, p1, rfl, rfl, rfl, h0, h1⟩ := trodAll_two hA
  obtain ⟨A, n, c, l, rfl, R, hc, hm, hs⟩ := open_steps (hval 0 63 v0 rfl rfl) h0
  obtain ⟨A2, n2, c2, xs2, rfl, R2, hc2, hm2, hb2⟩ := open_bytes (hval 1 24 v1 rfl rfl) h1
  refine (sectorFalls_any (Known.start W) R hc hs (RdS.base R2 _) hc2).mono fun e W' ⟨he, K⟩ => ?_
  have hb := K.fr
  subst he
  exact ⟨_, rfl, post_law Try.laidOut (by kernel_rfl) rfl (tb := 4) (by kernel_rfl) Try.underlying4 hW' rfl hb⟩

theorem over : Rows.sectorFallsRow.holds Try.pinned (OpenSpec.ofChange Rows.sectorFallsSpec) :=
  OpenClaim.holds_of_wide 10 Try.f10 rfl rfl rfl rfl rfl rfl rfl ⟨rfl, rfl, rfl, rfl, rfl⟩ rfl rfl rfl rfl rfl (by kernel_rfl) Try.func10 (by kernel_rfl)
    (of_decide_eq_true (by kernel_rfl)) (by unfold Func.isWrapper; first | (rw [if_pos (by decide +kernel)]; kernel_rfl) | (rw [if_neg (by decide +kernel)]; exact ⟨rfl, rfl⟩))
    (fun os started H enc _ => lifted os started H enc)

theorem proved : Rows.SectorFallsSaid := over
#print axioms proved
end Go.Proofs.Ytokbloddaoakgaa.sectorFalls

