/- Proved: SectorNil: a nil device is off, and has nothing. No condition beyond the statement's own. -/
import Derived.Test.YtokbloddaoakgaaRows
import Derived.Test.YtokbloddaoakgaaOpenG
import Derived.Test.YtokbloddaoakgaaLawJ
set_option linter.unusedVariables false
set_option linter.unusedSimpArgs false
namespace Go.Proofs.Ytokbloddaoakgaa.sectorNil
open Go.ChangeShapes Go.WideShapes Go.ChangeAt Go.RowKit Go.Joins
set_option maxRecDepth 100000 in
theorem lifted (os : Os) (started : os.Started) (H : Type) (enc : TypeId × Value → H) :
    ReturnsInHanded {} Try.checked os 8 .any (Rows.sectorNilSpec.pre6 enc Try.prog Try.f8 Rows.sectorNilRow.domain false) (Rows.sectorNilSpec.post enc Try.prog Try.f8 false true false false) := by
  refine returnsInHanded_of_change (C := Try.checked) Try.own started (by kernel_rfl) Try.func8
    (ChangeSpec.witness6 (enc := enc) (C := Try.checked) false ⟨#[], #[.int .i64 0, .slice none 0 0, .slice none 0 0], []⟩ 8 (by kernel_rfl) (by kernel_rfl) (by kernel_rfl) (by kernel_rfl)) ?_
  intro W base args ds gs before hval0 hW _ _
  have hval : ∀ (j : Nat) t v, Try.f8.params[j]? = some t → args[j]? = some v → Value.okWide Try.prog W .any base t v := hval0
  clear hval0
  have hW' := hW
  obtain ⟨p, q, hA0, hV, rfl, hfz, hnd⟩ := hW
  obtain ⟨rfl, rfl⟩ := trodVars_none hV
  have hA : DataW.TrodAll enc Try.prog W 0 (fun _ => true) true Try.f8.params.toList args.toList ds p := hA0
  rw [Try.params8] at hA hval
  clear hA0 hV
  obtain ⟨v0, v1, v2, d0, d1, d2, p0, p1, p2, rfl, rfl, rfl, h0, h1, h2⟩ := trodAll_three hA
  obtain ⟨a0, rfl, rfl, rfl, w0⟩ := open_int Try.underlying3 (hval 0 3 v0 rfl rfl) h0
  obtain ⟨A, n, c, xs, rfl, R, hc, hm, hb⟩ := open_bytes (hval 1 24 v1 rfl rfl) h1
  obtain ⟨A2, n2, c2, xs2, rfl, R2, hc2, hm2, hb2⟩ := open_bytes (hval 2 24 v2 rfl rfl) h2
  refine (sectorNil_any (Known.start W) _ _ _ _ _ _ _).mono fun e W' ⟨he, K⟩ => ?_
  have hb := K.fr
  subst he
  exact ⟨_, rfl, post_law Try.laidOut (by kernel_rfl) rfl (tb := 4) (by kernel_rfl) Try.underlying4 hW' rfl hb⟩

theorem over : Rows.sectorNilRow.holds Try.pinned (OpenSpec.ofChange Rows.sectorNilSpec) :=
  OpenClaim.holds_of_wide 8 Try.f8 rfl rfl rfl rfl rfl rfl rfl ⟨rfl, rfl, rfl, rfl, rfl⟩ rfl rfl rfl rfl rfl (by kernel_rfl) Try.func8 (by kernel_rfl)
    (of_decide_eq_true (by kernel_rfl)) (by unfold Func.isWrapper; first | (rw [if_pos (by decide +kernel)]; kernel_rfl) | (rw [if_neg (by decide +kernel)]; exact ⟨rfl, rfl⟩))
    (fun os started H enc _ => lifted os started H enc)

theorem proved : Rows.SectorNilSaid := over
#print axioms proved
end Go.Proofs.Ytokbloddaoakgaa.sectorNil

