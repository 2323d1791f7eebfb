/- DevEnds, proved: the closed statement of the device's sizes, quotas and crashes answers true. -/
import Derived.Test.YtaaoabfmelpcpaaRowA
import Derived.Test.YtaaoabfmelpcpaaEnB
namespace Go.Proofs.Ytaaoabfmelpcpaa
open Go.ChangeShapes Go.WideShapes Go.ChangeAt Go.RowKit Go.Joins Go.Deep Go.Mo

theorem devEnds_lifted (os : Os) (started : os.Started) (H : Type) (enc : TypeId × Value → H) :
    ReturnsInHanded {} Try.checked os 5 .any (Rows.devEndsSpec.pre6 enc Try.prog Try.f5 Rows.devEndsRow.domain false) (Rows.devEndsSpec.post enc Try.prog Try.f5 false true false false) := by
  refine returnsInHanded_of_change_sized (C := Try.checked) Try.own started (by kernel_rfl) Try.func5
    (ChangeSpec.witness6 (enc := enc) (C := Try.checked) false ⟨#[], #[], []⟩ 8 (by kernel_rfl) (by kernel_rfl) (by kernel_rfl) (by kernel_rfl)) ?_
  intro W base args ds gs before _ hW _ _ _
  have hW' := hW
  obtain ⟨p, q, hA0, hV, rfl, _, _⟩ := hW
  have hA : DataW.TrodAll enc Try.prog W 0 (fun _ => true) true Try.f5.params.toList args.toList ds p := hA0
  rw [Try.params5] at hA
  obtain ⟨rfl, rfl, rfl⟩ := trodAll_none hA
  obtain ⟨rfl, rfl⟩ := trodVars_none hV
  refine (devends_ok W).mono fun e W' ⟨he, hmod⟩ => ?_
  subst he
  have hbelow := hmod.below
  exact ⟨_, rfl, _, _, _, [], [], [], hW', trodAll_mk1 (shut_bool Try.underlying4 true), (by show DataW.TrodAll _ _ _ _ _ _ Try.f5.params.toList [] [] []; rw [Try.params5]; rfl), rfl, hbelow.frame _, fun h => by cases h⟩

theorem devEnds_holds : Rows.DevEndsSaid :=
  OpenClaim.holds_of_wide 5 Try.f5 rfl rfl rfl rfl rfl rfl rfl ⟨rfl, rfl, rfl, rfl, rfl⟩ rfl rfl rfl rfl rfl (by kernel_rfl) Try.func5 (by kernel_rfl)
    (of_decide_eq_true (by kernel_rfl)) (by unfold Func.isWrapper; rw [if_neg (by decide +kernel)]; exact ⟨rfl, rfl⟩)
    (fun os started H enc _ => devEnds_lifted os started H enc)

#print axioms devEnds_holds
end Go.Proofs.Ytaaoabfmelpcpaa
