/- TotalsEnds, proved: the closed statement of sums beyond 64 bits and below none, and of assets twice, answers true. -/
import Derived.Test.YtckcamlicgdklaaGreatRows
import Derived.Test.YtckcamlicgdklaaGreatN54
namespace Go.Proofs.YtckcamlicgdklaaGreat
open Go.ChangeShapes Go.WideShapes Go.ChangeAt Go.RowKit Go.Joins Go.Deep Go.Mo
theorem Tryz.ownE:ownKnob Tryz.prog.godebug=none:=by kernel_rfl
theorem totalsEnds_lifted (os:Os) (started:os.Started) (H:Type) (enc:TypeId×Value->H) :
  ReturnsInHanded {} Tryz.checked os 4 .any (Rows.totalsEndsSpec.pre6 enc Tryz.prog Tryz.f4 Rows.totalsEndsRow.domain false) (Rows.totalsEndsSpec.post enc Tryz.prog Tryz.f4 false true false false):=by
 refine returnsInHanded_of_change_sized (C:=Tryz.checked) Tryz.ownE started (by kernel_rfl) Tryz.func4
  (ChangeSpec.witness6 (enc:=enc) (C:=Tryz.checked) false ⟨#[],#[],[]⟩ 8 (by kernel_rfl) (by kernel_rfl) (by kernel_rfl) (by kernel_rfl)) ?_
 intro W base args ds gs before _ hW _ _ _
 have hW':=hW
 obtain ⟨p,q,hA0,hV,rfl,_,_⟩:=hW
 have hA:DataW.TrodAll enc Tryz.prog W 0 (fun _=>true) true Tryz.f4.params.toList args.toList ds p:=hA0
 rw [Tryz.params4] at hA
 obtain ⟨rfl,rfl,rfl⟩:=trodAll_none hA
 obtain ⟨rfl,rfl⟩:=trodVars_none hV
 refine (ends_calls W).mono fun e W' ⟨he,hmod⟩=>?_
 subst he
 have hbelow:=hmod.below
 exact ⟨_,rfl,_,_,_,[],[],[],hW',trodAll_mk1 (shut_bool Tryz.underlying4 true),(by show DataW.TrodAll _ _ _ _ _ _ Tryz.f4.params.toList [] [] []; rw [Tryz.params4]; rfl),rfl,hbelow.frame _,fun h=>by cases h⟩
set_option maxRecDepth 100000 in
set_option maxHeartbeats 16000000 in
theorem ends_closed:joinedFacts Tryz.pinned.checked.prog 4 Tryz.f4 Rows.totalsEndsSpec Rows.totalsEndsRow=true:=by
 unfold joinedFacts
 repeat' (with_reducible refine (Bool.and_eq_true _ _).mpr ⟨?_,?_⟩)
 all_goals (as_aux_lemma=>kernel_rfl)
theorem ends_named:Tryz.pinned.checked.prog.funcNamed Rows.totalsEndsRow.func=some 4:=by kernel_rfl
theorem ends_inst:Tryz.f4.isInstance Tryz.pinned.checked.prog Rows.totalsEndsRow.origin Rows.totalsEndsRow.targs:=of_decide_eq_true (by kernel_rfl)
theorem totalsEnds_holds:Rows.TotalsEndsSaid:=
 OpenClaim.holds_of_wide 4 Tryz.f4 rfl rfl rfl rfl rfl rfl rfl ⟨rfl,rfl,rfl,rfl,rfl⟩ rfl rfl rfl rfl rfl ends_named Tryz.func4 ends_closed
  ends_inst (by unfold Func.isWrapper; rw [if_neg (by decide +kernel)]; exact ⟨rfl,rfl⟩)
  (fun os started H enc _=>totalsEnds_lifted os started H enc)
#print axioms totalsEnds_holds
end Go.Proofs.YtckcamlicgdklaaGreat
