/- keys, values, batches, disks at their ends -/
import Derived.Test.YtmbaiglpgaoogaaGreatRows
import Derived.ChangeOld
import Derived.Test.YtmbaiglpgaoogaaGreatS20
import Derived.Test.YtmbaiglpgaoogaaGreatT01
import Derived.Test.YtmbaiglpgaoogaaGreatU01
import Derived.Test.YtmbaiglpgaoogaaGreatUStEnds
namespace Go.Proofs.YtmbaiglpgaoogaaGreat.storeEndsP
open Go.ChangeShapes Go.WideShapes Go.ChangeAt Go.RowKit
set_option linter.unusedVariables false
theorem own_:ownKnob Tryz.prog.godebug=none:=by kernel_rfl
theorem laidOut_:laidOutB Tryz.prog=true:=by kernel_rfl
set_option maxRecDepth 100000 in
theorem lifted (os:Os) (started:os.Started) (H:Type) (enc:TypeId × Value→H):
  ReturnsInHanded {} Tryz.checked os 5 .any (Rows.storeEndsSpec.pre6 enc Tryz.prog Tryz.f5 Rows.storeEndsRow.domain false) (Rows.storeEndsSpec.post enc Tryz.prog Tryz.f5 false true false false):=by
 refine returnsInHanded_of_change_sized (C:= Tryz.checked) own_ started (by kernel_rfl) Tryz.func5
  (ChangeSpec.witness6 (enc:=enc) (C:= Tryz.checked) false ⟨#[], #[],[]⟩ 8 (by kernel_rfl) (by kernel_rfl) (by kernel_rfl) (by kernel_rfl)) ?_
 intro W base args ds gs before hval0 hW hcnd hsz0 _;have hval: ∀ (j:Nat) t v, Tryz.f5.params[j]?=some t→args[j]?=some v→Value.okWide Tryz.prog W .any base t v:=hval0;have hsz:(DataW.weightsEach Tryz.prog (Tryz.f5.params.toList++Rows.storeEndsSpec.plain.varTypes Tryz.prog) (ds++gs)).all (· ≤reachBytes)=true:=hsz0;have hW':=hW;obtain⟨p,q,hA0,hV,rfl,hfz,hnd⟩:=hW;have hA:DataW.TrodAll enc Tryz.prog W 0 (fun _=>true) true Tryz.f5.params.toList args.toList ds p:=hA0;rw[Tryz.params5] at hA hval hsz;obtain⟨rfl,rfl,rfl⟩:=trodAll_none hA;obtain⟨rfl,rfl⟩:=trodVars_none hV;clear hA0 hval0 hsz0;refine(storeEnds_walk  W ).mono fun e W' ⟨he,chg⟩=>?_
 subst he;have bel:=chg.below;exact⟨_,rfl,_,_,_,[],_,[],hW',trodAll_mk1 (shut_bool Tryz.underlying4 _),trodAll_mk0,rfl,bel.frame _,fun h=>by cases h⟩
theorem over:Rows.storeEndsRow.holds Tryz.pinned (OpenSpec.ofChange Rows.storeEndsSpec):=
 OpenClaim.holds_of_wide 5 Tryz.f5 rfl rfl rfl rfl rfl rfl rfl ⟨rfl,rfl,rfl,rfl,rfl⟩ rfl rfl rfl rfl rfl (by kernel_rfl) Tryz.func5 (by kernel_rfl)
  (of_decide_eq_true (by kernel_rfl)) (by unfold Func.isWrapper;first | (rw[if_pos (by decide+kernel)];kernel_rfl) | (rw[if_neg (by decide+kernel)];exact⟨rfl,rfl⟩))
  (fun os started H enc _=>lifted os started H enc)
end Go.Proofs.YtmbaiglpgaoogaaGreat.storeEndsP
namespace Go.Proofs.YtmbaiglpgaoogaaGreat
theorem storeEnds_holds:Rows.StoreEndsSaid:=storeEndsP.over
#print axioms storeEnds_holds
end Go.Proofs.YtmbaiglpgaoogaaGreat
