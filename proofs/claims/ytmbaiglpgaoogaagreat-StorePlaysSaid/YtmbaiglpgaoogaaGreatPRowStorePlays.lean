/- a store is a plain map with copies, whatever is written, read, kept as a snapshot, tidied, opened again -/
import Derived.Test.YtmbaiglpgaoogaaGreatRows
import Derived.ChangeOld
import Derived.Test.YtmbaiglpgaoogaaGreatW16
import Derived.Test.YtmbaiglpgaoogaaGreatW33
import Derived.Test.YtmbaiglpgaoogaaGreatP01
import Derived.Test.YtmbaiglpgaoogaaGreatP02
import Derived.Test.YtmbaiglpgaoogaaGreatP03
import Derived.Test.YtmbaiglpgaoogaaGreatP04
import Derived.Test.YtmbaiglpgaoogaaGreatP05
import Derived.Test.YtmbaiglpgaoogaaGreatP06
import Derived.Test.YtmbaiglpgaoogaaGreatP07
import Derived.Test.YtmbaiglpgaoogaaGreatP08
import Derived.Test.YtmbaiglpgaoogaaGreatP09
import Derived.Test.YtmbaiglpgaoogaaGreatP10
import Derived.Test.YtmbaiglpgaoogaaGreatP11
import Derived.Test.YtmbaiglpgaoogaaGreatPStPlays
set_option linter.unusedVariables false
set_option maxRecDepth 100000
namespace Go.Proofs.YtmbaiglpgaoogaaGreat.storePlaysP
open Go.ChangeShapes Go.WideShapes Go.ChangeAt Go.RowKit Z
theorem own_:ownKnob Tryz.prog.godebug=none:=by kernel_rfl
theorem laidOut_:laidOutB Tryz.prog=true:=by kernel_rfl
theorem lifted (os:Os) (started:os.Started) (H:Type) (enc:TypeId × Value->H):
 ReturnsInHanded {} Tryz.checked os 14 .any (Rows.storePlaysSpec.pre6 enc Tryz.prog Tryz.f14 Rows.storePlaysRow.domain false) (Rows.storePlaysSpec.post enc Tryz.prog Tryz.f14 false true false false):=by
 refine returnsInHanded_of_change_sized (C:= Tryz.checked) own_ started (by kernel_rfl) Tryz.func14
  (ChangeSpec.witness6 (enc:=enc) (C:= Tryz.checked) false ⟨#[], #[.slice none 0 0],[]⟩ 8 (by kernel_rfl) (by kernel_rfl) (by kernel_rfl) (by kernel_rfl)) ?_
 intro W base args ds gs before hval0 hW hcnd hsz0 _;have hval: ∀ (j:Nat) t v, Tryz.f14.params[j]?=some t->args[j]?=some v->Value.okWide Tryz.prog W .any base t v:=hval0;have hsz:(DataW.weightsEach Tryz.prog (Tryz.f14.params.toList++Rows.storePlaysSpec.plain.varTypes Tryz.prog) (ds++gs)).all (· <=reachBytes)=true:=hsz0;have hW':=hW;obtain⟨p,q,hA0,hV,rfl,hfz,hnd⟩:=hW;have hA:DataW.TrodAll enc Tryz.prog W 0 (fun _=>true) true Tryz.f14.params.toList args.toList ds p:=hA0;rw[Tryz.params14] at hA hval hsz;obtain⟨v0,vs0,d0,ds0,p0,q0,hargs,rfl,rfl,h0,r0⟩:=trodAll_cons hA;obtain⟨rfl,rfl,rfl⟩:=trodAll_nil r0;obtain rfl:args = #[v0]:=by cases args;simp_all
 obtain⟨rfl,rfl⟩:=trodVars_none hV;have k0:=h0;have lt0: ∀ x ∈ p0,x.block<W.heap.size:=by obtain⟨m,hm⟩:=k0;exact DataW.trod_lt m _ _ _ hm
 obtain⟨a0,n0,q0c,rfl⟩:=okWide_slice Tryz.underlying85 (hval 0 85 v0 rfl rfl);obtain⟨fuel0,hf0⟩:=h0;obtain⟨A0,c0,l0,e0,f0⟩:=L4 hf0 (DN hsz (j:=0) rfl rfl);simp only[Value.cells,List.cons.injEq,and_true,Value.slice.injEq] at e0;obtain⟨rfl,rfl,rfl⟩:=e0;clear hA0 hval0 hsz0;refine(LR a0 q0c l0 W f0).mono fun e W' ⟨he,aL⟩=>?_
 subst he;have bel:=aL.below;exact⟨_,rfl,_,_,_,[],_,[],hW',trodAll_mk1 (shut_bool Tryz.underlying4 _),(trodAll_cons_mk (Below.trod laidOut_ (by kernel_rfl) (of_decide_eq_true (by kernel_rfl)) k0 bel lt0) trodAll_mk0),rfl,bel.frame _,fun h=>by cases h⟩
theorem over:Rows.storePlaysRow.holds Tryz.pinned (OpenSpec.ofChange Rows.storePlaysSpec):=
 OpenClaim.holds_of_wide 14 Tryz.f14 rfl rfl rfl rfl rfl rfl rfl ⟨rfl,rfl,rfl,rfl,rfl⟩ rfl rfl rfl rfl rfl (by kernel_rfl) Tryz.func14 (by kernel_rfl)
  (of_decide_eq_true (by kernel_rfl)) (by unfold Func.isWrapper;first | (rw[if_pos (by decide+kernel)];kernel_rfl) | (rw[if_neg (by decide+kernel)];exact⟨rfl,rfl⟩))
  (fun os started H enc _=>lifted os started H enc)
end Go.Proofs.YtmbaiglpgaoogaaGreat.storePlaysP
namespace Go.Proofs.YtmbaiglpgaoogaaGreat
theorem storePlays_holds:Rows.StorePlaysSaid:=storePlaysP.over
#print axioms storePlays_holds
end Go.Proofs.YtmbaiglpgaoogaaGreat
