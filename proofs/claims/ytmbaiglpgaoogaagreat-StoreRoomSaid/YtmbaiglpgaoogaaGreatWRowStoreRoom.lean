/- a store on a small disk is never full below the bound, whatever was written and deleted before; where it is full it has changed nothing -/
import Derived.Test.YtmbaiglpgaoogaaGreatRows
import Derived.ChangeOld
import Derived.Test.YtmbaiglpgaoogaaGreatW16
import Derived.Test.YtmbaiglpgaoogaaGreatWStRoom
set_option linter.unusedVariables false
set_option maxRecDepth 100000
namespace Go.Proofs.YtmbaiglpgaoogaaGreat.storeRoomP
open Go.ChangeShapes Go.WideShapes Go.ChangeAt Go.RowKit Z
theorem own_:ownKnob Tryz.prog.godebug=none:=by kernel_rfl
theorem laidOut_:laidOutB Tryz.prog=true:=by kernel_rfl
theorem lifted (os:Os) (started:os.Started) (H:Type) (enc:TypeId × Value->H):
 ReturnsInHanded {} Tryz.checked os 4 .any (Rows.storeRoomSpec.pre6 enc Tryz.prog Tryz.f4 Rows.storeRoomRow.domain false) (Rows.storeRoomSpec.post enc Tryz.prog Tryz.f4 false true false false):=by
 refine returnsInHanded_of_change_sized (C:= Tryz.checked) own_ started (by kernel_rfl) Tryz.func4
  (ChangeSpec.witness6 (enc:=enc) (C:= Tryz.checked) false ⟨#[], #[.int .i64 0,.slice none 0 0],[]⟩ 8 (by kernel_rfl) (by kernel_rfl) (by kernel_rfl) (by kernel_rfl)) ?_
 intro W base args ds gs before hval0 hW hcnd hsz0 _;have hval: ∀ (j:Nat) t v, Tryz.f4.params[j]?=some t->args[j]?=some v->Value.okWide Tryz.prog W .any base t v:=hval0;have hsz:(DataW.weightsEach Tryz.prog (Tryz.f4.params.toList++Rows.storeRoomSpec.plain.varTypes Tryz.prog) (ds++gs)).all (· <=reachBytes)=true:=hsz0;have hW':=hW;obtain⟨p,q,hA0,hV,rfl,hfz,hnd⟩:=hW;have hA:DataW.TrodAll enc Tryz.prog W 0 (fun _=>true) true Tryz.f4.params.toList args.toList ds p:=hA0;rw[Tryz.params4] at hA hval hsz;obtain⟨v0,vs0,d0,ds0,p0,q0,hargs,rfl,rfl,h0,r0⟩:=trodAll_cons hA;obtain⟨v1,vs1,d1,ds1,p1,q1,rfl,rfl,rfl,h1,r1⟩:=trodAll_cons r0;obtain⟨rfl,rfl,rfl⟩:=trodAll_nil r1;obtain rfl:args = #[v0,v1]:=by cases args;simp_all
 obtain⟨rfl,rfl⟩:=trodVars_none hV;obtain⟨a0,rfl,rfl,rfl,w0⟩:=open_int Tryz.underlying3 (hval 0 3 v0 rfl rfl) h0;have b0:=bounds_i64 w0;have k1:=h1;have lt1: ∀ x ∈ p1,x.block<W.heap.size:=by obtain⟨m,hm⟩:=k1;exact DataW.trod_lt m _ _ _ hm
 obtain⟨a1,n1,q1c,rfl⟩:=okWide_slice Tryz.underlying49 (hval 1 49 v1 rfl rfl);obtain⟨fuel1,hf1⟩:=h1;obtain⟨A1,c1,l1,e1,f1⟩:=yZ Tryz.underlying49 Tryz.underlying3 (by kernel_rfl) (by kernel_rfl) hf1 (DN hsz (j:=1) rfl rfl);simp only[Value.cells,List.cons.injEq,and_true,Value.slice.injEq] at e1;obtain⟨rfl,rfl,rfl⟩:=e1;clear hA0 hval0 hsz0;refine(pK a0 a1 q1c l1 W b0 f1).mono fun e W' ⟨he,aL⟩=>?_
 subst he;have bel:=aL.below;exact⟨_,rfl,_,_,_,[],_,[],hW',trodAll_mk1 (shut_bool Tryz.underlying4 _),(trodAll_cons_mk (shut_int Tryz.underlying3 w0) (trodAll_cons_mk (Below.trod laidOut_ (by kernel_rfl) (of_decide_eq_true (by kernel_rfl)) k1 bel lt1) trodAll_mk0)),rfl,bel.frame _,fun h=>by cases h⟩
theorem over:Rows.storeRoomRow.holds Tryz.pinned (OpenSpec.ofChange Rows.storeRoomSpec):=
 OpenClaim.holds_of_wide 4 Tryz.f4 rfl rfl rfl rfl rfl rfl rfl ⟨rfl,rfl,rfl,rfl,rfl⟩ rfl rfl rfl rfl rfl (by kernel_rfl) Tryz.func4 (by kernel_rfl)
  (of_decide_eq_true (by kernel_rfl)) (by unfold Func.isWrapper;first | (rw[if_pos (by decide+kernel)];kernel_rfl) | (rw[if_neg (by decide+kernel)];exact⟨rfl,rfl⟩))
  (fun os started H enc _=>lifted os started H enc)
end Go.Proofs.YtmbaiglpgaoogaaGreat.storeRoomP
namespace Go.Proofs.YtmbaiglpgaoogaaGreat
theorem storeRoom_holds:Rows.StoreRoomSaid:=storeRoomP.over
#print axioms storeRoom_holds
end Go.Proofs.YtmbaiglpgaoogaaGreat
