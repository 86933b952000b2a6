/- a store that is opened again and again tells the same, and goes on; what two stores on two disks are told does not meet -/
import Derived.Test.YtmbaiglpgaoogaaGreatRows
import Derived.ChangeOld
import Derived.Test.YtmbaiglpgaoogaaGreatW16
import Derived.Test.YtmbaiglpgaoogaaGreatW33
import Derived.Test.YtmbaiglpgaoogaaGreatT01
import Derived.Test.YtmbaiglpgaoogaaGreatT02
import Derived.Test.YtmbaiglpgaoogaaGreatT03
import Derived.Test.YtmbaiglpgaoogaaGreatTStTop
set_option linter.unusedVariables false
set_option maxRecDepth 100000
namespace Go.Proofs.YtmbaiglpgaoogaaGreat.topAgainP
open Go.ChangeShapes Go.WideShapes Go.ChangeAt Go.RowKit Z
theorem own_:ownKnob Tryz.prog.godebug=none:=by kernel_rfl
theorem laidOut_:laidOutB Tryz.prog=true:=by kernel_rfl
theorem lifted (os:Os) (started:os.Started) (H:Type) (enc:TypeId × Value->H):
 ReturnsInHanded {} Tryz.checked os 3 .any (Rows.topAgainSpec.pre6 enc Tryz.prog Tryz.f3 Rows.topAgainRow.domain false) (Rows.topAgainSpec.post enc Tryz.prog Tryz.f3 false true false false):=by
 refine returnsInHanded_of_change_sized (C:= Tryz.checked) own_ started (by kernel_rfl) Tryz.func3
  (ChangeSpec.witness6 (enc:=enc) (C:= Tryz.checked) false ⟨#[], #[.slice none 0 0,.slice none 0 0,.int .i64 0],[]⟩ 8 (by kernel_rfl) (by kernel_rfl) (by kernel_rfl) (by kernel_rfl)) ?_
 intro W base args ds gs before hval0 hW hcnd hsz0 _;have hval: ∀ (j:Nat) t v, Tryz.f3.params[j]?=some t->args[j]?=some v->Value.okWide Tryz.prog W .any base t v:=hval0;have hsz:(DataW.weightsEach Tryz.prog (Tryz.f3.params.toList++Rows.topAgainSpec.plain.varTypes Tryz.prog) (ds++gs)).all (· <=reachBytes)=true:=hsz0;have hW':=hW;obtain⟨p,q,hA0,hV,rfl,hfz,hnd⟩:=hW;have hA:DataW.TrodAll enc Tryz.prog W 0 (fun _=>true) true Tryz.f3.params.toList args.toList ds p:=hA0;rw[Tryz.params3] at hA hval hsz;obtain⟨v0,vs0,d0,ds0,p0,q0,hargs,rfl,rfl,h0,r0⟩:=trodAll_cons hA;obtain⟨v1,vs1,d1,ds1,p1,q1,rfl,rfl,rfl,h1,r1⟩:=trodAll_cons r0;obtain⟨v2,vs2,d2,ds2,p2,q2,rfl,rfl,rfl,h2,r2⟩:=trodAll_cons r1;obtain⟨rfl,rfl,rfl⟩:=trodAll_nil r2;obtain rfl:args = #[v0,v1,v2]:=by cases args;simp_all
 obtain⟨rfl,rfl⟩:=trodVars_none hV;have k0:=h0;have lt0: ∀ x ∈ p0,x.block<W.heap.size:=by obtain⟨m,hm⟩:=k0;exact DataW.trod_lt m _ _ _ hm
 obtain⟨a0,n0,q0c,rfl⟩:=okWide_slice Tryz.underlying22 (hval 0 22 v0 rfl rfl);obtain⟨fuel0,hf0⟩:=h0;obtain⟨A0,c0,l0,e0,f0⟩:=MC hf0 (DN hsz (j:=0) rfl rfl);simp only[Value.cells,List.cons.injEq,and_true,Value.slice.injEq] at e0;obtain⟨rfl,rfl,rfl⟩:=e0;have k1:=h1;have lt1: ∀ x ∈ p1,x.block<W.heap.size:=by obtain⟨m,hm⟩:=k1;exact DataW.trod_lt m _ _ _ hm
 obtain⟨a1,n1,q1c,rfl⟩:=okWide_slice Tryz.underlying22 (hval 1 22 v1 rfl rfl);obtain⟨fuel1,hf1⟩:=h1;obtain⟨A1,c1,l1,e1,f1⟩:=MC hf1 (DN hsz (j:=1) rfl rfl);simp only[Value.cells,List.cons.injEq,and_true,Value.slice.injEq] at e1;obtain⟨rfl,rfl,rfl⟩:=e1;obtain⟨a2,rfl,rfl,rfl,w2⟩:=open_int Tryz.underlying3 (hval 2 3 v2 rfl rfl) h2;have b2:=bounds_i64 w2;clear hA0 hval0 hsz0;refine(NT a0 q0c l0 a1 q1c l1 a2 W f0 f1 b2).mono fun e W' ⟨he,aL⟩=>?_
 subst he;have bel:=aL.below;exact⟨_,rfl,_,_,_,[],_,[],hW',trodAll_mk1 (shut_bool Tryz.underlying4 _),(trodAll_cons_mk (Below.trod laidOut_ (by kernel_rfl) (of_decide_eq_true (by kernel_rfl)) k0 bel lt0) (trodAll_cons_mk (Below.trod laidOut_ (by kernel_rfl) (of_decide_eq_true (by kernel_rfl)) k1 bel lt1) (trodAll_cons_mk (shut_int Tryz.underlying3 w2) trodAll_mk0))),rfl,bel.frame _,fun h=>by cases h⟩
theorem over:Rows.topAgainRow.holds Tryz.pinned (OpenSpec.ofChange Rows.topAgainSpec):=
 OpenClaim.holds_of_wide 3 Tryz.f3 rfl rfl rfl rfl rfl rfl rfl ⟨rfl,rfl,rfl,rfl,rfl⟩ rfl rfl rfl rfl rfl (by kernel_rfl) Tryz.func3 (by kernel_rfl)
  (of_decide_eq_true (by kernel_rfl)) (by unfold Func.isWrapper;first | (rw[if_pos (by decide+kernel)];kernel_rfl) | (rw[if_neg (by decide+kernel)];exact⟨rfl,rfl⟩))
  (fun os started H enc _=>lifted os started H enc)
end Go.Proofs.YtmbaiglpgaoogaaGreat.topAgainP
namespace Go.Proofs.YtmbaiglpgaoogaaGreat
theorem topAgain_holds:Rows.TopAgainSaid:=topAgainP.over
#print axioms topAgain_holds
end Go.Proofs.YtmbaiglpgaoogaaGreat
