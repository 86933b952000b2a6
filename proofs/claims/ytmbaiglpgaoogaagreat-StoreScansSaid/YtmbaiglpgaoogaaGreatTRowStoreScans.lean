/- what a scan tells, cut in two at any key, is what both parts tell; what it tells with a bound on how many is its beginning; each pair is what Get tells -/
import Derived.Test.YtmbaiglpgaoogaaGreatRows
import Derived.ChangeOld
import Derived.Test.YtmbaiglpgaoogaaGreatS20
import Derived.Test.YtmbaiglpgaoogaaGreatSStScans
import Derived.Test.YtmbaiglpgaoogaaGreatT01
namespace Go.Proofs.YtmbaiglpgaoogaaGreat.storeScansP
open Go.ChangeShapes Go.WideShapes Go.ChangeAt Go.RowKit
set_option linter.unusedVariables false
theorem own_:ownKnob Tryz.prog.godebug=none:=by kernel_rfl
theorem laidOut_:laidOutB Tryz.prog=true:=by kernel_rfl
set_option maxRecDepth 100000 in
theorem lifted (os:Os) (started:os.Started) (H:Type) (enc:TypeId × Value→H):
  ReturnsInHanded {} Tryz.checked os 8 .any (Rows.storeScansSpec.pre6 enc Tryz.prog Tryz.f8 Rows.storeScansRow.domain false) (Rows.storeScansSpec.post enc Tryz.prog Tryz.f8 false true false false):=by
 refine returnsInHanded_of_change_sized (C:= Tryz.checked) own_ started (by kernel_rfl) Tryz.func8
  (ChangeSpec.witness6 (enc:=enc) (C:= Tryz.checked) false ⟨#[], #[.slice none 0 0,.int .i64 0,.int .i64 0,.bool false],[]⟩ 8 (by kernel_rfl) (by kernel_rfl) (by kernel_rfl) (by kernel_rfl)) ?_
 intro W base args ds gs before hval0 hW hcnd hsz0 _;have hval: ∀ (j:Nat) t v, Tryz.f8.params[j]?=some t→args[j]?=some v→Value.okWide Tryz.prog W .any base t v:=hval0;have hsz:(DataW.weightsEach Tryz.prog (Tryz.f8.params.toList++Rows.storeScansSpec.plain.varTypes Tryz.prog) (ds++gs)).all (· ≤reachBytes)=true:=hsz0;have hW':=hW;obtain⟨p,q,hA0,hV,rfl,hfz,hnd⟩:=hW;have hA:DataW.TrodAll enc Tryz.prog W 0 (fun _=>true) true Tryz.f8.params.toList args.toList ds p:=hA0;rw[Tryz.params8] at hA hval hsz;obtain⟨v0,vs0,d0,ds0,p0,q0,hargs,rfl,rfl,h0,r0⟩:=trodAll_cons hA;obtain⟨v1,vs1,d1,ds1,p1,q1,rfl,rfl,rfl,h1,r1⟩:=trodAll_cons r0;obtain⟨v2,vs2,d2,ds2,p2,q2,rfl,rfl,rfl,h2,r2⟩:=trodAll_cons r1;obtain⟨v3,vs3,d3,ds3,p3,q3,rfl,rfl,rfl,h3,r3⟩:=trodAll_cons r2;obtain⟨rfl,rfl,rfl⟩:=trodAll_nil r3;obtain rfl:args = #[v0,v1,v2,v3]:=by cases args;simp_all
 obtain⟨rfl,rfl⟩:=trodVars_none hV;have k0:=h0;have lt0: ∀ x ∈ p0,x.block<W.heap.size:=by obtain⟨m,hm⟩:=k0;exact DataW.trod_lt m _ _ _ hm
 obtain⟨a0,n0,q0c,rfl⟩:=okWide_slice Tryz.underlying49 (hval 0 49 v0 rfl rfl);obtain⟨fuel0,hf0⟩:=h0;obtain⟨A0,c0,l0,e0,f0⟩:=open_words Tryz.underlying49 Tryz.underlying3 (by kernel_rfl) (by kernel_rfl) hf0 (sized_of hsz (j:=0) rfl rfl);simp only[Value.cells,List.cons.injEq,and_true,Value.slice.injEq] at e0;obtain⟨rfl,rfl,rfl⟩:=e0;obtain⟨a1,rfl,rfl,rfl,w1⟩:=open_int Tryz.underlying3 (hval 1 3 v1 rfl rfl) h1;have b1:=bounds_i64 w1;obtain⟨a2,rfl,rfl,rfl,w2⟩:=open_int Tryz.underlying3 (hval 2 3 v2 rfl rfl) h2;have b2:=bounds_i64 w2;obtain⟨a3,rfl,rfl,rfl⟩:=open_bool Tryz.underlying4 (hval 3 4 v3 rfl rfl) h3;clear hA0 hval0 hsz0;refine(storeScans_walk a0 q0c l0 a1 a2 a3 W f0 b1 b2).mono fun e W' ⟨he,chg⟩=>?_
 subst he;have bel:=chg.below;exact⟨_,rfl,_,_,_,[],_,[],hW',trodAll_mk1 (shut_bool Tryz.underlying4 _),(trodAll_cons_mk (Below.trod laidOut_ (by kernel_rfl) (of_decide_eq_true (by kernel_rfl)) k0 bel lt0) (trodAll_cons_mk (shut_int Tryz.underlying3 w1) (trodAll_cons_mk (shut_int Tryz.underlying3 w2) (trodAll_cons_mk (shut_bool Tryz.underlying4 _) trodAll_mk0)))),rfl,bel.frame _,fun h=>by cases h⟩
theorem over:Rows.storeScansRow.holds Tryz.pinned (OpenSpec.ofChange Rows.storeScansSpec):=
 OpenClaim.holds_of_wide 8 Tryz.f8 rfl rfl rfl rfl rfl rfl rfl ⟨rfl,rfl,rfl,rfl,rfl⟩ rfl rfl rfl rfl rfl (by kernel_rfl) Tryz.func8 (by kernel_rfl)
  (of_decide_eq_true (by kernel_rfl)) (by unfold Func.isWrapper;first | (rw[if_pos (by decide+kernel)];kernel_rfl) | (rw[if_neg (by decide+kernel)];exact⟨rfl,rfl⟩))
  (fun os started H enc _=>lifted os started H enc)
end Go.Proofs.YtmbaiglpgaoogaaGreat.storeScansP
namespace Go.Proofs.YtmbaiglpgaoogaaGreat
theorem storeScans_holds:Rows.StoreScansSaid:=storeScansP.over
#print axioms storeScans_holds
end Go.Proofs.YtmbaiglpgaoogaaGreat
