/- Joined, as they were built one by one: TabOpen TabCopied TabGet TabGet2 TabRange Sto7. -/
import Derived.Test.YtmbaiglpgaoogaaGreatW02
import Derived.Test.YtmbaiglpgaoogaaGreatW13
import Derived.Test.YtmbaiglpgaoogaaGreatW15
import Derived.Test.YtmbaiglpgaoogaaGreatW18
set_option maxHeartbeats 16000000
set_option linter.unusedVariables false
set_option maxRecDepth 100000
namespace Go.Proofs.YtmbaiglpgaoogaaGreat
open Go.RowKit Z
structure KN (w:World) (R T:Nat) (N:Nat) (S:Ip) (i:Nat) (wr:World):Prop where
 ex: ∃ A c es q s,oL (N - i) (es.map En.ak,q,s)=S/\es.length=i/\q.length<=140737488355328/\(∀ e ∈ es,e.key.2.2.length<=600/\e.value.2.2.length<=65536/\e.seq<9223372036854775808)/\
  uJ w R (Pt T 226 #[.slice A es.length c,.pointer none]*(Row 120 4 (.slice A es.length c) es.length (es.flatMap bV)*aT es)) q s wr
theorem sI {L:List aq} {w w':World} {x:Ending} (h:xp L w x w'): ∃ (A:Option Addr) (n c e:Nat),x = .returned (.tuple #[.slice A n c,.int .i64 (e:Int)])/\ao No w w':=by
 rcases h with ⟨_,rfl,k⟩ | ⟨_,A,c,rfl,_,_,hs⟩
 .exact⟨none,0,0,_,rfl,k⟩
 .exact⟨A,_,c,0,rfl,hs.aL⟩
theorem pL {L:List aq} (h:bR L=0):L.length<=65536:=by
 unfold bR at h;split at h
 .cases h
 .split at h
  .cases h
  .rename_i h2;omega
theorem DM {l:List UInt8} {S:ByteArray} (h:S=ByteArray.mk l.toArray):(S.toList==[84,68,84,49])=decide (l=dI):=by
 subst h;have:=Bf l dI;simpa [dI] using this
theorem CK (A:Option Addr) (c:Nat) (b:List UInt8) (w:World) (h:Rd w A b) (hc:b.length<=c) (hm:c<=maxLen) (hbl:b.length<=140737488355328):
 Calls Tryz.prog 106 #[.slice A b.length c] w (IU b w):=by
 obtain⟨i0,hi0,hz0,hz1,hz2⟩:=info_parts jy;have Hi0:=ah hi0;have Hz0:=ah hz0;have Hz1:=ah hz1;have Hz2:=ah hz2;clear hi0 hz0 hz1 hz2;have HB:=ah h;have HC:=ah hc;unfold maxLen at hm;clear h;by_cases h4:b.length<4
 .have hso:qV b=false:=by unfold qV;rw[decide_eq_false (by omega)];rfl
  have hoe:eV b=72:=by unfold eV;rw[if_pos hso]
  have hneg:(b.length:Int) - 4<0:=by omega
  have HO:=ah hoe;clear hso hoe;go_enter Tryz.func106, Tryz.ntmps106;go_upto_region 2 with fail;refine wp_region_held_drew (S:=fun _=>True) (by kernel_rfl) trivial ?_;intro hS0;refine cw 0 1 ?_;refine ca 2 ?_;refine cg 3 ?_;refine cg 4 ?_;refine cg 5 ?_;refine cg 6 ?_;refine cg 7 ?_;refine cg 8 ?_;refine cg 9 ?_;refine cg 10 ?_;refine cg 11 ?_;refine cg 12 ?_;refine cg 13 ?_;refine cg 14 ?_;refine ca 15 ?_;refine wpAnyH_done (by kernel_rfl) ?_ _;go_wp2_with fail;go_ret2;refine .inl ⟨by rw[HO.o];decide,by rw[HO.o];rfl,(ao.refl No w).drew⟩
 .obtain⟨m,hbm⟩: ∃ m,b.length=m+4:=⟨b.length - 4,by omega⟩;have hsub:(b.length:Int) - 4=m:=by omega
  have hsub2:((m+4:Nat):Int) - 4=m:=by omega
  have hnn:¬ (m:Int)<0:=by omega
  have hcm:¬ c=m:=by omega
  have htl:(b.take m).length=m:=by simp;omega
  have hdl:(b.drop m).length=4:=by simp;omega
  obtain⟨sm,hsm⟩: ∃ s,tN (b.take m)=s:=⟨_,rfl⟩;have hsm0:sm<4294967296:=by rw[<-hsm];exact AA _
  have hws:IntKind.u64.wrap (sm:Int)=sm:=by rw[IntKind.wrap_u64];omega
  obtain⟨sk,hsk⟩: ∃ k,decide (ai sm 4=b.drop m)=k:=⟨_,rfl⟩;have hso:qV b=sk:=by unfold qV;rw[decide_eq_true (by omega),Bool.true_and,hbm,Nat.add_sub_cancel,hsm,hsk]
  have HSm:=ah hsm;have HSk:=ah hsk;have HSo:=ah hso;have HTl:=ah htl;have HDl:=ah hdl;have HTk:Hid (Rd w A (b.take m)):=HB.o.take m;have HDr:Hid (Rd w (A.map (·.add m)) (b.drop m)):=by have:=HB.o.drop (k:=m) (cap:=c) (by omega) hc;rwa [if_neg hcm] at this
  have hs1:(m:Int)<=b.length:=by omega
  have hmc:m<=c:=by omega
  have hmb:m<=b.length:=by omega
  have HBM:=ah hbm;clear hsm hsk hso htl hdl hbm hsub2;go_enter Tryz.func106, Tryz.ntmps106;go_upto_region 2 with fail;refine wp_region_held_drew (S:=fun _=>True) (by kernel_rfl) trivial ?_;intro hS0;refine an 0 1 2 3 ?_;refine an 4 5 10 11 ?_;refine ca 12 ?_;refine bC 6 fun K hK=>?_
  go_simp;refine hK.out _ _ trivial (fun hS0=>?_);clear hK K;refine bC 7 fun K hK=>?_
  go_simp;go_at_call 138;refine(osum_any (some ⟨w.heap.size,0,none⟩) 1 [(A,c,b.take m)] _ ⟨by show aF _ _ [.slice A (b.take m).length c];rw[HTl.o];exact aR w.drew #[.slice A m c] 41,fun y hy=>by rw[List.mem_singleton] at hy;subst hy;exact HTk.o.new ((ao.refl No w).drew.alloc _)⟩ (by simp) (by simp;omega)).mono ?_;rintro x w1 ⟨rfl,rfl⟩;rw[show (bK [(A,c,b.take m)]).flatten=b.take m by simp[bK],HSm.o]
  refine hK.out _ _ trivial (fun hS0=>?_);clear hK K;refine ca 8 ?_;refine bC 9 fun K hK=>?_
  go_simp;go_at_call 117;refine(bS sm 4 (by omega) (by omega) (by omega) w _ bF ((Sat.start w).drew.aD _)).mono ?_;rintro x w2 ⟨A2,c2,rfl, -, -,hs2⟩;have HS2:=ah hs2;clear hs2
  refine hK.out _ _ trivial (fun hS0=>?_);clear hK K;refine bC 13 fun K hK=>?_
  go_simp;go_at_call 126;rw[show b.length - m=(b.drop m).length by simp];refine(eH (A2,c2,ai sm 4) (A.map (·.add m),c - m,b.drop m) w2 (aF.bG HS2.o.aO) (HDr.o.new HS2.o.aL)).mono ?_;rintro x w3 ⟨rfl,rfl⟩;rw[HSk.o]
  refine hK.out _ _ trivial (fun hS0=>?_);clear hK K;refine cw 14 15 ?_;refine wpAnyH_done (by kernel_rfl) ?_ _
  cases sk
  case false=>
   have hoe:eV b=72:=by unfold eV;rw[if_pos HSo.o]
   have HO:=ah hoe;clear hoe;go_wp2_with fail;go_ret2;exact .inl ⟨by rw[HO.o];decide,by rw[HO.o];rfl,HS2.o.aL⟩
  case true=>
   have hoe:eV b=if (cm 4 b false).1≠dI then 73 else if (jS b).2.2=true\/bR (jS b).1≠0\/aM (jS b).1≠b then 73 else 0:=by
    unfold eV;rw[if_neg (by rw[HSo.o];simp)]
   have HOe:=ah hoe;clear hoe;obtain⟨T0,hT0⟩: ∃ T,cm 4 b false=T:=⟨_,rfl⟩;have HT0:=ah hT0;have t0l:T0.1.length<=4:=by rw[<-hT0];exact fe _ _ _
   have t0q:T0.2.1.length<=140737488355328:=by have:=cW 4 b false;rw[hT0] at this;omega
   obtain⟨SA,hSA⟩: ∃ s:ByteArray,s=ByteArray.mk T0.1.toArray:=⟨_,rfl⟩;have HSA:=ah hSA;obtain⟨mk,hmk⟩: ∃ k,decide (T0.1=dI)=k:=⟨_,rfl⟩;have hmb:(SA.toList==[84,68,84,49])=mk:=by rw[DM hSA,hmk]
   have HMk:=ah hmk;clear hT0 hSA hmk;have HR0:Hid (uJ w w3.heap.size bF b false (w3.alloc (.cells #[.slice A b.length c,.bool false] 223))):=⟨A,c,HS2.o.right.ab 223 #[.slice A b.length c,.bool false],HB.o,hc,by unfold maxLen;omega⟩
   cases mk
   case false=>
    have hoe:eV b=73:=by
     rw[HOe.o,if_pos];rw[HT0.o];exact of_decide_eq_false HMk.o
    have HO:=ah hoe;clear hoe;go_wp2_with (go_at_call 139;refine(kG 4 (by omega) w3.heap.size bF b false w _ HR0.o hbl).mono ?_;rw[HT0.o];rintro x w4 ⟨B4,d4,rfl,hr4, -, -, -,h4⟩;have s1:=dy hr4 d4;rw[<-HSA.o] at s1;have HR4:=ah h4;clear hr4 h4);go_ret2;obtain⟨A5,c5,hs5, -⟩:=HR4.o;exact .inl ⟨by rw[HO.o];decide,by rw[HO.o];rfl,hs5.aL⟩
   case true=>
    obtain⟨T1,hT1⟩: ∃ T,cm 4 T0.2.1 T0.2.2=T:=⟨_,rfl⟩;obtain⟨N,hN⟩: ∃ N,bu T1.1=N:=⟨_,rfl⟩;obtain⟨S,hS⟩: ∃ S,jS b=S:=⟨_,rfl⟩;have hrun:oL N ([],T1.2)=S:=by rw[<-hS, <-hN, <-hT1, <-HT0.o];rfl
    have hN0:N<4294967296:=by rw[<-hN, <-hT1];exact lz 4 _ _ (by omega)
    have t1q:T1.2.1.length<=140737488355328:=by have:=cW 4 T0.2.1 T0.2.2;rw[hT1] at this;omega
    have HW:=ah (kQ (by omega) hT1);rw[hN] at HW;have HT1:=ah hT1;have HNn:=ah hN;have HSs:=ah hS;have HRun:=ah hrun;have HOf:Hid (eV b=if S.2.2=true\/bR S.1≠0\/aM S.1≠b then 73 else 0):=by
     unfold Hid;rw[HOe.o,if_neg,HSs.o];rw[HT0.o];simpa using HMk.o
    clear hT1 hN hS hrun;go_wp2_with (first
     | (go_at_call 139;refine(kG 4 (by omega) w3.heap.size bF b false w _ HR0.o hbl).mono ?_;rw[HT0.o];rintro x w4 ⟨B4,d4,rfl,hr4, -, -, -,h4⟩;have s1:=dy hr4 d4;rw[<-HSA.o] at s1;have HR4:=ah h4;clear hr4 h4)
     | (go_at_call 140;(with_reducible refine(fj 4 4 rfl (by omega) _ bF T0.2.1 T0.2.2 T1 N w _ HR4.o HT1.o (by rw[HNn.o];exact HW.o) t0q).mono ?_);rintro x w5 ⟨rfl,h5⟩;have HR5:=ah (h5.ye 226 #[.slice none 0 0,.pointer none]);clear h5))
    generalize w5.heap.size=T at*
    generalize w3.heap.size=R at*
    go_loopw [8] (fun iv wr=> ∃ i:Nat,i<=N/\iv = .int .i64 i/\Hid (KN w R T N S i wr)) (fun iv _=>N - (intOf iv).toNat)
    case atStart=>
     obtain⟨A6,c6,hs6,hq6⟩:=HR5.o;refine⟨0,by omega,rfl,⟨none,0,[],T1.2.1,T1.2.2,HRun.o,rfl,t1q,by simp,A6,c6,?_,hq6⟩⟩;exact(hs6.aN 120 4).of (show _=Pt R 223 _*(Pt T 226 _*(Row 120 4 _ _ _*bF)) by ac_rfl)
    case round=>
     obtain⟨i,hi,rfl,HD⟩:=hrel;obtain⟨A6,c6,es,q,s,hrn,hes,hq,hsm6,A7,c7,hs7,hq7⟩:=HD.o.ex;obtain⟨A6',c6',he6,hl6,hm6⟩:=hs7.bp.bm;injection he6 with e1 _ e3
     subst e1 e3;have r1:=hs7.cell 1;have t0:=hs7.ay.cell 0;have HS:=ah hs7;have HQ:=ah hq7;have HRn:=ah hrn;have HEs:=ah hes;have HSm6:=ah hsm6;have HRow:=ah hs7.bp.cj;have HEn:Hid (jG wr es):=fO (hs7.of (show _=aT es*(Pt R 223 _*(Pt T 226 _*Row 120 4 _ _ _)) by ac_rfl));have HCap:Hid (∀ e ∈ es,e.key.2.2.length<=e.key.2.1/\e.key.2.1<=maxLen):=xo (hs7.of (show _=aT es*(Pt R 223 _*(Pt T 226 _*Row 120 4 _ _ _)) by ac_rfl));have hle:es.length<=N:=by omega
     have HM6:=ah hm6;clear hs7 hq7 hrn hes hsm6 hm6;by_cases hgo:i<N/\s=false
     .obtain⟨hlt,rfl⟩:=hgo;have hrun2:oL (N - (i+1)) (pY (es.map En.ak,q,false))=S:=by
       have h1:=HRn.o;rw[show N - i=(N - (i+1))+1 by omega,rZ _ rfl] at h1;exact h1
      have HRun2:=ah hrun2;clear hrun2;have hiz:(i:Int)<N:=by omega
      by_cases h8:i % 8=0
      .have hm2:(i:Int).tmod 8=0:=by rw[Int.tmod_eq_emod_of_nonneg (by omega)];omega
       have HAh:Hid (lY (es.map En.ak)=[]):=by unfold Hid lY;rw[List.length_map,HEs.o,if_pos h8]
       clear h8;go_upto_region 15 with fail;refine wp_region_held_drew (S:=fun _=>True) (by kernel_rfl) trivial ?_;intro hS0;have HSd:=ah HS.o.drew;revert HSd;generalize wr.drew=wd;intro HSd;clear HS;have HS:Hid (Sat w (Pt R 223 #[.slice A7 q.length c7,.bool false]*(Pt T 226 #[.slice A6 es.length c6,.pointer none]*(Row 120 4 (.slice A6 es.length c6) es.length (es.flatMap bV)*aT es))) wd):=HSd;clear HSd;refine an 0 1 2 3 ?_;refine cw 5 6 ?_;refine bM (i:=4) (j:=7) rfl rfl (by kernel_rfl) (fun K hK=>?_) (fun K hK=>?_);have c0:=HS.o.ay.cell 0;go_simp;clear c0;refine hK.out _ _ trivial (fun hS0=>?_);clear hK K
       try simp only[Act.put,et,eh,ep]
       refine bC 7 fun K hK=>?_
       go_simp;have hrd:uJ w R (Pt T 226 #[.slice A6 es.length c6,.pointer none]*(Row 120 4 (.slice A6 es.length c6) es.length (es.flatMap bV)*aT es)) q false wd:=⟨A7,c7,HS.o,HQ.o⟩;go_at_call 141
       (refine(jM none 0 [] R _ q false w _ hrd hq (fun _ W _=>Rd.nil W none) (by simp) (by unfold maxLen;omega) (by simp)).mono ?_)
       rintro x v7 ⟨g,rfl,hge,A8,c8,hs,hq8⟩;simp only[iN];have HGe:=ah hge;have HQ8:=ah hq8;replace HS:Hid (Sat w (Pt R 223 #[.slice A8 (dm [] q false).2.1.length c8,.bool (dm [] q false).2.2]*(Pt T 226 #[.slice A6 es.length c6,.pointer none]*(Row 120 4 (.slice A6 es.length c6) es.length (es.flatMap bV)*(aT es*(Row 5 1 (aJ g.key) g.key.2.2.length (g.key.2.2.map bv)*Row 5 1 (aJ g.value) g.value.2.2.length (g.value.2.2.map bv)))))) v7):=hs.of (by ac_rfl);clear hs hrd hge hq8;refine hK.out _ _ trivial (fun hS0=>?_);clear hK K;refine bC 8 fun K hK=>?_
       go_simp;have hs:=HS.o.ab 120 #[.slice g.key.1 g.key.2.2.length g.key.2.1,.slice g.value.1 g.value.2.2.length g.value.2.1,.int .i64 g.seq,.bool g.dead];have hl:=aR v7 #[.slice g.key.1 g.key.2.2.length g.key.2.1,.slice g.value.1 g.value.2.2.length g.value.2.1,.int .i64 g.seq,.bool g.dead] 120;revert hs hl;generalize World.alloc v7 _=v8;generalize v7.heap.size=g8;intro hs hl;have HLt:=ah hl;replace HS:Hid (Sat w (Pt R 223 #[.slice A8 (dm [] q false).2.1.length c8,.bool (dm [] q false).2.2]*(Pt T 226 #[.slice A6 es.length c6,.pointer none]*(Row 120 4 (.slice A6 es.length c6) es.length (es.flatMap bV)*(aT es*(Row 5 1 (aJ g.key) g.key.2.2.length (g.key.2.2.map bv)*(Row 5 1 (aJ g.value) g.value.2.2.length (g.value.2.2.map bv)*Pt g8 120 #[.slice g.key.1 g.key.2.2.length g.key.2.1,.slice g.value.1 g.value.2.2.length g.value.2.1,.int .i64 g.seq,.bool g.dead])))))) v8):=hs.of (by ac_rfl);clear hs hl;refine hK.out _ _ trivial (fun hS0=>?_);clear hK K
       rotate_left
       go_simp;have hrd:uJ w R (Pt T 226 #[.slice A6 es.length c6,.pointer none]*(Row 120 4 (.slice A6 es.length c6) es.length (es.flatMap bV)*aT es)) q false wd:=⟨A7,c7,HS.o,HQ.o⟩;go_at_call 141
       (refine(jM none 0 [] R _ q false w _ hrd hq (fun _ W _=>Rd.nil W none) (by simp) (by unfold maxLen;omega) (by simp)).mono ?_)
       rintro x v7 ⟨g,rfl,hge,A8,c8,hs,hq8⟩;simp only[iN];have HGe:=ah hge;have HQ8:=ah hq8;replace HS:Hid (Sat w (Pt R 223 #[.slice A8 (dm [] q false).2.1.length c8,.bool (dm [] q false).2.2]*(Pt T 226 #[.slice A6 es.length c6,.pointer none]*(Row 120 4 (.slice A6 es.length c6) es.length (es.flatMap bV)*(aT es*(Row 5 1 (aJ g.key) g.key.2.2.length (g.key.2.2.map bv)*Row 5 1 (aJ g.value) g.value.2.2.length (g.value.2.2.map bv)))))) v7):=hs.of (by ac_rfl);clear hs hrd hge hq8;refine hK.out _ _ trivial (fun hS0=>?_);clear hK K;refine bM (i:=4) (j:=8) rfl rfl (by kernel_rfl) (fun K hK=>?_) (fun K hK=>?_);have c0:=HS.o.ay.cell 0;go_simp;clear c0;refine hK.out _ _ trivial (fun hS0=>?_);clear hK K
       try simp only[Act.put,et,eh,ep]
       refine bC 8 fun K hK=>?_
       go_simp;have hs:=HS.o.ab 120 #[.slice g.key.1 g.key.2.2.length g.key.2.1,.slice g.value.1 g.value.2.2.length g.value.2.1,.int .i64 g.seq,.bool g.dead];have hl:=aR v7 #[.slice g.key.1 g.key.2.2.length g.key.2.1,.slice g.value.1 g.value.2.2.length g.value.2.1,.int .i64 g.seq,.bool g.dead] 120;revert hs hl;generalize World.alloc v7 _=v8;generalize v7.heap.size=g8;intro hs hl;have HLt:=ah hl;replace HS:Hid (Sat w (Pt R 223 #[.slice A8 (dm [] q false).2.1.length c8,.bool (dm [] q false).2.2]*(Pt T 226 #[.slice A6 es.length c6,.pointer none]*(Row 120 4 (.slice A6 es.length c6) es.length (es.flatMap bV)*(aT es*(Row 5 1 (aJ g.key) g.key.2.2.length (g.key.2.2.map bv)*(Row 5 1 (aJ g.value) g.value.2.2.length (g.value.2.2.map bv)*Pt g8 120 #[.slice g.key.1 g.key.2.2.length g.key.2.1,.slice g.value.1 g.value.2.2.length g.value.2.1,.int .i64 g.seq,.bool g.dead])))))) v8):=hs.of (by ac_rfl);clear hs hl;refine hK.out _ _ trivial (fun hS0=>?_);clear hK K
       rotate_left
       go_simp;have hs:=HS.o.ab 120 #[.slice g.key.1 g.key.2.2.length g.key.2.1,.slice g.value.1 g.value.2.2.length g.value.2.1,.int .i64 g.seq,.bool g.dead];have hl:=aR v7 #[.slice g.key.1 g.key.2.2.length g.key.2.1,.slice g.value.1 g.value.2.2.length g.value.2.1,.int .i64 g.seq,.bool g.dead] 120;revert hs hl;generalize World.alloc v7 _=v8;generalize v7.heap.size=g8;intro hs hl;have HLt:=ah hl;replace HS:Hid (Sat w (Pt R 223 #[.slice A8 (dm [] q false).2.1.length c8,.bool (dm [] q false).2.2]*(Pt T 226 #[.slice A6 es.length c6,.pointer none]*(Row 120 4 (.slice A6 es.length c6) es.length (es.flatMap bV)*(aT es*(Row 5 1 (aJ g.key) g.key.2.2.length (g.key.2.2.map bv)*(Row 5 1 (aJ g.value) g.value.2.2.length (g.value.2.2.map bv)*Pt g8 120 #[.slice g.key.1 g.key.2.2.length g.key.2.1,.slice g.value.1 g.value.2.2.length g.value.2.1,.int .i64 g.seq,.bool g.dead])))))) v8):=hs.of (by ac_rfl);clear hs hl;refine hK.out _ _ trivial (fun hS0=>?_);clear hK K;refine bC 4 fun K hK=>?_
       have c0:=HS.o.ay.cell 0;go_simp;clear c0;refine hK.out _ _ trivial (fun hS0=>?_);clear hK K
       try simp only[Act.put,et,eh,ep]
       rotate_left
       all_goals
        refine bC 9 fun K hK=>?_
        refine aQ rfl (.tmp 70) (.tmp 74) 116 rfl 120 i0 _ 4 64 Tryz.underlying116 Hi0.o Hz0.o Hz1.o Hz2.o rfl (by decide) (.slice A6 es.length c6) es.length (es.flatMap bV) rfl w _ (by exact HS.o.bp) (some ⟨g8,0,none⟩) 1 1 (bV g) rfl (by exact HLt.o) rfl (by have:=pd [g];simpa using this) (by unfold maxLen;omega) (by omega) ?_;intro A9 c9 v9 hs;replace HS:Hid (Sat w (Pt R 223 #[.slice A8 (dm [] q false).2.1.length c8,.bool (dm [] q false).2.2]*(Pt T 226 #[.slice A6 es.length c6,.pointer none]*(Row 120 4 (.slice A9 (es.length+1) c9) (es.length+1) (es.flatMap bV++bV g)*(aT es*(Row 5 1 (aJ g.key) g.key.2.2.length (g.key.2.2.map bv)*(Row 5 1 (aJ g.value) g.value.2.2.length (g.value.2.2.map bv)*Pt g8 120 #[.slice g.key.1 g.key.2.2.length g.key.2.1,.slice g.value.1 g.value.2.2.length g.value.2.1,.int .i64 g.seq,.bool g.dead])))))) v9):=hs.of (by ac_rfl);clear hs;refine hK.out _ _ trivial (fun hS0=>?_);clear hK K
        try simp only[Act.put,et,eh,ep]
        refine cw 10 11 ?_;refine bC 12 fun K hK=>?_
        have hs:=HS.o.ay.set 0 (.slice A9 (es.length+1) c9);have f0:=HS.o.ay.frozen 0;have c0:=HS.o.ay.cell 0;go_simp;clear f0 c0;revert hs;generalize World.setCell v9 _ _=v12;intro hs;replace HS:Hid (Sat w (Pt R 223 #[.slice A8 (dm [] q false).2.1.length c8,.bool (dm [] q false).2.2]*(Pt T 226 #[.slice A9 (es.length+1) c9,.pointer none]*(Row 120 4 (.slice A9 (es.length+1) c9) (es.length+1) (es.flatMap bV++bV g)*(aT es*(Row 5 1 (aJ g.key) g.key.2.2.length (g.key.2.2.map bv)*(Row 5 1 (aJ g.value) g.value.2.2.length (g.value.2.2.map bv)*Pt g8 120 #[.slice g.key.1 g.key.2.2.length g.key.2.1,.slice g.value.1 g.value.2.2.length g.value.2.1,.int .i64 g.seq,.bool g.dead])))))) v12):=hs.of (by ac_rfl);clear hs;refine hK.out _ _ trivial (fun hS0=>?_);clear hK K
        try simp only[Act.put,et,eh,ep]
        refine wpAnyH_done (by kernel_rfl) ?_ _;go_wp2_with fail;go_roundw
        .have hsm:=pk [] q false;rw[<-HGe.o] at hsm;refine⟨i+1,by omega,by push_cast;rfl,⟨A9,c9,es++[g],(dm [] q false).2.1,(dm [] q false).2.2,?_,by rw[List.length_append,HEs.o];rfl,Nat.le_trans (xr _ _ _) hq,?_,A8,c8,?_,HQ8.o⟩⟩
         .have h9:=HRun2.o;unfold pY at h9;simp only[HAh.o] at h9;rw[List.map_append,List.map_singleton,HGe.o];exact h9
         .intro e he;rcases List.mem_append.1 he with he | he
          .exact HSm6.o e he
          .rw[List.mem_singleton.1 he];exact hsm
         .rw[fu,List.flatMap_append,List.length_append];have h9:=HS.o.of (show _=Pt g8 120 _*(Pt R 223 _*(Pt T 226 _*(Row 120 4 _ _ _*(Row 5 1 (aJ g.key) _ _*(Row 5 1 (aJ g.value) _ _*aT es))))) by ac_rfl);have h10:=h9.right;simpa using h10
        .simp[intOf];omega
      .obtain⟨p,hp⟩: ∃ p,i=p+1:=⟨i - 1,by cases i with | zero=>simp at h8 | succ n=>omega⟩;have hpl:p<es.length:=by have:=HEs.o;omega
       obtain⟨mm,hm1,hm2⟩: ∃ mm:Nat,(i:Int).tmod 8=(mm:Int)/\0<mm:=⟨i % 8,by rw[Int.tmod_eq_emod_of_nonneg (by omega)];omega,by omega⟩;have hmi:(0:Int)<(mm:Int):=by omega
       have hii:(i:Int) - 1=(p:Int):=by omega
       have hwp:IntKind.i64.wrap (p:Int)=(p:Int):=by rw[IntKind.wrap_i64];omega
       have hpi:(p:Int)<es.length:=by omega
       obtain⟨lb,lo,rfl,hq4⟩:=dU HRow.o (by omega);obtain⟨y0,_,_,_⟩:=hq4 p hpl;unfold aJ at y0;have HAh:Hid (lY (es.map En.ak)=es[p].key.2.2):=by
        unfold Hid lY;rw[List.length_map,HEs.o,if_neg h8,hp,Nat.add_sub_cancel,List.getElem?_map,List.getElem?_eq_getElem hpl];rfl
       have HHal:Hid (∀ (X:SP) (W:World),Sat w (X*(Pt T 226 #[.slice (some ⟨lb,lo,none⟩) es.length c6,.pointer none]*(Row 120 4 (.slice (some ⟨lb,lo,none⟩) es.length c6) es.length (es.flatMap bV)*aT es))) W->Rd W es[p].key.1 es[p].key.2.2):=fun X W hW=>
        ((fO (hW.of (show _=aT es*(X*(Pt T 226 _*Row 120 4 _ _ _)) by ac_rfl))) _ (List.getElem_mem hpl)).1
       have HCp:=ah (HCap.o _ (List.getElem_mem hpl));have HSp:=ah (HSm6.o _ (List.getElem_mem hpl)).1;have HPp:=ah hp;clear h8 hp hm2 hq4;go_upto_region 15 with fail;refine wp_region_held_drew (S:=fun _=>True) (by kernel_rfl) trivial ?_;intro hS0;have HSd:=ah HS.o.drew;revert HSd;generalize wr.drew=wd;intro HSd;clear HS;have HS:Hid (Sat w (Pt R 223 #[.slice A7 q.length c7,.bool false]*(Pt T 226 #[.slice (some ⟨lb,lo,none⟩) es.length c6,.pointer none]*(Row 120 4 (.slice (some ⟨lb,lo,none⟩) es.length c6) es.length (es.flatMap bV)*aT es))) wd):=HSd;clear HSd;refine an 0 1 2 3 ?_;refine cw 5 6 ?_;refine bM (i:=4) (j:=7) rfl rfl (by kernel_rfl) (fun K hK=>?_) (fun K hK=>?_);have c0:=HS.o.ay.cell 0;go_simp;clear c0;refine hK.out _ _ trivial (fun hS0=>?_);clear hK K
       try simp only[Act.put,et,eh,ep]
       refine bC 7 fun K hK=>?_
       go_simp;have hrd:uJ w R (Pt T 226 #[.slice (some ⟨lb,lo,none⟩) es.length c6,.pointer none]*(Row 120 4 (.slice (some ⟨lb,lo,none⟩) es.length c6) es.length (es.flatMap bV)*aT es)) q false wd:=⟨A7,c7,HS.o,HQ.o⟩;go_at_call 141
       (refine(jM es[p].key.1 es[p].key.2.1 es[p].key.2.2 R _ q false w _ hrd hq HHal.o HCp.o.1 HCp.o.2 (by have:=HSp.o;omega)).mono ?_)
       rintro x v7 ⟨g,rfl,hge,A8,c8,hs,hq8⟩;simp only[iN];have HGe:=ah hge;have HQ8:=ah hq8;replace HS:Hid (Sat w (Pt R 223 #[.slice A8 (dm es[p].key.2.2 q false).2.1.length c8,.bool (dm es[p].key.2.2 q false).2.2]*(Pt T 226 #[.slice (some ⟨lb,lo,none⟩) es.length c6,.pointer none]*(Row 120 4 (.slice (some ⟨lb,lo,none⟩) es.length c6) es.length (es.flatMap bV)*(aT es*(Row 5 1 (aJ g.key) g.key.2.2.length (g.key.2.2.map bv)*Row 5 1 (aJ g.value) g.value.2.2.length (g.value.2.2.map bv)))))) v7):=hs.of (by ac_rfl);clear hs hrd hge hq8;refine hK.out _ _ trivial (fun hS0=>?_);clear hK K;refine bC 8 fun K hK=>?_
       go_simp;have hs:=HS.o.ab 120 #[.slice g.key.1 g.key.2.2.length g.key.2.1,.slice g.value.1 g.value.2.2.length g.value.2.1,.int .i64 g.seq,.bool g.dead];have hl:=aR v7 #[.slice g.key.1 g.key.2.2.length g.key.2.1,.slice g.value.1 g.value.2.2.length g.value.2.1,.int .i64 g.seq,.bool g.dead] 120;revert hs hl;generalize World.alloc v7 _=v8;generalize v7.heap.size=g8;intro hs hl;have HLt:=ah hl;replace HS:Hid (Sat w (Pt R 223 #[.slice A8 (dm es[p].key.2.2 q false).2.1.length c8,.bool (dm es[p].key.2.2 q false).2.2]*(Pt T 226 #[.slice (some ⟨lb,lo,none⟩) es.length c6,.pointer none]*(Row 120 4 (.slice (some ⟨lb,lo,none⟩) es.length c6) es.length (es.flatMap bV)*(aT es*(Row 5 1 (aJ g.key) g.key.2.2.length (g.key.2.2.map bv)*(Row 5 1 (aJ g.value) g.value.2.2.length (g.value.2.2.map bv)*Pt g8 120 #[.slice g.key.1 g.key.2.2.length g.key.2.1,.slice g.value.1 g.value.2.2.length g.value.2.1,.int .i64 g.seq,.bool g.dead])))))) v8):=hs.of (by ac_rfl);clear hs hl;refine hK.out _ _ trivial (fun hS0=>?_);clear hK K
       rotate_left
       go_simp;have hrd:uJ w R (Pt T 226 #[.slice (some ⟨lb,lo,none⟩) es.length c6,.pointer none]*(Row 120 4 (.slice (some ⟨lb,lo,none⟩) es.length c6) es.length (es.flatMap bV)*aT es)) q false wd:=⟨A7,c7,HS.o,HQ.o⟩;go_at_call 141
       (refine(jM es[p].key.1 es[p].key.2.1 es[p].key.2.2 R _ q false w _ hrd hq HHal.o HCp.o.1 HCp.o.2 (by have:=HSp.o;omega)).mono ?_)
       rintro x v7 ⟨g,rfl,hge,A8,c8,hs,hq8⟩;simp only[iN];have HGe:=ah hge;have HQ8:=ah hq8;replace HS:Hid (Sat w (Pt R 223 #[.slice A8 (dm es[p].key.2.2 q false).2.1.length c8,.bool (dm es[p].key.2.2 q false).2.2]*(Pt T 226 #[.slice (some ⟨lb,lo,none⟩) es.length c6,.pointer none]*(Row 120 4 (.slice (some ⟨lb,lo,none⟩) es.length c6) es.length (es.flatMap bV)*(aT es*(Row 5 1 (aJ g.key) g.key.2.2.length (g.key.2.2.map bv)*Row 5 1 (aJ g.value) g.value.2.2.length (g.value.2.2.map bv)))))) v7):=hs.of (by ac_rfl);clear hs hrd hge hq8;refine hK.out _ _ trivial (fun hS0=>?_);clear hK K;refine bM (i:=4) (j:=8) rfl rfl (by kernel_rfl) (fun K hK=>?_) (fun K hK=>?_);have c0:=HS.o.ay.cell 0;go_simp;clear c0;refine hK.out _ _ trivial (fun hS0=>?_);clear hK K
       try simp only[Act.put,et,eh,ep]
       refine bC 8 fun K hK=>?_
       go_simp;have hs:=HS.o.ab 120 #[.slice g.key.1 g.key.2.2.length g.key.2.1,.slice g.value.1 g.value.2.2.length g.value.2.1,.int .i64 g.seq,.bool g.dead];have hl:=aR v7 #[.slice g.key.1 g.key.2.2.length g.key.2.1,.slice g.value.1 g.value.2.2.length g.value.2.1,.int .i64 g.seq,.bool g.dead] 120;revert hs hl;generalize World.alloc v7 _=v8;generalize v7.heap.size=g8;intro hs hl;have HLt:=ah hl;replace HS:Hid (Sat w (Pt R 223 #[.slice A8 (dm es[p].key.2.2 q false).2.1.length c8,.bool (dm es[p].key.2.2 q false).2.2]*(Pt T 226 #[.slice (some ⟨lb,lo,none⟩) es.length c6,.pointer none]*(Row 120 4 (.slice (some ⟨lb,lo,none⟩) es.length c6) es.length (es.flatMap bV)*(aT es*(Row 5 1 (aJ g.key) g.key.2.2.length (g.key.2.2.map bv)*(Row 5 1 (aJ g.value) g.value.2.2.length (g.value.2.2.map bv)*Pt g8 120 #[.slice g.key.1 g.key.2.2.length g.key.2.1,.slice g.value.1 g.value.2.2.length g.value.2.1,.int .i64 g.seq,.bool g.dead])))))) v8):=hs.of (by ac_rfl);clear hs hl;refine hK.out _ _ trivial (fun hS0=>?_);clear hK K
       rotate_left
       go_simp;have hs:=HS.o.ab 120 #[.slice g.key.1 g.key.2.2.length g.key.2.1,.slice g.value.1 g.value.2.2.length g.value.2.1,.int .i64 g.seq,.bool g.dead];have hl:=aR v7 #[.slice g.key.1 g.key.2.2.length g.key.2.1,.slice g.value.1 g.value.2.2.length g.value.2.1,.int .i64 g.seq,.bool g.dead] 120;revert hs hl;generalize World.alloc v7 _=v8;generalize v7.heap.size=g8;intro hs hl;have HLt:=ah hl;replace HS:Hid (Sat w (Pt R 223 #[.slice A8 (dm es[p].key.2.2 q false).2.1.length c8,.bool (dm es[p].key.2.2 q false).2.2]*(Pt T 226 #[.slice (some ⟨lb,lo,none⟩) es.length c6,.pointer none]*(Row 120 4 (.slice (some ⟨lb,lo,none⟩) es.length c6) es.length (es.flatMap bV)*(aT es*(Row 5 1 (aJ g.key) g.key.2.2.length (g.key.2.2.map bv)*(Row 5 1 (aJ g.value) g.value.2.2.length (g.value.2.2.map bv)*Pt g8 120 #[.slice g.key.1 g.key.2.2.length g.key.2.1,.slice g.value.1 g.value.2.2.length g.value.2.1,.int .i64 g.seq,.bool g.dead])))))) v8):=hs.of (by ac_rfl);clear hs hl;refine hK.out _ _ trivial (fun hS0=>?_);clear hK K;refine bC 4 fun K hK=>?_
       have c0:=HS.o.ay.cell 0;go_simp;clear c0;refine hK.out _ _ trivial (fun hS0=>?_);clear hK K
       try simp only[Act.put,et,eh,ep]
       rotate_left
       all_goals
        refine bC 9 fun K hK=>?_
        refine aQ rfl (.tmp 70) (.tmp 74) 116 rfl 120 i0 _ 4 64 Tryz.underlying116 Hi0.o Hz0.o Hz1.o Hz2.o rfl (by decide) (.slice (some ⟨lb,lo,none⟩) es.length c6) es.length (es.flatMap bV) rfl w _ (by exact HS.o.bp) (some ⟨g8,0,none⟩) 1 1 (bV g) rfl (by exact HLt.o) rfl (by have:=pd [g];simpa using this) (by unfold maxLen;omega) (by omega) ?_;intro A9 c9 v9 hs;replace HS:Hid (Sat w (Pt R 223 #[.slice A8 (dm es[p].key.2.2 q false).2.1.length c8,.bool (dm es[p].key.2.2 q false).2.2]*(Pt T 226 #[.slice (some ⟨lb,lo,none⟩) es.length c6,.pointer none]*(Row 120 4 (.slice A9 (es.length+1) c9) (es.length+1) (es.flatMap bV++bV g)*(aT es*(Row 5 1 (aJ g.key) g.key.2.2.length (g.key.2.2.map bv)*(Row 5 1 (aJ g.value) g.value.2.2.length (g.value.2.2.map bv)*Pt g8 120 #[.slice g.key.1 g.key.2.2.length g.key.2.1,.slice g.value.1 g.value.2.2.length g.value.2.1,.int .i64 g.seq,.bool g.dead])))))) v9):=hs.of (by ac_rfl);clear hs;refine hK.out _ _ trivial (fun hS0=>?_);clear hK K
        try simp only[Act.put,et,eh,ep]
        refine cw 10 11 ?_;refine bC 12 fun K hK=>?_
        have hs:=HS.o.ay.set 0 (.slice A9 (es.length+1) c9);have f0:=HS.o.ay.frozen 0;have c0:=HS.o.ay.cell 0;go_simp;clear f0 c0;revert hs;generalize World.setCell v9 _ _=v12;intro hs;replace HS:Hid (Sat w (Pt R 223 #[.slice A8 (dm es[p].key.2.2 q false).2.1.length c8,.bool (dm es[p].key.2.2 q false).2.2]*(Pt T 226 #[.slice A9 (es.length+1) c9,.pointer none]*(Row 120 4 (.slice A9 (es.length+1) c9) (es.length+1) (es.flatMap bV++bV g)*(aT es*(Row 5 1 (aJ g.key) g.key.2.2.length (g.key.2.2.map bv)*(Row 5 1 (aJ g.value) g.value.2.2.length (g.value.2.2.map bv)*Pt g8 120 #[.slice g.key.1 g.key.2.2.length g.key.2.1,.slice g.value.1 g.value.2.2.length g.value.2.1,.int .i64 g.seq,.bool g.dead])))))) v12):=hs.of (by ac_rfl);clear hs;refine hK.out _ _ trivial (fun hS0=>?_);clear hK K
        try simp only[Act.put,et,eh,ep]
        refine wpAnyH_done (by kernel_rfl) ?_ _;go_wp2_with fail;go_roundw
        .have hsm:=pk es[p].key.2.2 q false;rw[<-HGe.o] at hsm;refine⟨i+1,by omega,by push_cast;rfl,⟨A9,c9,es++[g],(dm es[p].key.2.2 q false).2.1,(dm es[p].key.2.2 q false).2.2,?_,by rw[List.length_append,HEs.o];rfl,Nat.le_trans (xr _ _ _) hq,?_,A8,c8,?_,HQ8.o⟩⟩
         .have h9:=HRun2.o;unfold pY at h9;simp only[HAh.o] at h9;rw[List.map_append,List.map_singleton,HGe.o];exact h9
         .intro e he;rcases List.mem_append.1 he with he | he
          .exact HSm6.o e he
          .rw[List.mem_singleton.1 he];exact hsm
         .rw[fu,List.flatMap_append,List.length_append];have h9:=HS.o.of (show _=Pt g8 120 _*(Pt R 223 _*(Pt T 226 _*(Row 120 4 _ _ _*(Row 5 1 (aJ g.key) _ _*(Row 5 1 (aJ g.value) _ _*aT es))))) by ac_rfl);have h10:=h9.right;simpa using h10
        .simp[intOf];omega
     .have HFin:Hid (S=(es.map En.ak,q,s)):=by
       have h1:=HRn.o;by_cases hlt:i<N
       .have hst:s=true:=by
         cases s with
         | true=>rfl
         | false=>exact absurd ⟨hlt,rfl⟩ hgo
        rw[xW _ (by exact hst)] at h1;exact h1.symm
       .rw[show N - i=0 by omega] at h1;exact h1.symm
      clear HRn;have hwi:i<N/\s=true\/i=N:=by
       by_cases hlt:i<N
       .cases s with
        | true=>exact .inl ⟨hlt,rfl⟩
        | false=>exact absurd ⟨hlt,rfl⟩ hgo
       .exact .inr (by omega)
      obtain⟨D,hD⟩: ∃ D,bR (es.map En.ak)=D:=⟨_,rfl⟩;have HDe:=ah hD;have HBu:Hid (Calls Tryz.prog 142 #[.slice A6 es.length c6] wr (xp (es.map En.ak) wr)):=sw A6 c6 es wr HRow.o HEn.o hl6 HM6.o (fun e he=>⟨by have:=(HSm6.o e he).1;omega,by have:=(HSm6.o e he).2.1;omega,(HCap.o e he).1,(HCap.o e he).2⟩) (fun e he=>(HSm6.o e he).2.2);clear hD hgo;rcases hwi with ⟨hlt,rfl⟩ | hEq
      ·
       have HO:Hid (eV b=73):=by unfold Hid;rw[HOf.o,if_pos];rw[HFin.o];exact .inl rfl
       go_wp2_with fail;refine HBu.o.mono ?_;intro x w8 hb8;obtain⟨A8,n8,c8,e8,rfl,k8⟩:=sI hb8;have hs8:=HS.o.new k8;have q1:=hs8.cell 1;have HC8:=ah hs8.aL;clear hb8 hs8 k8;go_wp2_with fail;go_ret2;exact .inl ⟨by rw[HO.o];decide,by rw[HO.o];rfl,HC8.o⟩
      .cases s
       case true=>
        have HO:Hid (eV b=73):=by unfold Hid;rw[HOf.o,if_pos];rw[HFin.o];exact .inl rfl
        go_wp2_with fail;refine HBu.o.mono ?_;intro x w8 hb8;obtain⟨A8,n8,c8,e8,rfl,k8⟩:=sI hb8;have hs8:=HS.o.new k8;have q1:=hs8.cell 1;have HC8:=ah hs8.aL;clear hb8 hs8 k8;go_wp2_with fail;go_ret2;exact .inl ⟨by rw[HO.o];decide,by rw[HO.o];rfl,HC8.o⟩
       case false=>
        by_cases hne:D=0
        .subst hne;have h65:es.length<=65536:=by have:=pL HDe.o;simpa using this
         obtain⟨kk,hkk⟩: ∃ k,decide (aM (es.map En.ak)=b)=k:=⟨_,rfl⟩;have HKk:=ah hkk;clear hkk
         cases kk
         case false=>
          go_wp2_with fail;refine HBu.o.mono ?_;rintro x w8 (⟨h0,_⟩ | ⟨_,A8,c8,rfl,hl8,hm8,hs8⟩)
          .exact absurd HDe.o h0
          have hs9:=HS.o.new hs8.aL;have q1:=hs9.cell 1;have q2:=hs9.ay.cell 0;have q3:=hs9.ay.cell 1;have q4:=hs9.ay.frozen 1;have HR8:Hid (Rd w8 A8 (aM (es.map En.ak))):=aF.bG hs8.aO;have HK8:=ah hs8.aL;have HS9:=ah hs9;clear hs8 hs9;have HO:Hid (eV b=73):=by unfold Hid;rw[HOf.o,if_pos];rw[HFin.o];exact .inr (.inr (of_decide_eq_false HKk.o))
          go_wp2_with (go_at_call 126;refine(eH (A8,c8,aM (es.map En.ak)) (A,c,b) w8 HR8.o (HB.o.new HS9.o.aL)).mono ?_;rintro x w9 ⟨rfl,rfl⟩;rw[HKk.o]);go_ret2;exact .inl ⟨by rw[HO.o];decide,by rw[HO.o];rfl,HS9.o.aL⟩
         case true=>
          go_wp2_with fail;refine HBu.o.mono ?_;rintro x w8 (⟨h0,_⟩ | ⟨_,A8,c8,rfl,hl8,hm8,hs8⟩)
          .exact absurd HDe.o h0
          have hs9:=HS.o.new hs8.aL;have q1:=hs9.cell 1;have q2:=hs9.ay.cell 0;have q3:=hs9.ay.cell 1;have q4:=hs9.ay.frozen 1;have HR8:Hid (Rd w8 A8 (aM (es.map En.ak))):=aF.bG hs8.aO;have HK8:=ah hs8.aL;have HS9:=ah hs9;clear hs8 hs9;have HO:Hid (eV b=0):=by unfold Hid;rw[HOf.o,if_neg];rw[HFin.o];rintro (h1 | h1 | h1);cases h1;exact h1 HDe.o;exact h1 (of_decide_eq_true HKk.o)
          go_wp2_with (first
           | (go_at_call 126;refine(eH (A8,c8,aM (es.map En.ak)) (A,c,b) w8 HR8.o (HB.o.new HS9.o.aL)).mono ?_;rintro x w9 ⟨rfl,rfl⟩;rw[HKk.o])
           | (go_at_call 143;refine(mQ A6 c6 es _ (HRow.o.new HK8.o) (fun e he=>⟨(HEn.o e he).1.new HK8.o,(HEn.o e he).2.new HK8.o⟩) hl6 HM6.o h65 (fun e he=>by have:=(HSm6.o e he).1;omega)).mono ?_;rintro x w10 ⟨g,hh,n,rfl,hF,hg,hh1,k10,hn1,hn2⟩;have hs10:=HS9.o.new k10;have z3:=hs10.ay.cell 1;have z4:=hs10.ay.frozen 1;have HF:=ah hF;have HG:=ah (And.intro hg hh1);have HNn:=ah (And.intro hn1 hn2);have HS10:=ah hs10;clear hF hg hh1 k10 hn1 hn2 hs10))
          go_ret2;have h11:=HS10.o.ay.set 1 (.pointer (some ⟨g,0,none⟩));have hT1:=HS9.o.ay.lt;have hG:=HG.o;refine .inr ⟨HO.o,T,es,rfl,by rw[HSs.o,HFin.o],?_,HS10.o.ay.base,h11.aL⟩;refine⟨⟨A6,c6,g,hh,n,h11.cell 0,h11.cell 1,h11.bp.cj,hl6,HM6.o,HF.o.aL (ao.setCell (p:=⟨T,1,none⟩) (ao.refl (One T) _) (fun _=>(show One T T from rfl)) _) (fun e=>?_) (fun e=>?_),HNn.o.1,HNn.o.2⟩,?_,HCap.o,HDe.o⟩
          .have e:g=T:=e;omega
          .have e:hh=T:=e;omega
          .exact fO (h11.of (show _=aT es*(Pt R 223 _*(Pt T 226 _*Row 120 4 _ _ _)) by ac_rfl))
        .have HO:Hid (eV b=73):=by unfold Hid;rw[HOf.o,if_pos];rw[HFin.o];exact .inr (.inl (by rw[HDe.o];exact hne))
         have hne2:¬ (D:Int)=0:=by omega
         go_wp2_with fail;refine HBu.o.mono ?_;rintro x w8 (⟨_,rfl,k8⟩ | ⟨h0,_⟩)
         .rw[HDe.o];have hs8:=HS.o.new k8;have q1:=hs8.cell 1;have HC8:=ah hs8.aL;clear hs8 k8;go_wp2_with fail;go_ret2;exact .inl ⟨by rw[HO.o];decide,by rw[HO.o];rfl,HC8.o⟩
         .exact absurd (HDe.o ▸ h0) hne
theorem Fv (e:En) (w:World) (hr:oD w e) (hk:e.key.2.2.length<=140737488355328) (hv:e.value.2.2.length<=140737488355328):
 Calls Tryz.prog 146 #[iN e] w (jk w bF e):=by
 have h:=Sat.start w;obtain⟨⟨kA,kc,k⟩,⟨vA,vc,v⟩,seq,dead⟩:=e;have HRk:Hid (Rd w kA k):=hr.1;have HRv:Hid (Rd w vA v):=hr.2;have hk':k.length<=140737488355328:=hk;have hv':v.length<=140737488355328:=hv;have h1:=h.bO (b:=w.heap.size) 120 #[.slice kA k.length kc,.slice vA v.length vc,.int .i64 seq,.bool dead] rfl;have h2:=h1.bO (b:=w.heap.size+1) 120 #[.slice none 0 0,.slice none 0 0,.int .i64 0,.bool false] (by simp);have hc2:ao No w _:=((ao.refl No w).alloc (.cells #[.slice kA k.length kc,.slice vA v.length vc,.int .i64 seq,.bool dead] 120)).alloc (.cells #[.slice none 0 0,.slice none 0 0,.int .i64 0,.bool false] 120);clear hr h h1;unfold iN;go_enter Tryz.func146, Tryz.ntmps146;go_wp2_with fail;revert h2 hc2;generalize (w.alloc _).alloc _=W;intro h2 hc2;generalize w.heap.size+1=B at*
 generalize w.heap.size=E at*
 have c0:=h2.ay.cell 0;have c1:=h2.ay.cell 1;have c2:=h2.ay.cell 2;have c3:=h2.ay.cell 3;have HS0:=ah h2;have HC0:=ah hc2;clear h2 hc2;go_region_law (first
  | (go_simp;go_at_call 104;(with_reducible refine(nz kA kc k HS0.o.drew (HRk.o.new HC0.o.drew) hk').mono ?_);rintro x w1 ⟨A,c,rfl,k1,hs1⟩;have HS1:=ah hs1;have HC1:=ah (HC0.o.drew.tr k1);have c0:=hs1.bp.cell 0;have c1:=hs1.bp.cell 1;have c2:=hs1.bp.cell 2;have c3:=hs1.bp.cell 3;clear hs1 k1)
  | (go_simp;go_at_call 104;(with_reducible refine(nz vA vc v HS1.o (HRv.o.new HC1.o) hv').mono ?_);rintro x w2 ⟨B2,d,rfl,k2,hs2⟩;have HS2:=ah hs2;have HC2:=ah (HC1.o.tr k2);have c0:=hs2.bL.cell 0;have c1:=hs2.bL.cell 1;have c2:=hs2.bL.cell 2;have c3:=hs2.bL.cell 3;have f0:=hs2.bL.frozen 0;have f1:=hs2.bL.frozen 1;clear hs2 k2))
 all_goals
  have h5:=(HS2.o.bL.set 0 (.slice A k.length c)).set 1 (.slice B2 v.length d);clear f0 f1 c0 c1 c2 c3;revert h5;generalize World.setCell _ _ _=w3;intro h5;have c0:=h5.cell 0;have c1:=h5.cell 1;have c2:=h5.cell 2;have c3:=h5.cell 3;have d0:=h5.bL.cell 0;have d1:=h5.bL.cell 1;have d2:=h5.bL.cell 2;have d3:=h5.bL.cell 3;have f0:=h5.bL.frozen 0;have f1:=h5.bL.frozen 1;have f2:=h5.bL.frozen 2;have f3:=h5.bL.frozen 3;have h6:=(((h5.bL.set 0 (.slice A k.length c)).set 1 (.slice B2 v.length d)).set 2 (.int .i64 seq)).set 3 (.bool dead);go_wp2_with fail;revert h6;generalize World.setCell _ _ _=w4;intro h6;refine bodyPost_ret (results_cell_row (p:=2) (by kernel_rfl) _ _ B 120 _ (0,0) _ rfl h6.at Tryz.underlying120 rfl (by kernel_rfl)) rfl ?_;exact⟨A,c,B2,d,rfl,h6.right.right.ay⟩
theorem vu (e:En) (w0 w:World) (F:SP) (h:Sat w0 F w) (hr:oD w e) (hk:e.key.2.2.length<=140737488355328) (hv:e.value.2.2.length<=140737488355328):
 Calls Tryz.prog 146 #[iN e] w fun x w'=>jk w0 F e x w'/\ao No w w':=by
 refine(Fv e w hr hk hv).mono ?_;rintro x w' ⟨A,c,B,d,rfl,hs⟩;exact⟨⟨A,c,B,d,rfl,(h.join hs (ba (bH _ _ _ _ _) (ba (bH _ _ _ _ _) df))).of (by rw[aB,aB,bf])⟩,hs.aL⟩
def yt (w:World) (b:Nat) (e:En):Prop:=w.cell? ⟨b,0,none⟩=some (.slice e.key.1 e.key.2.2.length e.key.2.1)/\w.cell? ⟨b,1,none⟩=some (.slice e.value.1 e.value.2.2.length e.value.2.1)/\w.cell? ⟨b,2,none⟩=some (.int .i64 e.seq)/\w.cell? ⟨b,3,none⟩=some (.bool e.dead)
theorem yt.new {w w':World} {b:Nat} {e:En} (h:yt w b e) (k:ao No w w'):yt w' b e:=⟨k.cell h.1 id,k.cell h.2.1 id,k.cell h.2.2.1 id,k.cell h.2.2.2 id⟩
theorem BY (bt be T:Nat) (es:List En) (e:En) (i:Nat) (w:World) (h:mq w T es) (hb:w.cell? ⟨bt,0,none⟩=some (.pointer (some ⟨T,0,none⟩))) (he:yt w be e) (hr:oD w e) (hi:i<es.length):
 Calls Tryz.prog 184 #[.int .i64 (i:Int),.pointer (some ⟨bt,0,none⟩),.pointer (some ⟨be,0,none⟩)] w fun x w'=>x = .returned (.bool (!az es[i].ak e.ak))/\ao No w w':=by
 obtain⟨A,c,g,hh,n,a1,_,a3,a4,a5,_⟩:=h.box;obtain⟨lb,lo,rfl,hq⟩:=dU a3 (by omega);obtain⟨y0,y1,y2,y3⟩:=hq i hi;unfold aJ at y0 y1;obtain⟨e0,e1,e2,e3⟩:=he;have HE:=ah (h.rd _ (List.getElem_mem hi));have HR:=ah hr;have hii:(i:Int)<es.length:=by omega
 obtain⟨Z,hZ⟩: ∃ Z,az es[i].ak e.ak=Z:=⟨_,rfl⟩;have HZ:=ah hZ;rw[hZ];have S0:w.cell? ⟨bt,0,none⟩=some (.pointer (some ⟨T,0,none⟩))/\w.cell? ⟨T,0,none⟩=some (.slice (some ⟨lb,lo,none⟩) es.length c)/\w.cell? ⟨lb,lo+i*4,none⟩=some (.slice es[i].key.1 es[i].key.2.2.length es[i].key.2.1)/\w.cell? ⟨lb,lo+i*4+1,none⟩=some (.slice es[i].value.1 es[i].value.2.2.length es[i].value.2.1)/\w.cell? ⟨lb,lo+i*4+2,none⟩=some (.int .i64 es[i].seq)/\w.cell? ⟨lb,lo+i*4+3,none⟩=some (.bool es[i].dead)/\yt w be e:=⟨hb,a1,y0,y1,y2,y3,e0,e1,e2,e3⟩;have HS:=ah S0;clear h hb hr hq a3 hZ S0 a1 y0 y1 y2 y3 e0 e1 e2 e3;go_enter Tryz.func184, Tryz.ntmps184;go_upto_region 1 with fail;refine wp_region_held_drew (S:=fun w'=>w'.cell? ⟨bt,0,none⟩=some (.pointer (some ⟨T,0,none⟩))/\w'.cell? ⟨T,0,none⟩=some (.slice (some ⟨lb,lo,none⟩) es.length c)/\w'.cell? ⟨lb,lo+i*4,none⟩=some (.slice es[i].key.1 es[i].key.2.2.length es[i].key.2.1)/\w'.cell? ⟨lb,lo+i*4+1,none⟩=some (.slice es[i].value.1 es[i].value.2.2.length es[i].value.2.1)/\w'.cell? ⟨lb,lo+i*4+2,none⟩=some (.int .i64 es[i].seq)/\w'.cell? ⟨lb,lo+i*4+3,none⟩=some (.bool es[i].dead)/\w'.cell? ⟨be,0,none⟩=some (.slice e.key.1 e.key.2.2.length e.key.2.1)/\w'.cell? ⟨be,1,none⟩=some (.slice e.value.1 e.value.2.2.length e.value.2.1)/\w'.cell? ⟨be,2,none⟩=some (.int .i64 e.seq)/\w'.cell? ⟨be,3,none⟩=some (.bool e.dead)) (by kernel_rfl) HS.o ?_;intro hS0;refine an 0 1 2 3 ?_;refine an 4 5 6 7 ?_;refine bC 8 fun K hK=>?_
 go_simp;go_at_call 147;refine(qC es[i] e _ ⟨HE.o.1.new (ao.refl No w).drew,HE.o.2.new (ao.refl No w).drew⟩ ⟨HR.o.1.new (ao.refl No w).drew,HR.o.2.new (ao.refl No w).drew⟩).mono ?_;rintro x w1 ⟨rfl,k1⟩;rw[HZ.o];have HK:=ah ((ao.refl No w).drew.tr k1);clear k1
 refine hK.out _ _ ⟨HK.o.cell HS.o.1 id,HK.o.cell HS.o.2.1 id,HK.o.cell HS.o.2.2.1 id,HK.o.cell HS.o.2.2.2.1 id,HK.o.cell HS.o.2.2.2.2.1 id,HK.o.cell HS.o.2.2.2.2.2.1 id,(yt.new HS.o.2.2.2.2.2.2 HK.o)⟩ (fun hS0=>?_);clear hK K;refine cw 9 10 ?_;refine wpAnyH_done (by kernel_rfl) ?_ _;go_wp2_with fail;go_ret;exact⟨rfl,HK.o⟩
def tG (es:List En) (e:En) (k:Nat):Prop:=k<=es.length/\(∀ (j:Nat) (h:j<es.length),j<k->az es[j].ak e.ak=true)/\(∀ h:k<es.length,az es[k].ak e.ak=false)
structure K6 (w:World) (es:List En) (e:En) (i j:Nat) (wr:World):Prop where
 lo: ∀ (m:Nat) (h:m<es.length),m<i->az es[m].ak e.ak=true
 hi: ∀ (m:Nat) (h:m<es.length),j<=m->az es[m].ak e.ak=false
 aL:ao No w wr
theorem yM (bt be T:Nat) (es:List En) (e:En) (w:World) (h:mq w T es) (hb:w.cell? ⟨bt,0,none⟩=some (.pointer (some ⟨T,0,none⟩))) (he:yt w be e) (hr:oD w e) (hn:es.length<=65536)
 (hmono: ∀ (a b:Nat) (ha:a<es.length) (hb:b<es.length),a<=b->az es[b].ak e.ak=true->az es[a].ak e.ak=true):
 Calls Tryz.prog 183 #[.int .i64 (es.length:Int),.func (.func 184) #[] #[.pointer (some ⟨bt,0,none⟩),.pointer (some ⟨be,0,none⟩)]] w fun x w'=> ∃ k:Nat,x = .returned (.int .i64 (k:Int))/\tG es e k/\ao No w w':=by
 have HT:=ah h;have HB:=ah hb;have HE:=ah he;have HR:=ah hr;have HM:=ah hmono;clear h hb he hr hmono;go_enter Tryz.func183, Tryz.ntmps183;go_wp2_with fail;go_loopw [5,6] (fun iv jv wr=> ∃ i j:Nat,i<=j/\j<=es.length/\iv = .int .i64 i/\jv = .int .i64 j/\Hid (K6 w es e i j wr)) (fun iv jv _=>((intOf jv) - (intOf iv)).toNat)
 case atStart=>exact⟨0,es.length,by omega,by omega,rfl,rfl,fun m _ h=>by omega,fun m h h2=>by omega,ao.refl _ _⟩
 case round=>
  obtain⟨i,j,hij,hj,rfl,rfl,HD⟩:=hrel;by_cases hlt:i<j
  .obtain⟨m,hm⟩: ∃ m,m=(i+j) / 2:=⟨_,rfl⟩;have hmi:i<=m:=by omega
   have hmj:m<j:=by omega
   have hml:m<es.length:=by omega
   have hw1:IntKind.u64.wrap ((i:Int)+(j:Int))=(i:Int)+j:=by rw[IntKind.wrap_u64];omega
   have hsh:((i:Int)+j) / 2=m:=by omega
   have hw2:IntKind.i64.wrap (m:Int)=m:=by rw[IntKind.wrap_i64];omega
   have HMm:=ah hm;clear hm;obtain⟨Z,hZ⟩: ∃ Z,az es[m].ak e.ak=Z:=⟨_,rfl⟩;have HZ:=ah hZ;clear hZ
   cases Z
   all_goals
    go_wp2_with (go_at_call 184;refine(BY bt be T es e m _ (HT.o.new HD.o.aL) (HD.o.aL.cell HB.o id) (HE.o.new HD.o.aL) ⟨HR.o.1.new HD.o.aL,HR.o.2.new HD.o.aL⟩ hml).mono ?_;rintro x w1 ⟨rfl,k1⟩;rw[HZ.o];have HK:=ah (HD.o.aL.tr k1);clear k1);go_roundw
   .exact⟨i,m,by omega,by omega,rfl,rfl,⟨HD.o.lo,fun a ha h2=>by
     cases hq:az es[a].ak e.ak with
     | false=>rfl
     | true=>rw[HM.o m a hml ha h2 hq] at HZ;exact absurd HZ.o (by simp),HK.o⟩⟩
   .simp[intOf];omega
   .exact⟨m+1,j,by omega,by omega,by push_cast;rfl,rfl,⟨fun a ha h2=>HM.o a m ha hml (by omega) HZ.o,HD.o.hi,HK.o⟩⟩
   .simp[intOf];omega
  .have hij2:i=j:=by omega
   subst hij2;go_wp2_with fail;go_ret;exact⟨i,rfl,⟨hj,fun a ha h2=>HD.o.lo a ha h2,fun h=>HD.o.hi i h (Nat.le_refl _)⟩,HD.o.aL⟩
theorem ow {l:List aq} (h:dH l=true) (e:aq): ∀ (d a:Nat) (ha:a<l.length) (hb:a+d<l.length),az l[a+d] e=true->az l[a] e=true
 | 0,_,_,_,hx=>hx
 | d+1,a,ha,hb,hx=>ow h e d a ha (by omega) (jf ((iz l).1 h (a+d) (by omega)) hx)
theorem rq {L:List aq} (h:bR L=0):dH L=true:=by
 cases hs:dH L with
 | true=>rfl
 | false=>unfold bR at h;rw[if_pos hs] at h;cases h
theorem mq.mono {w:World} {T:Nat} {es:List En} (h:mq w T es) (e:aq) (a b:Nat) (ha:a<es.length) (hb:b<es.length) (hab:a<=b) (hx:az es[b].ak e=true):az es[a].ak e=true:=by
 obtain⟨d,rfl⟩: ∃ d,b=a+d:=⟨b - a,by omega⟩;have h1:=ow (rq h.ok) e d a (by simpa using ha) (by simpa using hb);rw[List.getElem_map,List.getElem_map] at h1;exact h1 hx
theorem mq.bP {w:World} {T:Nat} {es:List En} (h:mq w T es):es.length<=65536:=by
 have:=pL h.ok;simpa using this
theorem tG.at {es:List En} {e:En} {k:Nat} (h:tG es e k):k=we e.ak (es.map En.ak):=by
 obtain⟨h1,h2,h3⟩:=h;by_cases hk:k<es.length
 .refine Hu (by simpa using hk) (fun i hi hik=>?_) ?_
  .rw[List.getElem_map];exact h2 i (by simpa using hi) hik
  .rw[List.getElem_map];exact h3 hk
 .have hke:k=es.length:=by omega
  subst hke;have h4:=IQ (e:=e.ak) (L:=es.map En.ak) (fun i hi=>by rw[List.getElem_map];exact h2 i (by simpa using hi) (by simpa using hi));simpa using h4
theorem EE (T:Nat) (es:List En) (e:En) (w:World) (h:mq w T es) (hr:oD w e):
 Calls Tryz.prog 144 #[.pointer (some ⟨T,0,none⟩),iN e] w fun x w'=>x = .returned (.int .i64 (we e.ak (es.map En.ak):Nat))/\ao No w w':=by
 obtain⟨w1,hw1⟩: ∃ w1,w1=w.alloc (.cells #[.pointer (some ⟨T,0,none⟩)] 176):=⟨_,rfl⟩;have s1:Sat w (Pt w.heap.size 176 #[.pointer (some ⟨T,0,none⟩)]*bF) w1:=by rw[hw1];exact(Sat.start w).ab _ _
 have s2:=s1.ab 120 #[.slice e.key.1 e.key.2.2.length e.key.2.1,.slice e.value.1 e.value.2.2.length e.value.2.1,.int .i64 e.seq,.bool e.dead];have hsz:w1.heap.size=w.heap.size+1:=by rw[hw1];simp
 obtain⟨A,c,g,hh,n,a1,_⟩:=h.box;have b1:=s2.aL.cell a1 id;have HSr:=fun x:Unit=>yM w.heap.size w1.heap.size T es e _ (h.new s2.aL) (s2.ay.cell 0) ⟨s2.cell 0,s2.cell 1,s2.cell 2,s2.cell 3⟩ ⟨hr.1.new s2.aL,hr.2.new s2.aL⟩ h.bP (fun a b ha hb hab hx=>h.mono e.ak a b ha hb hab hx)
 have c0:=s2.ay.cell 0;have HC:=ah s2.aL;have HK:=ah HSr;unfold iN;clear h hr HSr s1;rw[hsz,hw1] at HK;rw[hw1] at b1 c0 HC;clear hsz;clear s2;go_enter Tryz.func144, Tryz.ntmps144;go_wp2_with (go_at_call 183;refine(HK.o ()).mono ?_;rintro x w3 ⟨k,rfl,hk,k3⟩;have HF:=ah hk;have HC3:=ah (HC.o.tr k3);clear hk k3);go_ret;exact⟨by rw[<-HF.o.at];rfl,HC3.o⟩
theorem mq.small {w:World} {T:Nat} {es:List En} (h:mq w T es): ∀ e ∈ es,e.key.2.2.length<=128/\e.value.2.2.length<=16384:=by
 intro e he;have h1:=h.ok;unfold bR at h1;split at h1
 .cases h1
 .split at h1
  .cases h1
  .rename_i h2
   cases hm:fU e.ak with
   | true=>have h3:=gR.1 hm;exact⟨h3.1,h3.2.1⟩
   | false=>exact absurd (.inr (List.any_eq_true.2 ⟨e.ak,List.mem_map_of_mem he,by rw[hm];rfl⟩)) h2
theorem xu:(Tryz.prog.info? 120).map (fun i=>(i.zero,i.size,i.bytes))=some (some (.agg #[.slice none 0 0,.slice none 0 0,.int .i64 0,.bool false]),4,64):=by kernel_rfl
structure Lg (w:World) (tl:List UInt8) (l:List aq) (qs:List En) (i:Nat) (fs:List En) (A:Option Addr) (c:Nat) (wr:World):Prop where
 told:l=fs.map En.ak++((qs.drop i).map En.ak).takeWhile (uK tl)
 len:fs.length=i
 sat:Sat w (Row 120 4 (.slice A fs.length c) fs.length (fs.flatMap bV)*aT fs) wr
theorem yE (F T:du) (Tb:Nat) (es:List En) (w:World) (hf:Rd w F.1 F.2.2) (ht:Rd w T.1 T.2.2) (h:mq w Tb es):
 Calls Tryz.prog 107 #[.pointer (some ⟨Tb,0,none⟩),.slice F.1 F.2.2.length F.2.1,.slice T.1 T.2.2.length T.2.1] w (lO w (oN F.2.2 T.2.2 (es.map En.ak))):=by
 obtain⟨fp,fc,fl⟩:=F;obtain⟨tp,tc,tl⟩:=T;have HTb:=ah h;have HF:Hid (Rd w fp fl):=hf;have HT:Hid (Rd w tp tl):=ht;obtain⟨A,c,g,hh,n,a1,_,a3,a4,a5,_⟩:=h.box;have HA1:=ah a1;obtain⟨L,hL⟩: ∃ L,L=es.map En.ak:=⟨_,rfl⟩;have HL:=ah hL;obtain⟨k,hkk⟩: ∃ k,k=we (cQ fl) L:=⟨_,rfl⟩;have hkl:k<=es.length:=by rw[hkk];refine Nat.le_trans (Ii _ _) ?_;rw[hL];simp
 have HKK:=ah hkk;have HSm:=ah h.small;have HFew:=h.bP;have HRd:=ah h.rd;have HB0:Hid (aF w (if c=k then A else Option.map (fun x=>x.add (k*4)) A) ((es.drop k).flatMap bV)):=by
  by_cases hck:c=k
  .rw[List.drop_of_length_le (by omega)];exact aF.nil _ _
  .have h1:=aF.drop a3 (k:=k*4) (cap:=c*4) (by rw[qG];omega) (by rw[qG];omega);rw[<-Gn,if_neg (by omega)] at h1;rw[if_neg hck];exact h1
 rw[<-hL];show Calls _ _ #[_,.slice fp fl.length fc,.slice tp tl.length tc] w (lO w (oN fl tl L));obtain⟨i0,hi0,hz0,hz1,hz2⟩:=info_parts xu;clear hf ht h a1 a3 hL hkk;go_enter Tryz.func107, Tryz.ntmps107;go_upto_region 2 with fail;refine wp_region_held_drew (S:=fun w'=>w'.cell? ⟨Tb,0,none⟩=some (.slice A es.length c)) (by kernel_rfl) HA1.o ?_;intro hS0;refine an 0 1 2 3 ?_;refine an 4 5 6 10 ?_;refine bC 7 fun K hK=>?_
 go_simp;go_at_call 144;refine(EE Tb es ⟨(fp,fc,fl),(none,0,[]),9223372036854775807,false⟩ _ (HTb.o.new (ao.refl No w).drew) ⟨HF.o.new (ao.refl No w).drew,Rd.nil _ _⟩).mono ?_;rintro x w1 ⟨rfl,k1⟩;rw[show (⟨(fp,fc,fl),(none,0,[]),9223372036854775807,false⟩:En).ak=cQ fl from rfl, <-HL.o, <-HKK.o];have HK:=ah ((ao.refl No w).drew.tr k1);clear k1
 refine hK.out _ _ (HK.o.cell HA1.o id) (fun hS0=>?_);clear hK K;refine cw 8 9 ?_;refine wpAnyH_done (by kernel_rfl) ?_ _;obtain⟨B,hB⟩: ∃ B,(if c=k then A else Option.map (fun x=>x.add (k*4)) A)=B:=⟨_,rfl⟩;rw[hB] at HB0 ⊢;clear hB;obtain⟨m,hm⟩: ∃ m,es.length - k=m:=⟨_,rfl⟩;obtain⟨d,hd⟩: ∃ d,c - k=d:=⟨_,rfl⟩;rw[hm,hd];have hmd:m<=d:=by omega
 obtain⟨qs,hqs⟩: ∃ qs,es.drop k=qs:=⟨_,rfl⟩;have HQl:Hid (qs.length=m):=by unfold Hid;rw[<-hqs,List.length_drop];exact hm
 have HQm:Hid (∀ e ∈ qs,e ∈ es):=fun e he=>by rw[<-hqs] at he;exact List.mem_of_mem_drop he
 have HTd:Hid (oN fl tl L=(qs.map En.ak).takeWhile (uK tl)):=by unfold Hid oN;rw[<-HKK.o,HL.o, <-List.map_drop,hqs]
 have hm6:m<=65536:=by omega
 rw[hqs] at HB0;clear hm hd hqs hkl;by_cases h0:tl=[]
 case' pos=>
  have HZ:=ah h0;rw[show tl.length=0 by rw[h0];rfl];have h1:True:=trivial;clear h0
 case' neg=>
  have HZ:=ah h0;have h1:¬ tl.length=0:=by simpa using h0
  clear h0
 all_goals
  clear hS0;go_wp2_with fail;go_loopw [7,20] (fun out iv wr=> ∃ (i:Nat) (fs:List En) (A2:Option Addr) (c2:Nat),i<=m/\iv = .int .i64 i/\out = .slice A2 fs.length c2/\Hid (Lg w tl (oN fl tl L) qs i fs A2 c2 wr)) (fun _ iv _=>m - (intOf iv).toNat)
  case atStart=>exact⟨0,[],none,0,by omega,rfl,rfl,HTd.o,rfl,(((Sat.start w).new HK.o).aN _ 4).of (by rfl)⟩
  case round=>
   obtain⟨i,fs,A2,c2,hi,rfl,rfl,HD⟩:=hrel;by_cases hlt:i<m
   .have hil:i<qs.length:=by rw[HQl.o];exact hlt
    obtain⟨lb,lo,rfl,hq⟩:=dU HB0.o (by omega);obtain⟨y0,y1,y2,y3⟩:=hq i hil;unfold aJ at y0 y1;have z0:=HD.o.sat.aL.cell y0 id;have z1:=HD.o.sat.aL.cell y1 id;have z2:=HD.o.sat.aL.cell y2 id;have z3:=HD.o.sat.aL.cell y3 id;have HR:=ah (HRd.o _ (HQm.o _ (List.getElem_mem hil)));have hsm:=HSm.o _ (HQm.o _ (List.getElem_mem hil));have hk2:qs[i].key.2.2.length<=140737488355328:=by omega
    have hv3:qs[i].value.2.2.length<=140737488355328:=by omega
    have hlen:fs.length<=65536:=by have h1:=HD.o.len;omega
    have HTl:Hid (oN fl tl L=fs.map En.ak++if uK tl qs[i].ak then qs[i].ak::((qs.drop (i+1)).map En.ak).takeWhile (uK tl) else []):=by
     have h2:=HD.o.told;rw[List.drop_eq_getElem_cons hil,List.map_cons,List.takeWhile_cons] at h2;exact h2
    have hin:uK tl qs[i].ak=(decide (tl=[]) || decide (Lib.compareBytes qs[i].key.2.2 tl<0)):=rfl;have HIn:=ah hin;clear hq y0 y1 y2 y3 hsm hin;go_wp2_with (first
     | (go_at_call 145;refine(pS qs[i].key (tp,tc,tl) _ (HR.o.1.new (HD.o.sat.aL.alloc _)) (HT.o.new (HD.o.sat.aL.alloc _))).mono ?_;rintro x wx ⟨rfl,rfl⟩)
     | (go_at_call 146;refine(vu qs[i] w _ _ (HD.o.sat.aD _) ⟨HR.o.1.new (HD.o.sat.aL.alloc _),HR.o.2.new (HD.o.sat.aL.alloc _)⟩ hk2 hv3).mono ?_;rintro x w6 ⟨⟨A3,c3,B3,d3,rfl,hs6⟩,k6⟩;have HS6:=ah hs6;clear hs6 k6;simp only[iN])
     | (at_builtin;refine av rfl (.tmp 34) (.tmp 37) 116 rfl 120 i0 _ 4 64 Tryz.underlying116 hi0 hz0 hz1 hz2 rfl (by decide) (.slice A2 fs.length c2) fs.length (fs.flatMap bV) rfl w _ (by exact(HS6.o.aD _).bp) (some ⟨w6.heap.size,0,none⟩) 1 1 [.slice A3 qs[i].key.2.2.length c3,.slice B3 qs[i].value.2.2.length d3,.int .i64 qs[i].seq,.bool qs[i].dead] rfl (aR _ _ _) rfl (by intro u hu;simp at hu;rcases hu with rfl | rfl | rfl | rfl<;>rfl) (by unfold maxLen;omega) (by omega) ?_;intro A4 c4 w7 hs7;have HS7:=ah hs7;clear hs7))
    all_goals first
     | (go_ret
        have hB:uK tl qs[i].ak=false:=by
         have h2:=HZ.o;rw[HIn.o];simp[h2];omega
        refine⟨fs,A2,c2,rfl,?_,HD.o.sat.aD _⟩;rw[HTl.o,hB];simp)
     | (go_roundw
        .have hB:uK tl qs[i].ak=true:=by
          rw[HIn.o];have h2:=HZ.o;simp[h2]
          all_goals omega
         refine⟨i+1,fs++[⟨(A3,c3,qs[i].key.2.2),(B3,d3,qs[i].value.2.2),qs[i].seq,qs[i].dead⟩],A4,c4,by omega,by push_cast;rfl,by rw[List.length_append];rfl,?_,?_,?_⟩
         .rw[HTl.o,hB,if_pos rfl,List.map_append,List.append_assoc];rfl
         .rw[List.length_append,HD.o.len];rfl
         .refine HS7.o.of ?_;rw[fu,List.flatMap_append,List.length_append];rfl
        .simp[intOf];omega)
   .have HTl:Hid (oN fl tl L=fs.map En.ak):=by
     have h2:=HD.o.told;rw[List.drop_of_length_le (by rw[HQl.o];omega)] at h2;unfold Hid;simpa using h2
    go_wp2_with fail;go_ret;exact⟨fs,A2,c2,rfl,HTl.o.symm,HD.o.sat⟩
def cL (e:En):List Value:=[aJ e.key,aJ e.value]
theorem uD:(Tryz.prog.info? 65).map (fun i=>(i.zero,i.size,i.bytes))=some (some (.agg #[.slice none 0 0,.slice none 0 0]),2,48):=by kernel_rfl
def zl (w:World) (l:List aq) (x:Ending) (w':World):Prop:= ∃ (es qs:List En) (B:Option Addr) (d:Nat),x = .returned (.slice B qs.length d)/\(∀ q ∈ qs,q ∈ es)/\qs.map En.ak=l/\
 Sat w (Row 65 2 (.slice B qs.length d) qs.length (qs.flatMap cL)*aT es) w'
theorem CA (s:Int) (c:Option (List UInt8)) {L:List aq} {i:Nat} (hi:i<L.length):cp s c (L.drop i)=if s<L[i].seq\/c=some L[i].key then cp s c (L.drop (i+1)) else (if L[i].dead=true then cp s (some L[i].key) (L.drop (i+1)) else L[i]::cp s (some L[i].key) (L.drop (i+1))):=by
 rw[List.drop_eq_getElem_cons hi];rfl
theorem D0 (s aG:Int) (b:Nat) (f t:du) (L:List aq) (w:World) (hf:Calls Tryz.prog 125 #[.pointer (some ⟨b,0,none⟩),.slice f.1 f.2.2.length f.2.1,.slice t.1 t.2.2.length t.2.1] (w.alloc (.cells #[.int .i64 s] 135)) (lO (w.alloc (.cells #[.int .i64 s] 135)) L)) (hn:L.length<=1000000):
 Calls Tryz.prog 77 #[.agg #[.int .i64 s],.pointer (some ⟨b,0,none⟩),.slice f.1 f.2.2.length f.2.1,.slice t.1 t.2.2.length t.2.1,.int .i64 aG] w (zl w ((cp s none L).take aG.toNat)):=by
 obtain⟨j0,hj,hy0,hy1,hy2⟩:=info_parts uD;have Hj:=ah hj;have Hy0:=ah hy0;have Hy1:=ah hy1;have Hy2:=ah hy2;have HF:=ah hf;have HS0:=ah ((Sat.start w).ab 135 #[.int .i64 s]);obtain⟨w1,hw1⟩: ∃ w1,w1=w.alloc (.cells #[.int .i64 s] 135):=⟨_,rfl⟩;rw[<-hw1] at HF HS0;have HW:=ah hw1;clear hf hj hy0 hy1 hy2 hw1;go_enter Tryz.func77, Tryz.ntmps77;go_upto_region 4 with fail;rw[<-HW.o];obtain⟨vb,hvb⟩: ∃ vb,vb=w.heap.size:=⟨_,rfl⟩;rw[<-hvb] at HS0;rw[<-hvb];clear hvb;go_wp2_with (go_at_call 125;(with_reducible refine HF.o.mono ?_);rintro e w2 ⟨es,A,c,rfl,hes,hs⟩);have HS2:=ah (HS0.o.join hs (ba (bH _ _ _ _ _) (cN _)));have HES:=ah hes;have hln:es.length<=1000000:=by have:=congrArg List.length hes;rw[List.length_map] at this;omega
 clear hes hs;have HS3:Hid (Sat w (Row 65 2 (.slice none 0 0) 0 []*(Row 120 4 (.slice A es.length c) es.length (es.flatMap bV)*(aT es*(Pt vb 135 #[.int .i64 s]*bF)))) w2):=(HS2.o.of (aB _ _ _)).aN 65 2;go_loopw [11,12,13,21] (fun ov kv bgv iv wr=> ∃ (i k d:Nat) (B:Option Addr) (K:du) (bg:Bool) (qs:List En),i<=es.length/\k<=i/\iv = .int .i64 (i:Int)/\ov = .slice B k d/\kv = .slice K.1 K.2.2.length K.2.1/\bgv = .bool bg/\Hid (k=qs.length/\(∀ q ∈ qs,q ∈ es)/\qs.map En.ak++cp s (if bg=true then some K.2.2 else none) (L.drop i)=cp s none L/\k<=aG.toNat/\(K=(none,0,[])\/ ∃ e ∈ es,K=e.key)/\
  Sat w (Row 65 2 (.slice B k d) k (qs.flatMap cL)*(Row 120 4 (.slice A es.length c) es.length (es.flatMap bV)*(aT es*(Pt vb 135 #[.int .i64 s]*bF)))) wr)) (fun _ _ _ iv _=>es.length - (intOf iv).toNat)
 case atStart=>exact⟨0,0,0,none,(none,0,[]),false,[],by omega,by omega,rfl,rfl,rfl,rfl,rfl,(fun q hq=>by cases hq),rfl,Nat.zero_le _,.inl rfl,HS3.o⟩
 case round=>
  obtain⟨i,k,d,B,K,bg,qs,hi,hki,rfl,rfl,rfl,rfl,HD⟩:=hrel;by_cases hlt:i<es.length
  .have hs0:=HD.o.2.2.2.2.2;have hown:=fO (hs0.bp);obtain⟨lb,lo,rfl,hq⟩:=dU (hs0.ay.cj) (by omega);obtain⟨y0,y1,y2,y3⟩:=hq i hlt;have HRi:=ah (hown _ (List.getElem_mem hlt));have HKr:Hid (Rd wr K.1 K.2.2):=by
    rcases HD.o.2.2.2.2.1 with h1 | ⟨e,he,h1⟩
    .rw[h1];exact fun hx=>absurd rfl hx
    .rw[h1];exact(hown e he).1
   have hPm:=ah (List.getElem_mem hlt);have HSc:Hid (cp s (if bg=true then some K.2.2 else none) (L.drop i)=if s<es[i].seq\/(if bg=true then some K.2.2 else none)=some es[i].key.2.2 then cp s (if bg=true then some K.2.2 else none) (L.drop (i+1)) else (if es[i].dead=true then cp s (some es[i].key.2.2) (L.drop (i+1)) else es[i].ak::cp s (some es[i].key.2.2) (L.drop (i+1)))):=by
    have hl:i<L.length:=by rw[<-HES.o,List.length_map];exact hlt
    have h9:=CA s (if bg=true then some K.2.2 else none) hl;have h8:L[i]=es[i].ak:=by simp only[<-HES.o,List.getElem_map]
    rw[h8] at h9;exact h9
   have hii:(i:Int)<es.length:=by omega
   clear hq hown hs0;generalize es[i]=x at*
   obtain⟨⟨kA,kc,kl⟩,⟨vA,vc,vl⟩,sq,dd⟩:=x;replace y0:_=some (Value.slice kA kl.length kc):=y0;replace y1:_=some (Value.slice vA vl.length vc):=y1;replace y2:_=some (Value.int .i64 sq):=y2;replace y3:_=some (Value.bool dd):=y3;have hv0:=HD.o.2.2.2.2.2.bL.cell 0;go_upto_region 7 with fail;have hs2:=HD.o.2.2.2.2.2.ab 120 #[.slice kA kl.length kc,.slice vA vl.length vc,.int .i64 sq,.bool dd];obtain⟨W4,hW4⟩: ∃ W4,W4=wr.alloc (.cells #[.slice kA kl.length kc,.slice vA vl.length vc,.int .i64 sq,.bool dd] 120):=⟨_,rfl⟩;rw[<-hW4] at hs2;rw[<-hW4];obtain⟨bx,hbx⟩: ∃ bx,bx=wr.heap.size:=⟨_,rfl⟩;rw[<-hbx] at hs2;rw[<-hbx];have HK4:Hid (Rd W4 K.1 K.2.2/\Rd W4 kA kl):=by rw[hW4];exact⟨HKr.o.alloc _,aF.alloc HRi.o.1 _⟩
   clear hW4 hbx y0 y1 y2 y3 hv0;have x0:=hs2.cell 0;have x1:=hs2.cell 1;have x2:=hs2.cell 2;have x3:=hs2.cell 3;have v0:=hs2.fN.cell 0;have HS4:=ah hs2;clear hs2;by_cases hsq:s<sq
   .have HN:Hid (cp s (if bg=true then some K.2.2 else none) (L.drop i)=cp s (if bg=true then some K.2.2 else none) (L.drop (i+1))):=by unfold Hid;rw[HSc.o,if_pos (.inl hsq)]
    go_wp2_with fail;go_roundw
    .exact⟨i+1,k,d,B,K,bg,qs,by omega,by omega,by push_cast;rfl,rfl,rfl,rfl,HD.o.1,HD.o.2.1,by rw[<-HN.o];exact HD.o.2.2.1,HD.o.2.2.2.1,HD.o.2.2.2.2.1,HS4.o.right⟩
    .simp[intOf];omega
   .cases bg
    .have HGo:Hid (cp s (if false=true then some K.2.2 else none) (L.drop i)=if dd=true then cp s (some kl) (L.drop (i+1)) else (⟨kl,vl,sq,dd⟩:aq)::cp s (some kl) (L.drop (i+1))):=by
      unfold Hid;rw[HSc.o,if_neg]
      .rfl
      .rintro (h1 | h1)
       .exact hsq h1
       .cases h1
     by_cases hm:aG<=k
     .have HQ:Hid (qs.map En.ak=(cp s none L).take aG.toNat):=by
       have h1:=HD.o.2.2.1;have h2:=HD.o.2.2.2.1;have h3:=HD.o.1;have h4:aG.toNat=(qs.map En.ak).length:=by rw[List.length_map];omega
       unfold Hid;rw[<-h1,h4,List.take_left]
      go_wp2_with fail;go_ret;have hk:=HD.o.1;subst hk;exact⟨es,qs,_,_,rfl,HD.o.2.1,HQ.o,by
       have h1:=HS4.o.right.bo;exact(h1.of (by ac_rfl:_=(Pt vb 135 #[.int .i64 s])*(Row 65 2 (.slice B qs.length d) qs.length (qs.flatMap cL)*(aT es*bF)))).right.of (by rw[cD (aT es) bF,bf])⟩
     .have hm2:¬ (aG:Int)<=(k:Int):=hm
      cases dd
      .have HS5:=ah ((HS4.o.aD (.cells #[.slice kA kl.length kc,.slice vA vl.length vc] 65)).ay);go_wp2_with (at_builtin;refine av rfl (.tmp 48) (.tmp 54) 30 rfl 65 j0 _ 2 48 Tryz.underlying30 Hj.o Hy0.o Hy1.o Hy2.o rfl (by decide) (.slice B k d) k (qs.flatMap cL) rfl w _ (by exact HS5.o) (some ⟨W4.heap.size,0,none⟩) 1 1 [.slice kA kl.length kc,.slice vA vl.length vc] rfl (by exact(aR _ _ _)) rfl (by intro u hu;simp at hu;rcases hu with rfl | rfl<;>rfl) (by unfold maxLen;omega) (by omega) ?_;intro B5 d5 w5 hs5;have HS6:=ah hs5;clear hs5);go_roundw
       .refine⟨i+1,k+1,d5,B5,(kA,kc,kl),true,qs++[⟨(kA,kc,kl),(vA,vc,vl),sq,false⟩],by omega,by omega,by push_cast;rfl,rfl,rfl,rfl,by rw[List.length_append, <-HD.o.1];rfl,fun q hq=>?_,?_,by omega,.inr ⟨_,hPm.o,rfl⟩,?_⟩
        .rcases List.mem_append.1 hq with h1 | h1
         .exact HD.o.2.1 q h1
         .rw[List.mem_singleton.1 h1];exact hPm.o
        .have h1:=HD.o.2.2.1;rw[HGo.o] at h1;rw[List.map_append,List.append_assoc];exact h1
        .rw[List.flatMap_append];exact HS6.o.bo
       .simp[intOf];omega
      .go_wp2_with fail;go_roundw
       .exact⟨i+1,k,d,B,(kA,kc,kl),true,qs,by omega,by omega,by push_cast;rfl,rfl,rfl,rfl,HD.o.1,HD.o.2.1,by have h1:=HD.o.2.2.1;rw[HGo.o] at h1;exact h1,HD.o.2.2.2.1,.inr ⟨_,hPm.o,rfl⟩,HS4.o.right⟩
       .simp[intOf];omega
    .by_cases he:kl=K.2.2
     .have HBq:Hid (Calls Tryz.prog 126 #[.slice kA kl.length kc,.slice K.1 K.2.2.length K.2.1] W4 fun e w'=>e = .returned (.bool true)/\W4=w'):=by
       have h1:=eH (kA,kc,kl) K W4 HK4.o.2 HK4.o.1;rw[decide_eq_true he] at h1;exact h1.mono fun e w' ⟨a,b⟩=>⟨a,b.symm⟩
      have HN:Hid (cp s (if true=true then some K.2.2 else none) (L.drop i)=cp s (if true=true then some K.2.2 else none) (L.drop (i+1))):=by
       unfold Hid;rw[HSc.o,if_pos];exact .inr (by rw[if_pos rfl];exact congrArg some he.symm)
      clear he;go_wp2_with (go_at_call 126;(with_reducible refine HBq.o.mono ?_);rintro e wx ⟨rfl,rfl⟩);go_roundw
      .exact⟨i+1,k,d,B,K,true,qs,by omega,by omega,by push_cast;rfl,rfl,rfl,rfl,HD.o.1,HD.o.2.1,by have h1:=HD.o.2.2.1;rw[HN.o] at h1;exact h1,HD.o.2.2.2.1,HD.o.2.2.2.2.1,HS4.o.right⟩
      .simp[intOf];omega
     .have HBq:Hid (Calls Tryz.prog 126 #[.slice kA kl.length kc,.slice K.1 K.2.2.length K.2.1] W4 fun e w'=>e = .returned (.bool false)/\W4=w'):=by
       have h1:=eH (kA,kc,kl) K W4 HK4.o.2 HK4.o.1;rw[decide_eq_false he] at h1;exact h1.mono fun e w' ⟨a,b⟩=>⟨a,b.symm⟩
      have HGo:Hid (cp s (if true=true then some K.2.2 else none) (L.drop i)=if dd=true then cp s (some kl) (L.drop (i+1)) else (⟨kl,vl,sq,dd⟩:aq)::cp s (some kl) (L.drop (i+1))):=by
       unfold Hid;rw[HSc.o,if_neg]
       .rfl
       .rintro (h1 | h1)
        .exact hsq h1
        .rw[if_pos rfl] at h1;injection h1 with h1;exact he h1.symm
      clear he;by_cases hm:aG<=k
      .have HQ:Hid (qs.map En.ak=(cp s none L).take aG.toNat):=by
        have h1:=HD.o.2.2.1;have h2:=HD.o.2.2.2.1;have h3:=HD.o.1;have h4:aG.toNat=(qs.map En.ak).length:=by rw[List.length_map];omega
        unfold Hid;rw[<-h1,h4,List.take_left]
       go_wp2_with (go_at_call 126;(with_reducible refine HBq.o.mono ?_);rintro e wx ⟨rfl,rfl⟩);go_ret;have hk:=HD.o.1;subst hk;exact⟨es,qs,_,_,rfl,HD.o.2.1,HQ.o,by
        have h1:=HS4.o.right.bo;exact(h1.of (by ac_rfl:_=(Pt vb 135 #[.int .i64 s])*(Row 65 2 (.slice B qs.length d) qs.length (qs.flatMap cL)*(aT es*bF)))).right.of (by rw[cD (aT es) bF,bf])⟩
      .have hm2:¬ (aG:Int)<=(k:Int):=hm
       cases dd
       .have HS5:=ah ((HS4.o.aD (.cells #[.slice kA kl.length kc,.slice vA vl.length vc] 65)).ay);go_wp2_with (first | (go_at_call 126;(with_reducible refine HBq.o.mono ?_);rintro e wx ⟨rfl,rfl⟩) | (at_builtin;refine av rfl (.tmp 48) (.tmp 54) 30 rfl 65 j0 _ 2 48 Tryz.underlying30 Hj.o Hy0.o Hy1.o Hy2.o rfl (by decide) (.slice B k d) k (qs.flatMap cL) rfl w _ (by exact HS5.o) (some ⟨W4.heap.size,0,none⟩) 1 1 [.slice kA kl.length kc,.slice vA vl.length vc] rfl (by exact(aR _ _ _)) rfl (by intro u hu;simp at hu;rcases hu with rfl | rfl<;>rfl) (by unfold maxLen;omega) (by omega) ?_;intro B5 d5 w5 hs5;have HS6:=ah hs5;clear hs5));go_roundw
        .refine⟨i+1,k+1,d5,B5,(kA,kc,kl),true,qs++[⟨(kA,kc,kl),(vA,vc,vl),sq,false⟩],by omega,by omega,by push_cast;rfl,rfl,rfl,rfl,by rw[List.length_append, <-HD.o.1];rfl,fun q hq=>?_,?_,by omega,.inr ⟨_,hPm.o,rfl⟩,?_⟩
         .rcases List.mem_append.1 hq with h1 | h1
          .exact HD.o.2.1 q h1
          .rw[List.mem_singleton.1 h1];exact hPm.o
         .have h1:=HD.o.2.2.1;rw[HGo.o] at h1;rw[List.map_append,List.append_assoc];exact h1
         .rw[List.flatMap_append];exact HS6.o.bo
        .simp[intOf];omega
       .go_wp2_with (go_at_call 126;(with_reducible refine HBq.o.mono ?_);rintro e wx ⟨rfl,rfl⟩);go_roundw
        .exact⟨i+1,k,d,B,(kA,kc,kl),true,qs,by omega,by omega,by push_cast;rfl,rfl,rfl,rfl,HD.o.1,HD.o.2.1,by have h1:=HD.o.2.2.1;rw[HGo.o] at h1;exact h1,HD.o.2.2.2.1,.inr ⟨_,hPm.o,rfl⟩,HS4.o.right⟩
        .simp[intOf];omega
  .have hie:i=es.length:=by omega
   subst hie;have HQ:Hid (qs.map En.ak=(cp s none L).take aG.toNat):=by
    have h1:=HD.o.2.2.1;rw[List.drop_eq_nil_of_le (by rw[<-HES.o,List.length_map];omega)] at h1;have h2:cp s (if bg=true then some K.2.2 else none) []=[]:=by cases bg<;>rfl
    rw[h2,List.append_nil] at h1;unfold Hid;rw[<-h1,List.take_of_length_le (by rw[List.length_map, <-HD.o.1];exact HD.o.2.2.2.1)]
   go_wp2_with fail;go_ret;have hk:=HD.o.1;subst hk;exact⟨es,qs,_,_,rfl,HD.o.2.1,HQ.o,by
    have h1:=HD.o.2.2.2.2.2.bo;exact(h1.of (by ac_rfl:_=(Pt vb 135 #[.int .i64 s])*(Row 65 2 (.slice B qs.length d) qs.length (qs.flatMap cL)*(aT es*bF)))).right.of (by rw[cD (aT es) bF,bf])⟩
end Go.Proofs.YtmbaiglpgaoogaaGreat
