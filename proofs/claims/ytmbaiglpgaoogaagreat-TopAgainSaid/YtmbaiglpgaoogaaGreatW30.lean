/- Joined, as they were built one by one: Sto10 StpF StpH StpI Sto12 Sto15 Sto26. -/
import Derived.Test.YtmbaiglpgaoogaaGreatW02
import Derived.Test.YtmbaiglpgaoogaaGreatW08
import Derived.Test.YtmbaiglpgaoogaaGreatW09
import Derived.Test.YtmbaiglpgaoogaaGreatW18
import Derived.Test.YtmbaiglpgaoogaaGreatW19
import Derived.Test.YtmbaiglpgaoogaaGreatW24
import Derived.Test.YtmbaiglpgaoogaaGreatW25
import Derived.Test.YtmbaiglpgaoogaaGreatW27
import Derived.Test.YtmbaiglpgaoogaaGreatW29
set_option maxHeartbeats 16000000
set_option linter.unusedVariables false
set_option maxRecDepth 100000
namespace Go.Proofs.YtmbaiglpgaoogaaGreat
open Go.RowKit Z
theorem dS.own {ns:List Nd} {n:Nat} (h:dS ns n):dS ns (cn ns).length:=⟨h.ok,by unfold cn fM;simp,h.each⟩
theorem dS.lens {ns:List Nd} {n:Nat} (h:dS ns n): ∀ x ∈ cn ns,x.key.length<=200/\x.value.length<=20000:=fun x hx=>by
 unfold cn fM at hx;rw[List.map_map] at hx;obtain⟨m,hm,rfl⟩:=List.mem_map.1 hx;exact⟨(h.each m hm).1,(h.each m hm).2.1⟩
section
variable {w0 w:World} {F:SP}
theorem CU (b d s:Nat) (v:Sd) (h:Sat w0 (dG b d s v*F) w) (hL:v.L.length<=90000) (hz: ∀ x ∈ v.L,0<=x.seq/\x.seq<=1000000000) (hf:v.bP<=1000000):
 Calls Tryz.prog 113 #[.pointer (some ⟨b,0,none⟩)] w fun x w'=>x = .returned (.tuple #[])/\ ∃ qs,sE v.snaps v.bP qs/\Sat w0 (dG b d s { v with L:=dY qs v.L }*F) w':=by
 obtain⟨lg,L,sq,sn,bP,nx⟩:=v;obtain⟨tb,hr,mb,ns,⟨ht,he⟩,hs0⟩:=h.db;dsimp only at hL hz hf ht he;have hs:=hs0.of (eM ..);dsimp only at hs;have hpw:L.Pairwise dE:=he ▸ mA ht.ok;have hln:=ht.lens;rw[he] at hln;have c3:w.cell? ⟨b,3,none⟩=some (.pointer (some ⟨tb,0,none⟩)):=hs.cell 3;have hlv:=tz 0 tb hr ns w (hs.ay.view ht.ok) ht.ok (ht.small (by omega));rw[wQ ht,he] at hlv;have HLv:=ah hlv;have HS:=ah hs;have HT:=ah ht;have HE:=ah he;have HPw:=ah hpw;have HLn:=ah hln;have HZ:=ah hz;clear h hs0 hs hpw hln hlv ht he hz;go_enter Tryz.func113, Tryz.ntmps113;go_upto_region 1 with (go_at_call 122;(with_reducible refine HLv.o.mono ?_);rintro e w1 ⟨es,A,c,rfl,hes,hs1⟩;have HS1:=ah (HS.o.join hs1 (ba (bH _ _ _ _ _) (cN _)));have HES:=ah hes;clear hes hs1)
 obtain⟨A',c',hsl,hc1,hc2⟩:=(HS1.o.of (aB _ _ _)).bm;injection hsl with e1 e2 e3
 subst e1;subst e3;have HEl:Hid (es.length=L.length):=by unfold Hid;rw[<-HES.o,List.length_map]
 have hmx:c<=9223372036854775807:=by unfold maxLen at hc2;omega
 have HP:=ah (yD (w0:=w0) (w:=w1) (F:=Row 120 4 (.slice A es.length c) es.length (es.flatMap bV)*(aT es*(bE tb hr ns*F))) b mb bP sn _ (HS1.o.of (by rw[aB];show _=Pt b 113 (ef d s lg tb sq mb nx false)*_;ac_rfl)) rfl hf);have HC:=ah hc1;have HC2:=ah hc2;have HThA:Hid (∀ PA pc (qs:List Int) W,sE sn bP qs->Sat w0 (Row 3 1 (.slice PA qs.length pc) qs.length (qs.map (Value.int .i64))*(Pt b 113 (ef d s lg tb sq mb nx false)*(bT Tryz.prog 3 mb bP (iH sn)*(Row 120 4 (.slice A es.length c) es.length (es.flatMap bV)*(aT es*(bE tb hr ns*F)))))) W->Calls Tryz.prog 121 #[.slice A es.length c,.bool true,.slice PA qs.length pc] W (E5 W (cP true qs L))):=fun PA pc qs W hq hW=>by
  have h9:=vT true A c es PA pc qs W (hW.bL.cj) (fO hW.fN) HC.o HC2.o (by have:=HEl.o;omega) (fun e he=>(by have:=HLn.o e.ak (by rw[<-HES.o];exact List.mem_map_of_mem he);have h1:e.key.2.2.length<=200:=this.1;have h2:e.value.2.2.length<=20000:=this.2;omega)) hW.cj (by have:=hq.2;omega) (by rw[HES.o];exact HPw.o);rw[HES.o] at h9;exact h9
 clear c3 HLv hc1 hc2 HS;go_upto_region 2 with (first
  | (go_at_call 148;(with_reducible refine HP.o.mono ?_);rintro e w2 ⟨PA,pc,qs,rfl,hqs,hs2⟩;have HQ:=ah hqs;have HS2:=ah hs2;clear hqs hs2)
  | (go_at_call 121;(with_reducible refine(HThA.o _ _ _ _ HQ.o HS2.o).mono ?_);rintro e w3 ⟨ts,TA,tc,rfl,hts,hs3⟩;have HS3:=ah (HS2.o.join hs3 (ba (bH _ _ _ _ _) (ba (cN _) df)));have HTs:=ah hts;clear hts hs3))
 clear HP HThA HS1;have HTl:Hid (ts.length=(cP true qs L).length):=by unfold Hid;rw[<-HTs.o,List.length_map]
 have htl2:ts.length<=L.length:=by rw[HTl.o];exact(fY true qs L).length_le
 have HS4:Hid (Sat w0 (Row 120 4 (.slice TA ts.length tc) ts.length (ts.flatMap bV)*(aT ts*(Pt b 113 (ef d s lg tb sq mb nx false)*(bE tb hr ns*(bT Tryz.prog 3 mb bP (iH sn)*F))))) w3):=by
  have h1:=HS3.o.of (show _=(Row 120 4 (.slice TA ts.length tc) ts.length (ts.flatMap bV)*aT ts)*_ by rw[cD (aT ts) bF,bf]);have h2:=h1.of (show _=(Row 3 1 (.slice PA qs.length pc) qs.length (qs.map (Value.int .i64))*(Row 120 4 (.slice A es.length c) es.length (es.flatMap bV)*aT es))*(Row 120 4 (.slice TA ts.length tc) ts.length (ts.flatMap bV)*(aT ts*(Pt b 113 (ef d s lg tb sq mb nx false)*(bE tb hr ns*(bT Tryz.prog 3 mb bP (iH sn)*F))))) by ac_rfl);exact h2.right
 clear HS3 HS2;by_cases hlt:2*ts.length+16<es.length
 .have HTi:Hid (dY qs L=ts.map En.ak):=by
   unfold Hid dY;rw[if_pos (by have:=HTl.o;have:=HEl.o;omega),HTs.o]
  have h1:(2*(ts.length:Int)+16)<es.length:=by omega
  clear hlt;go_upto_region 4 with (go_at_call 58;(with_reducible refine(vE w0 _ _ HS4.o).mono ?_);rintro e w4 ⟨tb2,hr2,rfl,hs4⟩;have HS5:=ah hs4;have f3:=hs4.bL.frozen 3;have c3:=hs4.bL.cell 3;clear hs4)
  have hs6:=HS5.o.bL.set 3 (.pointer (some ⟨tb2,0,none⟩));obtain⟨W6,hW6⟩: ∃ W6,W6=w4.setCell ⟨b,3,none⟩ (.pointer (some ⟨tb2,0,none⟩)):=⟨_,rfl⟩;rw[<-hW6] at hs6;rw[<-hW6];have HS6:Hid (Sat w0 (bE tb2 hr2 []*(Pt b 113 (ef d s lg tb2 sq mb nx false)*(Row 120 4 (.slice TA ts.length tc) ts.length (ts.flatMap bV)*(aT ts*(bT Tryz.prog 3 mb bP (iH sn)*F))))) W6):=by
   have h2:=hs6.of (show _=bE tb hr ns*(bE tb2 hr2 []*(Pt b 113 (ef d s lg tb2 sq mb nx false)*(Row 120 4 (.slice TA ts.length tc) ts.length (ts.flatMap bV)*(aT ts*(bT Tryz.prog 3 mb bP (iH sn)*F))))) by
    show Pt b 113 (ef d s lg tb2 sq mb nx false)*(bE tb2 hr2 []*_)=_
    ac_rfl)
   exact h2.right
  clear hW6 hs6 c3 f3 HS5 HS4;have HTsr:Hid ((ts.map En.ak).Pairwise dE):=by unfold Hid;rw[HTs.o];exact oC HPw.o
  have HTin:Hid (∀ x ∈ ts.map En.ak,x ∈ L):=fun x hx=>by rw[HTs.o] at hx;exact(fY true qs L).mem hx
  go_wp2_with fail;go_loopw [32] (fun iv wr=> ∃ (i:Nat) (ms:List Nd),i<=ts.length/\iv = .int .i64 (i:Int)/\Hid (dS ms i/\cn ms=(ts.map En.ak).take i/\Sat w0 (bE tb2 hr2 ms*(Pt b 113 (ef d s lg tb2 sq mb nx false)*(Row 120 4 (.slice TA ts.length tc) ts.length (ts.flatMap bV)*(aT ts*(bT Tryz.prog 3 mb bP (iH sn)*F))))) wr)) (fun iv _=>ts.length - (intOf iv).toNat)
  case atStart=>exact⟨0,[],by omega,rfl,vV 0,rfl,HS6.o⟩
  case round=>
   obtain⟨i,ms,hi,rfl,HD⟩:=hrel;by_cases hlt:i<ts.length
   .obtain⟨lb,lo,hA,hq⟩:=dU HD.o.2.2.bp.cj (by omega);subst hA;obtain⟨y0,y1,y2,y3⟩:=hq i hlt;have HRi:=ah (fO HD.o.2.2.bL _ (List.getElem_mem hlt));have HLi:=ah (HLn.o _ (HTin.o _ (List.mem_map_of_mem (List.getElem_mem hlt))));have HZi:=ah (HZ.o _ (HTin.o _ (List.mem_map_of_mem (List.getElem_mem hlt))));have HTk:Hid ((ts.map En.ak).take (i+1)=(ts.map En.ak).take i++[ts[i].ak]):=by
     unfold Hid;rw[List.take_add_one,List.getElem?_eq_getElem (by rw[List.length_map];exact hlt),List.getElem_map];rfl
    have HNew:Hid (∀ x ∈ cn ms,dE x ts[i].ak):=fun x hx=>by
     rw[HD.o.2.1] at hx;have h2:=HTsr.o;rw[<-List.take_append_drop (i+1) (ts.map En.ak),HTk.o] at h2;have h3:=(List.pairwise_append.1 h2).1;exact(List.pairwise_append.1 h3).2.2 x hx _ (List.mem_singleton_self _)
    have hii:(i:Int)<ts.length:=by omega
    clear hq;generalize ts[i]=x at*
    obtain⟨⟨kA,kc,kl⟩,⟨vA,vc,vl⟩,eq,dd⟩:=x;replace y0:_=some (Value.slice kA kl.length kc):=y0;replace y1:_=some (Value.slice vA vl.length vc):=y1;replace y2:_=some (Value.int .i64 eq):=y2;replace y3:_=some (Value.bool dd):=y3;replace HZi:Hid (0<=eq/\eq<=1000000000):=HZi;go_upto_region 7 with fail;have hs7:=HD.o.2.2.ab 120 #[.slice kA kl.length kc,.slice vA vl.length vc,.int .i64 eq,.bool dd];obtain⟨W7,hW7⟩: ∃ W7,W7=wr.alloc (.cells #[.slice kA kl.length kc,.slice vA vl.length vc,.int .i64 eq,.bool dd] 120):=⟨_,rfl⟩;rw[<-hW7] at hs7;rw[<-hW7];obtain⟨bx,hbx⟩: ∃ bx,bx=wr.heap.size:=⟨_,rfl⟩;rw[<-hbx] at hs7;rw[<-hbx];have HR7:Hid (Rd W7 kA kl/\Rd W7 vA vl):=by rw[hW7];exact⟨aF.alloc HRi.o.1 _,aF.alloc HRi.o.2 _⟩
    clear hW7 hbx y0 y1 y2 y3;have c3:=hs7.bp.cell 3;have x0:=hs7.cell 0;have x1:=hs7.cell 1;have x2:=hs7.cell 2;have x3:=hs7.cell 3;have HSr:=ah hs7;clear hs7;have HPu:Hid (∀ W H,ao No W7 W->Calls Tryz.prog 62 #[.pointer (some ⟨tb2,0,none⟩),.agg #[.slice kA kl.length kc,.slice vA vl.length vc,.int .i64 eq,.bool dd],.int .i64 H] W fun x w'=> ∃ ns',x = .returned (.int .i64 0)/\dS ns' (i+1)/\cn ns'=(ts.map En.ak).take (i+1)/\Sat w0 (bE tb2 hr2 ns'*(Pt bx 120 #[.slice kA kl.length kc,.slice vA vl.length vc,.int .i64 eq,.bool dd]*(Pt b 113 (ef d s lg tb2 sq mb nx false)*(Row 120 4 (.slice (some ⟨lb,lo,none⟩) ts.length tc) ts.length (ts.flatMap bV)*(aT ts*(bT Tryz.prog 3 mb bP (iH sn)*F)))))) w'):=fun W H hW=>by
     refine(qf tb2 hr2 ms i H ⟨(kA,kc,kl),(vA,vc,vl),eq,dd⟩ w0 W _ (HSr.o.new hW).ay HD.o.1 (by omega) ⟨HR7.o.1.new hW,HR7.o.2.new hW⟩ HLi.o.1 HLi.o.2 (by show eq<=eE;unfold eE;have:=HZi.o;omega) (fun x hx hs=>np hs (HNew.o x hx))).mono ?_;rintro x w' ⟨ns',rfl,k1,k2,k3⟩;exact⟨ns',rfl,k1,by rw[k2,tq HNew.o,HTk.o,HD.o.2.1],k3⟩
    have HH:=ah (fun W=>mg eq HZi.o W);have HDrew:Hid (ao No W7 W7.drew):=(ao.refl No W7).drew;refine wp_region_held_drew (S:=fun w'=>w'.cell? ⟨b,3,none⟩=some (.pointer (some ⟨tb2,0,none⟩))/\w'.cell? ⟨bx,0,none⟩=some (.slice kA kl.length kc)/\w'.cell? ⟨bx,1,none⟩=some (.slice vA vl.length vc)/\w'.cell? ⟨bx,2,none⟩=some (.int .i64 eq)/\w'.cell? ⟨bx,3,none⟩=some (.bool dd)) (by kernel_rfl) ⟨(by exact c3),x0,x1,x2,x3⟩ ?_;intro hS0;refine an 0 1 2 3 ?_;refine cw 4 5 ?_;refine ca 6 ?_;refine bC 7 fun K hK=>?_
    go_simp;go_at_call 63;(with_reducible refine(HH.o _).mono ?_);rintro e wx ⟨⟨hh,rfl,hh1,hh2⟩,rfl⟩
    refine hK.out _ _ ⟨(by exact c3),x0,x1,x2,x3⟩ (fun hS0=>?_);clear hK K;refine bC 8 fun K hK=>?_
    go_simp;go_at_call 62;(with_reducible refine(HPu.o _ hh HDrew.o).mono ?_);rintro e w8 ⟨ns2,rfl,n1,n2,hs8⟩;have HN1:=ah n1;have HN2:=ah n2;have HS8:=ah hs8;clear n1 n2 hs8
    refine hK.out _ _ ⟨HS8.o.bp.cell 3,HS8.o.ay.cell 0,HS8.o.ay.cell 1,HS8.o.ay.cell 2,HS8.o.ay.cell 3⟩ (fun hS0=>?_);clear hK K;refine wpAnyH_done (by kernel_rfl) ?_ _;go_wp2_with fail;go_roundw
    .exact⟨i+1,ns2,by omega,by push_cast;rfl,HN1.o,HN2.o,HS8.o.ay.right⟩
    .simp[intOf];omega
   .have hie:i=ts.length:=by omega
    subst hie;go_wp2_with fail;go_end0
    refine⟨rfl,qs,HQ.o,?_⟩;have hend:=HD.o.2.1;rw[List.take_of_length_le (by rw[List.length_map];omega)] at hend;refine Sat.zX (tb:=tb2) (hr:=hr2) (mb:=mb) (ns:=ms) (v:=⟨lg,dY qs L,sq,sn,bP,nx⟩) ?_ ?_ ?_
    .show dS ms (dY qs L).length;rw[HTi.o,List.length_map];exact HD.o.1
    .show cn ms=dY qs L;rw[HTi.o,hend]
    .rw[eM];have h2:=HD.o.2.2;exact(h2.of (show _=(Row 120 4 (.slice TA ts.length tc) ts.length (ts.flatMap bV)*aT ts)*(Pt b 113 (ef d s lg tb2 sq mb nx false)*(bE tb2 hr2 ms*(bT Tryz.prog 3 mb bP (iH sn)*F))) by ac_rfl)).right
 .have HTi:Hid (dY qs L=L):=by
   unfold Hid dY;rw[if_neg (by have:=HTl.o;have:=HEl.o;omega)]
  have h1:¬ (2*(ts.length:Int)+16)<es.length:=by omega
  clear hlt;go_wp2_with fail;go_end0
  refine⟨rfl,qs,HQ.o,?_⟩;refine Sat.zX (tb:=tb) (hr:=hr) (mb:=mb) (ns:=ns) (v:=⟨lg,dY qs L,sq,sn,bP,nx⟩) ?_ ?_ ?_
  .show dS ns (dY qs L).length;rw[HTi.o];exact HT.o
  .show cn ns=dY qs L;rw[HTi.o,HE.o]
  .rw[eM];exact HS4.o.right.right
theorem sL (b d s:Nat) (v:Sd) (A:Option Addr) (c:Nat) (ps:List Pu) (h:Sat w0 (dG b d s v*F) w) (hb: ∀ W,Sat w0 F W->aF W A (ps.flatMap fI)/\gZ W ps) (hok: ∀ p ∈ ps,iq p.bq) (hn:ps.length<=10000)
 (hL:v.L.length<=80000) (hz: ∀ x ∈ v.L,0<=x.seq/\x.seq<=v.seq) (hq:v.seq+1<=1000000000) (hf:v.bP<=1000000):
 Calls Tryz.prog 65 #[.pointer (some ⟨b,0,none⟩),.slice A ps.length c] w fun x w'=>x = .returned (.tuple #[])/\ ∃ qs,sE v.snaps v.bP qs/\Sat w0 (dG b d s { v with L:=dY qs (fP v.seq (ps.map Pu.bq) v.L),seq:=v.seq+1 }*F) w':=by
 obtain⟨lg,L,sq,sn,bP,nx⟩:=v;obtain⟨tb,hr,mb,ns,⟨ht,he⟩,hs0⟩:=h.db;dsimp only at hL hz hq hf ht he;have hs:=hs0.of (eM ..);dsimp only at hs;have c4:w.cell? ⟨b,4,none⟩=some (.int .i64 (sq:Int)):=hs.cell 4;have f4:=hs.frozen 4;have hs1:=hs.set 4 (.int .i64 ((sq:Int)+1));have e1:(ef d s lg tb sq mb nx false).setIfInBounds 4 (.int .i64 ((sq:Int)+1))=ef d s lg tb ((sq:Int)+1) mb nx false:=rfl;rw[e1] at hs1;obtain⟨W1,hW1⟩: ∃ W1,W1=w.setCell ⟨b,4,none⟩ (.int .i64 ((sq:Int)+1)):=⟨_,rfl⟩;rw[<-hW1] at hs1;have HW:=ah hW1;have HS1:=ah hs1;have HT:=ah ht;have HE:=ah he;have HZ:=ah hz;have HOk:=ah hok;have HLt:Hid (∀ x ∈ L,x.seq<((sq+1:Nat):Int)):=fun x hx=>by have:=(hz x hx).2;omega
 have HB:Hid (∀ W,Sat w0 F W->gZ W ps):=fun W hW=>(hb W hW).2
 have HLa:=ah (Fb A c ps W1 (hb W1 hs1.right.right.right).1 (hb W1 hs1.right.right.right).2 (fun p hp=>(hok p hp).key.2) (by omega));clear h hs0 hs hs1 hb ht he hz hok hW1 e1;go_enter Tryz.func65, Tryz.ntmps65;go_upto_region 1 with fail;rw[<-HW.o];clear c4 f4 HW;go_wp2_with (go_at_call 112;(with_reducible refine HLa.o.mono ?_);rintro e w2 ⟨QA,qc,qs,hin,hqs,rfl,hs2⟩;have HS2:=ah (HS1.o.join hs2 (ba (bH _ _ _ _ _) df));have HIn:=ah hin;have HQs:=ah hqs;clear hin hqs hs2);clear HLa HS1;have HS3:Hid (Sat w0 (bE tb hr ns*(Pt b 113 (ef d s lg tb ((sq:Int)+1) mb nx false)*(Row 43 3 (.slice QA qs.length qc) qs.length (qs.flatMap fI)*(bT Tryz.prog 3 mb bP (iH sn)*F)))) w2):=HS2.o.of (by rw[cD _ bF,bf];ac_rfl);have HQl:Hid (qs.length<=ps.length):=by
  have h1:=congrArg List.length HQs.o;have h2:=(iZ (ps.map Pu.bq)).length_le;rw[List.length_map] at h1 h2;unfold Hid;omega
 have hql:qs.length<=10000:=by have:=HQl.o;omega
 clear HS2;go_loopw [16] (fun iv wr=> ∃ (i:Nat) (ms:List Nd),i<=qs.length/\iv = .int .i64 (i:Int)/\Hid (dS ms (L.length+i)/\cn ms=lP ((sq+1:Nat):Int) ((qs.map Pu.bq).take i) L/\Sat w0 (bE tb hr ms*(Pt b 113 (ef d s lg tb ((sq:Int)+1) mb nx false)*(Row 43 3 (.slice QA qs.length qc) qs.length (qs.flatMap fI)*(bT Tryz.prog 3 mb bP (iH sn)*F)))) wr)) (fun iv _=>qs.length - (intOf iv).toNat)
 case atStart=>exact⟨0,ns,by omega,rfl,HT.o,HE.o,HS3.o⟩
 case round=>
  obtain⟨i,ms,hi,rfl,HD⟩:=hrel;by_cases hlt:i<qs.length
  .obtain⟨lb,lo,hA,hq⟩:=gI HD.o.2.2.bp.cj (by omega);subst hA;obtain⟨y0,y1,y2⟩:=hq i hlt;have HRi:=ah (HB.o wr HD.o.2.2.right.right.right.right _ (HIn.o _ (List.getElem_mem hlt)));have HOi:=ah (HOk.o _ (HIn.o _ (List.getElem_mem hlt)));have HTk:Hid ((qs.map Pu.bq).take (i+1)=(qs.map Pu.bq).take i++[qs[i].bq]):=by
    unfold Hid;rw[List.take_add_one,List.getElem?_eq_getElem (by rw[List.length_map];exact hlt),List.getElem_map];rfl
   have HNew:Hid (∀ x ∈ cn ms,¬ iX x (uf ((sq+1:Nat):Int) qs[i].bq)):=fun x hx hsm=>by
    rw[HD.o.2.1] at hx;rcases mP.1 hx with h1 | ⟨p,hp,h1⟩
    .have h2:=HLt.o x h1;have h3:x.seq=((sq+1:Nat):Int):=hsm.2;omega
    .have h2:=fm (ps.map Pu.bq);rw[<-HQs.o, <-List.take_append_drop (i+1) (qs.map Pu.bq),HTk.o] at h2;have h3:=(List.pairwise_append.1 (List.pairwise_append.1 h2).1).2.2 p hp _ (List.mem_singleton_self _);have h4:x.key=qs[i].bq.key:=hsm.1;rw[h1] at h4;exact h3 h4
   have hii:(i:Int)<qs.length:=by omega
   clear hq;generalize qs[i]=x at*
   obtain⟨⟨kA,kc,kl⟩,⟨vA,vc,vl⟩,dd⟩:=x;replace y0:_=some (Value.slice kA kl.length kc):=y0;replace y1:_=some (Value.slice vA vl.length vc):=y1;replace y2:_=some (Value.bool dd):=y2;go_upto_region 4 with fail;have hs7:=HD.o.2.2.ab 43 #[.slice kA kl.length kc,.slice vA vl.length vc,.bool dd];obtain⟨W7,hW7⟩: ∃ W7,W7=wr.alloc (.cells #[.slice kA kl.length kc,.slice vA vl.length vc,.bool dd] 43):=⟨_,rfl⟩;rw[<-hW7] at hs7;rw[<-hW7];obtain⟨bx,hbx⟩: ∃ bx,bx=wr.heap.size:=⟨_,rfl⟩;rw[<-hbx] at hs7;rw[<-hbx];have HR7:Hid (Rd W7 kA kl/\Rd W7 vA vl):=by rw[hW7];exact⟨aF.alloc HRi.o.1 _,aF.alloc HRi.o.2 _⟩
   clear hW7 hbx y0 y1 y2;have c3:=hs7.bp.cell 3;have c4:=hs7.bp.cell 4;have x0:=hs7.cell 0;have x1:=hs7.cell 1;have x2:=hs7.cell 2;have HSr:=ah hs7;clear hs7;have HPu:Hid (∀ W H,ao No W7 W->Calls Tryz.prog 62 #[.pointer (some ⟨tb,0,none⟩),.agg #[.slice kA kl.length kc,.slice vA vl.length vc,.int .i64 ((sq:Int)+1),.bool dd],.int .i64 H] W fun x w'=> ∃ ns',x = .returned (.int .i64 0)/\dS ns' (L.length+(i+1))/\cn ns'=lP ((sq+1:Nat):Int) ((qs.map Pu.bq).take (i+1)) L/\Sat w0 (bE tb hr ns'*(Pt bx 43 #[.slice kA kl.length kc,.slice vA vl.length vc,.bool dd]*(Pt b 113 (ef d s lg tb ((sq:Int)+1) mb nx false)*(Row 43 3 (.slice (some ⟨lb,lo,none⟩) qs.length qc) qs.length (qs.flatMap fI)*(bT Tryz.prog 3 mb bP (iH sn)*F))))) w'):=fun W H hW=>by
    have hk:=HOi.o.key.2;have hv:=HOi.o.val;replace hk:kl.length<=128:=hk;replace hv:vl.length<=16384:=hv;have hnew:=HNew.o;rw[show ((sq+1:Nat):Int)=(sq:Int)+1 by omega] at hnew;refine(qf tb hr ms (L.length+i) H ⟨(kA,kc,kl),(vA,vc,vl),(sq:Int)+1,dd⟩ w0 W _ (HSr.o.new hW).ay HD.o.1 (by omega) ⟨HR7.o.1.new hW,HR7.o.2.new hW⟩ (by show kl.length<=200;omega) (by show vl.length<=20000;omega) (by show (sq:Int)+1<=eE;unfold eE;omega) hnew).mono ?_;rintro x w' ⟨ns',rfl,k1,k2,k3⟩;refine⟨ns',rfl,k1,?_,k3⟩;rw[k2,HTk.o,HD.o.2.1];unfold lP;rw[List.foldl_append];show _=jU _ _;rw[show ((sq+1:Nat):Int)=(sq:Int)+1 by omega];rfl
   have HH:=ah (fun W=>mg ((sq:Int)+1) (by omega) W);have HDrew:Hid (ao No W7 W7.drew):=(ao.refl No W7).drew;refine wp_region_held_drew (S:=fun w'=>w'.cell? ⟨b,3,none⟩=some (.pointer (some ⟨tb,0,none⟩))/\w'.cell? ⟨b,4,none⟩=some (.int .i64 ((sq:Int)+1))/\w'.cell? ⟨bx,0,none⟩=some (.slice kA kl.length kc)/\w'.cell? ⟨bx,1,none⟩=some (.slice vA vl.length vc)/\w'.cell? ⟨bx,2,none⟩=some (.bool dd)) (by kernel_rfl) ⟨(by exact c3),(by exact c4),x0,x1,x2⟩ ?_;intro hS0;refine an 0 1 2 3 ?_;refine an 4 5 6 7 ?_;refine an 8 9 10 11 ?_;refine an 12 13 14 15 ?_;refine cw 16 17 ?_;refine ca 18 ?_;refine bC 19 fun K hK=>?_
   go_simp;go_at_call 63;(with_reducible refine(HH.o _).mono ?_);rintro e wx ⟨⟨hh,rfl,hh1,hh2⟩,rfl⟩
   refine hK.out _ _ ⟨(by exact c3),(by exact c4),x0,x1,x2⟩ (fun hS0=>?_);clear hK K;refine bC 20 fun K hK=>?_
   go_simp;go_at_call 62;(with_reducible refine(HPu.o _ hh HDrew.o).mono ?_);rintro e w8 ⟨ns2,rfl,n1,n2,hs8⟩;have HN1:=ah n1;have HN2:=ah n2;have HS8:=ah hs8;clear n1 n2 hs8
   refine hK.out _ _ ⟨HS8.o.bp.cell 3,HS8.o.bp.cell 4,HS8.o.ay.cell 0,HS8.o.ay.cell 1,HS8.o.ay.cell 2⟩ (fun hS0=>?_);clear hK K;refine wpAnyH_done (by kernel_rfl) ?_ _;go_wp2_with fail;go_roundw
   .exact⟨i+1,ns2,by omega,by push_cast;rfl,HN1.o,HN2.o,HS8.o.ay.right⟩
   .simp[intOf];omega
  .have hie:i=qs.length:=by omega
   subst hie;have hend:=HD.o.2.1;rw[List.take_of_length_le (by rw[List.length_map];omega),HQs.o] at hend;have HDn:Hid (cn ms=fP sq (ps.map Pu.bq) L):=hend;have HTo:Hid (dS ms (fP sq (ps.map Pu.bq) L).length):=by have:=HD.o.1.own;rw[HDn.o] at this;exact this
   have HS9:Hid (Sat w0 (dG b d s ⟨lg,fP sq (ps.map Pu.bq) L,sq+1,sn,bP,nx⟩*F) wr):=by
    refine Sat.zX (tb:=tb) (hr:=hr) (mb:=mb) (ns:=ms) HTo.o HDn.o ?_;rw[eM];dsimp only;rw[show ((sq+1:Nat):Int)=(sq:Int)+1 by omega];exact(HD.o.2.2.of (show _=Row 43 3 (.slice QA qs.length qc) qs.length (qs.flatMap fI)*(Pt b 113 (ef d s lg tb ((sq:Int)+1) mb nx false)*(bE tb hr ms*(bT Tryz.prog 3 mb bP (iH sn)*F))) by ac_rfl)).right
   have HTh:=ah (CU b d s ⟨lg,fP sq (ps.map Pu.bq) L,sq+1,sn,bP,nx⟩ HS9.o (by
    show (fP sq (ps.map Pu.bq) L).length<=90000;unfold fP;rw[pN];have h2:=(iZ (ps.map Pu.bq)).length_le;rw[List.length_map] at h2;omega) (fun x hx=>by
    rcases mP.1 hx with h1 | ⟨p,hp,rfl⟩
    .have:=HZ.o x h1;omega
    .show 0<=((sq+1:Nat):Int)/\((sq+1:Nat):Int)<=1000000000;omega) hf)
   go_wp2_with (go_at_call 113;(with_reducible refine HTh.o.mono ?_);rintro e w4 ⟨rfl,qq,hq1,hs4⟩;have HQ4:=ah hq1;have HS4:=ah hs4;clear hq1 hs4);go_end0
   exact⟨rfl,qq,HQ4.o,HS4.o⟩
end
def FB (p:Kv):Nat:=p.1.length+p.2.length+40
def fK (M:List Kv):List UInt8->Option Value:=fun k=>(bI k M).map fun v=> .int .i64 ((k.length+v.length+40:Nat):Int)
theorem sU (k:List UInt8) (p:Kv): ∀ M:List Kv,bI k (M++[p])=match bI k M with | some v=>some v | none=>if p.1=k then some p.2 else none
 | []=>rfl
 | q::M=>by
  show (if q.1=k then some q.2 else bI k (M++[p]))=match (if q.1=k then some q.2 else bI k M) with | some v=>some v | none=>if p.1=k then some p.2 else none
  by_cases h:q.1=k
  .rw[if_pos h,if_pos h]
  .rw[if_neg h,if_neg h];exact sU k p M
theorem GH {M:List Kv} {p:Kv} (h: ∀ q ∈ M,q.1≠p.1):fK (M++[p])=kz (fK M) p.1 (some (.int .i64 ((p.1.length+p.2.length+40:Nat):Int))):=by
 funext k
 unfold fK kz;rw[sU];by_cases hk:k=p.1
 .rw[if_pos hk,hk,ft h];simp
 .rw[if_neg hk]
  cases hg:bI k M with
  | some v=>simp[hg]
  | none=>simp only[hg];rw[if_neg (fun e=>hk e.symm)]
theorem Jp {M:List Kv} (h:M.Pairwise mO) (c:cE):fK (dK c M)=if c.dead=true then kz (kz (fK M) c.key (some (.int .i64 ((c.key.length+c.value.length+40:Nat):Int)))) c.key none else kz (fK M) c.key (some (.int .i64 ((c.key.length+c.value.length+40:Nat):Int))):=by
 funext k
 unfold fK;rw[wY c h];unfold za;by_cases hk:c.key=k
 .subst hk
  cases hd:c.dead with
  | true=>simp[kz]
  | false=>simp[kz]
 .have hk2:¬ k=c.key:=fun e=>hk e.symm
  rw[if_neg hk]
  cases hd:c.dead with
  | true=>simp[kz,hk2]
  | false=>simp[kz,hk2]
def mz (left:Lit->Bool) (M:List Kv):Nat:=((M.filter fun p=> !left (.string p.1)).map FB).sum
theorem nk (left:Lit->Bool) (p:Kv) (M:List Kv):mz left (p::M)=(if left (.string p.1)=true then 0 else FB p)+mz left M:=by
 unfold mz;rw[List.filter_cons]
 cases left (.string p.1) with
 | true=>simp
 | false=>simp
theorem pP {left:Lit->Bool} {k v:List UInt8}: ∀ {M:List Kv},M.Pairwise mO->bI k M=some v->left (.string k)=true->mz (fun z=>left z && !z.sameKey (.string k)) M=mz left M+(k.length+v.length+40)
 | [],_,h,_=>by cases h
 | p::M,hp,h,hl=>by
  obtain⟨h1,h2⟩:=List.pairwise_cons.1 hp;rw[nk,nk];unfold bI at h;by_cases hk:p.1=k
  .rw[if_pos hk] at h;injection h with h
   have h3:mz (fun z=>left z && !z.sameKey (.string k)) M=mz left M:=by
    unfold mz;congr 2
    apply List.filter_congr;intro q hq;have hne:q.1≠k:=by rw[<-hk];exact(dz (h1 q hq)).symm
    have h4:(Lit.string q.1).sameKey (.string k)=false:=Maps.sameKey_ne (fun e=>hne (by injection e));simp[h4]
   rw[h3,hk];have h5:(left (.string k) && !(Lit.string k).sameKey (.string k))=false:=by rw[WideAt.sameKey_self (by simp[WideAt.IsKeyLit])];simp
   rw[h5,hl];simp only[Bool.false_eq_true,if_false,if_true];have h6:FB p=k.length+v.length+40:=by unfold FB;rw[hk,h]
   omega
  .rw[if_neg hk] at h;rw[pP h2 h hl];have h4:(Lit.string p.1).sameKey (.string k)=false:=Maps.sameKey_ne (fun e=>hk (by injection e));simp only[h4,Bool.not_false,Bool.and_true];omega
theorem Eo {left:Lit->Bool} (h: ∀ z,left z=false) (M:List Kv):mz left M=cI M:=by
 unfold mz cI;rw[List.filter_eq_self.2 (fun p _=>by rw[h];rfl)];rfl
theorem yk {D:DataW Value} {M:List Kv} (hM:M.Pairwise mO) (hs:lN D (fK M)):mz (Maps.has D) M=0:=by
 unfold mz;rw[List.filter_eq_nil_iff.2]
 .rfl
 .intro p hp h;have h1:Maps.has D (.string p.1)=false:=by simpa using h
  have h2:=Cn hs h1;have h3:bI p.1 M=some p.2:=by
   have: ∀ {M:List Kv},M.Pairwise mO->p ∈ M->bI p.1 M=some p.2:=by
    intro M
    induction M with
    | nil=>intro _ h;cases h
    | cons q M ih=>
     intro hM hp;obtain⟨h4,h5⟩:=List.pairwise_cons.1 hM;unfold bI;rcases List.mem_cons.1 hp with rfl | hp
     .rw[if_pos rfl]
     .rw[if_neg (dz (h4 p hp)),ih h5 hp]
   exact this hM hp
  unfold fK at h2;rw[h3] at h2
  cases h2
theorem AZ (left:Lit->Bool): ∀ M:List Kv,mz left M<=cI M
 | []=>Nat.le_refl _
 | p::M=>by
  have ih:=AZ left M;rw[nk];have h1:cI (p::M)=FB p+cI M:=by unfold cI;rw[List.map_cons,List.sum_cons];rfl
  rw[h1];split<;>omega
def ev (n:Nat) (M:List Kv) (cs:List cE):Bool:=decide (aC n*480<cI M+400) || decide (bj n<bh (aE cs).length)
theorem tM: ∀ {M:List Kv},(∀ p ∈ M,p.1.length<=200/\p.2.length<=20000)->cI M<=M.length*20240
 | [],_=>Nat.le_refl _
 | p::M,h=>by
  have ih:=tM fun q hq=>h q (List.mem_cons_of_mem _ hq)
  have h1:=h p List.mem_cons_self;unfold cI at ih ⊢;rw[List.map_cons,List.sum_cons,List.length_cons];omega
theorem Di {c:cE} {M:List Kv} {p:Kv} (h:p ∈ dK c M):p ∈ M\/p=(c.key,c.value):=by
 unfold dK at h;rcases List.mem_append.1 h with h | h
 .exact .inl ((List.takeWhile_sublist _).mem h)
 .rcases List.mem_append.1 h with h | h
  .split at h
   .cases h
   .exact .inr (List.mem_singleton.1 h)
  .have hd:=List.dropWhile_sublist (fun q:Kv=>decide (Lib.compareBytes q.1 c.key<0)) (l:=M);split at h
   .cases h
   .rename_i q T he;rw[he] at hd;split at h
    .exact .inl (hd.mem (List.mem_cons_of_mem _ h))
    .exact .inl (hd.mem h)
theorem vD (c:cE) (M:List Kv):(dK c M).length<=M.length+1:=by
 have e:=congrArg List.length (List.takeWhile_append_dropWhile (p:=fun q:Kv=>decide (Lib.compareBytes q.1 c.key<0)) (l:=M));unfold dK;rw[List.length_append] at e;rw[List.length_append,List.length_append];have h1:(if c.dead=true then ([]:List Kv) else [(c.key,c.value)]).length<=1:=by split<;>simp
 cases hd:M.dropWhile (fun q:Kv=>decide (Lib.compareBytes q.1 c.key<0)) with
 | nil=>
  rw[hd] at e;simp only[List.length_nil] at e ⊢;omega
 | cons q T=>
  rw[hd,List.length_cons] at e;simp only;have h2:(if q.1=c.key then T else q::T).length<=T.length+1:=by split<;>simp
  omega
theorem pZ: ∀ {cs:List cE} {M:List Kv},(∀ c ∈ cs,iq c)->(∀ p ∈ M,p.1.length<=200/\p.2.length<=20000)->(∀ p ∈ aZ cs M,p.1.length<=200/\p.2.length<=20000)/\(aZ cs M).length<=M.length+cs.length
 | [],M,_,h=>⟨h,Nat.le_refl _⟩
 | c::cs,M,hc,h=>by
  have hcc:=hc c List.mem_cons_self;obtain⟨h1,h2⟩:=pZ (cs:=cs) (M:=dK c M) (fun x hx=>hc x (List.mem_cons_of_mem _ hx)) fun p hp=>by
   rcases Di hp with hp | rfl
   .exact h p hp
   .have:=hcc.key;have:=hcc.val;exact⟨by show c.key.length<=200;omega,by show c.value.length<=20000;omega⟩
  refine⟨h1,?_⟩;have:=vD c M;rw[List.length_cons];show (aZ cs (dK c M)).length<=_;omega
def D6 (v:Sd) (olds:Int->Option (List Kv)) (j:Int):Prop:=
 (v.snaps j=none/\olds j=none)\/ ∃ q Mo,v.snaps j=some q/\olds j=some Mo/\q<=v.seq/\Mo.Pairwise mO/\ ∀ k,dX k (q:Int) v.L=bI k Mo
structure Bq (n t k:Nat) (D:Dk) (S:aK) (v:Sd) (M:List Kv) (olds:Int->Option (List Kv)):Prop where
 F7: ∃ sf lim i E bs,EL n D S sf lim i E bs bs.length false/\v.log=i+1/\oT n t v.seq E bs/\iC E bs=M/\lim<=4*k+8/\i<=2*k+2
 mem:cG v.L v.seq M t
 snaps: ∀ j,D6 v olds j
 cnt:dq D (20000*k+100)
 bP:v.seq<=k/\v.bP<=k/\v.next<=k+1
def Cz (n t k:Nat) (D:Dk) (S:aK) (Ms:List (List Kv)):Prop:=
 ∃ sf lim i E bs x,EL n D S sf lim i E bs bs.length x/\oT n t k E bs/\iC E bs ∈ Ms/\lim<=4*k+8/\i<=2*k+2/\dq D (20000*k+100)
def wO (n t k:Nat) (D:Dk) (Ms:List (List Kv)):Prop:=dq D (20000*k+100)/\ ∀ keep torn bytes,
 ∃ S',cJ (D.bZ keep torn bytes)=(some S',0)/\Cz n t k (D.bZ keep torn bytes) S' Ms
section
variable {n t k:Nat} {D D':Dk} {S:aK} {v:Sd} {M:List Kv} {olds:Int->Option (List Kv)} {sf:Nat->Nat} {lim i:Nat} {E E':List aq} {bs:List (List cE)} {cs:List cE} {x:Bool}
theorem oT.snoc (h:oT n t k E bs) (hc:nO cs) (hs:cI (aZ cs (iC E bs))+400<=aC n*480):oT n (t+cs.length) (k+1) E (bs++[cs]):=by
 refine⟨h.uL,fun c hcc=>?_,?_,by rw[lE];exact hs,fun x hx=>?_,?_⟩
 .rcases List.mem_append.1 hcc with h1 | h1
  .exact h.bats c h1
  .rw[List.mem_singleton] at h1;subst h1;exact hc
 .have:=h.bP;rw[List.map_append,List.sum_append];simp only[List.map_cons,List.map_nil,List.sum_cons,List.sum_nil];omega
 .have:=h.seqs x hx;rw[List.length_append,List.length_singleton];omega
 .have:=h.bl;rw[List.length_append,List.length_singleton];omega
theorem oT.fresh {q:Nat} {L:List aq} (hm:cG L q M t) (hs:cI M+400<=aC n*480):oT n t q (cR L) []:=by
 obtain⟨h1,h2,h3,h4⟩:=hm.uL;exact⟨h1,fun c hc=>(by cases hc),by simpa using h3,by show cI ((cR L).map cZ)+400<=_;rw[h2];exact hs,fun x hx=>by have:=h4 x hx;simpa using this,Nat.zero_le _⟩
theorem iP {q:Nat} {L:List aq} (hm:cG L q M t):iC (cR L) []=M:=hm.uL.2.1
theorem D6.done {qs:List Int} (hm:cG v.L v.seq M t) (hc: ∀ p ∈ cs,iq p) (hq:v.seq+1<=1000000000) (hp: ∀ j q,v.snaps j=some q->(q:Int) ∈ qs) {lg:Nat} {j:Int} (h:D6 v olds j):
 D6 { v with log:=lg,L:=dY qs (fP v.seq cs v.L),seq:=v.seq+1 } olds j:=by
 rcases h with h1 | ⟨q,Mo,h1,h2,h3,h4,h5⟩
 .exact .inl h1
 .refine .inr ⟨q,Mo,h1,h2,Nat.le_succ_of_le h3,h4,fun ky=>?_⟩;show dX ky (q:Int) (dY qs (fP v.seq cs v.L))=_;rw[(hm.done hc hq).kept (hp j q h1),hm.then cs (by omega),h5]
theorem gC.JP {safe:Nat} (h:gC n D lim i E bs safe) (hl:lim<=4*k+8) (hi:i<=2*k+2) (hc: ∀ m,safe<=m->m<=bs.length->oT n t k E (bs.take m)) {Ms:List (List Kv)} (hM: ∀ m,safe<=m->m<=bs.length->iC E (bs.take m) ∈ Ms) (hn:dq D (20000*k+100)):wO n t k D Ms:=⟨hn,fun keep torn bytes=>by
 obtain⟨S',h1,m,h2,h3,sf',x,h4⟩:=h keep torn bytes;refine⟨S',h1,sf',lim,i,E,bs.take m,x,?_,hc m h2 h3,hM m h2 h3,hl,hi,hn.bZ⟩;have hl:(bs.take m).length=m:=by rw[List.length_take];omega
 rw[hl];exact h4⟩
theorem Eb.JP (h:Eb n D lim i E E' bs) (hl:lim<=4*k+8) (hi:i+2<=2*k+2) (hc1:oT n t k E bs) (hc2:oT n t k E' []) (h1:iC E bs=M) (h2:iC E' []=M) (hn:dq D (20000*k+100)) {Ms:List (List Kv)} (hM:M ∈ Ms):wO n t k D Ms:=⟨hn,fun keep torn bytes=>by
 obtain⟨S',o,sf',h3 | h3⟩:=h keep torn bytes
 .obtain⟨x,h3⟩:=h3;exact⟨S',o,sf',lim,i,E,bs,x,h3,hc1,by rw[h1];exact hM,hl,by omega,hn.bZ⟩
 .exact⟨S',o,sf',lim,i+2,E',[],false,h3,hc2,by rw[h2];exact hM,hl,hi,hn.bZ⟩⟩
end
section
variable {n t k:Nat} {D D':Dk} {S S':aK} {v:Sd} {M:List Kv} {olds:Int->Option (List Kv)} {sf:Nat->Nat} {lim i slot turn:Nat} {lo:Bool} {a b:Nat × Nat} {LF:List (List UInt8)} {E E':List aq} {bs:List (List cE)} {cs:List cE} {x:Bool} {qs:List Int}
structure Fg (n t k:Nat) (v:Sd) (M:List Kv) (olds:Int->Option (List Kv)) (cs:List cE):Prop where
 mem:cG v.L v.seq M t
 snaps: ∀ j,D6 v olds j
 bP:v.seq<=k/\v.bP<=k/\v.next<=k+1
 kk:k<=100000
 bat:nO cs
 siz:cI (aZ cs M)+400<=aC n*480
 log:bh (aE cs).length<=bj n
theorem AD (hp:Fg n t k v M olds cs) (hd:iI n D slot turn lo a b LF none sf lim i E (bs++[cs]) bs.length) (hcon:oT n t v.seq E bs) (hmap:iC E bs=M) (hl:lim<=4*(k+1)+8) (hi:i<=2*(k+1)+2) (hc:dq D (20000*(k+1)+100)) (hq:sE v.snaps v.bP qs):
 Bq n (t+cs.length) (k+1) D.flush.1 (bU slot turn n i lo a b (aj (ae E)) LF none) { v with log:=i+1,L:=dY qs (fP v.seq cs v.L),seq:=v.seq+1 } (aZ cs M) olds:=by
 obtain⟨h1,h2⟩:=hd.sync;have hk:=hp.kk;have hf:=hp.bP;refine⟨⟨_,lim,i,E,bs++[cs],h2.F7,rfl,hcon.snoc hp.bat (by rw[hmap];exact hp.siz),by rw[lE,hmap],hl,hi⟩,(hp.mem.done hp.bat.each (by omega)).tidy qs,fun j=>?_,hc.flush hd.good.fils.off,?_⟩
 .exact(hp.snaps j).done hp.mem hp.bat.each (by omega) (fun j q hjq=>(hq.1 _).2 ⟨j,q,hjq,rfl⟩)
 .show v.seq+1<=k+1/\v.bP<=k+1/\v.next<=k+1+1;omega
theorem AU (hp:Fg n t k v M olds cs) (h:gC n D' (lim+1) i E (bs++[cs]) bs.length) (hcon:oT n t v.seq E bs) (hmap:iC E bs=M) (hs:cI M+400<=aC n*480) (hl:lim+1<=4*(k+1)+8) (hi:i<=2*(k+1)+2) (hc:dq D' (20000*(k+1)+100)):
 wO n (t+cs.length) (k+1) D' [M,aZ cs M]:=by
 have hf:=hp.bP;have hlen:(bs++[cs]).length=bs.length+1:=by simp
 have htk: ∀ m,bs.length<=m->m<=(bs++[cs]).length->(bs++[cs]).take m=bs\/(bs++[cs]).take m=bs++[cs]:=fun m h1 h2=>by
  rw[hlen] at h2;by_cases hm:m=bs.length
  .left;rw[hm,List.take_left]
  .right;rw[List.take_of_length_le (by rw[hlen];omega)]
 have hc1:=hcon.mono (Nat.le_add_right t cs.length) (show v.seq<=k+1 by omega);have hc2:=(hcon.snoc hp.bat (by rw[hmap];exact hp.siz)).mono (Nat.le_refl _) (show v.seq+1<=k+1 by omega);refine h.JP hl hi (fun m h1 h2=>?_) (fun m h1 h2=>?_) hc
 .rcases htk m h1 h2 with h3 | h3<;>rw[h3]
  .exact hc1
  .exact hc2
 .rcases htk m h1 h2 with h3 | h3<;>rw[h3]
  .rw[hmap];exact List.mem_cons_self
  .rw[lE,hmap];exact List.mem_cons_of_mem _ (List.mem_singleton_self _)
theorem rW {L:List aq} {q:Nat} (hm:cG L q M t): ∀ p ∈ M,p.1.length<=200/\p.2.length<=20000:=fun p hp=>by
 obtain⟨h1,h2,h3,h4⟩:=hm.uL;rw[<-h2] at hp;obtain⟨e,he,rfl⟩:=List.mem_map.1 hp;have h5:=(h1.each e he).1.key;have h6:=(h1.each e he).1.val;exact⟨by show e.key.length<=200;omega,by show e.value.length<=20000;omega⟩
end
theorem nc {w:World} {A:Option Addr} {qs:List En} (h:aF w A (qs.flatMap cL)) (hn:0<qs.length): ∃ b o,A=some ⟨b,o,none⟩/\ ∀ i (hi:i<qs.length),
 w.cell? ⟨b,o+i*2,none⟩=some (aJ qs[i].key)/\w.cell? ⟨b,o+i*2+1,none⟩=some (aJ qs[i].value):=by
 obtain⟨b,o,rfl,_⟩:=aF.elem (f:=cL) (k:=2) (fun _=>rfl) (by decide) h hn;refine⟨b,o,rfl,fun i hi=>?_⟩;obtain⟨b',o',e,hc⟩:=aF.elem (f:=cL) (k:=2) (fun _=>rfl) (by decide) h hi;injection e with e
 injection e with e1 e2
 subst e1;subst e2;refine⟨by simpa [cL] using hc 0 (by decide),?_⟩;have:=hc 1 (by decide);rw[<-Nat.add_assoc] at this;simpa [cL] using this
section
variable {w0 w:World} {F:SP}
theorem GF (w:World):(Instr.makeMap 192 none).run Tryz.prog w = .ok (.map (some w.heap.size)) (w.alloc (.map #[] 0)):=by
 simp[Instr.makeMap]
abbrev It (mb n:Nat) (M:List Kv):SP:=jb Tryz.prog 9 mb n (fK M)
theorem Fw {M:List Kv} (h:M.Pairwise mO) {i:Nat} (hi:i<M.length): ∀ q ∈ M.take i,q.1≠M[i].1:=fun q hq=>by
 have h2:=h;rw[<-List.take_append_drop i M,List.drop_eq_getElem_cons hi] at h2;exact dz ((List.pairwise_append.1 h2).2.2 q hq _ List.mem_cons_self)
theorem GM (n:Nat) (b d s:Nat) (v:Sd) (A:Option Addr) (c:Nat) (ps:List Pu) (D:Dk) (M:List Kv) (h:Sat w0 (dG b d s v*(af d D*F)) w) (hn:64<=n/\n<=65536) (hD:D.cells.length=n) (hb: ∀ W,Sat w0 F W->aF W A (ps.flatMap fI)/\gZ W ps) (hok: ∀ p ∈ ps,iq p.bq)
 (hp:ps.length<=10000) (hL:v.L.length<=80000) (hM:eS v.seq v.L=M) (hMs:M.Pairwise mO) (hsz: ∀ p ∈ M,p.1.length<=200/\p.2.length<=20000):
 Calls Tryz.prog 69 #[.pointer (some ⟨b,0,none⟩),.slice A ps.length c] w fun x w'=>x = .returned (.bool (ev n (aZ (ps.map Pu.bq) M) (ps.map Pu.bq)))/\Sat w0 (dG b d s v*(af d D*F)) w':=by
 have hMl:M.length<=v.L.length:=by
  rw[<-hM];unfold eS;rw[List.length_map];exact(km _ _ _).length_le
 obtain⟨tb,hr,mb,ns,_,hs0⟩:=h.db;have c0:w.cell? ⟨b,0,none⟩=some (.pointer (some ⟨d,0,none⟩)):=(hs0.of (eM ..)).cell 0;have HBl:Hid (Calls Tryz.prog 51 #[.pointer (some ⟨d,0,none⟩)] w fun e w'=>e = .returned (.int .i64 (n:Int))/\w=w'):=by
  have h9:=gy d D w0 w _ h.ay;rw[hD] at h9;exact h9
 have HSz:=ah (fun W=>sD n hn W);have HSc:Hid (∀ W,Sat w0 (dG b d s v*(It w.heap.size 0 []*(af d D*F))) W->Calls Tryz.prog 24 #[.pointer (some ⟨b,0,none⟩),.slice none 0 0,.slice none 0 0,.int .i64 4611686018427387904] W (DQ w0 (dG b d s v*(It w.heap.size 0 []*(af d D*F))) M)):=fun W hW=>by
  have h9:=tU b d s v (none,0,[]) (none,0,[]) 4611686018427387904 (Rd.nil _ _) (Rd.nil _ _) hW (by omega);rw[zQ,hM,List.take_of_length_le (by show _<=4611686018427387904;omega)] at h9;exact h9
 have hmk:=GF w;have HM0:Hid (Sat w0 (dG b d s v*(It w.heap.size 0 []*(af d D*F))) (w.alloc (.map #[] 0))):=(h.uQ (P:= Tryz.prog) (k:= 9)).ay;obtain⟨mp,hmp⟩: ∃ mp,mp=w.heap.size:=⟨_,rfl⟩;obtain⟨w1,hw1⟩: ∃ w1,w1=w.alloc (.map #[] 0):=⟨_,rfl⟩;rw[<-hmp, <-hw1] at HM0 hmk;rw[<-hmp] at HSc;have HMs:=ah hMs;have HSzM:=ah hsz;have HOk:=ah hok;have HMl:=ah hMl;have HB:Hid (∀ W,Sat w0 F W->aF W A (ps.flatMap fI)/\gZ W ps):=hb;have HOkC:Hid (∀ c ∈ ps.map Pu.bq,iq c):=fun c hc=>by obtain⟨p,hp,rfl⟩:=List.mem_map.1 hc;exact hok p hp
 have HPS:=ah (pZ HOkC.o hsz);have HPss:Hid ((aZ (ps.map Pu.bq) M).Pairwise mO):=fX _ hMs;clear h hs0 hM hMs hsz hok hb hmp hw1 hMl hD;have HC0:=ah c0;clear c0;have c0:=HC0.o;have HKs:Hid (∀ W (A:Option Addr) (c:Nat) (l:List UInt8),Rd W A l->(convert 41 9 (.slice A l.length c)).run Tryz.prog W = .ok (vK l) W):=fun W A c l hr=>dy hr c
 go_enter Tryz.func69, Tryz.ntmps69;go_wp2_with (first
  | (go_at_call 51;(with_reducible refine HBl.o.mono ?_);rintro e wx ⟨rfl,rfl⟩)
  | (go_at_call 93;(with_reducible refine(HSz.o _).mono ?_);rintro e wx ⟨rfl,rfl⟩)
  | (go_at_call 24;(with_reducible refine(HSc.o _ HM0.o).mono ?_);rintro e w2 ⟨es,qs,B,cc,rfl,hin,hqs,hs2⟩;have HIn:=ah hin;have HQs:=ah hqs;have HS2:=ah (hs2.of (show _=It mp 0 []*(Row 65 2 (.slice B qs.length cc) qs.length (qs.flatMap cL)*(aT es*(dG b d s v*(af d D*F)))) by ac_rfl));clear hin hqs hs2))
 clear hmk HM0 HSc HBl HSz c0 HC0;have HQl:Hid (qs.length=M.length):=by unfold Hid;rw[<-HQs.o,List.length_map]
 have hql:qs.length<=80000:=by have:=HQl.o;have:=HMl.o;omega
 go_loopw [28] (fun iv wr=> ∃ i:Nat,i<=qs.length/\iv = .int .i64 (i:Int)/\Hid (Sat w0 (It mp i (M.take i)*(Row 65 2 (.slice B qs.length cc) qs.length (qs.flatMap cL)*(aT es*(dG b d s v*(af d D*F))))) wr)) (fun iv _=>qs.length - (intOf iv).toNat)
 case atStart=>exact⟨0,by omega,rfl,HS2.o⟩
 case round=>
  obtain⟨i,hi,rfl,HD⟩:=hrel;by_cases hlt:i<qs.length
  .obtain⟨lb,lo,hA,hq⟩:=nc HD.o.ay.cj (by omega);subst hA;obtain⟨y0,y1⟩:=hq i hlt;have HRi:=ah (fO HD.o.bp _ (HIn.o _ (List.getElem_mem hlt)));have hiM:i<M.length:=by have:=HQl.o;omega
   have HMi:Hid (M[i]=cZ qs[i].ak):=by
    unfold Hid;simp only[<-HQs.o,List.getElem_map]
   have HTk:Hid (M.take (i+1)=M.take i++[cZ qs[i].ak]):=by
    unfold Hid;rw[List.take_add_one,List.getElem?_eq_getElem hiM,HMi.o];rfl
   have HFr:Hid (∀ q ∈ M.take i,q.1≠(cZ qs[i].ak).1):=by have:=Fw HMs.o hiM;rw[HMi.o] at this;exact this
   have HLn:Hid ((cZ qs[i].ak).1.length<=200/\(cZ qs[i].ak).2.length<=20000):=by have:=HSzM.o _ (List.getElem_mem hiM);rw[HMi.o] at this;exact this
   have hii:(i:Int)<qs.length:=by omega
   clear hq hiM HMi;generalize qs[i]=x at*
   obtain⟨⟨kA,kc,kl⟩,⟨vA,vc,vl⟩,sq,dd⟩:=x;replace y0:_=some (Value.slice kA kl.length kc):=y0;replace y1:_=some (Value.slice vA vl.length vc):=y1;replace HTk:Hid (M.take (i+1)=M.take i++[(kl,vl)]):=HTk;replace HFr:Hid (∀ q ∈ M.take i,q.1≠kl):=HFr;obtain⟨hkl,hvl⟩:kl.length<=200/\vl.length<=20000:=HLn.o;go_upto_region 6 with fail;have hs2:=HD.o.ab 65 #[.slice kA kl.length kc,.slice vA vl.length vc];obtain⟨W4,hW4⟩: ∃ W4,W4=wr.alloc (.cells #[.slice kA kl.length kc,.slice vA vl.length vc] 65):=⟨_,rfl⟩;rw[<-hW4] at hs2;rw[<-hW4];have hst:=HKs.o W4 kA kc kl (by rw[hW4];exact HRi.o.1.alloc _);clear hW4 y0 y1;have x0:=hs2.cell 0;have x1:=hs2.cell 1;obtain⟨W5,hrun,hs5,_⟩:=hs2.ay.lQ (t:= 192) Tryz.underlying9 Tryz.underlying192 kl (by omega) (.int .i64 ((kl.length:Int)+vl.length+40)) (by unfold maxLen;omega);have HS5:=ah hs5.bo;clear hs2 hs5;go_wp2_with fail;go_roundw
   .refine⟨i+1,by omega,by push_cast;rfl,?_⟩;have h9:=GH (M:=M.take i) (p:=(kl,vl)) HFr.o;rw[show ((((kl,vl):Kv).1.length+((kl,vl):Kv).2.length+40:Nat):Int)=(kl.length:Int)+vl.length+40 by simp] at h9;show Sat w0 (jb Tryz.prog 9 mp (i+1) (fK (M.take (i+1)))*_) W5;rw[HTk.o,h9];exact HS5.o
   .simp[intOf];omega
  .have hie:i=M.length:=by have:=HQl.o;omega
   have HS3:Hid (Sat w0 (It mp M.length M*(dG b d s v*(af d D*F))) wr):=by
    have h9:=HD.o;rw[hie,List.take_length] at h9;exact h9.bo.bo
   have hml:M.length<=80000:=by have:=HMl.o;omega
   clear hie HD;go_wp2_with fail;go_loopw [47] (fun iv wr2=> ∃ i:Nat,i<=ps.length/\iv = .int .i64 (i:Int)/\Hid (Sat w0 (It mp (M.length+i) (aZ ((ps.map Pu.bq).take i) M)*(dG b d s v*(af d D*F))) wr2)) (fun iv _=>ps.length - (intOf iv).toNat)
   case atStart=>exact⟨0,by omega,rfl,HS3.o⟩
   case round=>
    obtain⟨i,hi,rfl,HD⟩:=hrel;by_cases hlt:i<ps.length
    .obtain⟨lb,lo,hA,hq⟩:=gI (HB.o wr HD.o.right.right.right).1 (by omega);obtain⟨y0,y1,y2⟩:=hq i hlt;have HRi:=ah ((HB.o wr HD.o.right.right.right).2 _ (List.getElem_mem hlt));have HOi:=ah (HOk.o _ (List.getElem_mem hlt));have HMm:=ah (List.getElem_mem hlt);have HPt:Hid (aZ ((ps.map Pu.bq).take (i+1)) M=dK ps[i].bq (aZ ((ps.map Pu.bq).take i) M)):=by
      unfold Hid;rw[List.take_add_one,List.getElem?_eq_getElem (by rw[List.length_map];exact hlt),List.getElem_map];unfold aZ;rw[List.foldl_append];rfl
     have HSo:Hid ((aZ ((ps.map Pu.bq).take i) M).Pairwise mO):=fX _ HMs.o;have hii:(i:Int)<ps.length:=by omega
     have HA:=ah hA;clear hq hA;generalize aZ ((ps.map Pu.bq).take i) M=N0 at*
     generalize ps[i]=x at*
     obtain⟨⟨kA,kc,kl⟩,⟨vA,vc,vl⟩,dd⟩:=x;replace y0:_=some (Value.slice kA kl.length kc):=y0;replace y1:_=some (Value.slice vA vl.length vc):=y1;replace y2:_=some (Value.bool dd):=y2;have hkl:kl.length<=128:=HOi.o.key.2;have hvl:vl.length<=16384:=HOi.o.val;rw[HA.o];go_upto_region 11 with fail;have hs2:=HD.o.ab 43 #[.slice kA kl.length kc,.slice vA vl.length vc,.bool dd];obtain⟨W4,hW4⟩: ∃ W4,W4=wr.alloc (.cells #[.slice kA kl.length kc,.slice vA vl.length vc,.bool dd] 43):=⟨_,rfl⟩;rw[<-hW4] at hs2;rw[<-hW4];have hr4:Rd W4 kA kl:=by rw[hW4];exact HRi.o.1.alloc _
     have hst:=HKs.o W4 kA kc kl hr4;obtain⟨bx,hbx⟩: ∃ bx,bx=wr.heap.size:=⟨_,rfl⟩;rw[<-hbx] at hs2;rw[<-hbx];clear hW4 hbx y0 y1 y2;have x0:=hs2.cell 0;have x1:=hs2.cell 1;obtain⟨W5,hrun,hs5,hch⟩:=hs2.ay.lQ (t:= 192) Tryz.underlying9 Tryz.underlying192 kl (by omega) (.int .i64 ((kl.length:Int)+vl.length+40)) (by unfold maxLen;omega);have z0:W5.cell? ⟨bx,0,none⟩=some (Value.slice kA kl.length kc):=hs5.ay.cell 0;have z2:W5.cell? ⟨bx,2,none⟩=some (Value.bool dd):=hs5.ay.cell 2;have HPk:=ah (Jp HSo.o (⟨kl,vl,dd⟩:cE))
     cases dd
     .have HS5:=ah hs5.bo;clear hs2 hs5 hch;go_wp2_with fail;go_roundw
      .refine⟨i+1,by omega,by push_cast;rfl,?_⟩;have h9:=HPk.o;rw[if_neg (by simp),show ((((⟨kl,vl,false⟩:cE).key.length+(⟨kl,vl,false⟩:cE).value.length+40:Nat)):Int)=(kl.length:Int)+vl.length+40 by simp] at h9;rw[HPt.o];show Sat w0 (jb Tryz.prog 9 mp (M.length+(i+1)) (fK (dK ⟨kl,vl,false⟩ N0))*_) W5;rw[h9];exact HS5.o
      .simp[intOf];omega
     .have hst5:=HKs.o W5 kA kc kl ((HB.o W5 hs5.right.right.right.right).2 _ HMm.o).1;obtain⟨W6,hrun2,hs6,_⟩:=hs5.BG (t:= 192) Tryz.underlying9 Tryz.underlying192 kl (by omega) 0;have HS5:=ah hs6.bo;clear hs2 hs5 hch hs6;go_wp2_with fail;go_roundw
      .refine⟨i+1,by omega,by push_cast;rfl,?_⟩;have h9:=HPk.o;rw[if_pos rfl,show ((((⟨kl,vl,true⟩:cE).key.length+(⟨kl,vl,true⟩:cE).value.length+40:Nat)):Int)=(kl.length:Int)+vl.length+40 by simp] at h9;rw[HPt.o];show Sat w0 (jb Tryz.prog 9 mp (M.length+(i+1)) (fK (dK ⟨kl,vl,true⟩ N0))*_) W6;rw[h9];exact HS5.o
      .simp[intOf];omega
    .have hie:i=ps.length:=by omega
     have HS4:Hid (Sat w0 (It mp (M.length+ps.length) (aZ (ps.map Pu.bq) M)*(dG b d s v*(af d D*F))) wr):=by
      have h9:=HD.o;rw[hie,List.take_of_length_le (by rw[List.length_map];omega)] at h9;exact h9
     clear hie HD;obtain⟨N,hN⟩: ∃ N,N=aZ (ps.map Pu.bq) M:=⟨_,rfl⟩;rw[<-hN] at HS4 HPS HPss;have HNn:=ah hN;have hsm:cI N<=2000000000:=by
      have h8:=tM HPS.o.1;have h9:=HPS.o.2;rw[List.length_map] at h9;omega
     have HSm:=ah hsm;have HLd:=ah (fun W (hW:Sat w0 F W)=>vS A c ps W (HB.o W hW).1 (HB.o W hW).2 (fun p hp=>⟨(HOk.o p hp).key.2,(HOk.o p hp).val⟩) (by omega));clear hN;obtain⟨ob,hob,Dm,hown,hsays⟩:=HS4.o.DP;have HOb:=ah hob;have HOwn:=ah hown;have HSays:=ah hsays;clear hob hown hsays HS4 hsm;go_wp2_with (at_range;refine wpList_range_own _ rfl _ 192 rfl 9 3 (Maps.string_keyed Tryz.underlying9) Tryz.underlying192 ct mp (M.length+ps.length) Dm rfl HOwn.o ?_;intro w6 hrg0 hg0 hs0);go_frame
     have HS6:=ah (HOb.o.xd hrg0 hg0 hs0);obtain⟨R,hR⟩: ∃ R,R=wr.heap.size:=⟨_,rfl⟩;rw[<-hR] at HS6;rw[<-hR];clear hrg0 hg0 hs0 hR;go_loopw [12] (fun nv wr3=> ∃ (left:Lit->Bool) (cnt m:Nat),nv = .int .i64 (m:Int)/\m<=2000000400/\Hid (m=400+mz left N/\Sat w0 (Gf Tryz.prog 9 mp R (M.length+ps.length) Dm left cnt*(dG b d s v*(af d D*F))) wr3)) (fun _ wr3=>wr3.rangeLeft mp R)
     case atStart=>exact⟨Maps.has Dm,Maps.size Dm,400,rfl,by omega,by rw[yk HPss.o HSays.o],HS6.o⟩
     case round=>
      obtain⟨left,cnt,m,rfl,hm,HD⟩:=hrel;have HG:=ah HD.o.2.rg;go_wp2_with (at_next;refine wpList_next_ranges _ rfl _ rfl 9 (Maps.string_keyed Tryz.underlying9) ct Value.string id (fun key kl hkey=>(by obtain⟨x,rfl,_⟩:=WideMaps.string_of_keyOf Tryz.underlying9 hkey;exact⟨x,rfl⟩)) (fun v y hv=>⟨v,rfl⟩) mp R (M.length+ps.length) Dm left cnt rfl HG.o ?_ ?_)
      .intro hc0 hl0;have HL0:=ah hl0;clear hc0 hl0;have HEn:Hid (m=400+cI N):=by have h9:=HD.o.1;rw[Eo HL0.o] at h9;exact h9
       have HS7:Hid (Sat w0 (dG b d s v*(af d D*F)) wr):=HD.o.2.right;have hib:=(jA hn.2).2.1;obtain⟨im,him⟩: ∃ im,im=aC n:=⟨_,rfl⟩;have HIm:=ah him;rw[<-him] at hib;rw[<-him];clear him HD;have HQc:Hid (ev n N (ps.map Pu.bq)=(decide (aC n*480<cI N+400) || decide (bj n<bh (aE (ps.map Pu.bq)).length))):=rfl;have HS8:=ah HS7.o.right.right;by_cases hfl:im*480<m
       .have hfl2:(im:Int)*480<m:=by omega
        have hres:ev n (aZ (ps.map Pu.bq) M) (ps.map Pu.bq)=true:=by
         rw[<-HNn.o,HQc.o, <-HIm.o,decide_eq_true (by have:=HEn.o;omega)];rfl
        have HRes:=ah hres;clear hfl hres;go_wp2_with fail;go_ret;refine⟨?_,HS7.o⟩;rw[HRes.o];rfl
       .have hfl2:¬ (im:Int)*480<m:=by omega
        have HLw:=ah (HLd.o wr HS8.o);obtain⟨bl,hbl⟩: ∃ bl,bl=aE (ps.map Pu.bq):=⟨_,rfl⟩;have HBl2:=ah hbl;rw[<-hbl] at HLw HQc;obtain⟨ln,hln⟩: ∃ ln,ln=bj n:=⟨_,rfl⟩;have HLn:=ah hln;rw[<-hln] at HQc;rw[<-hln];obtain⟨nd,hnd⟩: ∃ nd,nd=bh bl.length:=⟨_,rfl⟩;have HNd:=ah hnd;rw[<-hnd] at HQc;have HNeed:Hid (∀ W,bl.length<=9223372036854775807->Calls Tryz.prog 116 #[.int .i64 (bl.length:Int)] W fun e w'=>e = .returned (.int .i64 (nd:Int))/\W=w'):=fun W h=>by rw[hnd];exact ve bl.length W h
        have HBll:Hid (bl.length<=9223372036854775807):=by
         unfold Hid;rw[hbl];have: ∀ l:List cE,(∀ c ∈ l,iq c)->(aE l).length<=l.length*20000:=fun l=>by
          induction l with
          | nil=>intro _;exact Nat.le_refl _
          | cons p l ih=>
           intro h;have h1:=ih fun q hq=>h q (List.mem_cons_of_mem _ hq)
           have h2:=h p List.mem_cons_self;have h3:=h2.key;have h4:=h2.val;rw[gj,List.length_append,fL,List.length_cons];omega
         have h9:=this _ HOkC.o;rw[List.length_map] at h9;omega
        clear hbl hln hnd hfl;by_cases hnl:ln<nd
        .have hnl2:(ln:Int)<nd:=by omega
         have hres:ev n (aZ (ps.map Pu.bq) M) (ps.map Pu.bq)=true:=by
          rw[<-HNn.o,HQc.o,decide_eq_true hnl,Bool.or_true]
         have HRes:=ah hres;clear hnl hres;go_wp2_with (first
          | (go_at_call 71;(with_reducible refine HLw.o.mono ?_);rintro e w8 ⟨LB,ld,rfl,hs8⟩;have HS9:=ah (HS7.o.new hs8.aL);clear hs8)
          | (go_at_call 116;(with_reducible refine(HNeed.o _ HBll.o).mono ?_);rintro e wx ⟨rfl,rfl⟩))
         go_ret;refine⟨?_,HS9.o⟩;rw[HRes.o];rfl
        .have hnl2:¬ (ln:Int)<nd:=by omega
         have hres:ev n (aZ (ps.map Pu.bq) M) (ps.map Pu.bq)=false:=by
          rw[<-HNn.o,HQc.o,decide_eq_false hnl,Bool.or_false, <-HIm.o,decide_eq_false (by have:=HEn.o;omega)]
         have HNl:Hid (decide (ln<nd)=false):=decide_eq_false hnl;have HRes:=ah hres;clear hnl hres;go_wp2_with (first
          | (go_at_call 71;(with_reducible refine HLw.o.mono ?_);rintro e w8 ⟨LB,ld,rfl,hs8⟩;have HS9:=ah (HS7.o.new hs8.aL);clear hs8)
          | (go_at_call 116;(with_reducible refine(HNeed.o _ HBll.o).mono ?_);rintro e wx ⟨rfl,rfl⟩))
         go_ret;refine⟨?_,HS9.o⟩;rw[HRes.o];first | rfl | exact congrArg (fun q=>Ending.returned (.bool q)) HNl.o
      .intro x c1 kl y1 y2 w7 cnt' hkey hlk hv hat hrg' hlt hg hsz hen;obtain⟨x',ex,rfl,hwf⟩:=WideMaps.string_of_keyOf Tryz.underlying9 hkey;injection ex with ex
       subst ex;unfold ct at hv;injection hv with hv
       injection hv with hv1 hv2
       subst hv1;have hfx:fK N x.data.toList=some c1:=DO HSays.o (fun zd=>hat zd);obtain⟨vv,hv1,hv2⟩: ∃ vv,bI x.data.toList N=some vv/\ .int .i64 ((x.data.toList.length+vv.length+40:Nat):Int)=c1:=by
        unfold fK at hfx
        cases hf:bI x.data.toList N with
        | none=>rw[hf] at hfx;cases hfx
        | some vv=>rw[hf] at hfx;injection hfx with hfx;exact⟨vv,rfl,hfx⟩
       subst hv2;have hvis:=pP HPss.o hv1 hlk;obtain⟨z,hz⟩: ∃ z,z=x.data.toList.length+vv.length+40:=⟨_,rfl⟩;rw[<-hz] at hen hvis;have hle:=AZ (fun q=>left q && !q.sameKey (.string x.data.toList)) N;have hm2:m+z<=2000000400:=by have:=HD.o.1;have:=HSm.o;omega
       have HVis:=ah hvis;have HS7:=ah (HD.o.2.AJ hg hrg');have HLt:Hid (cnt'<cnt):=hlt;clear hkey hlk hat hrg' hlt hg hsz hwf hfx hv1 hz hvis hle;go_wp2_with fail;go_roundw
       case rel=>
        refine⟨fun q=>left q && !q.sameKey (.string x.data.toList),cnt',m+z,by push_cast;rfl,hm2,?_,HS7.o⟩;have h1:=HD.o.1;have h2:=HVis.o;omega
       case measure=>rw[HS7.o.rg.left_eq,HG.o.left_eq];exact HLt.o
end
theorem yU (L:List aq):12<=(aM L).length:=by
 unfold aM BN da fh;simp only[List.length_append,aw];omega
theorem yi (L:List aq):mE [] [] L=L:=by
 unfold mE;rw[List.filter_eq_self];intro x _;unfold IB;have:Op.bytesLess x.key []=false:=by rw[il];cases x.key<;>rfl
 rw[this];rfl
theorem yT {L:List aq} (h:L.Pairwise dE) (hs: ∀ x ∈ L,x.seq<=eE):oN [] [] L=L:=by rw[Ba h hs,yi]
structure Le (w:World) (E:List aq) (A:Option Addr) (c L0 m:Nat) (Q:Option Addr) (mc a:Nat) (B:Option Addr) (d:Nat) (wr:World):Prop where
 st:(m=L0/\Q=A/\mc=c/\a=0/\B=none/\d=0/\ao No w wr)\/(m=0/\ ∃ es:List En,a=es.length/\es.map En.ak=E/\Sat w (Row 120 4 (.slice B a d) a (es.flatMap bV)*aT es) wr)
theorem tP (A:Option Addr) (c:Nat) (E:List aq) (w:World) (hE:fC E) (hn:E.length<=60000) (h:Rd w A (ae E)) (hc:(ae E).length<=c) (hm:c<=maxLen):
 Calls Tryz.prog 60 #[.slice A (ae E).length c] w (lO w E):=by
 have hm2:=hm;unfold maxLen at hm2;obtain⟨i0,hi0,hz0,hz1,hz2⟩:=info_parts jy;have Hi0:=ah hi0;have Hz0:=ah hz0;have Hz1:=ah hz1;have Hz2:=ah hz2;obtain⟨L0,hL0⟩: ∃ L0,L0=(ae E).length:=⟨_,rfl⟩;have HSt:Hid (Le w E A c L0 L0 A c 0 none 0 w):=⟨.inl ⟨rfl,rfl,rfl,rfl,rfl,rfl,ao.refl _ _⟩⟩;have HR:Hid (Rd w A (ae E)):=h;have HL0:=ah hL0;have HIm:=ah hE;rw[<-hL0] at hc ⊢;have hL1:L0<=9223372036854775807:=by omega
 clear hi0 hz0 hz1 hz2 h hL0 hE;go_enter Tryz.func60, Tryz.ntmps60;go_wp2_with fail;go_loopw [0,3] (fun bvv ov wr=> ∃ (m mc a d:Nat) (Q B:Option Addr),m<=L0/\m<=mc/\mc<=9223372036854775807/\bvv = .slice Q m mc/\ov = .slice B a d/\Hid (Le w E A c L0 m Q mc a B d wr)) (fun bvv _ _=>lenOf bvv)
 case atStart=>exact⟨L0,c,0,0,A,none,by omega,hc,by omega,rfl,rfl,HSt.o⟩
 case round=>
  obtain⟨m,mc,a,d,Q,B,hm0,hmc,hmx,rfl,rfl,HU⟩:=hrel;have hfin:m=0->lO w E (.returned (.slice B a d)) wr:=fun h0=>by
   rcases HU.o.st with ⟨h1,rfl,rfl,rfl,rfl,rfl,k⟩ | ⟨_,es,h1,h2,h3⟩
   .have h4:E=[]:=by
     cases hE:E with
     | nil=>rfl
     | cons e L=>
      have h5:=HL0.o;rw[hE] at h5;unfold ae at h5;rw[List.length_append,aw] at h5;omega
    subst h4;refine⟨[],none,0,rfl,rfl,?_⟩;exact(((Sat.start w).new k).aN 120 4)
   .subst h1;exact⟨es,B,d,rfl,h2,h3⟩
  have HF:=ah hfin;clear hfin;by_cases h4:4<m
  .obtain⟨hmL,hQ,hmcc,ha,hB,hd,hk⟩:m=L0/\Q=A/\mc=c/\a=0/\B=none/\d=0/\ao No w wr:=by
    rcases HU.o.st with h1 | ⟨h1,_⟩
    .exact h1
    .omega
   subst hQ;subst hmcc;subst ha;subst hB;subst hd;have HK:=ah hk;obtain⟨e0,E0,hE⟩: ∃ e0 E0,E=e0::E0:=by
    cases hE:E with
    | nil=>
     have h5:=HL0.o;rw[hE] at h5;have h6:(ae []).length=0:=rfl;omega
    | cons e L=>exact⟨e,L,rfl⟩
   have hpk:ae E=ai (aM E).length 4++aM E:=by rw[hE];rfl
   have hbd:bR E=0:=HIm.o.build (by omega);have hsq:=HIm.o.seq;have hbl:=nH E fun e he=>⟨(HIm.o.each e he).1.key.2,(HIm.o.each e he).1.val⟩
   have hsE:oO E<=E.length*16512:=by
    have: ∀ l:List aq,(∀ e ∈ l,AO e)->oO l<=l.length*16512:=fun l=>by
     induction l with
     | nil=>intro _;exact Nat.le_refl _
     | cons e l ih=>
      intro h;have h1:=ih fun x hx=>h x (List.mem_cons_of_mem _ hx)
      have h2:=h e List.mem_cons_self;have h3:=h2.key;have h4:=h2.val;unfold oO at h1 ⊢;rw[List.map_cons,List.sum_cons,List.length_cons];omega
    exact this E fun e he=>(HIm.o.each e he).1
   have hmt:m=(aM E).length+4:=by
    have h5:=HL0.o;rw[hpk,List.length_append,aw] at h5;omega
   obtain⟨t,ht⟩: ∃ t,t=(aM E).length:=⟨_,rfl⟩;rw[<-ht] at hmt hbl;have hrd:Rd wr Q (ae E):=HR.o.new hk;rw[hpk, <-ht] at hrd;have h4l:(ai t 4).length=4:=aw _ _;obtain⟨g,o,rfl,_⟩:=hrd (by intro hq;have:=congrArg List.length hq;simp[aw] at this);have hget:=iD (some ⟨g,o,none⟩) mc (ai t 4) 4 h4l.symm t (GK (by omega)) wr (by have h9:=hrd.take 4;rwa [List.take_left' h4l] at h9) (by omega);have hrt:Rd wr (some ⟨g,o+4,none⟩) (aM E):=by
    have h9:=hrd.drop (k:=4) (cap:=mc) (by rw[List.length_append,h4l];omega) (by rw[List.length_append,h4l, <-ht];omega);rw[if_neg (by omega),List.drop_left' h4l,Option.map_some,Addr.add_lit] at h9;exact h9
   have HGet:=ah hget;have hm4:m - 4=t:=by omega
   have HOp:=ah (KG (some ⟨g,o+4,none⟩) (m - 4) (mc - 4) E hbd hsq wr (by omega) hrt (by omega) (by unfold maxLen;omega));have HEv:Hid (oN [] [] E=E):=yT HIm.o.Kt (fun x hx=>by have:=(HIm.o.each x hx).1.seq;unfold eE;omega);have hmn:min (4+(t:Int)) (m:Int)=m:=by omega
   have hw64:IntKind.i64.wrap (t:Int)=t:=by rw[IntKind.wrap_i64];omega
   have hmI:(4:Int)<m:=by omega
   have htb:t<=2000000000:=by omega
   have HMt:=ah hmt;have HTt:=ah ht;clear hmL hk hE hpk hbd hsq hbl hsE hmt ht hrd h4l hget hrt HU hm4;go_upto_region 4 with (go_at_call 105;(with_reducible refine HGet.o.mono ?_);rintro y wx ⟨rfl,rfl⟩)
   go_upto_region 6 with (go_at_call 106;(with_reducible refine HOp.o.mono ?_);rintro y w2 ⟨T,es,rfl,hes,htb,k2⟩;have HES:=ah hes;have HTb:=ah htb;have HK2:=ah (HK.o.tr k2);clear hes htb k2)
   have hrg:=yE (none,0,[]) (none,0,[]) T es w2 (Rd.nil _ _) (Rd.nil _ _) HTb.o;rw[HES.o] at hrg;dsimp only at hrg;rw[HEv.o] at hrg;have HRg:Hid (Calls Tryz.prog 107 #[.pointer (some ⟨T,0,none⟩),.slice none 0 0,.slice none 0 0] w2 (lO w2 E)):=hrg;clear hrg HOp HGet;go_wp2_with (first
    | (go_at_call 107;(with_reducible refine HRg.o.mono ?_);rintro y w3 ⟨fs,FA,fc,rfl,hfs,hs3⟩;have HFs:=ah hfs;have HFl:Hid (fs.length=E.length):=(by unfold Hid;rw[<-hfs,List.length_map]);have HS3:=ah ((((Sat.start w).new HK2.o).join hs3 (ba (bH _ _ _ _ _) (cN _))).aN 120 4);have hfe:fs.length<=60000:=(by have:=HFl.o;omega);clear hfs hs3)
    | (at_builtin;refine av rfl (.tmp 27) (.tmp 29) 116 rfl 120 i0 _ 4 64 Tryz.underlying116 Hi0.o Hz0.o Hz1.o Hz2.o rfl (by decide) (.slice none 0 0) 0 [] rfl w _ (by exact HS3.o) FA fs.length fc (fs.flatMap bV) rfl (by exact(HS3.o.right.of (aB _ _ _)).cj) (by exact qG fs) (by exact pd fs) (by unfold maxLen;omega) (by omega) ?_;intro A5 c5 w5 hs5;have HS5:=ah hs5;clear hs5))
   go_roundw
   .refine⟨0,mc - m,fs.length,c5,(if mc=m then some ⟨g,o,none⟩ else some ⟨g,o+m,none⟩),A5,by omega,by omega,by omega,by simp,by simp,⟨.inr ⟨rfl,fs,rfl,HFs.o,?_⟩⟩⟩;have h1:=HS5.o;rw[List.nil_append,Nat.zero_add] at h1;have h2:=h1.of (show _=(Row 120 4 (.slice FA fs.length fc) fs.length (fs.flatMap bV)*bF)*(Row 120 4 (.slice A5 fs.length c5) fs.length (fs.flatMap bV)*aT fs) by ac_rfl);exact h2.right
   .simp[lenOf];omega
  .have h4':¬ (4:Int)<m:=by omega
   have hmz:m=0:=by
    rcases HU.o.st with ⟨h1,rfl,rfl,rfl,rfl,rfl,k⟩ | ⟨h1,_⟩
    .have h5:=HL0.o
     cases hE:E with
     | nil=>rw[hE] at h5;have h6:(ae []).length=0:=rfl;omega
     | cons e L=>
      rw[hE] at h5;unfold ae at h5;rw[List.length_append,aw] at h5;have:=yU (e::L);omega
    .exact h1
   have HFz:=ah (HF.o hmz);clear hmz;go_wp2_with fail;go_ret;exact HFz.o
def aY (es:List En):List Kv:=es.map fun q=>cZ q.ak
theorem bX (es:List En):(aY es).length=es.length:=by unfold aY;rw[List.length_map]
theorem ko {qs:List En} {i:Nat} (hi:i<qs.length):(aY qs).take (i+1)=(aY qs).take i++[(qs[i].key.2.2,qs[i].value.2.2)]:=by
 unfold aY;rw[List.take_add_one,List.getElem?_eq_getElem (by rw[List.length_map];exact hi),List.getElem_map];rfl
theorem DH {es fs:List En} {i:Nat} (ha:i<es.length) (hb:i<fs.length) (h:(es[i].key.2.2,es[i].value.2.2)≠(fs[i].key.2.2,fs[i].value.2.2)):aY es≠aY fs:=fun e=>by
 apply h;have h1:=congrArg (fun l=>l[i]?) e;unfold aY at h1;simp only[List.getElem?_map,List.getElem?_eq_getElem ha,List.getElem?_eq_getElem hb,Option.map_some,Option.some.injEq] at h1;exact h1
section
variable {w0 w:World} {F:SP}
theorem CY (A B:Option Addr) (c d:Nat) (es fs:List En) (w:World) (h1:aF w A (es.flatMap cL)) (r1:jG w es) (h2:aF w B (fs.flatMap cL)) (r2:jG w fs) (hn:es.length<=1000000):
 Calls Tryz.prog 23 #[.slice A es.length c,.slice B fs.length d] w fun x w'=>x = .returned (.bool (decide (aY es=aY fs)))/\ao No w w':=by
 have H1:=ah h1;have H2:=ah h2;have R1:=ah r1;have R2:=ah r2;clear h1 h2 r1 r2;by_cases hl:es.length=fs.length
 case neg=>
  have hD:decide (aY es=aY fs)=false:=decide_eq_false fun e=>hl (by have:=congrArg List.length e;rw[bX,bX] at this;exact this)
  rw[hD];have hne:((es.length:Int) !=fs.length)=true:=by rw[bne_iff_ne];omega
  clear hD hl;go_enter Tryz.func23, Tryz.ntmps23;go_wp2_with fail;go_ret;exact⟨rfl,ao.refl _ _⟩
 case pos=>
  obtain⟨n,hN⟩: ∃ n,n=es.length:=⟨_,rfl⟩;have HNa:Hid (es.length=n):=hN.symm;have HNb:Hid (fs.length=n):=by unfold Hid;omega
  rw[<-hl, <-hN];rw[<-hN] at hn;clear hN hl;go_enter Tryz.func23, Tryz.ntmps23;go_wp2_with fail;go_loopw [5] (fun iv wr=> ∃ (i:Nat),i<=n/\iv = .int .i64 (i:Int)/\Hid ((aY es).take i=(aY fs).take i/\ao No w wr)) (fun iv _=>n - (intOf iv).toNat)
  case atStart=>exact⟨0,by omega,rfl,rfl,ao.refl _ _⟩
  case round=>
   obtain⟨i,hi,rfl,HD⟩:=hrel;by_cases hlt:i<n
   .have hia:i<es.length:=by rw[HNa.o];exact hlt
    have hib:i<fs.length:=by rw[HNb.o];exact hlt
    obtain⟨la,oa,rfl,hqa⟩:=nc (H1.o.new HD.o.2) (by omega);obtain⟨lb,ob,rfl,hqb⟩:=nc (H2.o.new HD.o.2) (by omega);obtain⟨y0,y1⟩:=hqa i hia;obtain⟨z0,z1⟩:=hqb i hib;have ra:=R1.o _ (List.getElem_mem hia);have rb:=R2.o _ (List.getElem_mem hib);have ta:=ko hia;have tb:=ko hib;have tn:=fun h=>DH (es:=es) (fs:=fs) hia hib h
    generalize es[i]=p at*
    generalize fs[i]=q at*
    obtain⟨⟨kA,kc,kl⟩,⟨vA,vc,vl⟩,eq1,dd1⟩:=p;obtain⟨⟨kB,lc,ml⟩,⟨vB,uc,ul⟩,eq2,dd2⟩:=q;replace y0:_=some (Value.slice kA kl.length kc):=y0;replace y1:_=some (Value.slice vA vl.length vc):=y1;replace z0:_=some (Value.slice kB ml.length lc):=z0;replace z1:_=some (Value.slice vB ul.length uc):=z1;dsimp only at ta tb tn;have hk:=HD.o.2.drew;obtain⟨SA,SB,B1,e1,e2,e3,e4⟩:=oU kl ml;obtain⟨TA,TB,C1,g1,g2,g3,g4⟩:=oU vl ul;have s1:=dy (ra.1.new hk) kc;have s2:=dy (rb.1.new hk) lc;have s3:=dy (ra.2.new hk) vc;have s4:=dy (rb.2.new hk) uc;dsimp only at s1 s2 s3 s4;rw[<-e1] at s1;rw[<-e2] at s2;rw[<-g1] at s3;rw[<-g2] at s4;have Y0:=ah y0;have Y1:=ah y1;have Z0:=ah z0;have Z1:=ah z1;have S1:=ah s1;have S2:=ah s2;have S3:=ah s3;have S4:=ah s4;have TAk:=ah ta;have TBk:=ah tb;have TN:=ah tn;have E4:=ah e4;have G4:=ah g4;have hii:(i:Int)<n:=by omega
    clear hqa hqb ra rb ta tb tn hk e1 e2 e4 g1 g2 g4 y0 y1 z0 z1 s1 s2 s3 s4 hia hib
    cases B1
    .go_upto_region 6 with fail;refine wp_region_held_drew (S:=fun w'=>w'.cell? ⟨la,oa+i*2,none⟩=some (.slice kA kl.length kc)/\w'.cell? ⟨la,oa+i*2+1,none⟩=some (.slice vA vl.length vc)/\w'.cell? ⟨lb,ob+i*2,none⟩=some (.slice kB ml.length lc)/\w'.cell? ⟨lb,ob+i*2+1,none⟩=some (.slice vB ul.length uc)/\(convert 41 9 (.slice kA kl.length kc)).run Tryz.prog w' = .ok (.string SA) w'/\(convert 41 9 (.slice kB ml.length lc)).run Tryz.prog w' = .ok (.string SB) w'/\(convert 41 9 (.slice vA vl.length vc)).run Tryz.prog w' = .ok (.string TA) w'/\(convert 41 9 (.slice vB ul.length uc)).run Tryz.prog w' = .ok (.string TB) w') (by kernel_rfl) ⟨(by exact Y0.o),(by exact Y1.o),(by exact Z0.o),(by exact Z1.o),S1.o,S2.o,S3.o,S4.o⟩ ?_;intro hS0;refine an 0 1 2 3 ?_;refine an 4 5 6 7 ?_;refine an 8 9 10 11 ?_;refine cw 12 13 ?_;refine cg 14 ?_;refine cg 15 ?_;refine cg 16 ?_;refine cg 17 ?_;refine cg 18 ?_;refine cg 19 ?_;refine cg 20 ?_;refine cg 21 ?_;refine cg 22 ?_;refine cg 23 ?_;refine cg 24 ?_;refine cg 25 ?_;refine cg 26 ?_;refine ca 27 ?_;refine wpAnyH_done (by kernel_rfl) ?_ _;go_wp2_with fail;go_ret;refine⟨?_,HD.o.2.drew⟩;rw[decide_eq_false (TN.o fun e=>by injection e with e5 e6;have:=E4.o;rw[decide_eq_true e5] at this;cases this)];rfl
    .cases C1
     .go_upto_region 6 with fail;refine wp_region_held_drew (S:=fun w'=>w'.cell? ⟨la,oa+i*2,none⟩=some (.slice kA kl.length kc)/\w'.cell? ⟨la,oa+i*2+1,none⟩=some (.slice vA vl.length vc)/\w'.cell? ⟨lb,ob+i*2,none⟩=some (.slice kB ml.length lc)/\w'.cell? ⟨lb,ob+i*2+1,none⟩=some (.slice vB ul.length uc)/\(convert 41 9 (.slice kA kl.length kc)).run Tryz.prog w' = .ok (.string SA) w'/\(convert 41 9 (.slice kB ml.length lc)).run Tryz.prog w' = .ok (.string SB) w'/\(convert 41 9 (.slice vA vl.length vc)).run Tryz.prog w' = .ok (.string TA) w'/\(convert 41 9 (.slice vB ul.length uc)).run Tryz.prog w' = .ok (.string TB) w') (by kernel_rfl) ⟨(by exact Y0.o),(by exact Y1.o),(by exact Z0.o),(by exact Z1.o),S1.o,S2.o,S3.o,S4.o⟩ ?_;intro hS0;refine an 0 1 2 3 ?_;refine an 4 5 6 7 ?_;refine an 8 9 10 11 ?_;refine an 12 13 14 15 ?_;refine an 16 17 18 19 ?_;refine an 20 21 22 23 ?_;refine an 24 25 26 27 ?_;refine wpAnyH_done (by kernel_rfl) ?_ _;go_wp2_with fail;go_ret;refine⟨?_,HD.o.2.drew⟩;rw[decide_eq_false (TN.o fun e=>by injection e with e5 e6;have:=G4.o;rw[decide_eq_true e6] at this;cases this)];rfl
     .go_upto_region 6 with fail;refine wp_region_held_drew (S:=fun w'=>w'.cell? ⟨la,oa+i*2,none⟩=some (.slice kA kl.length kc)/\w'.cell? ⟨la,oa+i*2+1,none⟩=some (.slice vA vl.length vc)/\w'.cell? ⟨lb,ob+i*2,none⟩=some (.slice kB ml.length lc)/\w'.cell? ⟨lb,ob+i*2+1,none⟩=some (.slice vB ul.length uc)/\(convert 41 9 (.slice kA kl.length kc)).run Tryz.prog w' = .ok (.string SA) w'/\(convert 41 9 (.slice kB ml.length lc)).run Tryz.prog w' = .ok (.string SB) w'/\(convert 41 9 (.slice vA vl.length vc)).run Tryz.prog w' = .ok (.string TA) w'/\(convert 41 9 (.slice vB ul.length uc)).run Tryz.prog w' = .ok (.string TB) w') (by kernel_rfl) ⟨(by exact Y0.o),(by exact Y1.o),(by exact Z0.o),(by exact Z1.o),S1.o,S2.o,S3.o,S4.o⟩ ?_;intro hS0;refine an 0 1 2 3 ?_;refine an 4 5 6 7 ?_;refine an 8 9 10 11 ?_;refine an 12 13 14 15 ?_;refine an 16 17 18 19 ?_;refine an 20 21 22 23 ?_;refine an 24 25 26 27 ?_;refine wpAnyH_done (by kernel_rfl) ?_ _;go_wp2_with fail;go_roundw
      .refine⟨i+1,by omega,by push_cast;rfl,?_,HD.o.2.drew⟩;rw[TAk.o,TBk.o,HD.o.1,of_decide_eq_true E4.o.symm,of_decide_eq_true G4.o.symm]
      .simp[intOf];omega
   .have hie:i=n:=by omega
    subst hie;have HE:Hid (decide (aY es=aY fs)=true):=by
     have h1:=HD.o.1;rw[List.take_of_length_le (by rw[bX,HNa.o];omega),List.take_of_length_le (by rw[bX,HNb.o];omega)] at h1;exact decide_eq_true h1
    go_wp2_with fail;go_ret;exact⟨by rw[HE.o];rfl,HD.o.2⟩
end
end Go.Proofs.YtmbaiglpgaoogaaGreat
