/- Joined, as they were built one by one: StpG Sto10 StpF StpH StpI Sto12 Sto15. -/
import Derived.Test.YtmbaiglpgaoogaaGreatS10
import Derived.Test.YtmbaiglpgaoogaaGreatS14
import Derived.Test.YtmbaiglpgaoogaaGreatS24
import Derived.Test.YtmbaiglpgaoogaaGreatS25
import Derived.Test.YtmbaiglpgaoogaaGreatS28
import Derived.Test.YtmbaiglpgaoogaaGreatS29
import Derived.Test.YtmbaiglpgaoogaaGreatS31
namespace Go.Proofs.YtmbaiglpgaoogaaGreat
open Go.RowKit
set_option linter.unusedVariables false
set_option maxRecDepth 100000
section
variable {n:Nat} {D D':Dk} {slot turn:Nat} {lo:Bool} {a b:Nat × Nat} {LF:List (List UInt8)} {y:Xf} {sf:Nat→Nat} {lim i:Nat} {E E':List Ent} {bs:List (List Chn)} {safe:Nat} {S:Spc} {cs:List Chn} {x:Bool}
def CrEi (n:Nat) (D:Dk) (lim i:Nat) (E E':List Ent) (bs:List (List Chn)):Prop:= ∀ keep torn bytes,
 ∃ S',openX (D.crash keep torn bytes)=(some S',0)∧ ∃ sf',((∃ x,Dsk n (D.crash keep torn bytes) S' sf' lim i E bs bs.length x)∨Dsk n (D.crash keep torn bytes) S' sf' lim (i+2) E' [] 0 false)
theorem CrOut.ei (h:CrOut n D lim i E bs bs.length) (E':List Ent):CrEi n D lim i E E' bs:=fun keep torn bytes=>by
 obtain⟨S',e,m,m1,m2,sf',x,h1⟩:=h keep torn bytes;have hm:m=bs.length:=by omega
 subst hm;rw[List.take_length] at h1;exact⟨S',e,sf',.inl ⟨x,h1⟩⟩
inductive FilR (n:Nat) (D:Dk) (slot turn:Nat) (lo:Bool) (a b:Nat × Nat) (LF:List (List UInt8)) (u v:Nat) (lim i:Nat) (E:List Ent) (bs:List (List Chn)) (ps:List (List UInt8)) (r:Spc × Dk × Int):Prop where
 | ok (D':Dk) (sf':Nat→Nat) (e:r=(stS slot turn n i lo a b (cutsB (packB E)) LF (some (u,v,ps)),D',0)) (h:Dsx n D' slot turn lo a b LF (some (u,v,ps)) sf' lim i E bs bs.length) (hs:ps.length≤sf' (i+2)) (c: ∀ m,Cnt D m→Cnt D' (m+ps.length)) (r:D'.armed≤D.armed)
 | off (ha:D.armed≠0) (S':Spc) (D':Dk) (e:r=(S',D',21)) (o:D'.off=true) (h:CrOut n D' (lim+1) i E bs bs.length) (c: ∀ m,Cnt D m→Cnt D' (m+ps.length)) (l:D'.cells.length=n)
theorem Dsx.fil {u v:Nat} (h:Dsx n D slot turn lo a b LF (some (u,v,[])) sf lim i E bs bs.length) (hlim:lim+1≤1000000000) {ps:List (List UInt8)} (hp: ∀ p ∈ ps,p.length≤480) (hl:ps.length≤imgN n):
  FilR n D slot turn lo a b LF u v lim i E bs ps (fillX ((i:Int)+2) ps (stS slot turn n i lo a b (cutsB (packB E)) LF (some (u,v,[]))) D):=by
 have hf:=h.fill hlim hp hl;unfold fillX
 cases hf with
 | ok D' sf' e h' c r=>
  rw[e];simp only[if_true];obtain⟨g1,g2⟩:=h'.sync;rw[g1];refine .ok _ _ rfl g2 ?_ (fun m hm=>(c m hm).flush h'.good.fils.off) (by rw[flush_armed h'.good.fils.off];exact r);rw[lenAt_third];exact Nat.le_refl _
 | off ha S' D' e o h' c l=>
  rw[e,if_neg (show ¬ ((21:Int)=0) by decide)];exact .off ha S' D' rfl o h' c l
end
theorem TabG.own {ns:List Nd} {n:Nat} (h:TabG ns n):TabG ns (entsN ns).length:=⟨h.ok,by unfold entsN absL;simp,h.each⟩
theorem TabG.lens {ns:List Nd} {n:Nat} (h:TabG ns n): ∀ x ∈ entsN ns,x.key.length≤200∧x.value.length≤20000:=fun x hx=>by
 unfold entsN absL at hx;rw[List.map_map] at hx;obtain⟨m,hm,rfl⟩:=List.mem_map.1 hx;exact⟨(h.each m hm).1,(h.each m hm).2.1⟩
section
variable {w0 w:World} {F:SP}
set_option maxHeartbeats 4000000 in
theorem dthin_any (b d s:Nat) (v:Sd) (h:Sat w0 (DbP b d s v*F) w) (hL:v.L.length≤90000) (hz: ∀ x ∈ v.L,0≤x.seq∧x.seq≤1000000000) (hf:v.few≤1000000):
  Calls Tryz.prog 113 #[.pointer (some ⟨b,0,none⟩)] w fun x w'=>x = .returned (.tuple #[])∧ ∃ qs,PtsOf v.snaps v.few qs∧Sat w0 (DbP b d s { v with L:=tidyE qs v.L }*F) w':=by
 obtain⟨lg,L,sq,sn,few,nx⟩:=v;obtain⟨tb,hr,mb,ns,⟨ht,he⟩,hs0⟩:=h.db;dsimp only at hL hz hf ht he;have hs:=hs0.of (db_d ..);dsimp only at hs;have hpw:L.Pairwise LTE:=he ▸ entsN_pw ht.ok;have hln:=ht.lens;rw[he] at hln;have c3:w.cell? ⟨b,3,none⟩=some (.pointer (some ⟨tb,0,none⟩)):=hs.cell 3;have hlv:=level_any 0 tb hr ns w (hs.up2.view ht.ok) ht.ok (ht.small (by omega));rw[lev0_all ht,he] at hlv;have HLv:=ah hlv;have HS:=ah hs;have HT:=ah ht;have HE:=ah he;have HPw:=ah hpw;have HLn:=ah hln;have HZ:=ah hz;clear h hs0 hs hpw hln hlv ht he hz;go_enter Tryz.func113, Tryz.ntmps113;go_upto_region 1 with (go_at_call 122;(with_reducible refine HLv.out.mono ?_);rintro e w1 ⟨es,A,c,rfl,hes,hs1⟩;have HS1:=ah (HS.out.join hs1 (owned_star (owned_row _ _ _ _ _) (owned_ownES _)));have HES:=ah hes;clear hes hs1)
 obtain⟨A',c',hsl,hc1,hc2⟩:=(HS1.out.of (star_assoc _ _ _)).row_sl;injection hsl with e1 e2 e3
 subst e1;subst e3;have HEl:Hid (es.length=L.length):=by unfold Hid;rw[←HES.out,List.length_map]
 have hmx:c≤9223372036854775807:=by unfold maxLen at hc2;omega
 have HP:=ah (points_any (w0:=w0) (w:=w1) (F:=Row 120 4 (.slice A es.length c) es.length (es.flatMap enV)*(OwnE es*(SkipT tb hr ns*F))) b mb few sn _ (HS1.out.of (by rw[star_assoc];show _=Pt b 113 (dbC d s lg tb sq mb nx false)*_;ac_rfl)) rfl hf);have HC:=ah hc1;have HC2:=ah hc2;have HThA:Hid (∀ PA pc (qs:List Int) W,PtsOf sn few qs→Sat w0 (Row 3 1 (.slice PA qs.length pc) qs.length (qs.map (Value.int .i64))*(Pt b 113 (dbC d s lg tb sq mb nx false)*(MapP Tryz.prog 3 mb few (snV sn)*(Row 120 4 (.slice A es.length c) es.length (es.flatMap enV)*(OwnE es*(SkipT tb hr ns*F)))))) W→Calls Tryz.prog 121 #[.slice A es.length c,.bool true,.slice PA qs.length pc] W (ThinT W (thinE true qs L))):=fun PA pc qs W hq hW=>by
  have h9:=thin_any true A c es PA pc qs W (hW.up4.row_rdK) (ownE_r hW.up5) HC.out HC2.out (by have:=HEl.out;omega) (fun e he=>(by have:=HLn.out e.ent (by rw[←HES.out];exact List.mem_map_of_mem he);have h1:e.key.2.2.length≤200:=this.1;have h2:e.value.2.2.length≤20000:=this.2;omega)) hW.row_rdK (by have:=hq.2;omega) (by rw[HES.out];exact HPw.out);rw[HES.out] at h9;exact h9
 clear c3 HLv hc1 hc2 HS;go_upto_region 2 with (first
  | (go_at_call 148;(with_reducible refine HP.out.mono ?_);rintro e w2 ⟨PA,pc,qs,rfl,hqs,hs2⟩;have HQ:=ah hqs;have HS2:=ah hs2;clear hqs hs2)
  | (go_at_call 121;(with_reducible refine(HThA.out _ _ _ _ HQ.out HS2.out).mono ?_);rintro e w3 ⟨ts,TA,tc,rfl,hts,hs3⟩;have HS3:=ah (HS2.out.join hs3 (owned_star (owned_row _ _ _ _ _) (owned_star (owned_ownES _) owned_emp)));have HTs:=ah hts;clear hts hs3))
 clear HP HThA HS1;have HTl:Hid (ts.length=(thinE true qs L).length):=by unfold Hid;rw[←HTs.out,List.length_map]
 have htl2:ts.length≤L.length:=by rw[HTl.out];exact(thin_in true qs L).length_le
 have HS4:Hid (Sat w0 (Row 120 4 (.slice TA ts.length tc) ts.length (ts.flatMap enV)*(OwnE ts*(Pt b 113 (dbC d s lg tb sq mb nx false)*(SkipT tb hr ns*(MapP Tryz.prog 3 mb few (snV sn)*F))))) w3):=by
  have h1:=HS3.out.of (show _=(Row 120 4 (.slice TA ts.length tc) ts.length (ts.flatMap enV)*OwnE ts)*_ by rw[star_comm (OwnE ts) Emp,emp_star]);have h2:=h1.of (show _=(Row 3 1 (.slice PA qs.length pc) qs.length (qs.map (Value.int .i64))*(Row 120 4 (.slice A es.length c) es.length (es.flatMap enV)*OwnE es))*(Row 120 4 (.slice TA ts.length tc) ts.length (ts.flatMap enV)*(OwnE ts*(Pt b 113 (dbC d s lg tb sq mb nx false)*(SkipT tb hr ns*(MapP Tryz.prog 3 mb few (snV sn)*F))))) by ac_rfl);exact h2.right
 clear HS3 HS2;by_cases hlt:2*ts.length+16<es.length
 ·have HTi:Hid (tidyE qs L=ts.map En.ent):=by
   unfold Hid tidyE;rw[if_pos (by have:=HTl.out;have:=HEl.out;omega),HTs.out]
  have h1:(2*(ts.length:Int)+16)<es.length:=by omega
  clear hlt;go_upto_region 4 with (go_at_call 58;(with_reducible refine(mnew_any w0 _ _ HS4.out).mono ?_);rintro e w4 ⟨tb2,hr2,rfl,hs4⟩;have HS5:=ah hs4;have f3:=hs4.up4.frozen 3;have c3:=hs4.up4.cell 3;clear hs4)
  have hs6:=HS5.out.up4.set 3 (.pointer (some ⟨tb2,0,none⟩));obtain⟨W6,hW6⟩: ∃ W6,W6=w4.setCell ⟨b,3,none⟩ (.pointer (some ⟨tb2,0,none⟩)):=⟨_,rfl⟩;rw[←hW6] at hs6;rw[←hW6];have HS6:Hid (Sat w0 (SkipT tb2 hr2 []*(Pt b 113 (dbC d s lg tb2 sq mb nx false)*(Row 120 4 (.slice TA ts.length tc) ts.length (ts.flatMap enV)*(OwnE ts*(MapP Tryz.prog 3 mb few (snV sn)*F))))) W6):=by
   have h2:=hs6.of (show _=SkipT tb hr ns*(SkipT tb2 hr2 []*(Pt b 113 (dbC d s lg tb2 sq mb nx false)*(Row 120 4 (.slice TA ts.length tc) ts.length (ts.flatMap enV)*(OwnE ts*(MapP Tryz.prog 3 mb few (snV sn)*F))))) by
    show Pt b 113 (dbC d s lg tb2 sq mb nx false)*(SkipT tb2 hr2 []*_)=_
    ac_rfl)
   exact h2.right
  clear hW6 hs6 c3 f3 HS5 HS4;have HTsr:Hid ((ts.map En.ent).Pairwise LTE):=by unfold Hid;rw[HTs.out];exact thin_sorted HPw.out
  have HTin:Hid (∀ x ∈ ts.map En.ent,x ∈ L):=fun x hx=>by rw[HTs.out] at hx;exact(thin_in true qs L).mem hx
  go_wp2_with fail;go_loopw [32] (fun iv wr=> ∃ (i:Nat) (ms:List Nd),i≤ts.length∧iv = .int .i64 (i:Int)∧Hid (TabG ms i∧entsN ms=(ts.map En.ent).take i∧Sat w0 (SkipT tb2 hr2 ms*(Pt b 113 (dbC d s lg tb2 sq mb nx false)*(Row 120 4 (.slice TA ts.length tc) ts.length (ts.flatMap enV)*(OwnE ts*(MapP Tryz.prog 3 mb few (snV sn)*F))))) wr)) (fun iv _=>ts.length - (intOf iv).toNat)
  case atStart=>exact⟨0,[],by omega,rfl,tabG_nil 0,rfl,HS6.out⟩
  case round=>
   obtain⟨i,ms,hi,rfl,HD⟩:=hrel;by_cases hlt:i<ts.length
   ·obtain⟨lb,lo,hA,hq⟩:=ents_at HD.out.2.2.up3.row_rdK (by omega);subst hA;obtain⟨y0,y1,y2,y3⟩:=hq i hlt;have HRi:=ah (ownE_r HD.out.2.2.up4 _ (List.getElem_mem hlt));have HLi:=ah (HLn.out _ (HTin.out _ (List.mem_map_of_mem (List.getElem_mem hlt))));have HZi:=ah (HZ.out _ (HTin.out _ (List.mem_map_of_mem (List.getElem_mem hlt))));have HTk:Hid ((ts.map En.ent).take (i+1)=(ts.map En.ent).take i++[ts[i].ent]):=by
     unfold Hid;rw[List.take_add_one,List.getElem?_eq_getElem (by rw[List.length_map];exact hlt),List.getElem_map];rfl
    have HNew:Hid (∀ x ∈ entsN ms,LTE x ts[i].ent):=fun x hx=>by
     rw[HD.out.2.1] at hx;have h2:=HTsr.out;rw[←List.take_append_drop (i+1) (ts.map En.ent),HTk.out] at h2;have h3:=(List.pairwise_append.1 h2).1;exact(List.pairwise_append.1 h3).2.2 x hx _ (List.mem_singleton_self _)
    have hii:(i:Int)<ts.length:=by omega
    clear hq;generalize ts[i]=x at*
    obtain⟨⟨kA,kc,kl⟩,⟨vA,vc,vl⟩,eq,dd⟩:=x;replace y0:_=some (Value.slice kA kl.length kc):=y0;replace y1:_=some (Value.slice vA vl.length vc):=y1;replace y2:_=some (Value.int .i64 eq):=y2;replace y3:_=some (Value.bool dd):=y3;replace HZi:Hid (0≤eq∧eq≤1000000000):=HZi;go_upto_region 7 with fail;have hs7:=HD.out.2.2.allocPt 120 #[.slice kA kl.length kc,.slice vA vl.length vc,.int .i64 eq,.bool dd];obtain⟨W7,hW7⟩: ∃ W7,W7=wr.alloc (.cells #[.slice kA kl.length kc,.slice vA vl.length vc,.int .i64 eq,.bool dd] 120):=⟨_,rfl⟩;rw[←hW7] at hs7;rw[←hW7];obtain⟨bx,hbx⟩: ∃ bx,bx=wr.heap.size:=⟨_,rfl⟩;rw[←hbx] at hs7;rw[←hbx];have HR7:Hid (Rd W7 kA kl∧Rd W7 vA vl):=by rw[hW7];exact⟨RdV.alloc HRi.out.1 _,RdV.alloc HRi.out.2 _⟩
    clear hW7 hbx y0 y1 y2 y3;have c3:=hs7.up3.cell 3;have x0:=hs7.cell 0;have x1:=hs7.cell 1;have x2:=hs7.cell 2;have x3:=hs7.cell 3;have HSr:=ah hs7;clear hs7;have HPu:Hid (∀ W H,Chg No W7 W→Calls Tryz.prog 62 #[.pointer (some ⟨tb2,0,none⟩),.agg #[.slice kA kl.length kc,.slice vA vl.length vc,.int .i64 eq,.bool dd],.int .i64 H] W fun x w'=> ∃ ns',x = .returned (.int .i64 0)∧TabG ns' (i+1)∧entsN ns'=(ts.map En.ent).take (i+1)∧Sat w0 (SkipT tb2 hr2 ns'*(Pt bx 120 #[.slice kA kl.length kc,.slice vA vl.length vc,.int .i64 eq,.bool dd]*(Pt b 113 (dbC d s lg tb2 sq mb nx false)*(Row 120 4 (.slice (some ⟨lb,lo,none⟩) ts.length tc) ts.length (ts.flatMap enV)*(OwnE ts*(MapP Tryz.prog 3 mb few (snV sn)*F)))))) w'):=fun W H hW=>by
     refine(putN_any tb2 hr2 ms i H ⟨(kA,kc,kl),(vA,vc,vl),eq,dd⟩ w0 W _ (HSr.out.new hW).up2 HD.out.1 (by omega) ⟨HR7.out.1.new hW,HR7.out.2.new hW⟩ HLi.out.1 HLi.out.2 (by show eq≤topSeq;unfold topSeq;have:=HZi.out;omega) (fun x hx hs=>same1_not hs (HNew.out x hx))).mono ?_;rintro x w' ⟨ns',rfl,k1,k2,k3⟩;exact⟨ns',rfl,k1,by rw[k2,insE_last HNew.out,HTk.out,HD.out.2.1],k3⟩
    have HH:=ah (fun W=>height_any eq HZi.out W);have HDrew:Hid (Chg No W7 W7.drew):=(Chg.refl No W7).drew;refine wp_region_held_drew (S:=fun w'=>w'.cell? ⟨b,3,none⟩=some (.pointer (some ⟨tb2,0,none⟩))∧w'.cell? ⟨bx,0,none⟩=some (.slice kA kl.length kc)∧w'.cell? ⟨bx,1,none⟩=some (.slice vA vl.length vc)∧w'.cell? ⟨bx,2,none⟩=some (.int .i64 eq)∧w'.cell? ⟨bx,3,none⟩=some (.bool dd)) (by kernel_rfl) ⟨(by exact c3),x0,x1,x2,x3⟩ ?_;intro hS0;refine rtk 0 ?_;refine rtk 1 ?_;refine rtk 2 ?_;refine rtk 3 ?_;refine rtk 4 ?_;refine rtk 5 ?_;refine rtk 6 ?_;refine rck 7 fun K hK=>?_
    go_simp;go_at_call 63;(with_reducible refine(HH.out _).mono ?_);rintro e wx ⟨⟨hh,rfl,hh1,hh2⟩,rfl⟩
    refine hK.out _ _ ⟨(by exact c3),x0,x1,x2,x3⟩ (fun hS0=>?_);clear hK K;refine rck 8 fun K hK=>?_
    go_simp;go_at_call 62;(with_reducible refine(HPu.out _ hh HDrew.out).mono ?_);rintro e w8 ⟨ns2,rfl,n1,n2,hs8⟩;have HN1:=ah n1;have HN2:=ah n2;have HS8:=ah hs8;clear n1 n2 hs8
    refine hK.out _ _ ⟨HS8.out.up3.cell 3,HS8.out.up2.cell 0,HS8.out.up2.cell 1,HS8.out.up2.cell 2,HS8.out.up2.cell 3⟩ (fun hS0=>?_);clear hK K;refine wpAnyH_done (by kernel_rfl) ?_ _;go_wp2_with fail;go_roundw
    ·exact⟨i+1,ns2,by omega,by push_cast;rfl,HN1.out,HN2.out,HS8.out.up2.right⟩
    ·simp[intOf];omega
   ·have hie:i=ts.length:=by omega
    subst hie;go_wp2_with fail;go_end0
    refine⟨rfl,qs,HQ.out,?_⟩;have hend:=HD.out.2.1;rw[List.take_of_length_le (by rw[List.length_map];omega)] at hend;refine Sat.dbI (tb:=tb2) (hr:=hr2) (mb:=mb) (ns:=ms) (v:=⟨lg,tidyE qs L,sq,sn,few,nx⟩) ?_ ?_ ?_
    ·show TabG ms (tidyE qs L).length;rw[HTi.out,List.length_map];exact HD.out.1
    ·show entsN ms=tidyE qs L;rw[HTi.out,hend]
    ·rw[db_d];have h2:=HD.out.2.2;exact(h2.of (show _=(Row 120 4 (.slice TA ts.length tc) ts.length (ts.flatMap enV)*OwnE ts)*(Pt b 113 (dbC d s lg tb2 sq mb nx false)*(SkipT tb2 hr2 ms*(MapP Tryz.prog 3 mb few (snV sn)*F))) by ac_rfl)).right
 ·have HTi:Hid (tidyE qs L=L):=by
   unfold Hid tidyE;rw[if_neg (by have:=HTl.out;have:=HEl.out;omega)]
  have h1:¬ (2*(ts.length:Int)+16)<es.length:=by omega
  clear hlt;go_wp2_with fail;go_end0
  refine⟨rfl,qs,HQ.out,?_⟩;refine Sat.dbI (tb:=tb) (hr:=hr) (mb:=mb) (ns:=ns) (v:=⟨lg,tidyE qs L,sq,sn,few,nx⟩) ?_ ?_ ?_
  ·show TabG ns (tidyE qs L).length;rw[HTi.out];exact HT.out
  ·show entsN ns=tidyE qs L;rw[HTi.out,HE.out]
  ·rw[db_d];exact HS4.out.right.right
set_option maxHeartbeats 4000000 in
theorem ddone_any (b d s:Nat) (v:Sd) (A:Option Addr) (c:Nat) (ps:List Pu) (h:Sat w0 (DbP b d s v*F) w) (hb: ∀ W,Sat w0 F W→RdV W A (ps.flatMap puC)∧PusR W ps) (hok: ∀ p ∈ ps,ChgOk p.chn) (hn:ps.length≤10000)
  (hL:v.L.length≤80000) (hz: ∀ x ∈ v.L,0≤x.seq∧x.seq≤v.seq) (hq:v.seq+1≤1000000000) (hf:v.few≤1000000):
  Calls Tryz.prog 65 #[.pointer (some ⟨b,0,none⟩),.slice A ps.length c] w fun x w'=>x = .returned (.tuple #[])∧ ∃ qs,PtsOf v.snaps v.few qs∧Sat w0 (DbP b d s { v with L:=tidyE qs (doneE v.seq (ps.map Pu.chn) v.L),seq:=v.seq+1 }*F) w':=by
 obtain⟨lg,L,sq,sn,few,nx⟩:=v;obtain⟨tb,hr,mb,ns,⟨ht,he⟩,hs0⟩:=h.db;dsimp only at hL hz hq hf ht he;have hs:=hs0.of (db_d ..);dsimp only at hs;have c4:w.cell? ⟨b,4,none⟩=some (.int .i64 (sq:Int)):=hs.cell 4;have f4:=hs.frozen 4;have hs1:=hs.set 4 (.int .i64 ((sq:Int)+1));have e1:(dbC d s lg tb sq mb nx false).setIfInBounds 4 (.int .i64 ((sq:Int)+1))=dbC d s lg tb ((sq:Int)+1) mb nx false:=rfl;rw[e1] at hs1;obtain⟨W1,hW1⟩: ∃ W1,W1=w.setCell ⟨b,4,none⟩ (.int .i64 ((sq:Int)+1)):=⟨_,rfl⟩;rw[←hW1] at hs1;have HW:=ah hW1;have HS1:=ah hs1;have HT:=ah ht;have HE:=ah he;have HZ:=ah hz;have HOk:=ah hok;have HLt:Hid (∀ x ∈ L,x.seq<((sq+1:Nat):Int)):=fun x hx=>by have:=(hz x hx).2;omega
 have HB:Hid (∀ W,Sat w0 F W→PusR W ps):=fun W hW=>(hb W hW).2
 have HLa:=ah (last_any A c ps W1 (hb W1 hs1.right.right.right).1 (hb W1 hs1.right.right.right).2 (fun p hp=>(hok p hp).key.2) (by omega));clear h hs0 hs hs1 hb ht he hz hok hW1 e1;go_enter Tryz.func65, Tryz.ntmps65;go_upto_region 1 with fail;rw[←HW.out];clear c4 f4 HW;go_wp2_with (go_at_call 112;(with_reducible refine HLa.out.mono ?_);rintro e w2 ⟨QA,qc,qs,hin,hqs,rfl,hs2⟩;have HS2:=ah (HS1.out.join hs2 (owned_star (owned_row _ _ _ _ _) owned_emp));have HIn:=ah hin;have HQs:=ah hqs;clear hin hqs hs2);clear HLa HS1;have HS3:Hid (Sat w0 (SkipT tb hr ns*(Pt b 113 (dbC d s lg tb ((sq:Int)+1) mb nx false)*(Row 43 3 (.slice QA qs.length qc) qs.length (qs.flatMap puC)*(MapP Tryz.prog 3 mb few (snV sn)*F)))) w2):=HS2.out.of (by rw[star_comm _ Emp,emp_star];ac_rfl);have HQl:Hid (qs.length≤ps.length):=by
  have h1:=congrArg List.length HQs.out;have h2:=(lastB_sub (ps.map Pu.chn)).length_le;rw[List.length_map] at h1 h2;unfold Hid;omega
 have hql:qs.length≤10000:=by have:=HQl.out;omega
 clear HS2;go_loopw [16] (fun iv wr=> ∃ (i:Nat) (ms:List Nd),i≤qs.length∧iv = .int .i64 (i:Int)∧Hid (TabG ms (L.length+i)∧entsN ms=insL ((sq+1:Nat):Int) ((qs.map Pu.chn).take i) L∧Sat w0 (SkipT tb hr ms*(Pt b 113 (dbC d s lg tb ((sq:Int)+1) mb nx false)*(Row 43 3 (.slice QA qs.length qc) qs.length (qs.flatMap puC)*(MapP Tryz.prog 3 mb few (snV sn)*F)))) wr)) (fun iv _=>qs.length - (intOf iv).toNat)
 case atStart=>exact⟨0,ns,by omega,rfl,HT.out,HE.out,HS3.out⟩
 case round=>
  obtain⟨i,ms,hi,rfl,HD⟩:=hrel;by_cases hlt:i<qs.length
  ·obtain⟨lb,lo,hA,hq⟩:=pus_at HD.out.2.2.up3.row_rdK (by omega);subst hA;obtain⟨y0,y1,y2⟩:=hq i hlt;have HRi:=ah (HB.out wr HD.out.2.2.right.right.right.right _ (HIn.out _ (List.getElem_mem hlt)));have HOi:=ah (HOk.out _ (HIn.out _ (List.getElem_mem hlt)));have HTk:Hid ((qs.map Pu.chn).take (i+1)=(qs.map Pu.chn).take i++[qs[i].chn]):=by
    unfold Hid;rw[List.take_add_one,List.getElem?_eq_getElem (by rw[List.length_map];exact hlt),List.getElem_map];rfl
   have HNew:Hid (∀ x ∈ entsN ms,¬ same1 x (entC ((sq+1:Nat):Int) qs[i].chn)):=fun x hx hsm=>by
    rw[HD.out.2.1] at hx;rcases insL_mem.1 hx with h1 | ⟨p,hp,h1⟩
    ·have h2:=HLt.out x h1;have h3:x.seq=((sq+1:Nat):Int):=hsm.2;omega
    ·have h2:=lastB_once (ps.map Pu.chn);rw[←HQs.out, ←List.take_append_drop (i+1) (qs.map Pu.chn),HTk.out] at h2;have h3:=(List.pairwise_append.1 (List.pairwise_append.1 h2).1).2.2 p hp _ (List.mem_singleton_self _);have h4:x.key=qs[i].chn.key:=hsm.1;rw[h1] at h4;exact h3 h4
   have hii:(i:Int)<qs.length:=by omega
   clear hq;generalize qs[i]=x at*
   obtain⟨⟨kA,kc,kl⟩,⟨vA,vc,vl⟩,dd⟩:=x;replace y0:_=some (Value.slice kA kl.length kc):=y0;replace y1:_=some (Value.slice vA vl.length vc):=y1;replace y2:_=some (Value.bool dd):=y2;go_upto_region 4 with fail;have hs7:=HD.out.2.2.allocPt 43 #[.slice kA kl.length kc,.slice vA vl.length vc,.bool dd];obtain⟨W7,hW7⟩: ∃ W7,W7=wr.alloc (.cells #[.slice kA kl.length kc,.slice vA vl.length vc,.bool dd] 43):=⟨_,rfl⟩;rw[←hW7] at hs7;rw[←hW7];obtain⟨bx,hbx⟩: ∃ bx,bx=wr.heap.size:=⟨_,rfl⟩;rw[←hbx] at hs7;rw[←hbx];have HR7:Hid (Rd W7 kA kl∧Rd W7 vA vl):=by rw[hW7];exact⟨RdV.alloc HRi.out.1 _,RdV.alloc HRi.out.2 _⟩
   clear hW7 hbx y0 y1 y2;have c3:=hs7.up3.cell 3;have c4:=hs7.up3.cell 4;have x0:=hs7.cell 0;have x1:=hs7.cell 1;have x2:=hs7.cell 2;have HSr:=ah hs7;clear hs7;have HPu:Hid (∀ W H,Chg No W7 W→Calls Tryz.prog 62 #[.pointer (some ⟨tb,0,none⟩),.agg #[.slice kA kl.length kc,.slice vA vl.length vc,.int .i64 ((sq:Int)+1),.bool dd],.int .i64 H] W fun x w'=> ∃ ns',x = .returned (.int .i64 0)∧TabG ns' (L.length+(i+1))∧entsN ns'=insL ((sq+1:Nat):Int) ((qs.map Pu.chn).take (i+1)) L∧Sat w0 (SkipT tb hr ns'*(Pt bx 43 #[.slice kA kl.length kc,.slice vA vl.length vc,.bool dd]*(Pt b 113 (dbC d s lg tb ((sq:Int)+1) mb nx false)*(Row 43 3 (.slice (some ⟨lb,lo,none⟩) qs.length qc) qs.length (qs.flatMap puC)*(MapP Tryz.prog 3 mb few (snV sn)*F))))) w'):=fun W H hW=>by
    have hk:=HOi.out.key.2;have hv:=HOi.out.val;replace hk:kl.length≤128:=hk;replace hv:vl.length≤16384:=hv;have hnew:=HNew.out;rw[show ((sq+1:Nat):Int)=(sq:Int)+1 by omega] at hnew;refine(putN_any tb hr ms (L.length+i) H ⟨(kA,kc,kl),(vA,vc,vl),(sq:Int)+1,dd⟩ w0 W _ (HSr.out.new hW).up2 HD.out.1 (by omega) ⟨HR7.out.1.new hW,HR7.out.2.new hW⟩ (by show kl.length≤200;omega) (by show vl.length≤20000;omega) (by show (sq:Int)+1≤topSeq;unfold topSeq;omega) hnew).mono ?_;rintro x w' ⟨ns',rfl,k1,k2,k3⟩;refine⟨ns',rfl,k1,?_,k3⟩;rw[k2,HTk.out,HD.out.2.1];unfold insL;rw[List.foldl_append];show _=insE _ _;rw[show ((sq+1:Nat):Int)=(sq:Int)+1 by omega];rfl
   have HH:=ah (fun W=>height_any ((sq:Int)+1) (by omega) W);have HDrew:Hid (Chg No W7 W7.drew):=(Chg.refl No W7).drew;refine wp_region_held_drew (S:=fun w'=>w'.cell? ⟨b,3,none⟩=some (.pointer (some ⟨tb,0,none⟩))∧w'.cell? ⟨b,4,none⟩=some (.int .i64 ((sq:Int)+1))∧w'.cell? ⟨bx,0,none⟩=some (.slice kA kl.length kc)∧w'.cell? ⟨bx,1,none⟩=some (.slice vA vl.length vc)∧w'.cell? ⟨bx,2,none⟩=some (.bool dd)) (by kernel_rfl) ⟨(by exact c3),(by exact c4),x0,x1,x2⟩ ?_;intro hS0;refine rtk 0 ?_;refine rtk 1 ?_;refine rtk 2 ?_;refine rtk 3 ?_;refine rtk 4 ?_;refine rtk 5 ?_;refine rtk 6 ?_;refine rtk 7 ?_;refine rtk 8 ?_;refine rtk 9 ?_;refine rtk 10 ?_;refine rtk 11 ?_;refine rtk 12 ?_;refine rtk 13 ?_;refine rtk 14 ?_;refine rtk 15 ?_;refine rtk 16 ?_;refine rtk 17 ?_;refine rtk 18 ?_;refine rck 19 fun K hK=>?_
   go_simp;go_at_call 63;(with_reducible refine(HH.out _).mono ?_);rintro e wx ⟨⟨hh,rfl,hh1,hh2⟩,rfl⟩
   refine hK.out _ _ ⟨(by exact c3),(by exact c4),x0,x1,x2⟩ (fun hS0=>?_);clear hK K;refine rck 20 fun K hK=>?_
   go_simp;go_at_call 62;(with_reducible refine(HPu.out _ hh HDrew.out).mono ?_);rintro e w8 ⟨ns2,rfl,n1,n2,hs8⟩;have HN1:=ah n1;have HN2:=ah n2;have HS8:=ah hs8;clear n1 n2 hs8
   refine hK.out _ _ ⟨HS8.out.up3.cell 3,HS8.out.up3.cell 4,HS8.out.up2.cell 0,HS8.out.up2.cell 1,HS8.out.up2.cell 2⟩ (fun hS0=>?_);clear hK K;refine wpAnyH_done (by kernel_rfl) ?_ _;go_wp2_with fail;go_roundw
   ·exact⟨i+1,ns2,by omega,by push_cast;rfl,HN1.out,HN2.out,HS8.out.up2.right⟩
   ·simp[intOf];omega
  ·have hie:i=qs.length:=by omega
   subst hie;have hend:=HD.out.2.1;rw[List.take_of_length_le (by rw[List.length_map];omega),HQs.out] at hend;have HDn:Hid (entsN ms=doneE sq (ps.map Pu.chn) L):=hend;have HTo:Hid (TabG ms (doneE sq (ps.map Pu.chn) L).length):=by have:=HD.out.1.own;rw[HDn.out] at this;exact this
   have HS9:Hid (Sat w0 (DbP b d s ⟨lg,doneE sq (ps.map Pu.chn) L,sq+1,sn,few,nx⟩*F) wr):=by
    refine Sat.dbI (tb:=tb) (hr:=hr) (mb:=mb) (ns:=ms) HTo.out HDn.out ?_;rw[db_d];dsimp only;rw[show ((sq+1:Nat):Int)=(sq:Int)+1 by omega];exact(HD.out.2.2.of (show _=Row 43 3 (.slice QA qs.length qc) qs.length (qs.flatMap puC)*(Pt b 113 (dbC d s lg tb ((sq:Int)+1) mb nx false)*(SkipT tb hr ms*(MapP Tryz.prog 3 mb few (snV sn)*F))) by ac_rfl)).right
   have HTh:=ah (dthin_any b d s ⟨lg,doneE sq (ps.map Pu.chn) L,sq+1,sn,few,nx⟩ HS9.out (by
    show (doneE sq (ps.map Pu.chn) L).length≤90000;unfold doneE;rw[insL_len];have h2:=(lastB_sub (ps.map Pu.chn)).length_le;rw[List.length_map] at h2;omega) (fun x hx=>by
    rcases insL_mem.1 hx with h1 | ⟨p,hp,rfl⟩
    ·have:=HZ.out x h1;omega
    ·show 0≤((sq+1:Nat):Int)∧((sq+1:Nat):Int)≤1000000000;omega) hf)
   go_wp2_with (go_at_call 113;(with_reducible refine HTh.out.mono ?_);rintro e w4 ⟨rfl,qq,hq1,hs4⟩;have HQ4:=ah hq1;have HS4:=ah hs4;clear hq1 hs4);go_end0
   exact⟨rfl,qq,HQ4.out,HS4.out⟩
end
def sizK (p:Kv):Nat:=p.1.length+p.2.length+40
def fK (M:List Kv):List UInt8→Option Value:=fun k=>(getK k M).map fun v=> .int .i64 ((k.length+v.length+40:Nat):Int)
theorem getK_snoc (k:List UInt8) (p:Kv): ∀ M:List Kv,getK k (M++[p])=match getK k M with | some v=>some v | none=>if p.1=k then some p.2 else none
 | []=>rfl
 | q::M=>by
  show (if q.1=k then some q.2 else getK k (M++[p]))=match (if q.1=k then some q.2 else getK k M) with | some v=>some v | none=>if p.1=k then some p.2 else none
  by_cases h:q.1=k
  ·rw[if_pos h,if_pos h]
  ·rw[if_neg h,if_neg h];exact getK_snoc k p M
theorem fK_snoc {M:List Kv} {p:Kv} (h: ∀ q ∈ M,q.1≠p.1):fK (M++[p])=updS (fK M) p.1 (some (.int .i64 ((p.1.length+p.2.length+40:Nat):Int))):=by
 funext k
 unfold fK updS;rw[getK_snoc];by_cases hk:k=p.1
 ·rw[if_pos hk,hk,getK_none h];simp
 ·rw[if_neg hk]
  cases hg:getK k M with
  | some v=>simp[hg]
  | none=>simp only[hg];rw[if_neg (fun e=>hk e.symm)]
theorem fK_put {M:List Kv} (h:M.Pairwise kLT) (c:Chn):fK (putM c M)=if c.dead=true then updS (updS (fK M) c.key (some (.int .i64 ((c.key.length+c.value.length+40:Nat):Int)))) c.key none else updS (fK M) c.key (some (.int .i64 ((c.key.length+c.value.length+40:Nat):Int))):=by
 funext k
 unfold fK;rw[putM_get c h];unfold livC;by_cases hk:c.key=k
 ·subst hk
  cases hd:c.dead with
  | true=>simp[updS]
  | false=>simp[updS]
 ·have hk2:¬ k=c.key:=fun e=>hk e.symm
  rw[if_neg hk]
  cases hd:c.dead with
  | true=>simp[updS,hk2]
  | false=>simp[updS,hk2]
def sumL (left:Lit→Bool) (M:List Kv):Nat:=((M.filter fun p=> !left (.string p.1)).map sizK).sum
theorem sumL_cons (left:Lit→Bool) (p:Kv) (M:List Kv):sumL left (p::M)=(if left (.string p.1)=true then 0 else sizK p)+sumL left M:=by
 unfold sumL;rw[List.filter_cons]
 cases left (.string p.1) with
 | true=>simp
 | false=>simp
theorem sumL_visit {left:Lit→Bool} {k v:List UInt8}: ∀ {M:List Kv},M.Pairwise kLT→getK k M=some v→left (.string k)=true→sumL (fun z=>left z && !z.sameKey (.string k)) M=sumL left M+(k.length+v.length+40)
 | [],_,h,_=>by cases h
 | p::M,hp,h,hl=>by
  obtain⟨h1,h2⟩:=List.pairwise_cons.1 hp;rw[sumL_cons,sumL_cons];unfold getK at h;by_cases hk:p.1=k
  ·rw[if_pos hk] at h;injection h with h
   have h3:sumL (fun z=>left z && !z.sameKey (.string k)) M=sumL left M:=by
    unfold sumL;congr 2
    apply List.filter_congr;intro q hq;have hne:q.1≠k:=by rw[←hk];exact(kcb_ne (h1 q hq)).symm
    have h4:(Lit.string q.1).sameKey (.string k)=false:=Maps.sameKey_ne (fun e=>hne (by injection e));simp[h4]
   rw[h3,hk];have h5:(left (.string k) && !(Lit.string k).sameKey (.string k))=false:=by rw[WideAt.sameKey_self (by simp[WideAt.IsKeyLit])];simp
   rw[h5,hl];simp only[Bool.false_eq_true,if_false,if_true];have h6:sizK p=k.length+v.length+40:=by unfold sizK;rw[hk,h]
   omega
  ·rw[if_neg hk] at h;rw[sumL_visit h2 h hl];have h4:(Lit.string p.1).sameKey (.string k)=false:=Maps.sameKey_ne (fun e=>hk (by injection e));simp only[h4,Bool.not_false,Bool.and_true];omega
theorem sumL_all {left:Lit→Bool} (h: ∀ z,left z=false) (M:List Kv):sumL left M=sizM M:=by
 unfold sumL sizM;rw[List.filter_eq_self.2 (fun p _=>by rw[h];rfl)];rfl
theorem sumL_start {D:DataW Value} {M:List Kv} (hM:M.Pairwise kLT) (hs:SaysS D (fK M)):sumL (Maps.has D) M=0:=by
 unfold sumL;rw[List.filter_eq_nil_iff.2]
 ·rfl
 ·intro p hp h;have h1:Maps.has D (.string p.1)=false:=by simpa using h
  have h2:=saysS_has hs h1;have h3:getK p.1 M=some p.2:=by
   have: ∀ {M:List Kv},M.Pairwise kLT→p ∈ M→getK p.1 M=some p.2:=by
    intro M
    induction M with
    | nil=>intro _ h;cases h
    | cons q M ih=>
     intro hM hp;obtain⟨h4,h5⟩:=List.pairwise_cons.1 hM;unfold getK;rcases List.mem_cons.1 hp with rfl | hp
     ·rw[if_pos rfl]
     ·rw[if_neg (kcb_ne (h4 p hp)),ih h5 hp]
   exact this hM hp
  unfold fK at h2;rw[h3] at h2
  cases h2
theorem sumL_le (left:Lit→Bool): ∀ M:List Kv,sumL left M≤sizM M
 | []=>Nat.le_refl _
 | p::M=>by
  have ih:=sumL_le left M;rw[sumL_cons];have h1:sizM (p::M)=sizK p+sizM M:=by unfold sizM;rw[List.map_cons,List.sum_cons];rfl
  rw[h1];split<;>omega
def fullB (n:Nat) (M:List Kv) (cs:List Chn):Bool:=decide (imgN n*480<sizM M+400) || decide (logN n<needN (laiB cs).length)
theorem sizM_le: ∀ {M:List Kv},(∀ p ∈ M,p.1.length≤200∧p.2.length≤20000)→sizM M≤M.length*20240
 | [],_=>Nat.le_refl _
 | p::M,h=>by
  have ih:=sizM_le fun q hq=>h q (List.mem_cons_of_mem _ hq)
  have h1:=h p List.mem_cons_self;unfold sizM at ih ⊢;rw[List.map_cons,List.sum_cons,List.length_cons];omega
theorem putM_mem {c:Chn} {M:List Kv} {p:Kv} (h:p ∈ putM c M):p ∈ M∨p=(c.key,c.value):=by
 unfold putM at h;rcases List.mem_append.1 h with h | h
 ·exact .inl ((List.takeWhile_sublist _).mem h)
 ·rcases List.mem_append.1 h with h | h
  ·split at h
   ·cases h
   ·exact .inr (List.mem_singleton.1 h)
  ·have hd:=List.dropWhile_sublist (fun q:Kv=>decide (Lib.compareBytes q.1 c.key<0)) (l:=M);split at h
   ·cases h
   ·rename_i q T he;rw[he] at hd;split at h
    ·exact .inl (hd.mem (List.mem_cons_of_mem _ h))
    ·exact .inl (hd.mem h)
theorem putM_len (c:Chn) (M:List Kv):(putM c M).length≤M.length+1:=by
 have e:=congrArg List.length (List.takeWhile_append_dropWhile (p:=fun q:Kv=>decide (Lib.compareBytes q.1 c.key<0)) (l:=M));unfold putM;rw[List.length_append] at e;rw[List.length_append,List.length_append];have h1:(if c.dead=true then ([]:List Kv) else [(c.key,c.value)]).length≤1:=by split<;>simp
 cases hd:M.dropWhile (fun q:Kv=>decide (Lib.compareBytes q.1 c.key<0)) with
 | nil=>
  rw[hd] at e;simp only[List.length_nil] at e ⊢;omega
 | cons q T=>
  rw[hd,List.length_cons] at e;simp only;have h2:(if q.1=c.key then T else q::T).length≤T.length+1:=by split<;>simp
  omega
theorem putsM_size: ∀ {cs:List Chn} {M:List Kv},(∀ c ∈ cs,ChgOk c)→(∀ p ∈ M,p.1.length≤200∧p.2.length≤20000)→(∀ p ∈ putsM cs M,p.1.length≤200∧p.2.length≤20000)∧(putsM cs M).length≤M.length+cs.length
 | [],M,_,h=>⟨h,Nat.le_refl _⟩
 | c::cs,M,hc,h=>by
  have hcc:=hc c List.mem_cons_self;obtain⟨h1,h2⟩:=putsM_size (cs:=cs) (M:=putM c M) (fun x hx=>hc x (List.mem_cons_of_mem _ hx)) fun p hp=>by
   rcases putM_mem hp with hp | rfl
   ·exact h p hp
   ·have:=hcc.key;have:=hcc.val;exact⟨by show c.key.length≤200;omega,by show c.value.length≤20000;omega⟩
  refine⟨h1,?_⟩;have:=putM_len c M;rw[List.length_cons];show (putsM cs (putM c M)).length≤_;omega
def SnOk (v:Sd) (olds:Int→Option (List Kv)) (j:Int):Prop:=
 (v.snaps j=none∧olds j=none)∨ ∃ q Mo,v.snaps j=some q∧olds j=some Mo∧q≤v.seq∧Mo.Pairwise kLT∧ ∀ k,alE k (q:Int) v.L=getK k Mo
structure StI (n t k:Nat) (D:Dk) (S:Spc) (v:Sd) (M:List Kv) (olds:Int→Option (List Kv)):Prop where
 dsk: ∃ sf lim i E bs,Dsk n D S sf lim i E bs bs.length false∧v.log=i+1∧Con n t v.seq E bs∧mapD E bs=M∧lim≤4*k+8∧i≤2*k+2
 mem:MemIs v.L v.seq M t
 snaps: ∀ j,SnOk v olds j
 cnt:Cnt D (20000*k+100)
 few:v.seq≤k∧v.few≤k∧v.next≤k+1
def FndI (n t k:Nat) (D:Dk) (S:Spc) (Ms:List (List Kv)):Prop:=
 ∃ sf lim i E bs x,Dsk n D S sf lim i E bs bs.length x∧Con n t k E bs∧mapD E bs ∈ Ms∧lim≤4*k+8∧i≤2*k+2∧Cnt D (20000*k+100)
def CrsI (n t k:Nat) (D:Dk) (Ms:List (List Kv)):Prop:=Cnt D (20000*k+100)∧ ∀ keep torn bytes,
 ∃ S',openX (D.crash keep torn bytes)=(some S',0)∧FndI n t k (D.crash keep torn bytes) S' Ms
section
variable {n t k:Nat} {D D':Dk} {S:Spc} {v:Sd} {M:List Kv} {olds:Int→Option (List Kv)} {sf:Nat→Nat} {lim i:Nat} {E E':List Ent} {bs:List (List Chn)} {cs:List Chn} {x:Bool}
theorem Con.snoc (h:Con n t k E bs) (hc:BatOk cs) (hs:sizM (putsM cs (mapD E bs))+400≤imgN n*480):Con n (t+cs.length) (k+1) E (bs++[cs]):=by
 refine⟨h.img,fun c hcc=>?_,?_,by rw[mapD_snoc];exact hs,fun x hx=>?_,?_⟩
 ·rcases List.mem_append.1 hcc with h1 | h1
  ·exact h.bats c h1
  ·rw[List.mem_singleton] at h1;subst h1;exact hc
 ·have:=h.few;rw[List.map_append,List.sum_append];simp only[List.map_cons,List.map_nil,List.sum_cons,List.sum_nil];omega
 ·have:=h.seqs x hx;rw[List.length_append,List.length_singleton];omega
 ·have:=h.bl;rw[List.length_append,List.length_singleton];omega
theorem Con.fresh {q:Nat} {L:List Ent} (hm:MemIs L q M t) (hs:sizM M+400≤imgN n*480):Con n t q (nowE L) []:=by
 obtain⟨h1,h2,h3,h4⟩:=hm.img;exact⟨h1,fun c hc=>(by cases hc),by simpa using h3,by show sizM ((nowE L).map pairE)+400≤_;rw[h2];exact hs,fun x hx=>by have:=h4 x hx;simpa using this,Nat.zero_le _⟩
theorem map_fresh {q:Nat} {L:List Ent} (hm:MemIs L q M t):mapD (nowE L) []=M:=hm.img.2.1
theorem SnOk.done {qs:List Int} (hm:MemIs v.L v.seq M t) (hc: ∀ p ∈ cs,ChgOk p) (hq:v.seq+1≤1000000000) (hp: ∀ j q,v.snaps j=some q→(q:Int) ∈ qs) {lg:Nat} {j:Int} (h:SnOk v olds j):
  SnOk { v with log:=lg,L:=tidyE qs (doneE v.seq cs v.L),seq:=v.seq+1 } olds j:=by
 rcases h with h1 | ⟨q,Mo,h1,h2,h3,h4,h5⟩
 ·exact .inl h1
 ·refine .inr ⟨q,Mo,h1,h2,Nat.le_succ_of_le h3,h4,fun ky=>?_⟩;show alE ky (q:Int) (tidyE qs (doneE v.seq cs v.L))=_;rw[(hm.done hc hq).kept (hp j q h1),hm.then cs (by omega),h5]
theorem CrOut.crs {safe:Nat} (h:CrOut n D lim i E bs safe) (hl:lim≤4*k+8) (hi:i≤2*k+2) (hc: ∀ m,safe≤m→m≤bs.length→Con n t k E (bs.take m)) {Ms:List (List Kv)} (hM: ∀ m,safe≤m→m≤bs.length→mapD E (bs.take m) ∈ Ms) (hn:Cnt D (20000*k+100)):CrsI n t k D Ms:=⟨hn,fun keep torn bytes=>by
 obtain⟨S',h1,m,h2,h3,sf',x,h4⟩:=h keep torn bytes;refine⟨S',h1,sf',lim,i,E,bs.take m,x,?_,hc m h2 h3,hM m h2 h3,hl,hi,hn.crash⟩;have hl:(bs.take m).length=m:=by rw[List.length_take];omega
 rw[hl];exact h4⟩
theorem CrEi.crs (h:CrEi n D lim i E E' bs) (hl:lim≤4*k+8) (hi:i+2≤2*k+2) (hc1:Con n t k E bs) (hc2:Con n t k E' []) (h1:mapD E bs=M) (h2:mapD E' []=M) (hn:Cnt D (20000*k+100)) {Ms:List (List Kv)} (hM:M ∈ Ms):CrsI n t k D Ms:=⟨hn,fun keep torn bytes=>by
 obtain⟨S',o,sf',h3 | h3⟩:=h keep torn bytes
 ·obtain⟨x,h3⟩:=h3;exact⟨S',o,sf',lim,i,E,bs,x,h3,hc1,by rw[h1];exact hM,hl,by omega,hn.crash⟩
 ·exact⟨S',o,sf',lim,i+2,E',[],false,h3,hc2,by rw[h2];exact hM,hl,hi,hn.crash⟩⟩
theorem StI.crash (h:StI n t k D S v M olds) (hk:k≤100000):CrsI n t (k+1) D [M]:=⟨h.cnt.mono (by omega),fun keep torn bytes=>by
 obtain⟨sf,lim,i,E,bs,⟨slot,turn,lo,a,b,LF,y,e1,e2,hd⟩,hlog,hcon,hmap,hl,hi⟩:=h.dsk;obtain⟨S',h1,m,h2,h3,sf',h4⟩:=hd.crash (by omega) keep torn bytes;have hm:m=bs.length:=by omega
 subst hm;rw[List.take_length] at h4;exact⟨S',h1,sf',lim+1,i,E,bs,_,h4,hcon.mono (Nat.le_refl _) (by have:=h.few.1;omega),by rw[hmap];exact List.mem_singleton_self _,by omega,by omega,(h.cnt.mono (by omega)).crash⟩⟩
end
section
variable {n t k:Nat} {D D':Dk} {S S':Spc} {v:Sd} {M:List Kv} {olds:Int→Option (List Kv)} {sf:Nat→Nat} {lim i slot turn:Nat} {lo:Bool} {a b:Nat × Nat} {LF:List (List UInt8)} {E E':List Ent} {bs:List (List Chn)} {cs:List Chn} {x:Bool} {qs:List Int}
structure PutOk (n t k:Nat) (v:Sd) (M:List Kv) (olds:Int→Option (List Kv)) (cs:List Chn):Prop where
 mem:MemIs v.L v.seq M t
 snaps: ∀ j,SnOk v olds j
 few:v.seq≤k∧v.few≤k∧v.next≤k+1
 kk:k≤100000
 bat:BatOk cs
 siz:sizM (putsM cs M)+400≤imgN n*480
 log:needN (laiB cs).length≤logN n
theorem put_sti (hp:PutOk n t k v M olds cs) (hd:Dsx n D slot turn lo a b LF none sf lim i E (bs++[cs]) bs.length) (hcon:Con n t v.seq E bs) (hmap:mapD E bs=M) (hl:lim≤4*(k+1)+8) (hi:i≤2*(k+1)+2) (hc:Cnt D (20000*(k+1)+100)) (hq:PtsOf v.snaps v.few qs):
  StI n (t+cs.length) (k+1) D.flush.1 (stS slot turn n i lo a b (cutsB (packB E)) LF none) { v with log:=i+1,L:=tidyE qs (doneE v.seq cs v.L),seq:=v.seq+1 } (putsM cs M) olds:=by
 obtain⟨h1,h2⟩:=hd.sync;have hk:=hp.kk;have hf:=hp.few;refine⟨⟨_,lim,i,E,bs++[cs],h2.dsk,rfl,hcon.snoc hp.bat (by rw[hmap];exact hp.siz),by rw[mapD_snoc,hmap],hl,hi⟩,(hp.mem.done hp.bat.each (by omega)).tidy qs,fun j=>?_,hc.flush hd.good.fils.off,?_⟩
 ·exact(hp.snaps j).done hp.mem hp.bat.each (by omega) (fun j q hjq=>(hq.1 _).2 ⟨j,q,hjq,rfl⟩)
 ·show v.seq+1≤k+1∧v.few≤k+1∧v.next≤k+1+1;omega
theorem put_crs (hp:PutOk n t k v M olds cs) (h:CrOut n D' (lim+1) i E (bs++[cs]) bs.length) (hcon:Con n t v.seq E bs) (hmap:mapD E bs=M) (hs:sizM M+400≤imgN n*480) (hl:lim+1≤4*(k+1)+8) (hi:i≤2*(k+1)+2) (hc:Cnt D' (20000*(k+1)+100)):
  CrsI n (t+cs.length) (k+1) D' [M,putsM cs M]:=by
 have hf:=hp.few;have hlen:(bs++[cs]).length=bs.length+1:=by simp
 have htk: ∀ m,bs.length≤m→m≤(bs++[cs]).length→(bs++[cs]).take m=bs∨(bs++[cs]).take m=bs++[cs]:=fun m h1 h2=>by
  rw[hlen] at h2;by_cases hm:m=bs.length
  ·left;rw[hm,List.take_left]
  ·right;rw[List.take_of_length_le (by rw[hlen];omega)]
 have hc1:=hcon.mono (Nat.le_add_right t cs.length) (show v.seq≤k+1 by omega);have hc2:=(hcon.snoc hp.bat (by rw[hmap];exact hp.siz)).mono (Nat.le_refl _) (show v.seq+1≤k+1 by omega);refine h.crs hl hi (fun m h1 h2=>?_) (fun m h1 h2=>?_) hc
 ·rcases htk m h1 h2 with h3 | h3<;>rw[h3]
  ·exact hc1
  ·exact hc2
 ·rcases htk m h1 h2 with h3 | h3<;>rw[h3]
  ·rw[hmap];exact List.mem_cons_self
  ·rw[mapD_snoc,hmap];exact List.mem_cons_of_mem _ (List.mem_singleton_self _)
theorem mem_sizes {L:List Ent} {q:Nat} (hm:MemIs L q M t): ∀ p ∈ M,p.1.length≤200∧p.2.length≤20000:=fun p hp=>by
 obtain⟨h1,h2,h3,h4⟩:=hm.img;rw[←h2] at hp;obtain⟨e,he,rfl⟩:=List.mem_map.1 hp;have h5:=(h1.each e he).1.key;have h6:=(h1.each e he).1.val;exact⟨by show e.key.length≤200;omega,by show e.value.length≤20000;omega⟩
end
theorem prs_at {w:World} {A:Option Addr} {qs:List En} (h:RdV w A (qs.flatMap prV)) (hn:0<qs.length): ∃ b o,A=some ⟨b,o,none⟩∧ ∀ i (hi:i<qs.length),
  w.cell? ⟨b,o+i*2,none⟩=some (slv' qs[i].key)∧w.cell? ⟨b,o+i*2+1,none⟩=some (slv' qs[i].value):=by
 obtain⟨b,o,rfl,_⟩:=RdV.elem (f:=prV) (k:=2) (fun _=>rfl) (by decide) h hn;refine⟨b,o,rfl,fun i hi=>?_⟩;obtain⟨b',o',e,hc⟩:=RdV.elem (f:=prV) (k:=2) (fun _=>rfl) (by decide) h hi;injection e with e
 injection e with e1 e2
 subst e1;subst e2;refine⟨by simpa [prV] using hc 0 (by decide),?_⟩;have:=hc 1 (by decide);rw[←Nat.add_assoc] at this;simpa [prV] using this
section
variable {w0 w:World} {F:SP}
theorem mk_mapi (w:World):(Instr.makeMap 192 none).run Tryz.prog w = .ok (.map (some w.heap.size)) (w.alloc (.map #[] 0)):=by
 simp[Instr.makeMap]
abbrev MpI (mb n:Nat) (M:List Kv):SP:=MapS Tryz.prog 9 mb n (fK M)
theorem kv_fresh {M:List Kv} (h:M.Pairwise kLT) {i:Nat} (hi:i<M.length): ∀ q ∈ M.take i,q.1≠M[i].1:=fun q hq=>by
 have h2:=h;rw[←List.take_append_drop i M,List.drop_eq_getElem_cons hi] at h2;exact kcb_ne ((List.pairwise_append.1 h2).2.2 q hq _ List.mem_cons_self)
set_option maxHeartbeats 8000000 in
theorem full_st (n:Nat) (b d s:Nat) (v:Sd) (A:Option Addr) (c:Nat) (ps:List Pu) (D:Dk) (M:List Kv) (h:Sat w0 (DbP b d s v*(Disk d D*F)) w) (hn:64≤n∧n≤65536) (hD:D.cells.length=n) (hb: ∀ W,Sat w0 F W→RdV W A (ps.flatMap puC)∧PusR W ps) (hok: ∀ p ∈ ps,ChgOk p.chn)
  (hp:ps.length≤10000) (hL:v.L.length≤80000) (hM:viewE v.seq v.L=M) (hMs:M.Pairwise kLT) (hsz: ∀ p ∈ M,p.1.length≤200∧p.2.length≤20000):
  Calls Tryz.prog 69 #[.pointer (some ⟨b,0,none⟩),.slice A ps.length c] w fun x w'=>x = .returned (.bool (fullB n (putsM (ps.map Pu.chn) M) (ps.map Pu.chn)))∧Sat w0 (DbP b d s v*(Disk d D*F)) w':=by
 have hMl:M.length≤v.L.length:=by
  rw[←hM];unfold viewE;rw[List.length_map];exact(scan_sub _ _ _).length_le
 obtain⟨tb,hr,mb,ns,_,hs0⟩:=h.db;have c0:w.cell? ⟨b,0,none⟩=some (.pointer (some ⟨d,0,none⟩)):=(hs0.of (db_d ..)).cell 0;have HBl:Hid (Calls Tryz.prog 51 #[.pointer (some ⟨d,0,none⟩)] w fun e w'=>e = .returned (.int .i64 (n:Int))∧w=w'):=by
  have h9:=blocks_any d D w0 w _ h.up2;rw[hD] at h9;exact h9
 have HSz:=ah (fun W=>sizes_any n hn W);have HSc:Hid (∀ W,Sat w0 (DbP b d s v*(MpI w.heap.size 0 []*(Disk d D*F))) W→Calls Tryz.prog 24 #[.pointer (some ⟨b,0,none⟩),.slice none 0 0,.slice none 0 0,.int .i64 4611686018427387904] W (ToldK w0 (DbP b d s v*(MpI w.heap.size 0 []*(Disk d D*F))) M)):=fun W hW=>by
  have h9:=scan_st b d s v (none,0,[]) (none,0,[]) 4611686018427387904 (Rd.nil _ _) (Rd.nil _ _) hW (by omega);rw[cut_all,hM,List.take_of_length_le (by show _≤4611686018427387904;omega)] at h9;exact h9
 have hmk:=mk_mapi w;have HM0:Hid (Sat w0 (DbP b d s v*(MpI w.heap.size 0 []*(Disk d D*F))) (w.alloc (.map #[] 0))):=(h.mapS_new (P:= Tryz.prog) (k:= 9)).up2;obtain⟨mp,hmp⟩: ∃ mp,mp=w.heap.size:=⟨_,rfl⟩;obtain⟨w1,hw1⟩: ∃ w1,w1=w.alloc (.map #[] 0):=⟨_,rfl⟩;rw[←hmp, ←hw1] at HM0 hmk;rw[←hmp] at HSc;have HMs:=ah hMs;have HSzM:=ah hsz;have HOk:=ah hok;have HMl:=ah hMl;have HB:Hid (∀ W,Sat w0 F W→RdV W A (ps.flatMap puC)∧PusR W ps):=hb;have HOkC:Hid (∀ c ∈ ps.map Pu.chn,ChgOk c):=fun c hc=>by obtain⟨p,hp,rfl⟩:=List.mem_map.1 hc;exact hok p hp
 have HPS:=ah (putsM_size HOkC.out hsz);have HPss:Hid ((putsM (ps.map Pu.chn) M).Pairwise kLT):=putsM_sorted _ hMs;clear h hs0 hM hMs hsz hok hb hmp hw1 hMl hD;have HC0:=ah c0;clear c0;have c0:=HC0.out;have HKs:Hid (∀ W (A:Option Addr) (c:Nat) (l:List UInt8),Rd W A l→(convert 41 9 (.slice A l.length c)).run Tryz.prog W = .ok (strV l) W):=fun W A c l hr=>str_any hr c
 go_enter Tryz.func69, Tryz.ntmps69;go_wp2_with (first
  | (go_at_call 51;(with_reducible refine HBl.out.mono ?_);rintro e wx ⟨rfl,rfl⟩)
  | (go_at_call 93;(with_reducible refine(HSz.out _).mono ?_);rintro e wx ⟨rfl,rfl⟩)
  | (go_at_call 24;(with_reducible refine(HSc.out _ HM0.out).mono ?_);rintro e w2 ⟨es,qs,B,cc,rfl,hin,hqs,hs2⟩;have HIn:=ah hin;have HQs:=ah hqs;have HS2:=ah (hs2.of (show _=MpI mp 0 []*(Row 65 2 (.slice B qs.length cc) qs.length (qs.flatMap prV)*(OwnE es*(DbP b d s v*(Disk d D*F)))) by ac_rfl));clear hin hqs hs2))
 clear hmk HM0 HSc HBl HSz c0 HC0;have HQl:Hid (qs.length=M.length):=by unfold Hid;rw[←HQs.out,List.length_map]
 have hql:qs.length≤80000:=by have:=HQl.out;have:=HMl.out;omega
 go_loopw [28] (fun iv wr=> ∃ i:Nat,i≤qs.length∧iv = .int .i64 (i:Int)∧Hid (Sat w0 (MpI mp i (M.take i)*(Row 65 2 (.slice B qs.length cc) qs.length (qs.flatMap prV)*(OwnE es*(DbP b d s v*(Disk d D*F))))) wr)) (fun iv _=>qs.length - (intOf iv).toNat)
 case atStart=>exact⟨0,by omega,rfl,HS2.out⟩
 case round=>
  obtain⟨i,hi,rfl,HD⟩:=hrel;by_cases hlt:i<qs.length
  ·obtain⟨lb,lo,hA,hq⟩:=prs_at HD.out.up2.row_rdK (by omega);subst hA;obtain⟨y0,y1⟩:=hq i hlt;have HRi:=ah (ownE_r HD.out.up3 _ (HIn.out _ (List.getElem_mem hlt)));have hiM:i<M.length:=by have:=HQl.out;omega
   have HMi:Hid (M[i]=pairE qs[i].ent):=by
    unfold Hid;simp only[←HQs.out,List.getElem_map]
   have HTk:Hid (M.take (i+1)=M.take i++[pairE qs[i].ent]):=by
    unfold Hid;rw[List.take_add_one,List.getElem?_eq_getElem hiM,HMi.out];rfl
   have HFr:Hid (∀ q ∈ M.take i,q.1≠(pairE qs[i].ent).1):=by have:=kv_fresh HMs.out hiM;rw[HMi.out] at this;exact this
   have HLn:Hid ((pairE qs[i].ent).1.length≤200∧(pairE qs[i].ent).2.length≤20000):=by have:=HSzM.out _ (List.getElem_mem hiM);rw[HMi.out] at this;exact this
   have hii:(i:Int)<qs.length:=by omega
   clear hq hiM HMi;generalize qs[i]=x at*
   obtain⟨⟨kA,kc,kl⟩,⟨vA,vc,vl⟩,sq,dd⟩:=x;replace y0:_=some (Value.slice kA kl.length kc):=y0;replace y1:_=some (Value.slice vA vl.length vc):=y1;replace HTk:Hid (M.take (i+1)=M.take i++[(kl,vl)]):=HTk;replace HFr:Hid (∀ q ∈ M.take i,q.1≠kl):=HFr;obtain⟨hkl,hvl⟩:kl.length≤200∧vl.length≤20000:=HLn.out;go_upto_region 6 with fail;have hs2:=HD.out.allocPt 65 #[.slice kA kl.length kc,.slice vA vl.length vc];obtain⟨W4,hW4⟩: ∃ W4,W4=wr.alloc (.cells #[.slice kA kl.length kc,.slice vA vl.length vc] 65):=⟨_,rfl⟩;rw[←hW4] at hs2;rw[←hW4];have hst:=HKs.out W4 kA kc kl (by rw[hW4];exact HRi.out.1.alloc _);clear hW4 y0 y1;have x0:=hs2.cell 0;have x1:=hs2.cell 1;obtain⟨W5,hrun,hs5,_⟩:=hs2.up2.mapS_store (t:= 192) Tryz.underlying9 Tryz.underlying192 kl (by omega) (.int .i64 ((kl.length:Int)+vl.length+40)) (by unfold maxLen;omega);have HS5:=ah hs5.drop2;clear hs2 hs5;go_wp2_with fail;go_roundw
   ·refine⟨i+1,by omega,by push_cast;rfl,?_⟩;have h9:=fK_snoc (M:=M.take i) (p:=(kl,vl)) HFr.out;rw[show ((((kl,vl):Kv).1.length+((kl,vl):Kv).2.length+40:Nat):Int)=(kl.length:Int)+vl.length+40 by simp] at h9;show Sat w0 (MapS Tryz.prog 9 mp (i+1) (fK (M.take (i+1)))*_) W5;rw[HTk.out,h9];exact HS5.out
   ·simp[intOf];omega
  ·have hie:i=M.length:=by have:=HQl.out;omega
   have HS3:Hid (Sat w0 (MpI mp M.length M*(DbP b d s v*(Disk d D*F))) wr):=by
    have h9:=HD.out;rw[hie,List.take_length] at h9;exact h9.drop2.drop2
   have hml:M.length≤80000:=by have:=HMl.out;omega
   clear hie HD;go_wp2_with fail;go_loopw [47] (fun iv wr2=> ∃ i:Nat,i≤ps.length∧iv = .int .i64 (i:Int)∧Hid (Sat w0 (MpI mp (M.length+i) (putsM ((ps.map Pu.chn).take i) M)*(DbP b d s v*(Disk d D*F))) wr2)) (fun iv _=>ps.length - (intOf iv).toNat)
   case atStart=>exact⟨0,by omega,rfl,HS3.out⟩
   case round=>
    obtain⟨i,hi,rfl,HD⟩:=hrel;by_cases hlt:i<ps.length
    ·obtain⟨lb,lo,hA,hq⟩:=pus_at (HB.out wr HD.out.right.right.right).1 (by omega);obtain⟨y0,y1,y2⟩:=hq i hlt;have HRi:=ah ((HB.out wr HD.out.right.right.right).2 _ (List.getElem_mem hlt));have HOi:=ah (HOk.out _ (List.getElem_mem hlt));have HMm:=ah (List.getElem_mem hlt);have HPt:Hid (putsM ((ps.map Pu.chn).take (i+1)) M=putM ps[i].chn (putsM ((ps.map Pu.chn).take i) M)):=by
      unfold Hid;rw[List.take_add_one,List.getElem?_eq_getElem (by rw[List.length_map];exact hlt),List.getElem_map];unfold putsM;rw[List.foldl_append];rfl
     have HSo:Hid ((putsM ((ps.map Pu.chn).take i) M).Pairwise kLT):=putsM_sorted _ HMs.out;have hii:(i:Int)<ps.length:=by omega
     have HA:=ah hA;clear hq hA;generalize putsM ((ps.map Pu.chn).take i) M=N0 at*
     generalize ps[i]=x at*
     obtain⟨⟨kA,kc,kl⟩,⟨vA,vc,vl⟩,dd⟩:=x;replace y0:_=some (Value.slice kA kl.length kc):=y0;replace y1:_=some (Value.slice vA vl.length vc):=y1;replace y2:_=some (Value.bool dd):=y2;have hkl:kl.length≤128:=HOi.out.key.2;have hvl:vl.length≤16384:=HOi.out.val;rw[HA.out];go_upto_region 11 with fail;have hs2:=HD.out.allocPt 43 #[.slice kA kl.length kc,.slice vA vl.length vc,.bool dd];obtain⟨W4,hW4⟩: ∃ W4,W4=wr.alloc (.cells #[.slice kA kl.length kc,.slice vA vl.length vc,.bool dd] 43):=⟨_,rfl⟩;rw[←hW4] at hs2;rw[←hW4];have hr4:Rd W4 kA kl:=by rw[hW4];exact HRi.out.1.alloc _
     have hst:=HKs.out W4 kA kc kl hr4;obtain⟨bx,hbx⟩: ∃ bx,bx=wr.heap.size:=⟨_,rfl⟩;rw[←hbx] at hs2;rw[←hbx];clear hW4 hbx y0 y1 y2;have x0:=hs2.cell 0;have x1:=hs2.cell 1;obtain⟨W5,hrun,hs5,hch⟩:=hs2.up2.mapS_store (t:= 192) Tryz.underlying9 Tryz.underlying192 kl (by omega) (.int .i64 ((kl.length:Int)+vl.length+40)) (by unfold maxLen;omega);have z0:W5.cell? ⟨bx,0,none⟩=some (Value.slice kA kl.length kc):=hs5.up2.cell 0;have z2:W5.cell? ⟨bx,2,none⟩=some (Value.bool dd):=hs5.up2.cell 2;have HPk:=ah (fK_put HSo.out (⟨kl,vl,dd⟩:Chn))
     cases dd
     ·have HS5:=ah hs5.drop2;clear hs2 hs5 hch;go_wp2_with fail;go_roundw
      ·refine⟨i+1,by omega,by push_cast;rfl,?_⟩;have h9:=HPk.out;rw[if_neg (by simp),show ((((⟨kl,vl,false⟩:Chn).key.length+(⟨kl,vl,false⟩:Chn).value.length+40:Nat)):Int)=(kl.length:Int)+vl.length+40 by simp] at h9;rw[HPt.out];show Sat w0 (MapS Tryz.prog 9 mp (M.length+(i+1)) (fK (putM ⟨kl,vl,false⟩ N0))*_) W5;rw[h9];exact HS5.out
      ·simp[intOf];omega
     ·have hst5:=HKs.out W5 kA kc kl ((HB.out W5 hs5.right.right.right.right).2 _ HMm.out).1;obtain⟨W6,hrun2,hs6,_⟩:=hs5.mapS_drop (t:= 192) Tryz.underlying9 Tryz.underlying192 kl (by omega) 0;have HS5:=ah hs6.drop2;clear hs2 hs5 hch hs6;go_wp2_with fail;go_roundw
      ·refine⟨i+1,by omega,by push_cast;rfl,?_⟩;have h9:=HPk.out;rw[if_pos rfl,show ((((⟨kl,vl,true⟩:Chn).key.length+(⟨kl,vl,true⟩:Chn).value.length+40:Nat)):Int)=(kl.length:Int)+vl.length+40 by simp] at h9;rw[HPt.out];show Sat w0 (MapS Tryz.prog 9 mp (M.length+(i+1)) (fK (putM ⟨kl,vl,true⟩ N0))*_) W6;rw[h9];exact HS5.out
      ·simp[intOf];omega
    ·have hie:i=ps.length:=by omega
     have HS4:Hid (Sat w0 (MpI mp (M.length+ps.length) (putsM (ps.map Pu.chn) M)*(DbP b d s v*(Disk d D*F))) wr):=by
      have h9:=HD.out;rw[hie,List.take_of_length_le (by rw[List.length_map];omega)] at h9;exact h9
     clear hie HD;obtain⟨N,hN⟩: ∃ N,N=putsM (ps.map Pu.chn) M:=⟨_,rfl⟩;rw[←hN] at HS4 HPS HPss;have HNn:=ah hN;have hsm:sizM N≤2000000000:=by
      have h8:=sizM_le HPS.out.1;have h9:=HPS.out.2;rw[List.length_map] at h9;omega
     have HSm:=ah hsm;have HLd:=ah (fun W (hW:Sat w0 F W)=>laid_any A c ps W (HB.out W hW).1 (HB.out W hW).2 (fun p hp=>⟨(HOk.out p hp).key.2,(HOk.out p hp).val⟩) (by omega));clear hN;obtain⟨ob,hob,Dm,hown,hsays⟩:=HS4.out.mapS_obj;have HOb:=ah hob;have HOwn:=ah hown;have HSays:=ah hsays;clear hob hown hsays HS4 hsm;go_wp2_with (at_range;refine wpList_range_own _ rfl _ 192 rfl 9 3 (Maps.string_keyed Tryz.underlying9) Tryz.underlying192 heldR mp (M.length+ps.length) Dm rfl HOwn.out ?_;intro w6 hrg0 hg0 hs0);go_frame
     have HS6:=ah (HOb.out.rg_start hrg0 hg0 hs0);obtain⟨R,hR⟩: ∃ R,R=wr.heap.size:=⟨_,rfl⟩;rw[←hR] at HS6;rw[←hR];clear hrg0 hg0 hs0 hR;go_loopw [12] (fun nv wr3=> ∃ (left:Lit→Bool) (cnt m:Nat),nv = .int .i64 (m:Int)∧m≤2000000400∧Hid (m=400+sumL left N∧Sat w0 (RgP Tryz.prog 9 mp R (M.length+ps.length) Dm left cnt*(DbP b d s v*(Disk d D*F))) wr3)) (fun _ wr3=>wr3.rangeLeft mp R)
     case atStart=>exact⟨Maps.has Dm,Maps.size Dm,400,rfl,by omega,by rw[sumL_start HPss.out HSays.out],HS6.out⟩
     case round=>
      obtain⟨left,cnt,m,rfl,hm,HD⟩:=hrel;have HG:=ah HD.out.2.rg;go_wp2_with (at_next;refine wpList_next_ranges _ rfl _ rfl 9 (Maps.string_keyed Tryz.underlying9) heldR Value.string id (fun key kl hkey=>(by obtain⟨x,rfl,_⟩:=WideMaps.string_of_keyOf Tryz.underlying9 hkey;exact⟨x,rfl⟩)) (fun v y hv=>⟨v,rfl⟩) mp R (M.length+ps.length) Dm left cnt rfl HG.out ?_ ?_)
      ·intro hc0 hl0;have HL0:=ah hl0;clear hc0 hl0;have HEn:Hid (m=400+sizM N):=by have h9:=HD.out.1;rw[sumL_all HL0.out] at h9;exact h9
       have HS7:Hid (Sat w0 (DbP b d s v*(Disk d D*F)) wr):=HD.out.2.right;have hib:=(img_le hn.2).2.1;obtain⟨im,him⟩: ∃ im,im=imgN n:=⟨_,rfl⟩;have HIm:=ah him;rw[←him] at hib;rw[←him];clear him HD;have HQc:Hid (fullB n N (ps.map Pu.chn)=(decide (imgN n*480<sizM N+400) || decide (logN n<needN (laiB (ps.map Pu.chn)).length))):=rfl;have HS8:=ah HS7.out.right.right;by_cases hfl:im*480<m
       ·have hfl2:(im:Int)*480<m:=by omega
        have hres:fullB n (putsM (ps.map Pu.chn) M) (ps.map Pu.chn)=true:=by
         rw[←HNn.out,HQc.out, ←HIm.out,decide_eq_true (by have:=HEn.out;omega)];rfl
        have HRes:=ah hres;clear hfl hres;go_wp2_with fail;go_ret;refine⟨?_,HS7.out⟩;rw[HRes.out];rfl
       ·have hfl2:¬ (im:Int)*480<m:=by omega
        have HLw:=ah (HLd.out wr HS8.out);obtain⟨bl,hbl⟩: ∃ bl,bl=laiB (ps.map Pu.chn):=⟨_,rfl⟩;have HBl2:=ah hbl;rw[←hbl] at HLw HQc;obtain⟨ln,hln⟩: ∃ ln,ln=logN n:=⟨_,rfl⟩;have HLn:=ah hln;rw[←hln] at HQc;rw[←hln];obtain⟨nd,hnd⟩: ∃ nd,nd=needN bl.length:=⟨_,rfl⟩;have HNd:=ah hnd;rw[←hnd] at HQc;have HNeed:Hid (∀ W,bl.length≤9223372036854775807→Calls Tryz.prog 116 #[.int .i64 (bl.length:Int)] W fun e w'=>e = .returned (.int .i64 (nd:Int))∧W=w'):=fun W h=>by rw[hnd];exact need_nat bl.length W h
        have HBll:Hid (bl.length≤9223372036854775807):=by
         unfold Hid;rw[hbl];have: ∀ l:List Chn,(∀ c ∈ l,ChgOk c)→(laiB l).length≤l.length*20000:=fun l=>by
          induction l with
          | nil=>intro _;exact Nat.le_refl _
          | cons p l ih=>
           intro h;have h1:=ih fun q hq=>h q (List.mem_cons_of_mem _ hq)
           have h2:=h p List.mem_cons_self;have h3:=h2.key;have h4:=h2.val;rw[laiB_cons,List.length_append,lai1_len,List.length_cons];omega
         have h9:=this _ HOkC.out;rw[List.length_map] at h9;omega
        clear hbl hln hnd hfl;by_cases hnl:ln<nd
        ·have hnl2:(ln:Int)<nd:=by omega
         have hres:fullB n (putsM (ps.map Pu.chn) M) (ps.map Pu.chn)=true:=by
          rw[←HNn.out,HQc.out,decide_eq_true hnl,Bool.or_true]
         have HRes:=ah hres;clear hnl hres;go_wp2_with (first
          | (go_at_call 71;(with_reducible refine HLw.out.mono ?_);rintro e w8 ⟨LB,ld,rfl,hs8⟩;have HS9:=ah (HS7.out.new hs8.chg);clear hs8)
          | (go_at_call 116;(with_reducible refine(HNeed.out _ HBll.out).mono ?_);rintro e wx ⟨rfl,rfl⟩))
         go_ret;refine⟨?_,HS9.out⟩;rw[HRes.out];rfl
        ·have hnl2:¬ (ln:Int)<nd:=by omega
         have hres:fullB n (putsM (ps.map Pu.chn) M) (ps.map Pu.chn)=false:=by
          rw[←HNn.out,HQc.out,decide_eq_false hnl,Bool.or_false, ←HIm.out,decide_eq_false (by have:=HEn.out;omega)]
         have HNl:Hid (decide (ln<nd)=false):=decide_eq_false hnl;have HRes:=ah hres;clear hnl hres;go_wp2_with (first
          | (go_at_call 71;(with_reducible refine HLw.out.mono ?_);rintro e w8 ⟨LB,ld,rfl,hs8⟩;have HS9:=ah (HS7.out.new hs8.chg);clear hs8)
          | (go_at_call 116;(with_reducible refine(HNeed.out _ HBll.out).mono ?_);rintro e wx ⟨rfl,rfl⟩))
         go_ret;refine⟨?_,HS9.out⟩;rw[HRes.out];first | rfl | exact congrArg (fun q=>Ending.returned (.bool q)) HNl.out
      ·intro x c1 kl y1 y2 w7 cnt' hkey hlk hv hat hrg' hlt hg hsz hen;obtain⟨x',ex,rfl,hwf⟩:=WideMaps.string_of_keyOf Tryz.underlying9 hkey;injection ex with ex
       subst ex;unfold heldR at hv;injection hv with hv
       injection hv with hv1 hv2
       subst hv1;have hfx:fK N x.data.toList=some c1:=saysS_at HSays.out (fun zd=>hat zd);obtain⟨vv,hv1,hv2⟩: ∃ vv,getK x.data.toList N=some vv∧ .int .i64 ((x.data.toList.length+vv.length+40:Nat):Int)=c1:=by
        unfold fK at hfx
        cases hf:getK x.data.toList N with
        | none=>rw[hf] at hfx;cases hfx
        | some vv=>rw[hf] at hfx;injection hfx with hfx;exact⟨vv,rfl,hfx⟩
       subst hv2;have hvis:=sumL_visit HPss.out hv1 hlk;obtain⟨z,hz⟩: ∃ z,z=x.data.toList.length+vv.length+40:=⟨_,rfl⟩;rw[←hz] at hen hvis;have hle:=sumL_le (fun q=>left q && !q.sameKey (.string x.data.toList)) N;have hm2:m+z≤2000000400:=by have:=HD.out.1;have:=HSm.out;omega
       have HVis:=ah hvis;have HS7:=ah (HD.out.2.rg_next hg hrg');have HLt:Hid (cnt'<cnt):=hlt;clear hkey hlk hat hrg' hlt hg hsz hwf hfx hv1 hz hvis hle;go_wp2_with fail;go_roundw
       case rel=>
        refine⟨fun q=>left q && !q.sameKey (.string x.data.toList),cnt',m+z,by push_cast;rfl,hm2,?_,HS7.out⟩;have h1:=HD.out.1;have h2:=HVis.out;omega
       case measure=>rw[HS7.out.rg.left_eq,HG.out.left_eq];exact HLt.out
end
theorem buildB_pos (L:List Ent):12≤(buildB L).length:=by
 unfold buildB allB bodyB idxB;simp only[List.length_append,putB_len];omega
theorem rngL_every (L:List Ent):rngL [] [] L=L:=by
 unfold rngL;rw[List.filter_eq_self];intro x _;unfold inR;have:Op.bytesLess x.key []=false:=by rw[cb_less];cases x.key<;>rfl
 rw[this];rfl
theorem rngT_every {L:List Ent} (h:L.Pairwise LTE) (hs: ∀ x ∈ L,x.seq≤topSeq):rngT [] [] L=L:=by rw[rngT_eq h hs,rngL_every]
structure Unp (w:World) (E:List Ent) (A:Option Addr) (c L0 m:Nat) (Q:Option Addr) (mc a:Nat) (B:Option Addr) (d:Nat) (wr:World):Prop where
 st:(m=L0∧Q=A∧mc=c∧a=0∧B=none∧d=0∧Chg No w wr)∨(m=0∧ ∃ es:List En,a=es.length∧es.map En.ent=E∧Sat w (Row 120 4 (.slice B a d) a (es.flatMap enV)*OwnE es) wr)
set_option maxHeartbeats 4000000 in
theorem unpacked_any (A:Option Addr) (c:Nat) (E:List Ent) (w:World) (hE:ImgOk E) (hn:E.length≤60000) (h:Rd w A (packB E)) (hc:(packB E).length≤c) (hm:c≤maxLen):
  Calls Tryz.prog 60 #[.slice A (packB E).length c] w (ToldE w E):=by
 have hm2:=hm;unfold maxLen at hm2;obtain⟨i0,hi0,hz0,hz1,hz2⟩:=info_parts info_entry;have Hi0:=ah hi0;have Hz0:=ah hz0;have Hz1:=ah hz1;have Hz2:=ah hz2;obtain⟨L0,hL0⟩: ∃ L0,L0=(packB E).length:=⟨_,rfl⟩;have HSt:Hid (Unp w E A c L0 L0 A c 0 none 0 w):=⟨.inl ⟨rfl,rfl,rfl,rfl,rfl,rfl,Chg.refl _ _⟩⟩;have HR:Hid (Rd w A (packB E)):=h;have HL0:=ah hL0;have HIm:=ah hE;rw[←hL0] at hc ⊢;have hL1:L0≤9223372036854775807:=by omega
 clear hi0 hz0 hz1 hz2 h hL0 hE;go_enter Tryz.func60, Tryz.ntmps60;go_wp2_with fail;go_loopw [0,3] (fun bvv ov wr=> ∃ (m mc a d:Nat) (Q B:Option Addr),m≤L0∧m≤mc∧mc≤9223372036854775807∧bvv = .slice Q m mc∧ov = .slice B a d∧Hid (Unp w E A c L0 m Q mc a B d wr)) (fun bvv _ _=>lenOf bvv)
 case atStart=>exact⟨L0,c,0,0,A,none,by omega,hc,by omega,rfl,rfl,HSt.out⟩
 case round=>
  obtain⟨m,mc,a,d,Q,B,hm0,hmc,hmx,rfl,rfl,HU⟩:=hrel;have hfin:m=0→ToldE w E (.returned (.slice B a d)) wr:=fun h0=>by
   rcases HU.out.st with ⟨h1,rfl,rfl,rfl,rfl,rfl,k⟩ | ⟨_,es,h1,h2,h3⟩
   ·have h4:E=[]:=by
     cases hE:E with
     | nil=>rfl
     | cons e L=>
      have h5:=HL0.out;rw[hE] at h5;unfold packB at h5;rw[List.length_append,putB_len] at h5;omega
    subst h4;refine⟨[],none,0,rfl,rfl,?_⟩;exact(((Sat.start w).new k).row_nil 120 4)
   ·subst h1;exact⟨es,B,d,rfl,h2,h3⟩
  have HF:=ah hfin;clear hfin;by_cases h4:4<m
  ·obtain⟨hmL,hQ,hmcc,ha,hB,hd,hk⟩:m=L0∧Q=A∧mc=c∧a=0∧B=none∧d=0∧Chg No w wr:=by
    rcases HU.out.st with h1 | ⟨h1,_⟩
    ·exact h1
    ·omega
   subst hQ;subst hmcc;subst ha;subst hB;subst hd;have HK:=ah hk;obtain⟨e0,E0,hE⟩: ∃ e0 E0,E=e0::E0:=by
    cases hE:E with
    | nil=>
     have h5:=HL0.out;rw[hE] at h5;have h6:(packB []).length=0:=rfl;omega
    | cons e L=>exact⟨e,L,rfl⟩
   have hpk:packB E=putB (buildB E).length 4++buildB E:=by rw[hE];rfl
   have hbd:buildE E=0:=HIm.out.build (by omega);have hsq:=HIm.out.seq;have hbl:=buildB_le E fun e he=>⟨(HIm.out.each e he).1.key.2,(HIm.out.each e he).1.val⟩
   have hsE:sumE E≤E.length*16512:=by
    have: ∀ l:List Ent,(∀ e ∈ l,EntOk e)→sumE l≤l.length*16512:=fun l=>by
     induction l with
     | nil=>intro _;exact Nat.le_refl _
     | cons e l ih=>
      intro h;have h1:=ih fun x hx=>h x (List.mem_cons_of_mem _ hx)
      have h2:=h e List.mem_cons_self;have h3:=h2.key;have h4:=h2.val;unfold sumE at h1 ⊢;rw[List.map_cons,List.sum_cons,List.length_cons];omega
    exact this E fun e he=>(HIm.out.each e he).1
   have hmt:m=(buildB E).length+4:=by
    have h5:=HL0.out;rw[hpk,List.length_append,putB_len] at h5;omega
   obtain⟨t,ht⟩: ∃ t,t=(buildB E).length:=⟨_,rfl⟩;rw[←ht] at hmt hbl;have hrd:Rd wr Q (packB E):=HR.out.new hk;rw[hpk, ←ht] at hrd;have h4l:(putB t 4).length=4:=putB_len _ _;obtain⟨g,o,rfl,_⟩:=hrd (by intro hq;have:=congrArg List.length hq;simp[putB_len] at this);have hget:=oget_n (some ⟨g,o,none⟩) mc (putB t 4) 4 h4l.symm t (get4 (by omega)) wr (by have h9:=hrd.take 4;rwa [List.take_left' h4l] at h9) (by omega);have hrt:Rd wr (some ⟨g,o+4,none⟩) (buildB E):=by
    have h9:=hrd.drop (k:=4) (cap:=mc) (by rw[List.length_append,h4l];omega) (by rw[List.length_append,h4l, ←ht];omega);rw[if_neg (by omega),List.drop_left' h4l,Option.map_some,Addr.add_lit] at h9;exact h9
   have HGet:=ah hget;have hm4:m - 4=t:=by omega
   have HOp:=ah (opn7 (some ⟨g,o+4,none⟩) (m - 4) (mc - 4) E hbd hsq wr (by omega) hrt (by omega) (by unfold maxLen;omega));have HEv:Hid (rngT [] [] E=E):=rngT_every HIm.out.lte (fun x hx=>by have:=(HIm.out.each x hx).1.seq;unfold topSeq;omega);have hmn:min (4+(t:Int)) (m:Int)=m:=by omega
   have hw64:IntKind.i64.wrap (t:Int)=t:=by rw[IntKind.wrap_i64];omega
   have hmI:(4:Int)<m:=by omega
   have htb:t≤2000000000:=by omega
   have HMt:=ah hmt;have HTt:=ah ht;clear hmL hk hE hpk hbd hsq hbl hsE hmt ht hrd h4l hget hrt HU hm4;go_upto_region 4 with (go_at_call 105;(with_reducible refine HGet.out.mono ?_);rintro y wx ⟨rfl,rfl⟩)
   go_upto_region 6 with (go_at_call 106;(with_reducible refine HOp.out.mono ?_);rintro y w2 ⟨T,es,rfl,hes,htb,k2⟩;have HES:=ah hes;have HTb:=ah htb;have HK2:=ah (HK.out.tr k2);clear hes htb k2)
   have hrg:=trange_any (none,0,[]) (none,0,[]) T es w2 (Rd.nil _ _) (Rd.nil _ _) HTb.out;rw[HES.out] at hrg;dsimp only at hrg;rw[HEv.out] at hrg;have HRg:Hid (Calls Tryz.prog 107 #[.pointer (some ⟨T,0,none⟩),.slice none 0 0,.slice none 0 0] w2 (ToldE w2 E)):=hrg;clear hrg HOp HGet;go_wp2_with (first
    | (go_at_call 107;(with_reducible refine HRg.out.mono ?_);rintro y w3 ⟨fs,FA,fc,rfl,hfs,hs3⟩;have HFs:=ah hfs;have HFl:Hid (fs.length=E.length):=(by unfold Hid;rw[←hfs,List.length_map]);have HS3:=ah ((((Sat.start w).new HK2.out).join hs3 (owned_star (owned_row _ _ _ _ _) (owned_ownES _))).row_nil 120 4);have hfe:fs.length≤60000:=(by have:=HFl.out;omega);clear hfs hs3)
    | (at_builtin;refine wpList_appS rfl (.tmp 27) (.tmp 29) 116 rfl 120 i0 _ 4 64 Tryz.underlying116 Hi0.out Hz0.out Hz1.out Hz2.out rfl (by decide) (.slice none 0 0) 0 [] rfl w _ (by exact HS3.out) FA fs.length fc (fs.flatMap enV) rfl (by exact(HS3.out.right.of (star_assoc _ _ _)).row_rdK) (by exact ents_len fs) (by exact ent_ones fs) (by unfold maxLen;omega) (by omega) ?_;intro A5 c5 w5 hs5;have HS5:=ah hs5;clear hs5))
   go_roundw
   ·refine⟨0,mc - m,fs.length,c5,(if mc=m then some ⟨g,o,none⟩ else some ⟨g,o+m,none⟩),A5,by omega,by omega,by omega,by simp,by simp,⟨.inr ⟨rfl,fs,rfl,HFs.out,?_⟩⟩⟩;have h1:=HS5.out;rw[List.nil_append,Nat.zero_add] at h1;have h2:=h1.of (show _=(Row 120 4 (.slice FA fs.length fc) fs.length (fs.flatMap enV)*Emp)*(Row 120 4 (.slice A5 fs.length c5) fs.length (fs.flatMap enV)*OwnE fs) by ac_rfl);exact h2.right
   ·simp[lenOf];omega
  ·have h4':¬ (4:Int)<m:=by omega
   have hmz:m=0:=by
    rcases HU.out.st with ⟨h1,rfl,rfl,rfl,rfl,rfl,k⟩ | ⟨h1,_⟩
    ·have h5:=HL0.out
     cases hE:E with
     | nil=>rw[hE] at h5;have h6:(packB []).length=0:=rfl;omega
     | cons e L=>
      rw[hE] at h5;unfold packB at h5;rw[List.length_append,putB_len] at h5;have:=buildB_pos (e::L);omega
    ·exact h1
   have HFz:=ah (HF.out hmz);clear hmz;go_wp2_with fail;go_ret;exact HFz.out
end Go.Proofs.YtmbaiglpgaoogaaGreat
