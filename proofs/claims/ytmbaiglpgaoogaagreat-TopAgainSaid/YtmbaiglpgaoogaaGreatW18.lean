/- Joined, as they were built one by one: Mrg3 MemLev RTab Sto8 StpM RFns2 RngP StpV Sto9. -/
import Derived.Deep.CutBlock
import Derived.Test.YtmbaiglpgaoogaaGreatW01
import Derived.Test.YtmbaiglpgaoogaaGreatW04
import Derived.Test.YtmbaiglpgaoogaaGreatW09
import Derived.Test.YtmbaiglpgaoogaaGreatW13
import Derived.Test.YtmbaiglpgaoogaaGreatW15
import Derived.Test.YtmbaiglpgaoogaaGreatW17
set_option maxHeartbeats 16000000
set_option linter.unusedVariables false
set_option maxRecDepth 100000
namespace Go.Proofs.YtmbaiglpgaoogaaGreat
open Go.RowKit Z
theorem qX {L:List aq} (h:L.Pairwise dE):dH L=true:=(iz L).2 fun i hi=>List.pairwise_iff_getElem.1 h i (i+1) (by omega) hi (by omega)
def qx:List En->Nat
 | []=>0
 | e::T=>1+(T.takeWhile fun x=>bz e.ak x.ak).length
theorem kC (e:En) (T:List En):qx (e::T)=(T.takeWhile fun x=>bz e.ak x.ak).length+1:=Nat.add_comm 1 _
theorem sj (f:aq->Bool): ∀ T:List En,(T.takeWhile fun x=>f x.ak).map En.ak=(T.map En.ak).takeWhile f
 | []=>rfl
 | x::T=>by
  rw[List.takeWhile_cons,List.map_cons,List.takeWhile_cons];split
  .rw[List.map_cons,sj f T]
  .rfl
theorem gV {α:Type} (f:α->Bool): ∀ T:List α,T.take (T.takeWhile f).length=T.takeWhile f/\T.drop (T.takeWhile f).length=T.dropWhile f
 | []=>⟨rfl,rfl⟩
 | x::T=>by
  rw[List.takeWhile_cons,List.dropWhile_cons];split
  .rw[List.length_cons,List.take_succ_cons,List.drop_succ_cons,(gV f T).1,(gV f T).2];exact⟨rfl,rfl⟩
  .exact⟨rfl,rfl⟩
theorem tk (f:aq->Bool): ∀ T:List En,(T.dropWhile fun x=>f x.ak).map En.ak=(T.map En.ak).dropWhile f
 | []=>rfl
 | x::T=>by
  rw[List.dropWhile_cons,List.map_cons,List.dropWhile_cons];split
  .exact tk f T
  .rfl
theorem IX: ∀ {R:List En},R≠[]->1<=qx R/\qx R<=R.length
 | [],h=>absurd rfl h
 | e::T,_=>by
  rw[kC];have:=(List.takeWhile_sublist (l:=T) (fun x=>bz e.ak x.ak)).length_le;rw[List.length_cons];omega
theorem DX (b:Bool) (snaps:List Int) {R:List En} (h:R≠[]):cP b snaps (R.map En.ak)=iQ b snaps ((R.take (qx R)).map En.ak)++cP b snaps ((R.drop (qx R)).map En.ak):=by
 cases R with
 | nil=>exact absurd rfl h
 | cons e T=>
  obtain⟨h1,h2⟩:=gV (fun x:En=>bz e.ak x.ak) T;rw[kC,List.take_succ_cons,List.drop_succ_cons,h1,h2,List.map_cons,gu,List.map_cons,sj,tk]
theorem DJ {R:List En} {i:Nat} (hi:i<R.length) (hg:i<qx R):R[i].key.2.2=(R[0]'(by omega)).key.2.2:=by
 cases R with
 | nil=>simp at hi
 | cons e T=>
  cases i with
  | zero=>rfl
  | succ i=>
   rw[kC] at hg;have hi2:i<T.length:=by simpa using hi
   have h1:i<(T.takeWhile fun x=>bz e.ak x.ak).length:=by omega
   have h2:(T.takeWhile fun x=>bz e.ak x.ak)[i]=T[i]:=by
    have h3:=(gV (fun x:En=>bz e.ak x.ak) T).1;have h4:(T.take (T.takeWhile fun x=>bz e.ak x.ak).length)[i]'(by rw[List.length_take];omega)=T[i]:=List.getElem_take;simp only[h3] at h4;exact h4
   have h5:=gv (f:=fun x:En=>bz e.ak x.ak) (List.getElem_mem h1);rw[h2] at h5;exact of_decide_eq_true h5
theorem Hl {R:List En} (hg:qx R<R.length):(R[qx R]).key.2.2≠(R[0]'(by omega)).key.2.2:=by
 cases R with
 | nil=>simp at hg
 | cons e T=>
  have hlen:(T.takeWhile fun x=>bz e.ak x.ak).length<T.length:=by rw[kC,List.length_cons] at hg;omega
  have h2:=(gV (fun x:En=>bz e.ak x.ak) T).2;have h3:T.dropWhile (fun x=>bz e.ak x.ak)≠[]:=by
   intro h;rw[h] at h2;have:=congrArg List.length h2;rw[List.length_drop] at this;simp at this;omega
  have h4:=List.head_dropWhile_not (p:=fun x:En=>bz e.ak x.ak) (l:=T) h3;have h5:(T.dropWhile fun x=>bz e.ak x.ak).head h3=T[(T.takeWhile fun x=>bz e.ak x.ak).length]:=by
   simp only[<-h2];rw[List.head_drop]
  rw[h5] at h4;have e1:qx (e::T)=(T.takeWhile fun x=>bz e.ak x.ak).length+1:=kC e T;simp only[e1,List.getElem_cons_succ];exact of_decide_eq_false h4
theorem Ic {es:List En} {n:Nat} (hs:(es.map En.ak).Pairwise dE) (hk: ∀ i (h:i<es.length),i<n->es[i].key.2.2=(es[0]'(by omega)).key.2.2):zU (es.take n):=fun a b ha hb hab=>by
 have ha2:a<es.length:=by rw[List.length_take] at ha;omega
 have hb2:b<es.length:=by rw[List.length_take] at hb;omega
 have hbn:b<n:=by rw[List.length_take] at hb;omega
 rw[List.getElem_take,List.getElem_take];have h1:=List.pairwise_iff_getElem.1 hs a b (by simpa using ha2) (by simpa using hb2) hab;simp only[List.getElem_map] at h1;rcases cK.1 h1 with h2 | ⟨_,h2⟩
 .exact absurd ((hk a ha2 (by omega)).trans (hk b hb2 hbn).symm) (dz h2)
 .exact h2
structure Lb (w:World) (b:Bool) (snaps:List Int) (es:List En) (k:Nat) (A:Option Addr) (c:Nat) (ts:List En) (TA:Option Addr) (tc:Nat) (wr:World):Prop where
 rd:aF w A ((es.drop k).flatMap bV)
 cap:(es.drop k).length<=c/\c<=maxLen
 eq:ts.map En.ak++cP b snaps ((es.drop k).map En.ak)=cP b snaps (es.map En.ak)
 bP:ts.length<=k
 sat:Sat w (Row 120 4 (.slice TA ts.length tc) ts.length (ts.flatMap bV)*(aT ts*bF)) wr
def lenOf (v:Value):Nat:=match v with | .slice _ n _=>n | _=>0
def E5 (w:World) (L:List aq) (x:Ending) (w':World):Prop:= ∃ ts A c,x = .returned (.tuple #[.slice A ts.length c,.int .i64 0])/\ts.map En.ak=L/\Sat w (Row 120 4 (.slice A ts.length c) ts.length (ts.flatMap bV)*(aT ts*bF)) w'
theorem vT (b:Bool) (A:Option Addr) (c:Nat) (es:List En) (SA:Option Addr) (sc:Nat) (snaps:List Int) (w:World) (h:aF w A (es.flatMap bV)) (hr:jG w es) (hc:es.length<=c) (hm:c<=maxLen) (hn:es.length<=1000000) (hsz: ∀ e ∈ es,e.key.2.2.length<=1000000000/\e.value.2.2.length<=1000000000)
 (hs:aF w SA (snaps.map fun x=> .int .i64 x)) (hsn:snaps.length<=1000000) (hso:(es.map En.ak).Pairwise dE):
 Calls Tryz.prog 121 #[.slice A es.length c,.bool b,.slice SA snaps.length sc] w (E5 w (cP b snaps (es.map En.ak))):=by
 obtain⟨i0,hi0,hz0,hz1,hz2⟩:=info_parts jy;have Hi0:=ah hi0;have Hz0:=ah hz0;have Hz1:=ah hz1;have Hz2:=ah hz2;have HR:=ah hr;have HSz:=ah hsz;have HSn:=ah hs;have HSo:=ah hso;have HSt:Hid (Lb w b snaps es 0 A c [] none 0 w):=⟨h,⟨hc,hm⟩,rfl,Nat.le_refl _,((Sat.start w).aN 120 4).of (by show _=Row 120 4 (.slice none 0 0) 0 []*(bF*bF);rw[bf])⟩;have HSd:Hid (Calls Tryz.prog 151 #[.slice A es.length c] w fun e w'=>e = .returned (.bool true)/\ao No w w'):=(gE A c es w h hr hc hm).mono fun e w' ⟨h1,h2⟩=>⟨by rw[h1,qX hso],h2⟩
 clear hi0 hz0 hz1 hz2 h hr hsz hs hso;unfold maxLen at hm;go_enter Tryz.func121, Tryz.ntmps121;go_wp2_with (go_at_call 151;(with_reducible refine HSd.o.mono ?_);rintro x w1 ⟨rfl,k1⟩;have HK1:=ah k1;clear k1);go_loopw [0,8] (fun lv ov wr=> ∃ (k:Nat) (A':Option Addr) (c':Nat) (ts:List En) (TA:Option Addr) (tc:Nat),k<=es.length/\lv = .slice A' (es.length - k) c'/\ov = .slice TA ts.length tc/\Hid (Lb w b snaps es k A' c' ts TA tc wr)) (fun lv _ _=>lenOf lv)
 case atStart=>exact⟨0,A,c,[],none,0,by omega,rfl,rfl,HSt.o.rd,HSt.o.cap,HSt.o.eq,HSt.o.bP,HSt.o.sat.new HK1.o⟩
 case round=>
  obtain⟨k,A',c',ts,TA,tc,hk,rfl,rfl,HD⟩:=hrel;by_cases hlt:k<es.length
  .obtain⟨R,hR⟩: ∃ R,R=es.drop k:=⟨_,rfl⟩;have hRl:R.length=es.length - k:=by rw[hR,List.length_drop]
   have hR0:R≠[]:=by intro e;rw[e] at hRl;simp at hRl;omega
   have HRd:Hid (aF w A' (R.flatMap bV)):=by rw[hR];exact HD.o.rd
   have HRc:Hid (R.length<=c'/\c'<=maxLen):=by rw[hR];exact HD.o.cap
   have HRr:Hid (jG w R):=by rw[hR];exact fun e he=>HR.o e (List.mem_of_mem_drop he)
   have HRz:Hid (∀ e ∈ R,e.key.2.2.length<=1000000000/\e.value.2.2.length<=1000000000):=by rw[hR];exact fun e he=>HSz.o e (List.mem_of_mem_drop he)
   have HRs:Hid ((R.map En.ak).Pairwise dE):=by rw[hR,List.map_drop];exact HSo.o.drop
   have HRe:Hid (ts.map En.ak++cP b snaps (R.map En.ak)=cP b snaps (es.map En.ak)):=by rw[hR];exact HD.o.eq
   have HRk:Hid (R=es.drop k):=hR;have HTs:Hid (Sat w (Row 120 4 (.slice TA ts.length tc) ts.length (ts.flatMap bV)*(aT ts*bF)) wr):=HD.o.sat;have htk:ts.length<=k:=HD.o.bP;obtain⟨m,hm1⟩: ∃ m,m=es.length - k:=⟨_,rfl⟩;rw[<-hm1] at hRl ⊢;have hm0:0<m:=by omega
   have hmm:m<=1000000:=by omega
   obtain⟨g,hg⟩: ∃ g,g=qx R:=⟨_,rfl⟩;obtain⟨hg1,hg2⟩:=IX hR0;rw[<-hg,hRl] at hg2;rw[<-hg] at hg1;have HG:=ah hg;have HMe:=ah hm1;have HRl:=ah hRl;obtain⟨lb,lo,eA,hq⟩:=dU (HRd.o.new HTs.o.aL) (by omega);have HA:=ah eA;subst eA;have hc1:m<=c':=by have:=HRc.o.1;omega
   have hc2:c'<=9223372036854775807:=HRc.o.2;have hmi:0<(m:Int):=by omega
   clear hR hR0 hg hm1 HD hRl;obtain⟨wo,hwo⟩: ∃ wo,wo=wr:=⟨_,rfl⟩;have HWo:=ah hwo;clear hwo;go_upto_block 2 with fail
   go_cut [9] (fun nv wx=>nv = .int .i64 (g:Int)/\Hid (∃ q,wx=wo.drewN q))
   case first=>
    go_wp2_with fail;go_loopw [9] (fun nv wr=> ∃ n:Nat,1<=n/\n<=g/\nv = .int .i64 (n:Int)/\Hid (∃ q,wr=wo.drewN q)) (fun nv _=>m - (intOf nv).toNat)
    case atStart=>exact⟨1,by omega,by omega,rfl,0,by rw[HWo.o];rfl⟩
    case round=>
     obtain⟨n,hn1,hng,rfl,HQ⟩:=hrel;by_cases hnm:n<m
     .have hnl:n<R.length:=by rw[HRl.o];exact hnm
      have h0l:0<R.length:=by omega
      obtain⟨kn,hkn⟩: ∃ kn,R[n].key=kn:=⟨_,rfl⟩;obtain⟨k0,hk0⟩: ∃ k0,R[0].key=k0:=⟨_,rfl⟩;have y0:=(hq n hnl).1;have y1:=(hq 0 h0l).1;rw[Nat.zero_mul,Nat.add_zero] at y1;unfold aJ at y0 y1;rw[hkn] at y0;rw[hk0] at y1;have HKn:Hid (Rd (wr.drew) kn.1 kn.2.2):=by
       obtain⟨q,e⟩:=HQ.o;have:=(HRr.o _ (List.getElem_mem hnl)).1.new HTs.o.aL;rw[hkn] at this;rw[e,HWo.o];exact(this.drewN q)
      have HK0:Hid (Rd (wr.drew) k0.1 k0.2.2):=by
       obtain⟨q,e⟩:=HQ.o;have:=(HRr.o _ (List.getElem_mem h0l)).1.new HTs.o.aL;rw[hk0] at this;rw[e,HWo.o];exact(this.drewN q)
      have HS0:Hid (wr.drew.cell? ⟨lb,lo+n*4,none⟩=some (.slice kn.1 kn.2.2.length kn.2.1)/\wr.drew.cell? ⟨lb,lo,none⟩=some (.slice k0.1 k0.2.2.length k0.2.1)):=by
       obtain⟨q,e⟩:=HQ.o;rw[e,HWo.o];exact⟨y0,y1⟩
      have hnmi:(n:Int)<m:=by omega
      by_cases hnn:n<g
      .have HEq:Hid (decide (kn.2.2=k0.2.2)=true):=by
        have:=DJ hnl (by rw[<-HG.o];exact hnn);rw[hkn,hk0] at this;exact decide_eq_true this
       clear y0 y1 hkn hk0;go_upto_region 6 with fail;refine wp_region_held_drew (S:=fun w'=>w'.cell? ⟨lb,lo+n*4,none⟩=some (.slice kn.1 kn.2.2.length kn.2.1)/\w'.cell? ⟨lb,lo,none⟩=some (.slice k0.1 k0.2.2.length k0.2.1)) (by kernel_rfl) HS0.o ?_;intro hS0;refine an 0 1 2 3 ?_;refine an 4 5 6 7 ?_;refine an 8 9 10 11 ?_;refine cw 12 13 ?_;refine bC 14 fun K hK=>?_
       go_simp;go_at_call 126;(with_reducible refine(eH kn k0 _ HKn.o HK0.o).mono ?_);rintro x wx ⟨rfl,rfl⟩;rw[HEq.o]
       refine hK.out _ _ hS0 (fun hS0=>?_);clear hK K;refine ca 15 ?_;refine wpAnyH_done (by kernel_rfl) ?_ _;go_wp2_with fail;go_roundw
       .refine⟨n+1,by omega,by omega,by go_num,?_⟩;obtain⟨q,e⟩:=HQ.o;exact⟨q+1,by rw[e];rfl⟩
       .simp[intOf];omega
      .have HEq:Hid (decide (kn.2.2=k0.2.2)=false):=by
        have hne:n=qx R:=by rw[<-HG.o];omega
        have h9:=Hl (R:=R) (by rw[<-hne];exact hnl);simp only[<-hne] at h9;rw[hkn,hk0] at h9;exact decide_eq_false h9
       have hne:Hid (n=g):=by unfold Hid;omega
       clear y0 y1 hkn hk0;go_upto_region 6 with fail;refine wp_region_held_drew (S:=fun w'=>w'.cell? ⟨lb,lo+n*4,none⟩=some (.slice kn.1 kn.2.2.length kn.2.1)/\w'.cell? ⟨lb,lo,none⟩=some (.slice k0.1 k0.2.2.length k0.2.1)) (by kernel_rfl) HS0.o ?_;intro hS0;refine an 0 1 2 3 ?_;refine an 4 5 6 7 ?_;refine an 8 9 10 11 ?_;refine cw 12 13 ?_;refine bC 14 fun K hK=>?_
       go_simp;go_at_call 126;(with_reducible refine(eH kn k0 _ HKn.o HK0.o).mono ?_);rintro x wx ⟨rfl,rfl⟩;rw[HEq.o]
       refine hK.out _ _ hS0 (fun hS0=>?_);clear hK K;refine ca 15 ?_;refine wpAnyH_done (by kernel_rfl) ?_ _;go_wp2_with fail;go_meet
       obtain⟨q,e⟩:=HQ.o;exact⟨by rw[hne.o],q+1,by rw[e];rfl⟩
     .have hnmi:¬ (n:Int)<m:=by omega
      have hnd:decide ((n:Int)<(m:Int))=false:=decide_eq_false hnmi;have hne:Hid (n=g):=by unfold Hid;omega
      go_upto_region 6 with fail;refine wp_region_held_drew (S:=fun _=>True) (by kernel_rfl) trivial ?_;intro hS0;refine an 0 1 2 3 ?_
      try simp only[hnd]
      refine ca 4 ?_;refine cg 5 ?_;refine cg 6 ?_;refine cg 7 ?_;refine cg 8 ?_;refine cg 9 ?_;refine cg 10 ?_;refine cg 11 ?_;refine cg 12 ?_;refine cg 13 ?_;refine cg 14 ?_;refine ca 15 ?_;refine wpAnyH_done (by kernel_rfl) ?_ _;go_wp2_with fail;go_meet
      obtain⟨q,e⟩:=HQ.o;exact⟨by rw[hne.o],q+1,by rw[e];rfl⟩
   case rest=>
    obtain⟨rfl,HQ⟩:=hcut;have HT2:Hid (Sat w (Row 120 4 (.slice TA ts.length tc) ts.length (ts.flatMap bV)*(aT ts*bF)) wc):=by
     obtain⟨q,e⟩:=HQ.o;rw[e,HWo.o];exact HTs.o.drewN q
    clear HQ HTs;obtain⟨G,hG⟩: ∃ G,G=R.take g:=⟨_,rfl⟩;have hGl:G.length=g:=by rw[hG,List.length_take,HRl.o];omega
    have HGl:=ah hGl;have HGe:=ah hG;have HGd:Hid (zU G):=by rw[hG];exact Ic HRs.o (fun i h hi=>DJ h (by rw[<-HG.o];exact hi))
    have HQ4:Hid (∀ W,ao No w W-> ∀ i (hi:i<R.length),W.cell? ⟨lb,lo+i*4,none⟩=some (aJ R[i].key)/\W.cell? ⟨lb,lo+i*4+1,none⟩=some (aJ R[i].value)/\W.cell? ⟨lb,lo+i*4+2,none⟩=some (.int .i64 R[i].seq)/\W.cell? ⟨lb,lo+i*4+3,none⟩=some (.bool R[i].dead)):=fun W hW=>by
     obtain⟨b',o',e,hc⟩:=dU (HRd.o.new hW) (by rw[HRl.o];exact hm0);injection e with e
     injection e with e1 e2
     subst e1;subst e2;exact hc
    obtain⟨mk,hmk⟩: ∃ mk,mk=gw G snaps:=⟨_,rfl⟩;have HMl:Hid (mk.length=g):=by rw[hmk];exact(nL G snaps).trans hGl
    have HMk:Hid (mS mk (G.map En.ak)=cU snaps none (G.map En.ak)):=by rw[hmk];exact D7 HGd.o snaps
    have HSe:Hid (Calls Tryz.prog 152 #[.slice (some ⟨lb,lo,none⟩) g c',.slice SA snaps.length sc] wc fun x w'=> ∃ gm,x = .returned (.slice (some ⟨gm,0,none⟩) g g)/\Sat w (Row 120 4 (.slice TA ts.length tc) ts.length (ts.flatMap bV)*(aT ts*(Row 4 1 (.slice (some ⟨gm,0,none⟩) g g) g (mk.map Value.bool)*bF))) w'):=by
     have h9:=Ec (some ⟨lb,lo,none⟩) c' G SA sc snaps HT2.o (by rw[hG];exact Ci (HRd.o.new HT2.o.aL) (by rw[HRl.o];omega)) (HSn.o.new HT2.o.aL) (by omega) hsn (fun s a b ha hb hab hx=>by
      rcases Nat.lt_or_ge a b with h | h
      .have:=HGd.o a b ha hb h;omega
      .obtain rfl:a=b:=by omega
       exact hx)
     rw[hGl, <-hmk] at h9;exact h9.mono fun x w' ⟨gm,h1,h2,_⟩=>⟨gm,h1,h2.of (by ac_rfl)⟩
    have hgc:(g:Int)<=c':=by omega
    have hgc2:g<=c':=by omega
    clear hG hGl hmk hq;go_wp2_with (go_at_call 152;(with_reducible refine HSe.o.mono ?_);rintro x w3 ⟨gm,rfl,hs⟩;have HS3:=ah hs;clear hs);clear HSe HT2;go_loopw [8,45] (fun ov iv wr=> ∃ (i:Nat) (ts2:List En) (TA2:Option Addr) (tc2:Nat),i<=g/\iv = .int .i64 (i:Int)/\ov = .slice TA2 ts2.length tc2/\ts2.length<=ts.length+i/\Hid (ts2.map En.ak=ts.map En.ak++mS (mk.take i) ((G.take i).map En.ak)/\Sat w (Row 120 4 (.slice TA2 ts2.length tc2) ts2.length (ts2.flatMap bV)*(aT ts2*(Row 4 1 (.slice (some ⟨gm,0,none⟩) g g) g (mk.map Value.bool)*bF))) wr)) (fun _ iv _=>g - (intOf iv).toNat)
    case atStart=>exact⟨0,ts,TA,tc,by omega,rfl,rfl,by omega,by simp[mS],HS3.o⟩
    case round=>
     obtain⟨i,ts2,TA2,tc2,hi,rfl,rfl,hl2,HE⟩:=hrel;by_cases hig:i<g
     .have hii:(i:Int)<g:=by omega
      have hiR:i<R.length:=by rw[HRl.o];omega
      have z0:=HE.o.2.bp.kx (j:=i) (by rw[List.length_map,HMl.o];exact hig);rw[List.getElem_map] at z0;obtain⟨mb,hmb⟩: ∃ mb,mk[i]'(by rw[HMl.o];exact hig)=mb:=⟨_,rfl⟩;rw[hmb] at z0;have HSn2:Hid (mS (mk.take (i+1)) ((G.take (i+1)).map En.ak)=mS (mk.take i) ((G.take i).map En.ak)++(if mb=true then [R[i].ak] else [])):=by
       have hiG:i<G.length:=by rw[HGl.o];exact hig
       have hiM:i<mk.length:=by rw[HMl.o];exact hig
       have e1:mk.take (i+1)=mk.take i++[mb]:=by rw[List.take_add_one,List.getElem?_eq_getElem hiM,hmb];rfl
       have e2:G[i]?=some R[i]:=by rw[HGe.o,List.getElem?_take,if_pos hig,List.getElem?_eq_getElem hiR]
       have e3:G.take (i+1)=G.take i++[R[i]]:=by rw[List.take_add_one,e2];rfl
       unfold Hid;rw[e1,e3,List.map_append];exact qY _ _ _ _ (by rw[List.length_take,List.length_map,List.length_take,HMl.o,HGl.o])
      clear hmb
      cases mb
      .go_wp2_with fail;go_roundw
       .refine⟨i+1,ts2,TA2,tc2,by omega,by go_num,rfl,by omega,?_,HE.o.2⟩;rw[HSn2.o,HE.o.1];simp
       .simp[intOf];omega
      .obtain⟨y0,y1,y2,y3⟩:=HQ4.o wr HE.o.2.aL i hiR;have HRi:=ah ((HRr.o _ (List.getElem_mem hiR)));have HRj:=ah ((HRz.o _ (List.getElem_mem hiR)));obtain⟨x,hx⟩: ∃ x,R[i]=x:=⟨_,rfl⟩;rw[hx] at y0 y1 y2 y3 HRi HRj HSn2;clear hx;unfold aJ at y0 y1;have HCo:Hid (Calls Tryz.prog 153 #[.agg #[.slice x.key.1 x.key.2.2.length x.key.2.1,.slice x.value.1 x.value.2.2.length x.value.2.1,.int .i64 x.seq,.bool x.dead]] wr fun y w'=>jk w _ x y w'/\ao No wr w'):=wg x w wr _ HE.o.2 ⟨HRi.o.1.new HE.o.2.aL,HRi.o.2.new HE.o.2.aL⟩ (by have:=HRj.o.1;omega) (by have:=HRj.o.2;omega);go_wp2_with (first
        | (go_at_call 153;(with_reducible refine HCo.o.mono ?_);rintro y w6 ⟨⟨A2,c2,B2,d2,rfl,hs6⟩,k6⟩;have HS6:=ah hs6;clear hs6 k6;simp only[iN])
        | (at_builtin;refine av rfl (.tmp 51) (.tmp 57) 116 rfl 120 i0 _ 4 64 Tryz.underlying116 Hi0.o Hz0.o Hz1.o Hz2.o rfl (by decide) (.slice TA2 ts2.length tc2) ts2.length (ts2.flatMap bV) rfl w _ (by exact(HS6.o.aD _).bp) (some ⟨w6.heap.size,0,none⟩) 1 1 [.slice A2 x.key.2.2.length c2,.slice B2 x.value.2.2.length d2,.int .i64 x.seq,.bool x.dead] rfl (aR _ _ _) rfl (by intro u hu;simp at hu;rcases hu with rfl | rfl | rfl | rfl<;>rfl) (by unfold maxLen;omega) (by omega) ?_;intro A3 c3 w7 hs7;have HS7:=ah hs7;clear hs7))
       go_roundw
       .refine⟨i+1,ts2++[⟨(A2,c2,x.key.2.2),(B2,d2,x.value.2.2),x.seq,x.dead⟩],A3,c3,by omega,by go_num,by rw[List.length_append];rfl,by rw[List.length_append];simp;omega,?_,?_⟩
        .rw[HSn2.o,List.map_append,HE.o.1,List.append_assoc];rfl
        .refine HS7.o.of ?_;rw[fu,List.flatMap_append,List.length_append];show _=Row _ 4 _ _ (ts2.flatMap bV++[_,_,_,_])*_;unfold aJ
         ac_rfl
       .simp[intOf];omega
     .have hig2:i=g:=by omega
      subst hig2;have hii:¬ (i:Int)<i:=by omega
      have HE1:Hid (ts2.map En.ak=ts.map En.ak++cU snaps none (G.map En.ak)):=by
       have h9:=HE.o.1;rw[List.take_of_length_le (by rw[HMl.o];exact Nat.le_refl _),List.take_of_length_le (by rw[HGl.o];exact Nat.le_refl _),HMk.o] at h9;exact h9
      have HE2:Hid (Sat w (Row 120 4 (.slice TA2 ts2.length tc2) ts2.length (ts2.flatMap bV)*(aT ts2*bF)) wr):=Sat.right (A:=Row 4 1 (.slice (some ⟨gm,0,none⟩) i i) i (mk.map Value.bool)) (HE.o.2.of (by ac_rfl));clear HE HS3;go_upto_block 6 with fail
      go_cut [8] (fun ov wx=> ∃ (ts4:List En) (TA4:Option Addr) (tc4:Nat),ov = .slice TA4 ts4.length tc4/\Hid (ts4.map En.ak=ts.map En.ak++iQ b snaps (G.map En.ak)/\Sat w (Row 120 4 (.slice TA4 ts4.length tc4) ts4.length (ts4.flatMap bV)*(aT ts4*bF)) wx))
      case first=>
       go_wp2_with fail;go_loopw [8] (fun ov wr=> ∃ (ts3:List En) (X:List aq) (TA3:Option Addr) (tc3:Nat),ov = .slice TA3 ts3.length tc3/\ts.length<=ts3.length/\ts3.length<=1000000/\Hid (ts3.map En.ak=ts.map En.ak++X/\(b=true->fT X=fT (cU snaps none (G.map En.ak)))/\(b=false->X=cU snaps none (G.map En.ak))/\Sat w (Row 120 4 (.slice TA3 ts3.length tc3) ts3.length (ts3.flatMap bV)*(aT ts3*bF)) wr)) (fun ov _=>lenOf ov)
       case atStart=>
        refine⟨ts2,cU snaps none (G.map En.ak),TA2,tc2,rfl,?_,by have:=HMe.o;omega,HE1.o,fun _=>rfl,fun _=>rfl,HE2.o⟩;have h9:=congrArg List.length HE1.o;rw[List.length_append,List.length_map,List.length_map] at h9;omega
       case round=>
        obtain⟨ts3,X,TA3,tc3,rfl,hl3,hl4,HF⟩:=hrel
        cases b
        .go_wp2_with fail;go_meet
         refine⟨ts3,TA3,tc3,rfl,?_,HF.o.2.2.2⟩;rw[show iQ false snaps (G.map En.ak)=cU snaps none (G.map En.ak) from rfl,HF.o.1,HF.o.2.2.1 (by simp)]
        .by_cases hle:ts.length<ts3.length
         .obtain⟨ts5,x,rfl⟩: ∃ ts5 x,ts3=ts5++[x]:=by
           rcases List.eq_nil_or_concat ts3 with h9 | ⟨a,z,h9⟩
           .rw[h9] at hle;simp at hle
           .exact⟨a,z,by rw[h9,List.concat_eq_append]⟩
          obtain⟨X2,hX⟩: ∃ X2,X=X2++[x.ak]:=by
           have h9:=HF.o.1;rcases List.eq_nil_or_concat X with h8 | ⟨a,z,h8⟩
           .rw[h8] at h9;have:=congrArg List.length h9;rw[List.length_map,List.append_nil,List.length_map] at this;omega
           .rw[List.concat_eq_append] at h8;rw[h8,List.map_append, <-List.append_assoc] at h9;have h7:=List.append_inj_right' h9 rfl;injection h7 with h7
            have h6:x.ak=z:=h7;exact⟨a,by rw[h8,h6]⟩
          subst hX;obtain⟨q,hq⟩: ∃ q,q=ts5.length:=⟨_,rfl⟩;have hql:(ts5++[x]).length=q+1:=by rw[List.length_append,hq];rfl
          rw[hql] at hle hl3 hl4 ⊢;have HFs:Hid (Sat w (Row 120 4 (.slice TA3 (q+1) tc3) (q+1) ((ts5++[x]).flatMap bV)*(aT (ts5++[x])*bF)) wr):=by rw[<-hql];exact HF.o.2.2.2
          have HFe:Hid (ts5.map En.ak=ts.map En.ak++X2):=by
           have h9:=HF.o.1;rw[List.map_append, <-List.append_assoc] at h9;exact List.append_inj_left' h9 rfl
          have HFt:Hid (fT (X2++[x.ak])=fT (cU snaps none (G.map En.ak))):=HF.o.2.1 (by simp);obtain⟨g3,rfl,hg3⟩:=HFs.o.qu (by omega);have z3:=hg3 (q*4+3) (by rw[dD eF,hql];omega);have z4:((ts5++[x]).flatMap bV)[q*4+3]'(by rw[dD eF,hql];omega) = .bool x.dead:=by
           have e1:(ts5++[x]).flatMap bV=ts5.flatMap bV++bV x:=by rw[List.flatMap_append,List.flatMap_cons,List.flatMap_nil,List.append_nil]
           have e2:(ts5.flatMap bV).length=q*4:=by rw[dD eF,hq]
           apply Option.some.inj;rw[<-List.getElem?_eq_getElem,e1,List.getElem?_append_right (by omega),e2,show q*4+3 - q*4=3 by omega];rfl
          rw[z4] at z3;have hqi:((q:Int)+1) - 1=q:=by omega
          have hlq:(ts.length:Int)<(q:Int)+1:=by omega
          have HQe:Hid (q=ts5.length):=hq;obtain⟨db,hdb⟩: ∃ db,x.dead=db:=⟨_,rfl⟩;rw[hdb] at z3;have HDb:Hid (x.dead=db):=hdb;have hc89:q+1<=tc3/\tc3<=maxLen:=by
           obtain⟨A9,c9,e9,h8,h9⟩:=HFs.o.bm;injection e9 with _ _ e9
           rw[e9];exact⟨h8,h9⟩
          obtain⟨hc8,hc9⟩:=hc89;unfold maxLen at hc9;clear hg3 z4 hq hql hdb HF
          cases db
          .go_wp2_with fail;go_meet
           refine⟨ts5++[x],_,tc3,by rw[List.length_append, <-HQe.o];rfl,?_,?_⟩
           .rw[show iQ true snaps (G.map En.ak)=fT (cU snaps none (G.map En.ak)) from rfl, <-HFt.o,ni (by exact HDb.o),List.map_append,HFe.o,List.append_assoc];rfl
           .rw[List.length_append, <-HQe.o];exact HFs.o
          .go_wp2_with fail;go_roundw
           .refine⟨ts5,X2,_,tc3,by rw[<-HQe.o],by rw[<-HQe.o];omega,by rw[<-HQe.o];omega,HFe.o,fun _=>?_,fun h=>(by cases h),?_⟩
            .rw[<-HFt.o,nD (by exact HDb.o)]
            .have h9:=HFs.o.GI q (by omega);have e1:(ts5++[x]).flatMap bV=ts5.flatMap bV++bV x:=by rw[List.flatMap_append,List.flatMap_cons,List.flatMap_nil,List.append_nil]
             rw[e1,List.take_left' (by rw[dD eF, <-HQe.o]),fu] at h9;rw[<-HQe.o];exact Sat.right (A:=Row 5 1 (aJ x.key) x.key.2.2.length (x.key.2.2.map bv)*Row 5 1 (aJ x.value) x.value.2.2.length (x.value.2.2.map bv)) (h9.of (by ac_rfl))
           .show q<q+1;omega
         .have hle2:ts3.length=ts.length:=by omega
          have hX:X=[]:=by
           have h9:=congrArg List.length HF.o.1;rw[List.length_append,List.length_map,List.length_map] at h9;exact List.length_eq_zero_iff.1 (by omega)
          have HX:=ah hX;have hlq:¬ (ts.length:Int)<(ts3.length:Int):=by omega
          clear hle2 hX;go_wp2_with fail;go_meet
          refine⟨ts3,TA3,tc3,rfl,?_,HF.o.2.2.2⟩;rw[show iQ true snaps (G.map En.ak)=fT (cU snaps none (G.map En.ak)) from rfl,HF.o.1, <-HF.o.2.1 (by simp),HX.o];rfl
      case rest=>
       obtain⟨ts4,TA4,tc4,rfl,HF⟩:=hcut;go_wp2_with fail;have hkg:es.length - (k+i)=m - i:=by have:=HMe.o;omega
       have HRn:Hid (R.drop i=es.drop (k+i)):=by
        unfold Hid;rw[HRk.o,List.drop_drop]
       have hdl:(R.drop i).length=m - i:=by rw[List.length_drop,HRl.o]
       go_roundw
       .refine⟨k+i,_,c' - i,ts4,TA4,tc4,by have:=HMe.o;omega,by rw[hkg],rfl,?_⟩;refine⟨?_,?_,?_,?_,HF.o.2⟩
        .rw[<-HRn.o];have h9:=CM HRd.o (n:=i) (by rw[HRl.o];omega) (by rw[HRl.o];omega);by_cases e:c'=i
         .rw[if_pos e] at h9 ⊢;exact h9
         .rw[if_neg e,Option.map_some,Addr.add_lit] at h9;rw[if_neg e];exact h9
        .rw[<-HRn.o,hdl];exact⟨by omega,by unfold maxLen;omega⟩
        .rw[<-HRn.o,HF.o.1,List.append_assoc, <-HRe.o,DX b snaps (R:=R) (by intro e;have:=HRl.o;rw[e] at this;simp at this;omega), <-HG.o, <-HGe.o]
        .have h9:=congrArg List.length HF.o.1;have h8:=(nb b snaps (G.map En.ak)).length_le;rw[List.length_append,List.length_map,List.length_map] at h9;rw[List.length_map,HGl.o] at h8;omega
       .show m - i<m;omega
  .have hke:es.length - k=0:=by omega
   have HEe:Hid (ts.map En.ak=cP b snaps (es.map En.ak)):=by
    have h9:=HD.o.eq;rw[List.drop_of_length_le (by omega),List.map_nil,iT,List.append_nil] at h9;exact h9
   rw[hke];go_wp2_with fail;go_ret2;exact⟨ts,TA,tc,rfl,HEe.o,HD.o.sat⟩
def zz (i:Int) (ns:List Nd):List aq:=if 0<=i/\i<8 then nn [] i.toNat ns else []
theorem sG (w:World):lO w [] (.returned (.slice none 0 0)) w:=⟨[],none,0,rfl,rfl,((Sat.start w).aN _ 4).of (by rfl)⟩
def G2 (y:En):Prop:=(y.key.2.2.length<=y.key.2.1/\y.key.2.1<=maxLen)/\(y.value.2.2.length<=y.value.2.1/\y.value.2.1<=maxLen)
theorem EV {w0 w:World} {G:SP} {A B:Option Addr} {cA cB:Nat} {k v:List UInt8} (h:Sat w0 (Row 5 1 (.slice A k.length cA) k.length (k.map bv)*(Row 5 1 (.slice B v.length cB) v.length (v.map bv)*G)) w) (seq:Int) (dead:Bool):G2 ⟨(A,cA,k),(B,cB,v),seq,dead⟩:=by
 obtain⟨_,_,e1,h1,h2⟩:=h.bm;obtain⟨_,_,e2,k1,k2⟩:=h.ay.bm;injection e1 with _ _ e1
 injection e2 with _ _ e2
 subst e1;subst e2;exact⟨⟨h1,h2⟩,k1,k2⟩
section
variable {w0 w:World} {F:SP} {r:Nat} {vL vH:Value} {es:List En} {hs:List Nat}
theorem Sat.cj {e:TypeId} {size n c:Nat} {A:Option Addr} {xs:List Value} (h:Sat w0 (Row e size (.slice A n c) n xs*F) w):aF w A xs:=fun hx=>by
 obtain⟨hl,⟨_,e2,_⟩ | ⟨g,cap,cur,e1,h1,h2,h3,h4,h5⟩⟩:=h.cu
 .subst e2;exact absurd (List.eq_nil_of_length_eq_zero (by simpa using hl)) hx
 .injection e1 with e1 _ e3
  refine⟨g,0,e1,fun j hj=>?_⟩;rw[Nat.zero_add,h5.cell];have h6:xs[j]?=some xs[j]:=List.getElem?_eq_getElem hj;rw[<-h6, <-h4,List.getElem?_take,if_pos (by omega)];simp
end
theorem pd (es:List En): ∀ u ∈ es.flatMap bV,u.oneCell'=true:=by
 intro u hu;obtain⟨e,_,he⟩:=List.mem_flatMap.1 hu;unfold bV aJ at he;simp at he;rcases he with rfl | rfl | rfl | rfl<;>rfl
theorem qG (es:List En):(es.flatMap bV).length=es.length*4:=dD eF es
theorem Gn (es:List En) (n:Nat):(es.drop n).flatMap bV=(es.flatMap bV).drop (n*4):=by
 induction es generalizing n with
 | nil=>simp
 | cons e es ih=>
  cases n with
  | zero=>simp
  | succ n=>
   rw[List.drop_succ_cons,List.flatMap_cons,ih,List.drop_append];have:(bV e).length=4:=rfl;rw[this,List.drop_of_length_le (l:=bV e) (by rw[this];omega),show (n+1)*4 - 4=n*4 by omega,List.nil_append]
def we (e:aq) (L:List aq):Nat:=(L.takeWhile fun x=>az x e).length
theorem Ii (e:aq) (L:List aq):we e L<=L.length:=by unfold we;exact(List.takeWhile_sublist _).length_le
theorem IE {e:aq} {L:List aq} {k:Nat} (hk:k<L.length) (h:k<we e L):az L[k] e=true:=by
 have h1:(L.takeWhile fun x=>az x e)[k]'h ∈ L.takeWhile fun x=>az x e:=List.getElem_mem _;have h2:=yO h1;have h3:L[k]=(L.takeWhile fun x=>az x e)[k]'h:=by
  have e0:=kT (fun x=>az x e) L;have h4:L[k]?=(L.takeWhile fun x=>az x e)[k]?:=by
   conv=>lhs;rw[e0]
   rw[List.getElem?_append_left h]
  rw[List.getElem?_eq_getElem hk,List.getElem?_eq_getElem h] at h4;exact Option.some.inj h4
 rw[h3];exact h2
theorem Hu {e:aq} {L:List aq} {k:Nat} (hk:k<L.length) (hlow: ∀ i (h:i<L.length),i<k->az L[i] e=true) (h:az L[k] e=false):k=we e L:=by
 rcases Nat.lt_trichotomy k (we e L) with q | q | q
 .rw[IE hk q] at h;cases h
 .exact q
 .have hl:we e L<L.length:=by omega
  have e0:=kT (fun x=>az x e) L
  cases hd:L.dropWhile (fun x=>az x e) with
  | nil=>
   rw[hd,List.append_nil] at e0;have:=congrArg List.length e0;unfold we at hl;omega
  | cons x s=>
   have h2:L[we e L]?=some x:=by
    obtain⟨q',hq'⟩: ∃ q',q'=we e L:=⟨_,rfl⟩;rw[<-hq'];have hq2:(L.takeWhile fun x=>az x e).length=q':=hq'.symm
    conv=>lhs;rw[e0,hd]
    rw[List.getElem?_append_right (by omega),hq2];simp
   rw[List.getElem?_eq_getElem hl] at h2;have h2:=Option.some.inj h2;have h3:=List.head?_dropWhile_not (fun x=>az x e) L;rw[hd] at h3;simp at h3;have h4:=hlow _ hl q;rw[h2,h3] at h4
   cases h4
theorem IQ {e:aq} {L:List aq} (hlow: ∀ i (h:i<L.length),az L[i] e=true):L.length=we e L:=by
 have h:=Ii e L;rcases Nat.eq_or_lt_of_le h with q | q
 .exact q.symm
 .have e0:=kT (fun x=>az x e) L
  cases hd:L.dropWhile (fun x=>az x e) with
  | nil=>rw[hd,List.append_nil] at e0;have:=congrArg List.length e0;unfold we;omega
  | cons x s=>
   have hx:x ∈ L:=by rw[e0,hd];simp
   obtain⟨i,hi,rfl⟩:=List.mem_iff_getElem.1 hx;have h3:=List.head?_dropWhile_not (fun x=>az x e) L;rw[hd] at h3;simp at h3;rw[hlow i hi] at h3
   cases h3
theorem Dw:(Tryz.prog.info? 3).map (fun i=>(i.zero,i.size,i.bytes))=some (some (.int .i64 0),1,8):=by kernel_rfl
def iH (f:Int->Option Nat):Int->Option Value:=fun i=>(f i).map fun q:Nat=> .agg #[.int .i64 (q:Int)]
structure Kz (f:Int->Option Nat) (left:Lit->Bool) (n cnt:Nat) (qs:List Int):Prop where
 only: ∀ q ∈ qs, ∃ i s,f i=some s/\q=((s:Nat):Int)
 all: ∀ i s,f i=some s->left (.int .i64 i)=false->((s:Nat):Int) ∈ qs
 bP:qs.length+cnt<=n
def sE (f:Int->Option Nat) (n:Nat) (qs:List Int):Prop:=(∀ q,q ∈ qs↔ ∃ i s,f i=some s/\q=((s:Nat):Int))/\qs.length<=n
section
variable {w0 w:World} {F:SP}
theorem yD (b mb n:Nat) (f:Int->Option Nat) (cs:Array Value) (h:Sat w0 (Pt b 113 cs*(bT Tryz.prog 3 mb n (iH f)*F)) w) (hc:cs[5]?=some (.map (some mb))) (hn:n<=1000000):
 Calls Tryz.prog 148 #[.pointer (some ⟨b,0,none⟩)] w fun e w'=> ∃ (A:Option Addr) (c:Nat) (qs:List Int),e = .returned (.slice A qs.length c)/\sE f n qs/\Sat w0 (Row 3 1 (.slice A qs.length c) qs.length (qs.map (Value.int .i64))*(Pt b 113 cs*(bT Tryz.prog 3 mb n (iH f)*F))) w':=by
 obtain⟨j0,hj,hy0,hy1,hy2⟩:=info_parts Dw;have Hj:=ah hj;have Hy0:=ah hy0;have Hy1:=ah hy1;have Hy2:=ah hy2;have c5:w.cell? ⟨b,5,none⟩=some (.map (some mb)):=by rw[h.cell 5];exact hc
 obtain⟨ob,hob,Dm,hown,hsays⟩:=h.ay.Hf;have HOb:=ah hob;have HOwn:=ah hown;have HSays:=ah hsays;have HSz:Hid (Maps.size Dm<=n):=hown.size_le;clear h hc hob hown hsays hj hy0 hy1 hy2;go_enter Tryz.func148, Tryz.ntmps148;go_wp2_with (at_range;refine wpList_range_own _ rfl _ 111 rfl 3 135 (Maps.int_keyed Tryz.underlying3) Tryz.underlying111 ct mb n Dm rfl HOwn.o ?_;intro w6 hrg0 hg0 hs0);go_frame
 have HS6:=ah (HOb.o.xd hrg0 hg0 hs0);obtain⟨R,hR⟩: ∃ R,R=w.heap.size:=⟨_,rfl⟩;rw[<-hR] at HS6;rw[<-hR];clear hrg0 hg0 hs0 c5 hR;go_loopw [3] (fun ov wr=> ∃ (left:Lit->Bool) (cnt k d:Nat) (B:Option Addr) (qs:List Int),ov = .slice B k d/\Hid (k=qs.length/\Kz f left n cnt qs/\Sat w0 (Row 3 1 (.slice B k d) k (qs.map (Value.int .i64))*(Gf Tryz.prog 3 mb R n Dm left cnt*(Pt b 113 cs*F))) wr)) (fun _ wr=>wr.rangeLeft mb R)
 case atStart=>
  refine⟨Maps.has Dm,Maps.size Dm,0,0,none,[],rfl,rfl,⟨fun q hq=>(by cases hq),fun i s h1 h2=>?_,by simpa using HSz.o⟩,HS6.o.aN 3 1⟩;have h3:=Ek HSays.o h2;unfold iH at h3;rw[h1] at h3
  cases h3
 case round=>
  obtain⟨left,cnt,k,d,B,qs,rfl,HD⟩:=hrel;have HG:=ah HD.o.2.2.ay.rg;go_wp2_with (at_next;refine wpList_next_ranges _ rfl _ rfl 3 (Maps.int_keyed Tryz.underlying3) ct (Value.int .i64) id (fun key kl hkey=>(by obtain⟨x,rfl,_⟩:=Maps.keyOf_int_inv Tryz.underlying3 hkey;exact⟨x,rfl⟩)) (fun v y hv=>⟨v,rfl⟩) mb R n Dm left cnt rfl HG.o ?_ ?_)
  .intro hc0 hl0;have HL0:=ah hl0;clear hc0 hl0;go_wp2_with fail;go_ret;have hk:=HD.o.1;subst hk;refine⟨B,d,qs,rfl,⟨fun q=>⟨fun hq=>HD.o.2.1.only q hq,?_⟩,by have:=HD.o.2.1.bP;omega⟩,?_⟩
   .rintro ⟨i,s,h1,rfl⟩;exact HD.o.2.1.all i s h1 (HL0.o _)
   .exact(HD.o.2.2.ay.Jl HSays.o).ay.of (by rw[aX (bT _ _ _ _ _)])
  .intro x c kl y1 y2 w7 cnt' hkey hlk hv hat hrg' hlt hg hsz hen;obtain⟨x',ex,rfl,hwf⟩:=Maps.keyOf_int_inv Tryz.underlying3 hkey;injection ex with _ ex
   subst ex;unfold ct at hv;injection hv with hv
   injection hv with hv1 hv2
   subst hv1;have hfx:iH f x=some c:=GS HSays.o (fun zd=>hat zd);obtain⟨s,hs1,hs2⟩: ∃ s,f x=some s/\ .agg #[.int .i64 ((s:Nat):Int)]=c:=by
    unfold iH at hfx
    cases hf:f x with
    | none=>rw[hf] at hfx;cases hfx
    | some s=>rw[hf] at hfx;injection hfx with hfx;exact⟨s,rfl,hfx⟩
   subst hs2;have HS7:=ah ((HD.o.2.2.ay.AJ hg hrg').ay);have HX:=ah hs1;have HLt:Hid (cnt'<cnt):=hlt;have HM:=ah HD.o.2.1;have HK:=ah HD.o.1;have hkn:k<=1000000:=by have:=HM.o.bP;have:=HK.o;omega
   have HRg:=ah hrg';obtain⟨z,hz⟩: ∃ z:Int,z=((s:Nat):Int):=⟨_,rfl⟩;rw[<-hz] at hen;have HZ:=ah hz;clear hkey hlk hat hrg' hlt hg hsz hwf hfx hs1 hz HD;go_upto_region 5 with fail;have hs8:=HS7.o.ab 135 #[.int .i64 z];obtain⟨W8,hW8⟩: ∃ W8,W8=w7.alloc (.cells #[.int .i64 z] 135):=⟨_,rfl⟩;rw[<-hW8] at hs8;rw[<-hW8];obtain⟨bx,hbx⟩: ∃ bx,bx=w7.heap.size:=⟨_,rfl⟩;rw[<-hbx] at hs8;rw[<-hbx];clear hW8 hbx hen;have x0:=hs8.cell 0;have HS8:=ah ((hs8.aD (.cells #[.int .i64 z] 3)).ay);clear hs8;go_wp2_with (at_builtin;refine av rfl (.tmp 15) (.tmp 18) 49 rfl 3 j0 _ 1 8 Tryz.underlying49 Hj.o Hy0.o Hy1.o Hy2.o rfl (by decide) (.slice B k d) k (qs.map (Value.int .i64)) rfl w0 _ (by exact HS8.o) (some ⟨W8.heap.size,0,none⟩) 1 1 [.int .i64 z] rfl (by exact(aR _ _ _)) rfl (by intro u hu;simp at hu;subst hu;rfl) (by unfold maxLen;omega) (by omega) ?_;intro B5 d5 w5 hs5;have HS9:=ah hs5;clear hs5);go_roundw
   case rel=>
    refine⟨fun z=>left z && !z.sameKey (.int .i64 x),cnt',k+1,d5,B5,qs++[z],rfl,by rw[List.length_append, <-HK.o];rfl,⟨fun q hq=>?_,fun i s' h1 h2=>?_,?_⟩,?_⟩
    .rcases List.mem_append.1 hq with h3 | h3
     .exact HM.o.only q h3
     .rw[List.mem_singleton.1 h3];exact⟨x,s,HX.o,HZ.o⟩
    .by_cases e:i=x
     .subst e;rw[HX.o] at h1;injection h1 with h1
      subst h1;rw[<-HZ.o];exact List.mem_append_right _ (List.mem_singleton_self _)
     .refine List.mem_append_left _ (HM.o.all i s' h1 ?_);have h3:(Lit.int .i64 i).sameKey (.int .i64 x)=false:=Maps.sameKey_ne (fun q=>e (by injection q));have h4:(left (.int .i64 i) && !(Lit.int .i64 i).sameKey (.int .i64 x))=false:=h2;rw[h3] at h4;simpa using h4
    .have:=HM.o.bP;have:=HLt.o;rw[List.length_append];simp;omega
    .rw[List.map_append];exact HS9.o.bo
   case measure=>rw[HS9.o.bp.rg.left_eq,HG.o.left_eq];exact HLt.o
end
theorem cN: ∀ es:List En,og (aT es)
 | []=>df
 | e::es=>ba (bH _ _ _ _ _) (ba (bH _ _ _ _ _) (cN es))
theorem wQ {ns:List Nd} {n:Nat} (ht:dS ns n):zz 0 ns=cn ns:=by
 unfold zz nn cn fM;rw[if_pos (by omega),List.filter_eq_self.2 (fun m hm=>by have:=ht.ok.full m hm;simp;omega),List.map_map];have hall: ∀ l:List aq,l.takeWhile (uK [])=l:=by
  intro l
  induction l with
  | nil=>rfl
  | cons x l ih=>rw[List.takeWhile_cons,show uK [] x=true from rfl,if_pos rfl,ih]
 exact hall _
structure Sd where
 log:Nat
 L:List aq
 seq:Nat
 snaps:Int->Option Nat
 bP:Nat
 next:Nat
def ef (d s:Nat) (lg:Int) (tb:Nat) (q:Int) (mb:Nat) (nx:Int) (dead:Bool):Array Value:= #[.pointer (some ⟨d,0,none⟩),.pointer (some ⟨s,0,none⟩),.int .i64 lg,.pointer (some ⟨tb,0,none⟩),.int .i64 q,.map (some mb),.int .i64 nx,.bool dead]
def J5 (b d s:Nat) (v:Sd) (tb hr mb:Nat) (ns:List Nd):SP:=Pt b 113 (ef d s v.log tb v.seq mb v.next false)*(bE tb hr ns*bT Tryz.prog 3 mb v.bP (iH v.snaps))
def dG (b d s:Nat) (v:Sd):SP:=fun h=> ∃ tb hr mb ns,(dS ns v.L.length/\cn ns=v.L)/\J5 b d s v tb hr mb ns h
section
variable {w0 w:World} {F:SP} {b d s:Nat} {v:Sd}
theorem Sat.db (h:Sat w0 (dG b d s v*F) w): ∃ tb hr mb ns,(dS ns v.L.length/\cn ns=v.L)/\Sat w0 (J5 b d s v tb hr mb ns*F) w:=by
 obtain⟨c,x,h1,a,g,h2,h3,⟨tb,hr,mb,ns,h4,h5⟩,h8⟩:=h;exact⟨tb,hr,mb,ns,h4,c,x,h1,a,g,h2,h3,h5,h8⟩
theorem Sat.zX {tb hr mb:Nat} {ns:List Nd} (ht:dS ns v.L.length) (he:cn ns=v.L) (h:Sat w0 (J5 b d s v tb hr mb ns*F) w):Sat w0 (dG b d s v*F) w:=
 h.mono fun y ⟨a,g,k1,k2,k3,k4⟩=>⟨a,g,k1,k2,⟨tb,hr,mb,ns,⟨ht,he⟩,k3⟩,k4⟩
theorem eM (b d s:Nat) (v:Sd) (tb hr mb:Nat) (ns:List Nd) (F:SP):J5 b d s v tb hr mb ns*F=Pt b 113 (ef d s v.log tb v.seq mb v.next false)*(bE tb hr ns*(bT Tryz.prog 3 mb v.bP (iH v.snaps)*F)):=by
 unfold J5;rw[aB,aB]
end
def IB (fl tl:List UInt8) (x:aq):Bool:= !Op.bytesLess x.key fl && (decide (tl=[]) || Op.bytesLess x.key tl)
def mE (fl tl:List UInt8) (L:List aq):List aq:=L.filter (IB fl tl)
theorem F1 (l m:List UInt8): ∃ (SA SB:ByteArray) (B:Bool),SA=ByteArray.mk l.toArray/\SB=ByteArray.mk m.toArray/\Op.bytesLess SA.toList SB.toList=B/\B=Op.bytesLess l m:=⟨_,_,_,rfl,rfl,rfl,by simp⟩
theorem oy {p:aq->Bool}: ∀ {L:List aq},L.Pairwise (fun x y=>p y=true->p x=true)->L.filter p=L.takeWhile p
 | [],_=>rfl
 | x::L,h=>by
  rw[List.pairwise_cons] at h;rw[List.filter_cons,List.takeWhile_cons];by_cases hp:p x=true
  .rw[if_pos hp,if_pos hp,oy h.2]
  .rw[if_neg hp,if_neg hp];exact List.filter_eq_nil_iff.2 fun y hy hpy=>hp (h.1 y hy hpy)
theorem FW (f:aq->Bool) (L:List aq):(L.dropWhile f).Sublist L:=(List.dropWhile_suffix f).sublist
def oN (fl tl:List UInt8) (L:List aq):List aq:=(L.drop (we (cQ fl) L)).takeWhile (uK tl)
theorem Ak (e:aq) (L:List aq):L.drop (we e L)=L.dropWhile (fun x=>az x e):=by
 unfold we
 conv=>lhs;rw[kT (fun x=>az x e) L]
 rw[List.takeWhile_append_dropWhile];have:=List.drop_left (l₁:=L.takeWhile fun x=>az x e) (l₂:=L.dropWhile fun x=>az x e);rw[List.takeWhile_append_dropWhile] at this;exact this
theorem Ba {L:List aq} (hs:L.Pairwise dE) (hseq: ∀ x ∈ L,x.seq<=eE) (fl tl:List UInt8):oN fl tl L=mE fl tl L:=by
 unfold oN;rw[Ak];have hkey: ∀ x y:aq,dE x y->Lib.compareBytes y.key tl<0->Lib.compareBytes x.key tl<0:=by
  intro x y h k;rw[cK] at h;rcases h with h | ⟨h,_⟩
  .exact dA h k
  .rw[h];exact k
 have e0:=kT (fun x=>az x (cQ fl)) L;have hA: ∀ x ∈ L.takeWhile (fun x=>az x (cQ fl)),IB fl tl x=false:=by
  intro x hx;have h1:dE x (cQ fl):=yO (f:=fun x=>az x (cQ fl)) hx;have hx2:x ∈ L:=(List.takeWhile_sublist _).subset hx;rw[cK] at h1;rcases h1 with h1 | ⟨_,h1⟩
  .unfold IB;have h1:Lib.compareBytes x.key fl<0:=h1;rw[il,decide_eq_true h1];rfl
  .exfalso;have h1:eE<x.seq:=h1;have:=hseq x hx2;omega
 have hB: ∀ x ∈ L.dropWhile (fun x=>az x (cQ fl)),Op.bytesLess x.key fl=false:=by
  intro x hx;have hs2:=hs.sublist (FW (fun x=>az x (cQ fl)) L)
  cases hd:L.dropWhile (fun x=>az x (cQ fl)) with
  | nil=>rw[hd] at hx;simp at hx
  | cons y s=>
   have h3:=List.head?_dropWhile_not (fun x=>az x (cQ fl)) L;rw[hd] at h3 hx hs2;simp at h3;have hy:¬ Lib.compareBytes y.key fl<0:=fun q=>by
    have:dE y (cQ fl):=cK.2 (.inl q);unfold dE at this;rw[h3] at this
    cases this
   have hxx:¬ Lib.compareBytes x.key fl<0:=by
    rcases List.mem_cons.1 hx with rfl | hx
    .exact hy
    .intro q;have h4:=(List.pairwise_cons.1 hs2).1 x hx;rw[cK] at h4;rcases h4 with h4 | ⟨h4,_⟩
     .exact hy (dA h4 q)
     .rw[h4] at hy;exact hy q
   rw[il,decide_eq_false hxx]
 unfold mE
 conv=>rhs;rw[e0]
 rw[List.filter_append,List.filter_eq_nil_iff.2 (fun x hx=>by rw[hA x hx];simp),List.nil_append];have hc:(L.dropWhile (fun x=>az x (cQ fl))).filter (IB fl tl)=(L.dropWhile (fun x=>az x (cQ fl))).filter (uK tl):=by
  apply List.filter_congr;intro x hx;unfold IB uK;rw[hB x hx,il];rfl
 rw[hc,oy];have hs2:=hs.sublist (FW (fun x=>az x (cQ fl)) L);refine hs2.imp fun {x y} hxy hy=>?_
 unfold uK at hy ⊢;simp only[Bool.or_eq_true,decide_eq_true_eq] at hy ⊢;rcases hy with hy | hy
 .exact .inl hy
 .exact .inr (hkey x y hxy hy)
theorem ya {ns:List Nd} {n:Nat} (ht:dS ns n) (fl tl:List UInt8):yd fl tl ns=mE fl tl (cn ns):=by
 have hL:cn ns=ns.map fun n=>n.e.ak:=by unfold cn fM;rw[List.map_map];rfl
 rw[<-Ba (mA ht.ok) (fun x hx=>by
  rw[hL] at hx;obtain⟨m,hm,rfl⟩:=List.mem_map.1 hx;exact(ht.each m hm).2.2)]
 have hv: ∀ m ∈ behind (cQ fl) ns,0<m.v:=fun m hm=>by
  have:m ∈ ns:=(List.dropWhile_suffix _).sublist.subset hm;have:=ht.ok.full m this;omega
 unfold yd nn oN;rw[List.filter_eq_self.2 (fun m hm=>by simpa using hv m hm),Ak,hL];congr 1
 unfold behind;clear hL hv ht
 induction ns with
 | nil=>rfl
 | cons n ns ih=>
  rw[List.map_cons,List.dropWhile_cons,List.dropWhile_cons];show List.map _ (if az n.e.ak (cQ fl)=true then _ else _)=if az n.e.ak (cQ fl)=true then _ else _
  split
  .exact ih
  .rfl
def Iq (fl tl k:List UInt8):Bool:= !Op.bytesLess k fl && (decide (tl=[]) || Op.bytesLess k tl)
def oJ (fl tl:List UInt8) (M:List Kv):List Kv:=M.filter fun p=>Iq fl tl p.1
theorem vk (fl tl k:List UInt8): ∀ M:List Kv,bI k (oJ fl tl M)=if Iq fl tl k=true then bI k M else none
 | []=>by unfold oJ bI;simp
 | p::M=>by
  have ih:=vk fl tl k M;unfold oJ at ih ⊢;rw[List.filter_cons];by_cases hp:Iq fl tl p.1=true
  .rw[if_pos hp];unfold bI;by_cases hk:p.1=k
   .rw[if_pos hk,if_pos hk,if_pos (by rw[<-hk];exact hp)]
   .rw[if_neg hk,if_neg hk,ih]
  .rw[if_neg hp,ih]
   conv=>rhs;unfold bI
   by_cases hk:p.1=k
   .rw[if_neg (by rw[<-hk];exact hp),if_neg (by rw[<-hk];exact hp)]
   .rw[if_neg hk]
theorem EY (fl tl k:List UInt8) (s:Int): ∀ L:List aq,dX k s (mE fl tl L)=if Iq fl tl k=true then dX k s L else none
 | []=>by unfold mE dX lG;simp
 | e::L=>by
  have ih:=EY fl tl k s L;unfold mE at ih ⊢;rw[List.filter_cons];by_cases hp:Iq fl tl e.key=true
  .rw[if_pos (show IB fl tl e=true from hp)];by_cases hk:e.key=k/\e.seq<=s
   .rw[qF hk,qF hk,if_pos (by rw[<-hk.1];exact hp)]
   .rw[nV hk,nV hk,ih]
  .rw[if_neg (show ¬ IB fl tl e=true from hp),ih];by_cases hk:e.key=k
   .rw[if_neg (by rw[<-hk];exact hp),if_neg (by rw[<-hk];exact hp)]
   .rw[nV (fun h=>hk h.1)]
theorem yV {fl tl:List UInt8} {M:List Kv} (h:M.Pairwise mO):(oJ fl tl M).Pairwise mO:=h.sublist List.filter_sublist
theorem DR {s:Int} {L:List aq} (h:L.Pairwise dE) (fl tl:List UInt8):eS s (mE fl tl L)=oJ fl tl (eS s L):=by
 have h2:(mE fl tl L).Pairwise dE:=h.sublist List.filter_sublist;refine mT (iu h2) (yV (iu h)) fun k=>?_
 rw[mL h2,vk,EY,mL h]
theorem zQ (M:List Kv):oJ [] [] M=M:=by
 unfold oJ;rw[List.filter_eq_self];intro p _;unfold Iq;have:Op.bytesLess p.1 []=false:=by rw[il];cases p.1<;>rfl
 rw[this];rfl
section
variable {w0 w:World} {F:SP}
def EO (w0:World) (F:SP) (q:Option (List UInt8)) (x:Ending) (w':World):Prop:= ∃ A c,x = .returned (.tuple #[.slice A (q.getD []).length c,.bool q.isSome])/\Sat w0 (Row 5 1 (.slice A (q.getD []).length c) (q.getD []).length ((q.getD []).map bv)*F) w'
theorem wy (tb hr:Nat) (ns:List Nd) (n:Nat) (s:Int) (K:du) (hk:Rd w K.1 K.2.2) (h:Sat w0 (bE tb hr ns*F) w) (ht:dS ns n) (hn:n<=100000):
 Calls Tryz.prog 78 #[.agg #[.int .i64 s],.pointer (some ⟨tb,0,none⟩),.slice K.1 K.2.2.length K.2.1] w (EO w0 (bE tb hr ns*F) (dX K.2.2 s (cn ns))):=by
 have hs1:=h.ab 135 #[.int .i64 s];have hG:=Gg K s tb hr ns (w.alloc (.cells #[.int .i64 s] 135)) (hk.alloc _) (hs1.right.view ht.ok) ht.ok (ht.small hn);rw[show yR K.2.2 s ns=lG K.2.2 s (cn ns) by rw[ED];exact Ah (mA ht.ok)] at hG;unfold dX;obtain⟨q,hq⟩: ∃ q,q=lG K.2.2 s (cn ns):=⟨_,rfl⟩;rw[<-hq] at hG ⊢;have HG:=ah hG;have HS1:=ah hs1;have hv0:=hs1.cell 0;clear hG hs1 hk ht hq h;obtain⟨W1,hW1⟩: ∃ W1,W1=w.alloc (.cells #[.int .i64 s] 135):=⟨_,rfl⟩;rw[<-hW1] at HG HS1 hv0;have HW:=ah hW1;clear hW1;go_enter Tryz.func78, Tryz.ntmps78;go_upto_region 1 with fail;rw[<-HW.o];obtain⟨vb,hvb⟩: ∃ vb,vb=w.heap.size:=⟨_,rfl⟩;rw[<-hvb] at HS1 hv0;rw[<-hvb];clear hvb HW;go_upto_region 2 with (go_at_call 127;(with_reducible refine HG.o.mono ?_);rintro e w2 ⟨⟨⟨gA,gc,gk⟩,⟨hA,hcc,hv⟩,gs,gd⟩,rfl,hg,hs2⟩;unfold iN;dsimp only;have HGe:=ah hg;have HS2:=ah (HS1.o.right.join hs2 (cN _));clear hg hs2)
 cases q with
 | none=>
  simp only[Option.isSome_none];have HS3:=ah (HS2.o.aD (.cells #[.slice gA gk.length gc,.slice hA hv.length hcc,.int .i64 gs,.bool gd] 120));clear HS2;go_wp2_with fail;go_ret2;exact⟨none,0,rfl,HS3.o.right.aN 5 1⟩
 | some e=>
  have he:(⟨gk,hv,gs,gd⟩:aq)=e:=HGe.o;simp only[Option.isSome_some];subst he;have hs3:=HS2.o.ab 120 #[.slice gA gk.length gc,.slice hA hv.length hcc,.int .i64 gs,.bool gd];have x1:=hs3.cell 1;have x3:=hs3.cell 3;have HS3:=ah hs3;clear hs3 HGe
  cases gd
  .go_wp2_with fail;go_ret2;refine⟨hA,hcc,rfl,?_⟩;have h1:=HS3.o.right;exact(h1.of (by show (Row _ _ _ _ _*(Row 5 1 (.slice hA hv.length hcc) hv.length (hv.map bv)*bF))*_=Row 5 1 (.slice gA gk.length gc) gk.length (gk.map bv)*(Row 5 1 (.slice hA hv.length hcc) hv.length (hv.map bv)*(bE tb hr ns*F));rw[aB,aB,bf];rfl)).right
  .go_wp2_with fail;go_ret2;exact⟨none,0,rfl,HS3.o.right.right.aN 5 1⟩
end
end Go.Proofs.YtmbaiglpgaoogaaGreat
