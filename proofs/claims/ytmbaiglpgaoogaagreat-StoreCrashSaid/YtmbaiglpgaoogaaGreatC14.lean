/- Joined, as they were built one by one: Mrg3 MemLev RTab Sto8 StpM RFns2 RngP StpV TabOpen TabCopied TabGet TabGet2. -/
import Derived.Deep.CutBlock
import Derived.Test.YtmbaiglpgaoogaaGreatC01
import Derived.Test.YtmbaiglpgaoogaaGreatC02
import Derived.Test.YtmbaiglpgaoogaaGreatC04
import Derived.Test.YtmbaiglpgaoogaaGreatC08
import Derived.Test.YtmbaiglpgaoogaaGreatC12
import Derived.Test.YtmbaiglpgaoogaaGreatC13
set_option maxHeartbeats 16000000
set_option linter.unusedVariables false
set_option maxRecDepth 100000
namespace Go.Proofs.YtmbaiglpgaoogaaGreat
open Go.RowKit Z
theorem qW {L:List aw} (h:L.Pairwise dJ):dR L=true:=(iS L).2 fun i hi=>List.pairwise_iff_getElem.1 h i (i+1) (by omega) hi (by omega)
def qF:List En->Nat
 | []=>0
 | e::T=>1+(T.takeWhile fun x=>bJ e.ao x.ao).length
theorem lk (e:En) (T:List En):qF (e::T)=(T.takeWhile fun x=>bJ e.ao x.ao).length+1:=Nat.add_comm 1 _
theorem tg (f:aw->Bool): ∀ T:List En,(T.takeWhile fun x=>f x.ao).map En.ao=(T.map En.ao).takeWhile f
 | []=>rfl
 | x::T=>by
  rw[List.takeWhile_cons,List.map_cons,List.takeWhile_cons];split
  .rw[List.map_cons,tg f T]
  .rfl
theorem iB {α:Type} (f:α->Bool): ∀ T:List α,T.take (T.takeWhile f).length=T.takeWhile f/\T.drop (T.takeWhile f).length=T.dropWhile f
 | []=>⟨rfl,rfl⟩
 | x::T=>by
  rw[List.takeWhile_cons,List.dropWhile_cons];split
  .rw[List.length_cons,List.take_succ_cons,List.drop_succ_cons,(iB f T).1,(iB f T).2];exact⟨rfl,rfl⟩
  .exact⟨rfl,rfl⟩
theorem ur (f:aw->Bool): ∀ T:List En,(T.dropWhile fun x=>f x.ao).map En.ao=(T.map En.ao).dropWhile f
 | []=>rfl
 | x::T=>by
  rw[List.dropWhile_cons,List.map_cons,List.dropWhile_cons];split
  .exact ur f T
  .rfl
theorem K1: ∀ {R:List En},R≠[]->1<=qF R/\qF R<=R.length
 | [],h=>absurd rfl h
 | e::T,_=>by
  rw[lk];have:=(List.takeWhile_sublist (l:=T) (fun x=>bJ e.ao x.ao)).length_le;rw[List.length_cons];omega
theorem Io (b:Bool) (snaps:List Int) {R:List En} (h:R≠[]):cZ b snaps (R.map En.ao)=jF b snaps ((R.take (qF R)).map En.ao)++cZ b snaps ((R.drop (qF R)).map En.ao):=by
 cases R with
 | nil=>exact absurd rfl h
 | cons e T=>
  obtain⟨h1,h2⟩:=iB (fun x:En=>bJ e.ao x.ao) T;rw[lk,List.take_succ_cons,List.drop_succ_cons,h1,h2,List.map_cons,gP,List.map_cons,tg,ur]
theorem Gt {R:List En} {i:Nat} (hi:i<R.length) (hg:i<qF R):R[i].key.2.2=(R[0]'(by omega)).key.2.2:=by
 cases R with
 | nil=>simp at hi
 | cons e T=>
  cases i with
  | zero=>rfl
  | succ i=>
   rw[lk] at hg;have hi2:i<T.length:=by simpa using hi
   have h1:i<(T.takeWhile fun x=>bJ e.ao x.ao).length:=by omega
   have h2:(T.takeWhile fun x=>bJ e.ao x.ao)[i]=T[i]:=by
    have h3:=(iB (fun x:En=>bJ e.ao x.ao) T).1;have h4:(T.take (T.takeWhile fun x=>bJ e.ao x.ao).length)[i]'(by rw[List.length_take];omega)=T[i]:=List.getElem_take;simp only[h3] at h4;exact h4
   have h5:=gQ (f:=fun x:En=>bJ e.ao x.ao) (List.getElem_mem h1);rw[h2] at h5;exact of_decide_eq_true h5
theorem I4 {R:List En} (hg:qF R<R.length):(R[qF R]).key.2.2≠(R[0]'(by omega)).key.2.2:=by
 cases R with
 | nil=>simp at hg
 | cons e T=>
  have hlen:(T.takeWhile fun x=>bJ e.ao x.ao).length<T.length:=by rw[lk,List.length_cons] at hg;omega
  have h2:=(iB (fun x:En=>bJ e.ao x.ao) T).2;have h3:T.dropWhile (fun x=>bJ e.ao x.ao)≠[]:=by
   intro h;rw[h] at h2;have:=congrArg List.length h2;rw[List.length_drop] at this;simp at this;omega
  have h4:=List.head_dropWhile_not (p:=fun x:En=>bJ e.ao x.ao) (l:=T) h3;have h5:(T.dropWhile fun x=>bJ e.ao x.ao).head h3=T[(T.takeWhile fun x=>bJ e.ao x.ao).length]:=by
   simp only[<-h2];rw[List.head_drop]
  rw[h5] at h4;have e1:qF (e::T)=(T.takeWhile fun x=>bJ e.ao x.ao).length+1:=lk e T;simp only[e1,List.getElem_cons_succ];exact of_decide_eq_false h4
theorem Jy {es:List En} {n:Nat} (hs:(es.map En.ao).Pairwise dJ) (hk: ∀ i (h:i<es.length),i<n->es[i].key.2.2=(es[0]'(by omega)).key.2.2):BE (es.take n):=fun a b ha hb hab=>by
 have ha2:a<es.length:=by rw[List.length_take] at ha;omega
 have hb2:b<es.length:=by rw[List.length_take] at hb;omega
 have hbn:b<n:=by rw[List.length_take] at hb;omega
 rw[List.getElem_take,List.getElem_take];have h1:=List.pairwise_iff_getElem.1 hs a b (by simpa using ha2) (by simpa using hb2) hab;simp only[List.getElem_map] at h1;rcases cU.1 h1 with h2 | ⟨_,h2⟩
 .exact absurd ((hk a ha2 (by omega)).trans (hk b hb2 hbn).symm) (dG h2)
 .exact h2
structure NC (w:World) (b:Bool) (snaps:List Int) (es:List En) (k:Nat) (A:Option Addr) (c:Nat) (ts:List En) (TA:Option Addr) (tc:Nat) (wr:World):Prop where
 rd:aH w A ((es.drop k).flatMap cu)
 cap:(es.drop k).length<=c/\c<=maxLen
 eq:ts.map En.ao++cZ b snaps ((es.drop k).map En.ao)=cZ b snaps (es.map En.ao)
 bU:ts.length<=k
 sat:Sat w (Row 120 4 (.slice TA ts.length tc) ts.length (ts.flatMap cu)*(aW ts*aV)) wr
def lenOf (v:Value):Nat:=match v with | .slice _ n _=>n | _=>0
def GX (w:World) (L:List aw) (x:Ending) (w':World):Prop:= ∃ ts A c,x = .returned (.tuple #[.slice A ts.length c,.int .i64 0])/\ts.map En.ao=L/\Sat w (Row 120 4 (.slice A ts.length c) ts.length (ts.flatMap cu)*(aW ts*aV)) w'
theorem xp (b:Bool) (A:Option Addr) (c:Nat) (es:List En) (SA:Option Addr) (sc:Nat) (snaps:List Int) (w:World) (h:aH w A (es.flatMap cu)) (hr:jH w es) (hc:es.length<=c) (hm:c<=maxLen) (hn:es.length<=1000000) (hsz: ∀ e ∈ es,e.key.2.2.length<=1000000000/\e.value.2.2.length<=1000000000)
 (hs:aH w SA (snaps.map fun x=> .int .i64 x)) (hsn:snaps.length<=1000000) (hso:(es.map En.ao).Pairwise dJ):
 Calls Tryz.prog 121 #[.slice A es.length c,.bool b,.slice SA snaps.length sc] w (GX w (cZ b snaps (es.map En.ao))):=by
 obtain⟨i0,hi0,hz0,hz1,hz2⟩:=info_parts kh;have Hi0:=ah hi0;have Hz0:=ah hz0;have Hz1:=ah hz1;have Hz2:=ah hz2;have HR:=ah hr;have HSz:=ah hsz;have HSn:=ah hs;have HSo:=ah hso;have HSt:Hid (NC w b snaps es 0 A c [] none 0 w):=⟨h,⟨hc,hm⟩,rfl,Nat.le_refl _,((Sat.start w).aI 120 4).of (by show _=Row 120 4 (.slice none 0 0) 0 []*(aV*aV);rw[aX])⟩;have HSd:Hid (Calls Tryz.prog 151 #[.slice A es.length c] w fun e w'=>e = .returned (.bool true)/\aq No w w'):=(gV A c es w h hr hc hm).mono fun e w' ⟨h1,h2⟩=>⟨by rw[h1,qW hso],h2⟩
 clear hi0 hz0 hz1 hz2 h hr hsz hs hso;unfold maxLen at hm;go_enter Tryz.func121, Tryz.ntmps121;go_wp2_with (go_at_call 151;(with_reducible refine HSd.o.mono ?_);rintro x w1 ⟨rfl,k1⟩;have HK1:=ah k1;clear k1);go_loopw [0,8] (fun lv ov wr=> ∃ (k:Nat) (A':Option Addr) (c':Nat) (ts:List En) (TA:Option Addr) (tc:Nat),k<=es.length/\lv = .slice A' (es.length - k) c'/\ov = .slice TA ts.length tc/\Hid (NC w b snaps es k A' c' ts TA tc wr)) (fun lv _ _=>lenOf lv)
 case atStart=>exact⟨0,A,c,[],none,0,by omega,rfl,rfl,HSt.o.rd,HSt.o.cap,HSt.o.eq,HSt.o.bU,HSt.o.sat.new HK1.o⟩
 case round=>
  obtain⟨k,A',c',ts,TA,tc,hk,rfl,rfl,HD⟩:=hrel;by_cases hlt:k<es.length
  .obtain⟨R,hR⟩: ∃ R,R=es.drop k:=⟨_,rfl⟩;have hRl:R.length=es.length - k:=by rw[hR,List.length_drop]
   have hR0:R≠[]:=by intro e;rw[e] at hRl;simp at hRl;omega
   have HRd:Hid (aH w A' (R.flatMap cu)):=by rw[hR];exact HD.o.rd
   have HRc:Hid (R.length<=c'/\c'<=maxLen):=by rw[hR];exact HD.o.cap
   have HRr:Hid (jH w R):=by rw[hR];exact fun e he=>HR.o e (List.mem_of_mem_drop he)
   have HRz:Hid (∀ e ∈ R,e.key.2.2.length<=1000000000/\e.value.2.2.length<=1000000000):=by rw[hR];exact fun e he=>HSz.o e (List.mem_of_mem_drop he)
   have HRs:Hid ((R.map En.ao).Pairwise dJ):=by rw[hR,List.map_drop];exact HSo.o.drop
   have HRe:Hid (ts.map En.ao++cZ b snaps (R.map En.ao)=cZ b snaps (es.map En.ao)):=by rw[hR];exact HD.o.eq
   have HRk:Hid (R=es.drop k):=hR;have HTs:Hid (Sat w (Row 120 4 (.slice TA ts.length tc) ts.length (ts.flatMap cu)*(aW ts*aV)) wr):=HD.o.sat;have htk:ts.length<=k:=HD.o.bU;obtain⟨m,hm1⟩: ∃ m,m=es.length - k:=⟨_,rfl⟩;rw[<-hm1] at hRl ⊢;have hm0:0<m:=by omega
   have hmm:m<=1000000:=by omega
   obtain⟨g,hg⟩: ∃ g,g=qF R:=⟨_,rfl⟩;obtain⟨hg1,hg2⟩:=K1 hR0;rw[<-hg,hRl] at hg2;rw[<-hg] at hg1;have HG:=ah hg;have HMe:=ah hm1;have HRl:=ah hRl;obtain⟨lb,lo,eA,hq⟩:=eh (HRd.o.new HTs.o.aP) (by omega);have HA:=ah eA;subst eA;have hc1:m<=c':=by have:=HRc.o.1;omega
   have hc2:c'<=9223372036854775807:=HRc.o.2;have hmi:0<(m:Int):=by omega
   clear hR hR0 hg hm1 HD hRl;obtain⟨wo,hwo⟩: ∃ wo,wo=wr:=⟨_,rfl⟩;have HWo:=ah hwo;clear hwo;go_upto_block 2 with fail
   go_cut [9] (fun nv wx=>nv = .int .i64 (g:Int)/\Hid (∃ q,wx=wo.drewN q))
   case first=>
    go_wp2_with fail;go_loopw [9] (fun nv wr=> ∃ n:Nat,1<=n/\n<=g/\nv = .int .i64 (n:Int)/\Hid (∃ q,wr=wo.drewN q)) (fun nv _=>m - (intOf nv).toNat)
    case atStart=>exact⟨1,by omega,by omega,rfl,0,by rw[HWo.o];rfl⟩
    case round=>
     obtain⟨n,hn1,hng,rfl,HQ⟩:=hrel;by_cases hnm:n<m
     .have hnl:n<R.length:=by rw[HRl.o];exact hnm
      have h0l:0<R.length:=by omega
      obtain⟨kn,hkn⟩: ∃ kn,R[n].key=kn:=⟨_,rfl⟩;obtain⟨k0,hk0⟩: ∃ k0,R[0].key=k0:=⟨_,rfl⟩;have y0:=(hq n hnl).1;have y1:=(hq 0 h0l).1;rw[Nat.zero_mul,Nat.add_zero] at y1;unfold aO at y0 y1;rw[hkn] at y0;rw[hk0] at y1;have HKn:Hid (Rd (wr.drew) kn.1 kn.2.2):=by
       obtain⟨q,e⟩:=HQ.o;have:=(HRr.o _ (List.getElem_mem hnl)).1.new HTs.o.aP;rw[hkn] at this;rw[e,HWo.o];exact(this.drewN q)
      have HK0:Hid (Rd (wr.drew) k0.1 k0.2.2):=by
       obtain⟨q,e⟩:=HQ.o;have:=(HRr.o _ (List.getElem_mem h0l)).1.new HTs.o.aP;rw[hk0] at this;rw[e,HWo.o];exact(this.drewN q)
      have HS0:Hid (wr.drew.cell? ⟨lb,lo+n*4,none⟩=some (.slice kn.1 kn.2.2.length kn.2.1)/\wr.drew.cell? ⟨lb,lo,none⟩=some (.slice k0.1 k0.2.2.length k0.2.1)):=by
       obtain⟨q,e⟩:=HQ.o;rw[e,HWo.o];exact⟨y0,y1⟩
      have hnmi:(n:Int)<m:=by omega
      by_cases hnn:n<g
      .have HEq:Hid (decide (kn.2.2=k0.2.2)=true):=by
        have:=Gt hnl (by rw[<-HG.o];exact hnn);rw[hkn,hk0] at this;exact decide_eq_true this
       clear y0 y1 hkn hk0;go_upto_region 6 with fail;refine wp_region_held_drew (S:=fun w'=>w'.cell? ⟨lb,lo+n*4,none⟩=some (.slice kn.1 kn.2.2.length kn.2.1)/\w'.cell? ⟨lb,lo,none⟩=some (.slice k0.1 k0.2.2.length k0.2.1)) (by kernel_rfl) HS0.o ?_;intro hS0;refine an 0 1 2 3 ?_;refine an 4 5 6 7 ?_;refine an 8 9 10 11 ?_;refine cm 12 13 ?_;refine bR 14 fun K hK=>?_
       go_simp;go_at_call 126;(with_reducible refine(eZ kn k0 _ HKn.o HK0.o).mono ?_);rintro x wx ⟨rfl,rfl⟩;rw[HEq.o]
       refine hK.out _ _ hS0 (fun hS0=>?_);clear hK K;refine cH 15 ?_;refine wpAnyH_done (by kernel_rfl) ?_ _;go_wp2_with fail;go_roundw
       .refine⟨n+1,by omega,by omega,by go_num,?_⟩;obtain⟨q,e⟩:=HQ.o;exact⟨q+1,by rw[e];rfl⟩
       .simp[intOf];omega
      .have HEq:Hid (decide (kn.2.2=k0.2.2)=false):=by
        have hne:n=qF R:=by rw[<-HG.o];omega
        have h9:=I4 (R:=R) (by rw[<-hne];exact hnl);simp only[<-hne] at h9;rw[hkn,hk0] at h9;exact decide_eq_false h9
       have hne:Hid (n=g):=by unfold Hid;omega
       clear y0 y1 hkn hk0;go_upto_region 6 with fail;refine wp_region_held_drew (S:=fun w'=>w'.cell? ⟨lb,lo+n*4,none⟩=some (.slice kn.1 kn.2.2.length kn.2.1)/\w'.cell? ⟨lb,lo,none⟩=some (.slice k0.1 k0.2.2.length k0.2.1)) (by kernel_rfl) HS0.o ?_;intro hS0;refine an 0 1 2 3 ?_;refine an 4 5 6 7 ?_;refine an 8 9 10 11 ?_;refine cm 12 13 ?_;refine bR 14 fun K hK=>?_
       go_simp;go_at_call 126;(with_reducible refine(eZ kn k0 _ HKn.o HK0.o).mono ?_);rintro x wx ⟨rfl,rfl⟩;rw[HEq.o]
       refine hK.out _ _ hS0 (fun hS0=>?_);clear hK K;refine cH 15 ?_;refine wpAnyH_done (by kernel_rfl) ?_ _;go_wp2_with fail;go_meet
       obtain⟨q,e⟩:=HQ.o;exact⟨by rw[hne.o],q+1,by rw[e];rfl⟩
     .have hnmi:¬ (n:Int)<m:=by omega
      have hnd:decide ((n:Int)<(m:Int))=false:=decide_eq_false hnmi;have hne:Hid (n=g):=by unfold Hid;omega
      go_upto_region 6 with fail;refine wp_region_held_drew (S:=fun _=>True) (by kernel_rfl) trivial ?_;intro hS0;refine an 0 1 2 3 ?_
      try simp only[hnd]
      refine cH 4 ?_;refine cD 5 ?_;refine cD 6 ?_;refine cD 7 ?_;refine cD 8 ?_;refine cD 9 ?_;refine cD 10 ?_;refine cD 11 ?_;refine cD 12 ?_;refine cD 13 ?_;refine cD 14 ?_;refine cH 15 ?_;refine wpAnyH_done (by kernel_rfl) ?_ _;go_wp2_with fail;go_meet
      obtain⟨q,e⟩:=HQ.o;exact⟨by rw[hne.o],q+1,by rw[e];rfl⟩
   case rest=>
    obtain⟨rfl,HQ⟩:=hcut;have HT2:Hid (Sat w (Row 120 4 (.slice TA ts.length tc) ts.length (ts.flatMap cu)*(aW ts*aV)) wc):=by
     obtain⟨q,e⟩:=HQ.o;rw[e,HWo.o];exact HTs.o.drewN q
    clear HQ HTs;obtain⟨G,hG⟩: ∃ G,G=R.take g:=⟨_,rfl⟩;have hGl:G.length=g:=by rw[hG,List.length_take,HRl.o];omega
    have HGl:=ah hGl;have HGe:=ah hG;have HGd:Hid (BE G):=by rw[hG];exact Jy HRs.o (fun i h hi=>Gt h (by rw[<-HG.o];exact hi))
    have HQ4:Hid (∀ W,aq No w W-> ∀ i (hi:i<R.length),W.cell? ⟨lb,lo+i*4,none⟩=some (aO R[i].key)/\W.cell? ⟨lb,lo+i*4+1,none⟩=some (aO R[i].value)/\W.cell? ⟨lb,lo+i*4+2,none⟩=some (.int .i64 R[i].seq)/\W.cell? ⟨lb,lo+i*4+3,none⟩=some (.bool R[i].dead)):=fun W hW=>by
     obtain⟨b',o',e,hc⟩:=eh (HRd.o.new hW) (by rw[HRl.o];exact hm0);injection e with e
     injection e with e1 e2
     subst e1;subst e2;exact hc
    obtain⟨mk,hmk⟩: ∃ mk,mk=iD G snaps:=⟨_,rfl⟩;have HMl:Hid (mk.length=g):=by rw[hmk];exact(oO G snaps).trans hGl
    have HMk:Hid (ny mk (G.map En.ao)=df snaps none (G.map En.ao)):=by rw[hmk];exact G1 HGd.o snaps
    have HSe:Hid (Calls Tryz.prog 152 #[.slice (some ⟨lb,lo,none⟩) g c',.slice SA snaps.length sc] wc fun x w'=> ∃ gm,x = .returned (.slice (some ⟨gm,0,none⟩) g g)/\Sat w (Row 120 4 (.slice TA ts.length tc) ts.length (ts.flatMap cu)*(aW ts*(Row 4 1 (.slice (some ⟨gm,0,none⟩) g g) g (mk.map Value.bool)*aV))) w'):=by
     have h9:=Gf (some ⟨lb,lo,none⟩) c' G SA sc snaps HT2.o (by rw[hG];exact DX (HRd.o.new HT2.o.aP) (by rw[HRl.o];omega)) (HSn.o.new HT2.o.aP) (by omega) hsn (fun s a b ha hb hab hx=>by
      rcases Nat.lt_or_ge a b with h | h
      .have:=HGd.o a b ha hb h;omega
      .obtain rfl:a=b:=by omega
       exact hx)
     rw[hGl, <-hmk] at h9;exact h9.mono fun x w' ⟨gm,h1,h2,_⟩=>⟨gm,h1,h2.of (by ac_rfl)⟩
    have hgc:(g:Int)<=c':=by omega
    have hgc2:g<=c':=by omega
    clear hG hGl hmk hq;go_wp2_with (go_at_call 152;(with_reducible refine HSe.o.mono ?_);rintro x w3 ⟨gm,rfl,hs⟩;have HS3:=ah hs;clear hs);clear HSe HT2;go_loopw [8,45] (fun ov iv wr=> ∃ (i:Nat) (ts2:List En) (TA2:Option Addr) (tc2:Nat),i<=g/\iv = .int .i64 (i:Int)/\ov = .slice TA2 ts2.length tc2/\ts2.length<=ts.length+i/\Hid (ts2.map En.ao=ts.map En.ao++ny (mk.take i) ((G.take i).map En.ao)/\Sat w (Row 120 4 (.slice TA2 ts2.length tc2) ts2.length (ts2.flatMap cu)*(aW ts2*(Row 4 1 (.slice (some ⟨gm,0,none⟩) g g) g (mk.map Value.bool)*aV))) wr)) (fun _ iv _=>g - (intOf iv).toNat)
    case atStart=>exact⟨0,ts,TA,tc,by omega,rfl,rfl,by omega,by simp[ny],HS3.o⟩
    case round=>
     obtain⟨i,ts2,TA2,tc2,hi,rfl,rfl,hl2,HE⟩:=hrel;by_cases hig:i<g
     .have hii:(i:Int)<g:=by omega
      have hiR:i<R.length:=by rw[HRl.o];omega
      have z0:=HE.o.2.bD.fW (j:=i) (by rw[List.length_map,HMl.o];exact hig);rw[List.getElem_map] at z0;obtain⟨mb,hmb⟩: ∃ mb,mk[i]'(by rw[HMl.o];exact hig)=mb:=⟨_,rfl⟩;rw[hmb] at z0;have HSn2:Hid (ny (mk.take (i+1)) ((G.take (i+1)).map En.ao)=ny (mk.take i) ((G.take i).map En.ao)++(if mb=true then [R[i].ao] else [])):=by
       have hiG:i<G.length:=by rw[HGl.o];exact hig
       have hiM:i<mk.length:=by rw[HMl.o];exact hig
       have e1:mk.take (i+1)=mk.take i++[mb]:=by rw[List.take_add_one,List.getElem?_eq_getElem hiM,hmb];rfl
       have e2:G[i]?=some R[i]:=by rw[HGe.o,List.getElem?_take,if_pos hig,List.getElem?_eq_getElem hiR]
       have e3:G.take (i+1)=G.take i++[R[i]]:=by rw[List.take_add_one,e2];rfl
       unfold Hid;rw[e1,e3,List.map_append];exact rh _ _ _ _ (by rw[List.length_take,List.length_map,List.length_take,HMl.o,HGl.o])
      clear hmb
      cases mb
      .go_wp2_with fail;go_roundw
       .refine⟨i+1,ts2,TA2,tc2,by omega,by go_num,rfl,by omega,?_,HE.o.2⟩;rw[HSn2.o,HE.o.1];simp
       .simp[intOf];omega
      .obtain⟨y0,y1,y2,y3⟩:=HQ4.o wr HE.o.2.aP i hiR;have HRi:=ah ((HRr.o _ (List.getElem_mem hiR)));have HRj:=ah ((HRz.o _ (List.getElem_mem hiR)));obtain⟨x,hx⟩: ∃ x,R[i]=x:=⟨_,rfl⟩;rw[hx] at y0 y1 y2 y3 HRi HRj HSn2;clear hx;unfold aO at y0 y1;have HCo:Hid (Calls Tryz.prog 153 #[.agg #[.slice x.key.1 x.key.2.2.length x.key.2.1,.slice x.value.1 x.value.2.2.length x.value.2.1,.int .i64 x.seq,.bool x.dead]] wr fun y w'=>jW w _ x y w'/\aq No wr w'):=xD x w wr _ HE.o.2 ⟨HRi.o.1.new HE.o.2.aP,HRi.o.2.new HE.o.2.aP⟩ (by have:=HRj.o.1;omega) (by have:=HRj.o.2;omega);go_wp2_with (first
        | (go_at_call 153;(with_reducible refine HCo.o.mono ?_);rintro y w6 ⟨⟨A2,c2,B2,d2,rfl,hs6⟩,k6⟩;have HS6:=ah hs6;clear hs6 k6;simp only[jD])
        | (at_builtin;refine au rfl (.tmp 51) (.tmp 57) 116 rfl 120 i0 _ 4 64 Tryz.underlying116 Hi0.o Hz0.o Hz1.o Hz2.o rfl (by decide) (.slice TA2 ts2.length tc2) ts2.length (ts2.flatMap cu) rfl w _ (by exact(HS6.o.aC _).bD) (some ⟨w6.heap.size,0,none⟩) 1 1 [.slice A2 x.key.2.2.length c2,.slice B2 x.value.2.2.length d2,.int .i64 x.seq,.bool x.dead] rfl (aL _ _ _) rfl (by intro u hu;simp at hu;rcases hu with rfl | rfl | rfl | rfl<;>rfl) (by unfold maxLen;omega) (by omega) ?_;intro A3 c3 w7 hs7;have HS7:=ah hs7;clear hs7))
       go_roundw
       .refine⟨i+1,ts2++[⟨(A2,c2,x.key.2.2),(B2,d2,x.value.2.2),x.seq,x.dead⟩],A3,c3,by omega,by go_num,by rw[List.length_append];rfl,by rw[List.length_append];simp;omega,?_,?_⟩
        .rw[HSn2.o,List.map_append,HE.o.1,List.append_assoc];rfl
        .refine HS7.o.of ?_;rw[fP,List.flatMap_append,List.length_append];show _=Row _ 4 _ _ (ts2.flatMap cu++[_,_,_,_])*_;unfold aO
         ac_rfl
       .simp[intOf];omega
     .have hig2:i=g:=by omega
      subst hig2;have hii:¬ (i:Int)<i:=by omega
      have HE1:Hid (ts2.map En.ao=ts.map En.ao++df snaps none (G.map En.ao)):=by
       have h9:=HE.o.1;rw[List.take_of_length_le (by rw[HMl.o];exact Nat.le_refl _),List.take_of_length_le (by rw[HGl.o];exact Nat.le_refl _),HMk.o] at h9;exact h9
      have HE2:Hid (Sat w (Row 120 4 (.slice TA2 ts2.length tc2) ts2.length (ts2.flatMap cu)*(aW ts2*aV)) wr):=Sat.right (A:=Row 4 1 (.slice (some ⟨gm,0,none⟩) i i) i (mk.map Value.bool)) (HE.o.2.of (by ac_rfl));clear HE HS3;go_upto_block 6 with fail
      go_cut [8] (fun ov wx=> ∃ (ts4:List En) (TA4:Option Addr) (tc4:Nat),ov = .slice TA4 ts4.length tc4/\Hid (ts4.map En.ao=ts.map En.ao++jF b snaps (G.map En.ao)/\Sat w (Row 120 4 (.slice TA4 ts4.length tc4) ts4.length (ts4.flatMap cu)*(aW ts4*aV)) wx))
      case first=>
       go_wp2_with fail;go_loopw [8] (fun ov wr=> ∃ (ts3:List En) (X:List aw) (TA3:Option Addr) (tc3:Nat),ov = .slice TA3 ts3.length tc3/\ts.length<=ts3.length/\ts3.length<=1000000/\Hid (ts3.map En.ao=ts.map En.ao++X/\(b=true->gC X=gC (df snaps none (G.map En.ao)))/\(b=false->X=df snaps none (G.map En.ao))/\Sat w (Row 120 4 (.slice TA3 ts3.length tc3) ts3.length (ts3.flatMap cu)*(aW ts3*aV)) wr)) (fun ov _=>lenOf ov)
       case atStart=>
        refine⟨ts2,df snaps none (G.map En.ao),TA2,tc2,rfl,?_,by have:=HMe.o;omega,HE1.o,fun _=>rfl,fun _=>rfl,HE2.o⟩;have h9:=congrArg List.length HE1.o;rw[List.length_append,List.length_map,List.length_map] at h9;omega
       case round=>
        obtain⟨ts3,X,TA3,tc3,rfl,hl3,hl4,HF⟩:=hrel
        cases b
        .go_wp2_with fail;go_meet
         refine⟨ts3,TA3,tc3,rfl,?_,HF.o.2.2.2⟩;rw[show jF false snaps (G.map En.ao)=df snaps none (G.map En.ao) from rfl,HF.o.1,HF.o.2.2.1 (by simp)]
        .by_cases hle:ts.length<ts3.length
         .obtain⟨ts5,x,rfl⟩: ∃ ts5 x,ts3=ts5++[x]:=by
           rcases List.eq_nil_or_concat ts3 with h9 | ⟨a,z,h9⟩
           .rw[h9] at hle;simp at hle
           .exact⟨a,z,by rw[h9,List.concat_eq_append]⟩
          obtain⟨X2,hX⟩: ∃ X2,X=X2++[x.ao]:=by
           have h9:=HF.o.1;rcases List.eq_nil_or_concat X with h8 | ⟨a,z,h8⟩
           .rw[h8] at h9;have:=congrArg List.length h9;rw[List.length_map,List.append_nil,List.length_map] at this;omega
           .rw[List.concat_eq_append] at h8;rw[h8,List.map_append, <-List.append_assoc] at h9;have h7:=List.append_inj_right' h9 rfl;injection h7 with h7
            have h6:x.ao=z:=h7;exact⟨a,by rw[h8,h6]⟩
          subst hX;obtain⟨q,hq⟩: ∃ q,q=ts5.length:=⟨_,rfl⟩;have hql:(ts5++[x]).length=q+1:=by rw[List.length_append,hq];rfl
          rw[hql] at hle hl3 hl4 ⊢;have HFs:Hid (Sat w (Row 120 4 (.slice TA3 (q+1) tc3) (q+1) ((ts5++[x]).flatMap cu)*(aW (ts5++[x])*aV)) wr):=by rw[<-hql];exact HF.o.2.2.2
          have HFe:Hid (ts5.map En.ao=ts.map En.ao++X2):=by
           have h9:=HF.o.1;rw[List.map_append, <-List.append_assoc] at h9;exact List.append_inj_left' h9 rfl
          have HFt:Hid (gC (X2++[x.ao])=gC (df snaps none (G.map En.ao))):=HF.o.2.1 (by simp);obtain⟨g3,rfl,hg3⟩:=HFs.o.nY (by omega);have z3:=hg3 (q*4+3) (by rw[dL fo,hql];omega);have z4:((ts5++[x]).flatMap cu)[q*4+3]'(by rw[dL fo,hql];omega) = .bool x.dead:=by
           have e1:(ts5++[x]).flatMap cu=ts5.flatMap cu++cu x:=by rw[List.flatMap_append,List.flatMap_cons,List.flatMap_nil,List.append_nil]
           have e2:(ts5.flatMap cu).length=q*4:=by rw[dL fo,hq]
           apply Option.some.inj;rw[<-List.getElem?_eq_getElem,e1,List.getElem?_append_right (by omega),e2,show q*4+3 - q*4=3 by omega];rfl
          rw[z4] at z3;have hqi:((q:Int)+1) - 1=q:=by omega
          have hlq:(ts.length:Int)<(q:Int)+1:=by omega
          have HQe:Hid (q=ts5.length):=hq;obtain⟨db,hdb⟩: ∃ db,x.dead=db:=⟨_,rfl⟩;rw[hdb] at z3;have HDb:Hid (x.dead=db):=hdb;have hc89:q+1<=tc3/\tc3<=maxLen:=by
           obtain⟨A9,c9,e9,h8,h9⟩:=HFs.o.aT;injection e9 with _ _ e9
           rw[e9];exact⟨h8,h9⟩
          obtain⟨hc8,hc9⟩:=hc89;unfold maxLen at hc9;clear hg3 z4 hq hql hdb HF
          cases db
          .go_wp2_with fail;go_meet
           refine⟨ts5++[x],_,tc3,by rw[List.length_append, <-HQe.o];rfl,?_,?_⟩
           .rw[show jF true snaps (G.map En.ao)=gC (df snaps none (G.map En.ao)) from rfl, <-HFt.o,oo (by exact HDb.o),List.map_append,HFe.o,List.append_assoc];rfl
           .rw[List.length_append, <-HQe.o];exact HFs.o
          .go_wp2_with fail;go_roundw
           .refine⟨ts5,X2,_,tc3,by rw[<-HQe.o],by rw[<-HQe.o];omega,by rw[<-HQe.o];omega,HFe.o,fun _=>?_,fun h=>(by cases h),?_⟩
            .rw[<-HFt.o,om (by exact HDb.o)]
            .have h9:=HFs.o.J8 q (by omega);have e1:(ts5++[x]).flatMap cu=ts5.flatMap cu++cu x:=by rw[List.flatMap_append,List.flatMap_cons,List.flatMap_nil,List.append_nil]
             rw[e1,List.take_left' (by rw[dL fo, <-HQe.o]),fP] at h9;rw[<-HQe.o];exact Sat.right (A:=Row 5 1 (aO x.key) x.key.2.2.length (x.key.2.2.map bv)*Row 5 1 (aO x.value) x.value.2.2.length (x.value.2.2.map bv)) (h9.of (by ac_rfl))
           .show q<q+1;omega
         .have hle2:ts3.length=ts.length:=by omega
          have hX:X=[]:=by
           have h9:=congrArg List.length HF.o.1;rw[List.length_append,List.length_map,List.length_map] at h9;exact List.length_eq_zero_iff.1 (by omega)
          have HX:=ah hX;have hlq:¬ (ts.length:Int)<(ts3.length:Int):=by omega
          clear hle2 hX;go_wp2_with fail;go_meet
          refine⟨ts3,TA3,tc3,rfl,?_,HF.o.2.2.2⟩;rw[show jF true snaps (G.map En.ao)=gC (df snaps none (G.map En.ao)) from rfl,HF.o.1, <-HF.o.2.1 (by simp),HX.o];rfl
      case rest=>
       obtain⟨ts4,TA4,tc4,rfl,HF⟩:=hcut;go_wp2_with fail;have hkg:es.length - (k+i)=m - i:=by have:=HMe.o;omega
       have HRn:Hid (R.drop i=es.drop (k+i)):=by
        unfold Hid;rw[HRk.o,List.drop_drop]
       have hdl:(R.drop i).length=m - i:=by rw[List.length_drop,HRl.o]
       go_roundw
       .refine⟨k+i,_,c' - i,ts4,TA4,tc4,by have:=HMe.o;omega,by rw[hkg],rfl,?_⟩;refine⟨?_,?_,?_,?_,HF.o.2⟩
        .rw[<-HRn.o];have h9:=DF HRd.o (n:=i) (by rw[HRl.o];omega) (by rw[HRl.o];omega);by_cases e:c'=i
         .rw[if_pos e] at h9 ⊢;exact h9
         .rw[if_neg e,Option.map_some,Addr.add_lit] at h9;rw[if_neg e];exact h9
        .rw[<-HRn.o,hdl];exact⟨by omega,by unfold maxLen;omega⟩
        .rw[<-HRn.o,HF.o.1,List.append_assoc, <-HRe.o,Io b snaps (R:=R) (by intro e;have:=HRl.o;rw[e] at this;simp at this;omega), <-HG.o, <-HGe.o]
        .have h9:=congrArg List.length HF.o.1;have h8:=(nV b snaps (G.map En.ao)).length_le;rw[List.length_append,List.length_map,List.length_map] at h9;rw[List.length_map,HGl.o] at h8;omega
       .show m - i<m;omega
  .have hke:es.length - k=0:=by omega
   have HEe:Hid (ts.map En.ao=cZ b snaps (es.map En.ao)):=by
    have h9:=HD.o.eq;rw[List.drop_of_length_le (by omega),List.map_nil,jE,List.append_nil] at h9;exact h9
   rw[hke];go_wp2_with fail;go_ret2;exact⟨ts,TA,tc,rfl,HEe.o,HD.o.sat⟩
def Bp (i:Int) (ns:List Nd):List aw:=if 0<=i/\i<8 then oU [] i.toNat ns else []
theorem ux (w:World):mI w [] (.returned (.slice none 0 0)) w:=⟨[],none,0,rfl,rfl,((Sat.start w).aI _ 4).of (by rfl)⟩
def JU (y:En):Prop:=(y.key.2.2.length<=y.key.2.1/\y.key.2.1<=maxLen)/\(y.value.2.2.length<=y.value.2.1/\y.value.2.1<=maxLen)
theorem F7 {w0 w:World} {G:SP} {A B:Option Addr} {cA cB:Nat} {k v:List UInt8} (h:Sat w0 (Row 5 1 (.slice A k.length cA) k.length (k.map bv)*(Row 5 1 (.slice B v.length cB) v.length (v.map bv)*G)) w) (seq:Int) (dead:Bool):JU ⟨(A,cA,k),(B,cB,v),seq,dead⟩:=by
 obtain⟨_,_,e1,h1,h2⟩:=h.aT;obtain⟨_,_,e2,k1,k2⟩:=h.av.aT;injection e1 with _ _ e1
 injection e2 with _ _ e2
 subst e1;subst e2;exact⟨⟨h1,h2⟩,k1,k2⟩
section
variable {w0 w:World} {F:SP} {r:Nat} {vL vH:Value} {es:List En} {hs:List Nat}
theorem Sat.cj {e:TypeId} {size n c:Nat} {A:Option Addr} {xs:List Value} (h:Sat w0 (Row e size (.slice A n c) n xs*F) w):aH w A xs:=fun hx=>by
 obtain⟨hl,⟨_,e2,_⟩ | ⟨g,cap,cur,e1,h1,h2,h3,h4,h5⟩⟩:=h.cw
 .subst e2;exact absurd (List.eq_nil_of_length_eq_zero (by simpa using hl)) hx
 .injection e1 with e1 _ e3
  refine⟨g,0,e1,fun j hj=>?_⟩;rw[Nat.zero_add,h5.cell];have h6:xs[j]?=some xs[j]:=List.getElem?_eq_getElem hj;rw[<-h6, <-h4,List.getElem?_take,if_pos (by omega)];simp
end
theorem rm (es:List En): ∀ u ∈ es.flatMap cu,u.oneCell'=true:=by
 intro u hu;obtain⟨e,_,he⟩:=List.mem_flatMap.1 hu;unfold cu aO at he;simp at he;rcases he with rfl | rfl | rfl | rfl<;>rfl
theorem qx (es:List En):(es.flatMap cu).length=es.length*4:=dL fo es
theorem Jz (es:List En) (n:Nat):(es.drop n).flatMap cu=(es.flatMap cu).drop (n*4):=by
 induction es generalizing n with
 | nil=>simp
 | cons e es ih=>
  cases n with
  | zero=>simp
  | succ n=>
   rw[List.drop_succ_cons,List.flatMap_cons,ih,List.drop_append];have:(cu e).length=4:=rfl;rw[this,List.drop_of_length_le (l:=cu e) (by rw[this];omega),show (n+1)*4 - 4=n*4 by omega,List.nil_append]
def wT (e:aw) (L:List aw):Nat:=(L.takeWhile fun x=>aF x e).length
theorem Kt (e:aw) (L:List aw):wT e L<=L.length:=by unfold wT;exact(List.takeWhile_sublist _).length_le
theorem Li {e:aw} {L:List aw} {k:Nat} (hk:k<L.length) (h:k<wT e L):aF L[k] e=true:=by
 have h1:(L.takeWhile fun x=>aF x e)[k]'h ∈ L.takeWhile fun x=>aF x e:=List.getElem_mem _;have h2:=Bk h1;have h3:L[k]=(L.takeWhile fun x=>aF x e)[k]'h:=by
  have e0:=kT (fun x=>aF x e) L;have h4:L[k]?=(L.takeWhile fun x=>aF x e)[k]?:=by
   conv=>lhs;rw[e0]
   rw[List.getElem?_append_left h]
  rw[List.getElem?_eq_getElem hk,List.getElem?_eq_getElem h] at h4;exact Option.some.inj h4
 rw[h3];exact h2
theorem I0 {e:aw} {L:List aw} {k:Nat} (hk:k<L.length) (hlow: ∀ i (h:i<L.length),i<k->aF L[i] e=true) (h:aF L[k] e=false):k=wT e L:=by
 rcases Nat.lt_trichotomy k (wT e L) with q | q | q
 .rw[Li hk q] at h;cases h
 .exact q
 .have hl:wT e L<L.length:=by omega
  have e0:=kT (fun x=>aF x e) L
  cases hd:L.dropWhile (fun x=>aF x e) with
  | nil=>
   rw[hd,List.append_nil] at e0;have:=congrArg List.length e0;unfold wT at hl;omega
  | cons x s=>
   have h2:L[wT e L]?=some x:=by
    obtain⟨q',hq'⟩: ∃ q',q'=wT e L:=⟨_,rfl⟩;rw[<-hq'];have hq2:(L.takeWhile fun x=>aF x e).length=q':=hq'.symm
    conv=>lhs;rw[e0,hd]
    rw[List.getElem?_append_right (by omega),hq2];simp
   rw[List.getElem?_eq_getElem hl] at h2;have h2:=Option.some.inj h2;have h3:=List.head?_dropWhile_not (fun x=>aF x e) L;rw[hd] at h3;simp at h3;have h4:=hlow _ hl q;rw[h2,h3] at h4
   cases h4
theorem Lg {e:aw} {L:List aw} (hlow: ∀ i (h:i<L.length),aF L[i] e=true):L.length=wT e L:=by
 have h:=Kt e L;rcases Nat.eq_or_lt_of_le h with q | q
 .exact q.symm
 .have e0:=kT (fun x=>aF x e) L
  cases hd:L.dropWhile (fun x=>aF x e) with
  | nil=>rw[hd,List.append_nil] at e0;have:=congrArg List.length e0;unfold wT;omega
  | cons x s=>
   have hx:x ∈ L:=by rw[e0,hd];simp
   obtain⟨i,hi,rfl⟩:=List.mem_iff_getElem.1 hx;have h3:=List.head?_dropWhile_not (fun x=>aF x e) L;rw[hd] at h3;simp at h3;rw[hlow i hi] at h3
   cases h3
theorem Gc:(Tryz.prog.info? 3).map (fun i=>(i.zero,i.size,i.bytes))=some (some (.int .i64 0),1,8):=by kernel_rfl
def iy (f:Int->Option Nat):Int->Option Value:=fun i=>(f i).map fun q:Nat=> .agg #[.int .i64 (q:Int)]
structure MW (f:Int->Option Nat) (left:Lit->Bool) (n cnt:Nat) (qs:List Int):Prop where
 only: ∀ q ∈ qs, ∃ i s,f i=some s/\q=((s:Nat):Int)
 all: ∀ i s,f i=some s->left (.int .i64 i)=false->((s:Nat):Int) ∈ qs
 bU:qs.length+cnt<=n
def tO (f:Int->Option Nat) (n:Nat) (qs:List Int):Prop:=(∀ q,q ∈ qs↔ ∃ i s,f i=some s/\q=((s:Nat):Int))/\qs.length<=n
section
variable {w0 w:World} {F:SP}
theorem Ba (b mb n:Nat) (f:Int->Option Nat) (cs:Array Value) (h:Sat w0 (Pt b 113 cs*(bY Tryz.prog 3 mb n (iy f)*F)) w) (hc:cs[5]?=some (.map (some mb))) (hn:n<=1000000):
 Calls Tryz.prog 148 #[.pointer (some ⟨b,0,none⟩)] w fun e w'=> ∃ (A:Option Addr) (c:Nat) (qs:List Int),e = .returned (.slice A qs.length c)/\tO f n qs/\Sat w0 (Row 3 1 (.slice A qs.length c) qs.length (qs.map (Value.int .i64))*(Pt b 113 cs*(bY Tryz.prog 3 mb n (iy f)*F))) w':=by
 obtain⟨j0,hj,hy0,hy1,hy2⟩:=info_parts Gc;have Hj:=ah hj;have Hy0:=ah hy0;have Hy1:=ah hy1;have Hy2:=ah hy2;have c5:w.cell? ⟨b,5,none⟩=some (.map (some mb)):=by rw[h.cell 5];exact hc
 obtain⟨ob,hob,Dm,hown,hsays⟩:=h.av.IM;have HOb:=ah hob;have HOwn:=ah hown;have HSays:=ah hsays;have HSz:Hid (Maps.size Dm<=n):=hown.size_le;clear h hc hob hown hsays hj hy0 hy1 hy2;go_enter Tryz.func148, Tryz.ntmps148;go_wp2_with (at_range;refine wpList_range_own _ rfl _ 111 rfl 3 135 (Maps.int_keyed Tryz.underlying3) Tryz.underlying111 cF mb n Dm rfl HOwn.o ?_;intro w6 hrg0 hg0 hs0);go_frame
 have HS6:=ah (HOb.o.yz hrg0 hg0 hs0);obtain⟨R,hR⟩: ∃ R,R=w.heap.size:=⟨_,rfl⟩;rw[<-hR] at HS6;rw[<-hR];clear hrg0 hg0 hs0 c5 hR;go_loopw [3] (fun ov wr=> ∃ (left:Lit->Bool) (cnt k d:Nat) (B:Option Addr) (qs:List Int),ov = .slice B k d/\Hid (k=qs.length/\MW f left n cnt qs/\Sat w0 (Row 3 1 (.slice B k d) k (qs.map (Value.int .i64))*(Jh Tryz.prog 3 mb R n Dm left cnt*(Pt b 113 cs*F))) wr)) (fun _ wr=>wr.rangeLeft mb R)
 case atStart=>
  refine⟨Maps.has Dm,Maps.size Dm,0,0,none,[],rfl,rfl,⟨fun q hq=>(by cases hq),fun i s h1 h2=>?_,by simpa using HSz.o⟩,HS6.o.aI 3 1⟩;have h3:=GS HSays.o h2;unfold iy at h3;rw[h1] at h3
  cases h3
 case round=>
  obtain⟨left,cnt,k,d,B,qs,rfl,HD⟩:=hrel;have HG:=ah HD.o.2.2.av.rg;go_wp2_with (at_next;refine wpList_next_ranges _ rfl _ rfl 3 (Maps.int_keyed Tryz.underlying3) cF (Value.int .i64) id (fun key kl hkey=>(by obtain⟨x,rfl,_⟩:=Maps.keyOf_int_inv Tryz.underlying3 hkey;exact⟨x,rfl⟩)) (fun v y hv=>⟨v,rfl⟩) mb R n Dm left cnt rfl HG.o ?_ ?_)
  .intro hc0 hl0;have HL0:=ah hl0;clear hc0 hl0;go_wp2_with fail;go_ret;have hk:=HD.o.1;subst hk;refine⟨B,d,qs,rfl,⟨fun q=>⟨fun hq=>HD.o.2.1.only q hq,?_⟩,by have:=HD.o.2.1.bU;omega⟩,?_⟩
   .rintro ⟨i,s,h1,rfl⟩;exact HD.o.2.1.all i s h1 (HL0.o _)
   .exact(HD.o.2.2.av.KO HSays.o).av.of (by rw[aK (bY _ _ _ _ _)])
  .intro x c kl y1 y2 w7 cnt' hkey hlk hv hat hrg' hlt hg hsz hen;obtain⟨x',ex,rfl,hwf⟩:=Maps.keyOf_int_inv Tryz.underlying3 hkey;injection ex with _ ex
   subst ex;unfold cF at hv;injection hv with hv
   injection hv with hv1 hv2
   subst hv1;have hfx:iy f x=some c:=IJ HSays.o (fun zd=>hat zd);obtain⟨s,hs1,hs2⟩: ∃ s,f x=some s/\ .agg #[.int .i64 ((s:Nat):Int)]=c:=by
    unfold iy at hfx
    cases hf:f x with
    | none=>rw[hf] at hfx;cases hfx
    | some s=>rw[hf] at hfx;injection hfx with hfx;exact⟨s,rfl,hfx⟩
   subst hs2;have HS7:=ah ((HD.o.2.2.av.BY hg hrg').av);have HX:=ah hs1;have HLt:Hid (cnt'<cnt):=hlt;have HM:=ah HD.o.2.1;have HK:=ah HD.o.1;have hkn:k<=1000000:=by have:=HM.o.bU;have:=HK.o;omega
   have HRg:=ah hrg';obtain⟨z,hz⟩: ∃ z:Int,z=((s:Nat):Int):=⟨_,rfl⟩;rw[<-hz] at hen;have HZ:=ah hz;clear hkey hlk hat hrg' hlt hg hsz hwf hfx hs1 hz HD;go_upto_region 5 with fail;have hs8:=HS7.o.af 135 #[.int .i64 z];obtain⟨W8,hW8⟩: ∃ W8,W8=w7.alloc (.cells #[.int .i64 z] 135):=⟨_,rfl⟩;rw[<-hW8] at hs8;rw[<-hW8];obtain⟨bx,hbx⟩: ∃ bx,bx=w7.heap.size:=⟨_,rfl⟩;rw[<-hbx] at hs8;rw[<-hbx];clear hW8 hbx hen;have x0:=hs8.cell 0;have HS8:=ah ((hs8.aC (.cells #[.int .i64 z] 3)).av);clear hs8;go_wp2_with (at_builtin;refine au rfl (.tmp 15) (.tmp 18) 49 rfl 3 j0 _ 1 8 Tryz.underlying49 Hj.o Hy0.o Hy1.o Hy2.o rfl (by decide) (.slice B k d) k (qs.map (Value.int .i64)) rfl w0 _ (by exact HS8.o) (some ⟨W8.heap.size,0,none⟩) 1 1 [.int .i64 z] rfl (by exact(aL _ _ _)) rfl (by intro u hu;simp at hu;subst hu;rfl) (by unfold maxLen;omega) (by omega) ?_;intro B5 d5 w5 hs5;have HS9:=ah hs5;clear hs5);go_roundw
   case rel=>
    refine⟨fun z=>left z && !z.sameKey (.int .i64 x),cnt',k+1,d5,B5,qs++[z],rfl,by rw[List.length_append, <-HK.o];rfl,⟨fun q hq=>?_,fun i s' h1 h2=>?_,?_⟩,?_⟩
    .rcases List.mem_append.1 hq with h3 | h3
     .exact HM.o.only q h3
     .rw[List.mem_singleton.1 h3];exact⟨x,s,HX.o,HZ.o⟩
    .by_cases e:i=x
     .subst e;rw[HX.o] at h1;injection h1 with h1
      subst h1;rw[<-HZ.o];exact List.mem_append_right _ (List.mem_singleton_self _)
     .refine List.mem_append_left _ (HM.o.all i s' h1 ?_);have h3:(Lit.int .i64 i).sameKey (.int .i64 x)=false:=Maps.sameKey_ne (fun q=>e (by injection q));have h4:(left (.int .i64 i) && !(Lit.int .i64 i).sameKey (.int .i64 x))=false:=h2;rw[h3] at h4;simpa using h4
    .have:=HM.o.bU;have:=HLt.o;rw[List.length_append];simp;omega
    .rw[List.map_append];exact HS9.o.bF
   case measure=>rw[HS9.o.bD.rg.left_eq,HG.o.left_eq];exact HLt.o
end
theorem cS: ∀ es:List En,pw (aW es)
 | []=>dt
 | e::es=>bf (bM _ _ _ _ _) (bf (bM _ _ _ _ _) (cS es))
theorem zq {ns:List Nd} {n:Nat} (ht:ep ns n):Bp 0 ns=cG ns:=by
 unfold Bp oU cG gy;rw[if_pos (by omega),List.filter_eq_self.2 (fun m hm=>by have:=ht.ok.full m hm;simp;omega),List.map_map];have hall: ∀ l:List aw,l.takeWhile (wK [])=l:=by
  intro l
  induction l with
  | nil=>rfl
  | cons x l ih=>rw[List.takeWhile_cons,show wK [] x=true from rfl,if_pos rfl,ih]
 exact hall _
structure Sd where
 log:Nat
 L:List aw
 seq:Nat
 snaps:Int->Option Nat
 bU:Nat
 next:Nat
def ez (d s:Nat) (lg:Int) (tb:Nat) (q:Int) (mb:Nat) (nx:Int) (dead:Bool):Array Value:= #[.pointer (some ⟨d,0,none⟩),.pointer (some ⟨s,0,none⟩),.int .i64 lg,.pointer (some ⟨tb,0,none⟩),.int .i64 q,.map (some mb),.int .i64 nx,.bool dead]
def L4 (b d s:Nat) (v:Sd) (tb hr mb:Nat) (ns:List Nd):SP:=Pt b 113 (ez d s v.log tb v.seq mb v.next false)*(bK tb hr ns*bY Tryz.prog 3 mb v.bU (iy v.snaps))
def dD (b d s:Nat) (v:Sd):SP:=fun h=> ∃ tb hr mb ns,(ep ns v.L.length/\cG ns=v.L)/\L4 b d s v tb hr mb ns h
section
variable {w0 w:World} {F:SP} {b d s:Nat} {v:Sd}
theorem Sat.db (h:Sat w0 (dD b d s v*F) w): ∃ tb hr mb ns,(ep ns v.L.length/\cG ns=v.L)/\Sat w0 (L4 b d s v tb hr mb ns*F) w:=by
 obtain⟨c,x,h1,a,g,h2,h3,⟨tb,hr,mb,ns,h4,h5⟩,h8⟩:=h;exact⟨tb,hr,mb,ns,h4,c,x,h1,a,g,h2,h3,h5,h8⟩
theorem Sat.wJ {tb hr mb:Nat} {ns:List Nd} (ht:ep ns v.L.length) (he:cG ns=v.L) (h:Sat w0 (L4 b d s v tb hr mb ns*F) w):Sat w0 (dD b d s v*F) w:=
 h.mono fun y ⟨a,g,k1,k2,k3,k4⟩=>⟨a,g,k1,k2,⟨tb,hr,mb,ns,⟨ht,he⟩,k3⟩,k4⟩
theorem dW (b d s:Nat) (v:Sd) (tb hr mb:Nat) (ns:List Nd) (F:SP):L4 b d s v tb hr mb ns*F=Pt b 113 (ez d s v.log tb v.seq mb v.next false)*(bK tb hr ns*(bY Tryz.prog 3 mb v.bU (iy v.snaps)*F)):=by
 unfold L4;rw[aj,aj]
end
def Kj (fl tl:List UInt8) (x:aw):Bool:= !Op.bytesLess x.key fl && (decide (tl=[]) || Op.bytesLess x.key tl)
def mr (fl tl:List UInt8) (L:List aw):List aw:=L.filter (Kj fl tl)
theorem sA (l m:List UInt8): ∃ (SA SB:ByteArray) (B:Bool),SA=ByteArray.mk l.toArray/\SB=ByteArray.mk m.toArray/\Op.bytesLess SA.toList SB.toList=B/\B=Op.bytesLess l m:=⟨_,_,_,rfl,rfl,rfl,by simp⟩
theorem pC {p:aw->Bool}: ∀ {L:List aw},L.Pairwise (fun x y=>p y=true->p x=true)->L.filter p=L.takeWhile p
 | [],_=>rfl
 | x::L,h=>by
  rw[List.pairwise_cons] at h;rw[List.filter_cons,List.takeWhile_cons];by_cases hp:p x=true
  .rw[if_pos hp,if_pos hp,pC h.2]
  .rw[if_neg hp,if_neg hp];exact List.filter_eq_nil_iff.2 fun y hy hpy=>hp (h.1 y hy hpy)
theorem FN (f:aw->Bool) (L:List aw):(L.dropWhile f).Sublist L:=(List.dropWhile_suffix f).sublist
def qb (fl tl:List UInt8) (L:List aw):List aw:=(L.drop (wT (cY fl) L)).takeWhile (wK tl)
theorem BG (e:aw) (L:List aw):L.drop (wT e L)=L.dropWhile (fun x=>aF x e):=by
 unfold wT
 conv=>lhs;rw[kT (fun x=>aF x e) L]
 rw[List.takeWhile_append_dropWhile];have:=List.drop_left (l₁:=L.takeWhile fun x=>aF x e) (l₂:=L.dropWhile fun x=>aF x e);rw[List.takeWhile_append_dropWhile] at this;exact this
theorem Cr {L:List aw} (hs:L.Pairwise dJ) (hseq: ∀ x ∈ L,x.seq<=fm) (fl tl:List UInt8):qb fl tl L=mr fl tl L:=by
 unfold qb;rw[BG];have hkey: ∀ x y:aw,dJ x y->Lib.compareBytes y.key tl<0->Lib.compareBytes x.key tl<0:=by
  intro x y h k;rw[cU] at h;rcases h with h | ⟨h,_⟩
  .exact dI h k
  .rw[h];exact k
 have e0:=kT (fun x=>aF x (cY fl)) L;have hA: ∀ x ∈ L.takeWhile (fun x=>aF x (cY fl)),Kj fl tl x=false:=by
  intro x hx;have h1:dJ x (cY fl):=Bk (f:=fun x=>aF x (cY fl)) hx;have hx2:x ∈ L:=(List.takeWhile_sublist _).subset hx;rw[cU] at h1;rcases h1 with h1 | ⟨_,h1⟩
  .unfold Kj;have h1:Lib.compareBytes x.key fl<0:=h1;rw[iQ,decide_eq_true h1];rfl
  .exfalso;have h1:fm<x.seq:=h1;have:=hseq x hx2;omega
 have hB: ∀ x ∈ L.dropWhile (fun x=>aF x (cY fl)),Op.bytesLess x.key fl=false:=by
  intro x hx;have hs2:=hs.sublist (FN (fun x=>aF x (cY fl)) L)
  cases hd:L.dropWhile (fun x=>aF x (cY fl)) with
  | nil=>rw[hd] at hx;simp at hx
  | cons y s=>
   have h3:=List.head?_dropWhile_not (fun x=>aF x (cY fl)) L;rw[hd] at h3 hx hs2;simp at h3;have hy:¬ Lib.compareBytes y.key fl<0:=fun q=>by
    have:dJ y (cY fl):=cU.2 (.inl q);unfold dJ at this;rw[h3] at this
    cases this
   have hxx:¬ Lib.compareBytes x.key fl<0:=by
    rcases List.mem_cons.1 hx with rfl | hx
    .exact hy
    .intro q;have h4:=(List.pairwise_cons.1 hs2).1 x hx;rw[cU] at h4;rcases h4 with h4 | ⟨h4,_⟩
     .exact hy (dI h4 q)
     .rw[h4] at hy;exact hy q
   rw[iQ,decide_eq_false hxx]
 unfold mr
 conv=>rhs;rw[e0]
 rw[List.filter_append,List.filter_eq_nil_iff.2 (fun x hx=>by rw[hA x hx];simp),List.nil_append];have hc:(L.dropWhile (fun x=>aF x (cY fl))).filter (Kj fl tl)=(L.dropWhile (fun x=>aF x (cY fl))).filter (wK tl):=by
  apply List.filter_congr;intro x hx;unfold Kj wK;rw[hB x hx,iQ];rfl
 rw[hc,pC];have hs2:=hs.sublist (FN (fun x=>aF x (cY fl)) L);refine hs2.imp fun {x y} hxy hy=>?_
 unfold wK at hy ⊢;simp only[Bool.or_eq_true,decide_eq_true_eq] at hy ⊢;rcases hy with hy | hy
 .exact .inl hy
 .exact .inr (hkey x y hxy hy)
theorem Bc {ns:List Nd} {n:Nat} (ht:ep ns n) (fl tl:List UInt8):Ae fl tl ns=mr fl tl (cG ns):=by
 have hL:cG ns=ns.map fun n=>n.e.ao:=by unfold cG gy;rw[List.map_map];rfl
 rw[<-Cr (lM ht.ok) (fun x hx=>by
  rw[hL] at hx;obtain⟨m,hm,rfl⟩:=List.mem_map.1 hx;exact(ht.each m hm).2.2)]
 have hv: ∀ m ∈ behind (cY fl) ns,0<m.v:=fun m hm=>by
  have:m ∈ ns:=(List.dropWhile_suffix _).sublist.subset hm;have:=ht.ok.full m this;omega
 unfold Ae oU qb;rw[List.filter_eq_self.2 (fun m hm=>by simpa using hv m hm),BG,hL];congr 1
 unfold behind;clear hL hv ht
 induction ns with
 | nil=>rfl
 | cons n ns ih=>
  rw[List.map_cons,List.dropWhile_cons,List.dropWhile_cons];show List.map _ (if aF n.e.ao (cY fl)=true then _ else _)=if aF n.e.ao (cY fl)=true then _ else _
  split
  .exact ih
  .rfl
def yp (fl tl k:List UInt8):Bool:= !Op.bytesLess k fl && (decide (tl=[]) || Op.bytesLess k tl)
def dU (fl tl:List UInt8) (M:List Kv):List Kv:=M.filter fun p=>yp fl tl p.1
theorem xt (fl tl k:List UInt8): ∀ M:List Kv,ba k (dU fl tl M)=if yp fl tl k=true then ba k M else none
 | []=>by unfold dU ba;simp
 | p::M=>by
  have ih:=xt fl tl k M;unfold dU at ih ⊢;rw[List.filter_cons];by_cases hp:yp fl tl p.1=true
  .rw[if_pos hp];unfold ba;by_cases hk:p.1=k
   .rw[if_pos hk,if_pos hk,if_pos (by rw[<-hk];exact hp)]
   .rw[if_neg hk,if_neg hk,ih]
  .rw[if_neg hp,ih]
   conv=>rhs;unfold ba
   by_cases hk:p.1=k
   .rw[if_neg (by rw[<-hk];exact hp),if_neg (by rw[<-hk];exact hp)]
   .rw[if_neg hk]
theorem Gk (fl tl k:List UInt8) (s:Int): ∀ L:List aw,ew k s (mr fl tl L)=if yp fl tl k=true then ew k s L else none
 | []=>by unfold mr ew mw;simp
 | e::L=>by
  have ih:=Gk fl tl k s L;unfold mr at ih ⊢;rw[List.filter_cons];by_cases hp:yp fl tl e.key=true
  .rw[if_pos (show Kj fl tl e=true from hp)];by_cases hk:e.key=k/\e.seq<=s
   .rw[qG hk,qG hk,if_pos (by rw[<-hk.1];exact hp)]
   .rw[pb hk,pb hk,ih]
  .rw[if_neg (show ¬ Kj fl tl e=true from hp),ih];by_cases hk:e.key=k
   .rw[if_neg (by rw[<-hk];exact hp),if_neg (by rw[<-hk];exact hp)]
   .rw[pb (fun h=>hk h.1)]
theorem zG {fl tl:List UInt8} {M:List Kv} (h:M.Pairwise nH):(dU fl tl M).Pairwise nH:=h.sublist List.filter_sublist
theorem zf {s:Int} {L:List aw} (h:L.Pairwise dJ) (fl tl:List UInt8):eP s (mr fl tl L)=dU fl tl (eP s L):=by
 have h2:(mr fl tl L).Pairwise dJ:=h.sublist List.filter_sublist;refine nD (iU h2) (zG (iU h)) fun k=>?_
 rw[nO h2,xt,Gk,nO h]
theorem Cb (M:List Kv):dU [] [] M=M:=by
 unfold dU;rw[List.filter_eq_self];intro p _;unfold yp;have:Op.bytesLess p.1 []=false:=by rw[iQ];cases p.1<;>rfl
 rw[this];rfl
structure M4 (w:World) (R T:Nat) (N:Nat) (S:Kg) (i:Nat) (wr:World):Prop where
 ex: ∃ A c es q s,pV (N - i) (es.map En.ao,q,s)=S/\es.length=i/\q.length<=140737488355328/\(∀ e ∈ es,e.key.2.2.length<=600/\e.value.2.2.length<=65536/\e.seq<9223372036854775808)/\
  wH w R (Pt T 226 #[.slice A es.length c,.pointer none]*(Row 120 4 (.slice A es.length c) es.length (es.flatMap cu)*aW es)) q s wr
theorem ug {L:List aw} {w w':World} {x:Ending} (h:yL L w x w'): ∃ (A:Option Addr) (n c e:Nat),x = .returned (.tuple #[.slice A n c,.int .i64 (e:Int)])/\aq No w w':=by
 rcases h with ⟨_,rfl,k⟩ | ⟨_,A,c,rfl,_,_,hs⟩
 .exact⟨none,0,0,_,rfl,k⟩
 .exact⟨A,_,c,0,rfl,hs.aP⟩
theorem qv {L:List aw} (h:cd L=0):L.length<=65536:=by
 unfold cd at h;split at h
 .cases h
 .split at h
  .cases h
  .rename_i h2;omega
theorem Ia {l:List UInt8} {S:ByteArray} (h:S=ByteArray.mk l.toArray):(S.toList==[84,68,84,49])=decide (l=dT):=by
 subst h;have:=BT l dT;simpa [dT] using this
theorem DW (A:Option Addr) (c:Nat) (b:List UInt8) (w:World) (h:Rd w A b) (hc:b.length<=c) (hm:c<=maxLen) (hbl:b.length<=140737488355328):
 Calls Tryz.prog 106 #[.slice A b.length c] w (Lo b w):=by
 obtain⟨i0,hi0,hz0,hz1,hz2⟩:=info_parts kh;have Hi0:=ah hi0;have Hz0:=ah hz0;have Hz1:=ah hz1;have Hz2:=ah hz2;clear hi0 hz0 hz1 hz2;have HB:=ah h;have HC:=ah hc;unfold maxLen at hm;clear h;by_cases h4:b.length<4
 .have hso:sy b=false:=by unfold sy;rw[decide_eq_false (by omega)];rfl
  have hoe:fz b=72:=by unfold fz;rw[if_pos hso]
  have hneg:(b.length:Int) - 4<0:=by omega
  have HO:=ah hoe;clear hso hoe;go_enter Tryz.func106, Tryz.ntmps106;go_upto_region 2 with fail;refine wp_region_held_drew (S:=fun _=>True) (by kernel_rfl) trivial ?_;intro hS0;refine cm 0 1 ?_;refine cH 2 ?_;refine cD 3 ?_;refine cD 4 ?_;refine cD 5 ?_;refine cD 6 ?_;refine cD 7 ?_;refine cD 8 ?_;refine cD 9 ?_;refine cD 10 ?_;refine cD 11 ?_;refine cD 12 ?_;refine cD 13 ?_;refine cD 14 ?_;refine cH 15 ?_;refine wpAnyH_done (by kernel_rfl) ?_ _;go_wp2_with fail;go_ret2;refine .inl ⟨by rw[HO.o];decide,by rw[HO.o];rfl,(aq.refl No w).drew⟩
 .obtain⟨m,hbm⟩: ∃ m,b.length=m+4:=⟨b.length - 4,by omega⟩;have hsub:(b.length:Int) - 4=m:=by omega
  have hsub2:((m+4:Nat):Int) - 4=m:=by omega
  have hnn:¬ (m:Int)<0:=by omega
  have hcm:¬ c=m:=by omega
  have htl:(b.take m).length=m:=by simp;omega
  have hdl:(b.drop m).length=4:=by simp;omega
  obtain⟨sm,hsm⟩: ∃ s,vZ (b.take m)=s:=⟨_,rfl⟩;have hsm0:sm<4294967296:=by rw[<-hsm];exact BV _
  have hws:IntKind.u64.wrap (sm:Int)=sm:=by rw[IntKind.wrap_u64];omega
  obtain⟨sk,hsk⟩: ∃ k,decide (ai sm 4=b.drop m)=k:=⟨_,rfl⟩;have hso:sy b=sk:=by unfold sy;rw[decide_eq_true (by omega),Bool.true_and,hbm,Nat.add_sub_cancel,hsm,hsk]
  have HSm:=ah hsm;have HSk:=ah hsk;have HSo:=ah hso;have HTl:=ah htl;have HDl:=ah hdl;have HTk:Hid (Rd w A (b.take m)):=HB.o.take m;have HDr:Hid (Rd w (A.map (·.add m)) (b.drop m)):=by have:=HB.o.drop (k:=m) (cap:=c) (by omega) hc;rwa [if_neg hcm] at this
  have hs1:(m:Int)<=b.length:=by omega
  have hmc:m<=c:=by omega
  have hmb:m<=b.length:=by omega
  have HBM:=ah hbm;clear hsm hsk hso htl hdl hbm hsub2;go_enter Tryz.func106, Tryz.ntmps106;go_upto_region 2 with fail;refine wp_region_held_drew (S:=fun _=>True) (by kernel_rfl) trivial ?_;intro hS0;refine an 0 1 2 3 ?_;refine an 4 5 10 11 ?_;refine cH 12 ?_;refine bR 6 fun K hK=>?_
  go_simp;refine hK.out _ _ trivial (fun hS0=>?_);clear hK K;refine bR 7 fun K hK=>?_
  go_simp;go_at_call 138;refine(osum_any (some ⟨w.heap.size,0,none⟩) 1 [(A,c,b.take m)] _ ⟨by show aH _ _ [.slice A (b.take m).length c];rw[HTl.o];exact aL w.drew #[.slice A m c] 41,fun y hy=>by rw[List.mem_singleton] at hy;subst hy;exact HTk.o.new ((aq.refl No w).drew.alloc _)⟩ (by simp) (by simp;omega)).mono ?_;rintro x w1 ⟨rfl,rfl⟩;rw[show (bT [(A,c,b.take m)]).flatten=b.take m by simp[bT],HSm.o]
  refine hK.out _ _ trivial (fun hS0=>?_);clear hK K;refine cH 8 ?_;refine bR 9 fun K hK=>?_
  go_simp;go_at_call 117;refine(ch sm 4 (by omega) (by omega) (by omega) w _ aV ((Sat.start w).drew.aC _)).mono ?_;rintro x w2 ⟨A2,c2,rfl, -, -,hs2⟩;have HS2:=ah hs2;clear hs2
  refine hK.out _ _ trivial (fun hS0=>?_);clear hK K;refine bR 13 fun K hK=>?_
  go_simp;go_at_call 126;rw[show b.length - m=(b.drop m).length by simp];refine(eZ (A2,c2,ai sm 4) (A.map (·.add m),c - m,b.drop m) w2 (aH.bO HS2.o.aS) (HDr.o.new HS2.o.aP)).mono ?_;rintro x w3 ⟨rfl,rfl⟩;rw[HSk.o]
  refine hK.out _ _ trivial (fun hS0=>?_);clear hK K;refine cm 14 15 ?_;refine wpAnyH_done (by kernel_rfl) ?_ _
  cases sk
  case false=>
   have hoe:fz b=72:=by unfold fz;rw[if_pos HSo.o]
   have HO:=ah hoe;clear hoe;go_wp2_with fail;go_ret2;exact .inl ⟨by rw[HO.o];decide,by rw[HO.o];rfl,HS2.o.aP⟩
  case true=>
   have hoe:fz b=if (cE 4 b false).1≠dT then 73 else if (kH b).2.2=true\/cd (kH b).1≠0\/aR (kH b).1≠b then 73 else 0:=by
    unfold fz;rw[if_neg (by rw[HSo.o];simp)]
   have HOe:=ah hoe;clear hoe;obtain⟨T0,hT0⟩: ∃ T,cE 4 b false=T:=⟨_,rfl⟩;have HT0:=ah hT0;have t0l:T0.1.length<=4:=by rw[<-hT0];exact fI _ _ _
   have t0q:T0.2.1.length<=140737488355328:=by have:=dg 4 b false;rw[hT0] at this;omega
   obtain⟨SA,hSA⟩: ∃ s:ByteArray,s=ByteArray.mk T0.1.toArray:=⟨_,rfl⟩;have HSA:=ah hSA;obtain⟨mk,hmk⟩: ∃ k,decide (T0.1=dT)=k:=⟨_,rfl⟩;have hmb:(SA.toList==[84,68,84,49])=mk:=by rw[Ia hSA,hmk]
   have HMk:=ah hmk;clear hT0 hSA hmk;have HR0:Hid (wH w w3.heap.size aV b false (w3.alloc (.cells #[.slice A b.length c,.bool false] 223))):=⟨A,c,HS2.o.right.af 223 #[.slice A b.length c,.bool false],HB.o,hc,by unfold maxLen;omega⟩
   cases mk
   case false=>
    have hoe:fz b=73:=by
     rw[HOe.o,if_pos];rw[HT0.o];exact of_decide_eq_false HMk.o
    have HO:=ah hoe;clear hoe;go_wp2_with (go_at_call 139;refine(lJ 4 (by omega) w3.heap.size aV b false w _ HR0.o hbl).mono ?_;rw[HT0.o];rintro x w4 ⟨B4,d4,rfl,hr4, -, -, -,h4⟩;have s1:=cK hr4 d4;rw[<-HSA.o] at s1;have HR4:=ah h4;clear hr4 h4);go_ret2;obtain⟨A5,c5,hs5, -⟩:=HR4.o;exact .inl ⟨by rw[HO.o];decide,by rw[HO.o];rfl,hs5.aP⟩
   case true=>
    obtain⟨T1,hT1⟩: ∃ T,cE 4 T0.2.1 T0.2.2=T:=⟨_,rfl⟩;obtain⟨N,hN⟩: ∃ N,bI T1.1=N:=⟨_,rfl⟩;obtain⟨S,hS⟩: ∃ S,kH b=S:=⟨_,rfl⟩;have hrun:pV N ([],T1.2)=S:=by rw[<-hS, <-hN, <-hT1, <-HT0.o];rfl
    have hN0:N<4294967296:=by rw[<-hN, <-hT1];exact lT 4 _ _ (by omega)
    have t1q:T1.2.1.length<=140737488355328:=by have:=dg 4 T0.2.1 T0.2.2;rw[hT1] at this;omega
    have HW:=ah (kM (by omega) hT1);rw[hN] at HW;have HT1:=ah hT1;have HNn:=ah hN;have HSs:=ah hS;have HRun:=ah hrun;have HOf:Hid (fz b=if S.2.2=true\/cd S.1≠0\/aR S.1≠b then 73 else 0):=by
     unfold Hid;rw[HOe.o,if_neg,HSs.o];rw[HT0.o];simpa using HMk.o
    clear hT1 hN hS hrun;go_wp2_with (first
     | (go_at_call 139;refine(lJ 4 (by omega) w3.heap.size aV b false w _ HR0.o hbl).mono ?_;rw[HT0.o];rintro x w4 ⟨B4,d4,rfl,hr4, -, -, -,h4⟩;have s1:=cK hr4 d4;rw[<-HSA.o] at s1;have HR4:=ah h4;clear hr4 h4)
     | (go_at_call 140;(with_reducible refine(fJ 4 4 rfl (by omega) _ aV T0.2.1 T0.2.2 T1 N w _ HR4.o HT1.o (by rw[HNn.o];exact HW.o) t0q).mono ?_);rintro x w5 ⟨rfl,h5⟩;have HR5:=ah (h5.Bb 226 #[.slice none 0 0,.pointer none]);clear h5))
    generalize w5.heap.size=T at*
    generalize w3.heap.size=R at*
    go_loopw [8] (fun iv wr=> ∃ i:Nat,i<=N/\iv = .int .i64 i/\Hid (M4 w R T N S i wr)) (fun iv _=>N - (intOf iv).toNat)
    case atStart=>
     obtain⟨A6,c6,hs6,hq6⟩:=HR5.o;refine⟨0,by omega,rfl,⟨none,0,[],T1.2.1,T1.2.2,HRun.o,rfl,t1q,by simp,A6,c6,?_,hq6⟩⟩;exact(hs6.aI 120 4).of (show _=Pt R 223 _*(Pt T 226 _*(Row 120 4 _ _ _*aV)) by ac_rfl)
    case round=>
     obtain⟨i,hi,rfl,HD⟩:=hrel;obtain⟨A6,c6,es,q,s,hrn,hes,hq,hsm6,A7,c7,hs7,hq7⟩:=HD.o.ex;obtain⟨A6',c6',he6,hl6,hm6⟩:=hs7.bD.aT;injection he6 with e1 _ e3
     subst e1 e3;have r1:=hs7.cell 1;have t0:=hs7.av.cell 0;have HS:=ah hs7;have HQ:=ah hq7;have HRn:=ah hrn;have HEs:=ah hes;have HSm6:=ah hsm6;have HRow:=ah hs7.bD.cj;have HEn:Hid (jH wr es):=gu (hs7.of (show _=aW es*(Pt R 223 _*(Pt T 226 _*Row 120 4 _ _ _)) by ac_rfl));have HCap:Hid (∀ e ∈ es,e.key.2.2.length<=e.key.2.1/\e.key.2.1<=maxLen):=yf (hs7.of (show _=aW es*(Pt R 223 _*(Pt T 226 _*Row 120 4 _ _ _)) by ac_rfl));have hle:es.length<=N:=by omega
     have HM6:=ah hm6;clear hs7 hq7 hrn hes hsm6 hm6;by_cases hgo:i<N/\s=false
     .obtain⟨hlt,rfl⟩:=hgo;have hrun2:pV (N - (i+1)) (qt (es.map En.ao,q,false))=S:=by
       have h1:=HRn.o;rw[show N - i=(N - (i+1))+1 by omega,tm _ rfl] at h1;exact h1
      have HRun2:=ah hrun2;clear hrun2;have hiz:(i:Int)<N:=by omega
      by_cases h8:i % 8=0
      .have hm2:(i:Int).tmod 8=0:=by rw[Int.tmod_eq_emod_of_nonneg (by omega)];omega
       have HAh:Hid (mO (es.map En.ao)=[]):=by unfold Hid mO;rw[List.length_map,HEs.o,if_pos h8]
       clear h8;go_upto_region 15 with fail;refine wp_region_held_drew (S:=fun _=>True) (by kernel_rfl) trivial ?_;intro hS0;have HSd:=ah HS.o.drew;revert HSd;generalize wr.drew=wd;intro HSd;clear HS;have HS:Hid (Sat w (Pt R 223 #[.slice A7 q.length c7,.bool false]*(Pt T 226 #[.slice A6 es.length c6,.pointer none]*(Row 120 4 (.slice A6 es.length c6) es.length (es.flatMap cu)*aW es))) wd):=HSd;clear HSd;refine an 0 1 2 3 ?_;refine cm 5 6 ?_;refine dc (i:=4) (j:=7) rfl rfl (by kernel_rfl) (fun K hK=>?_) (fun K hK=>?_);have c0:=HS.o.av.cell 0;go_simp;clear c0;refine hK.out _ _ trivial (fun hS0=>?_);clear hK K
       try simp only[Act.put,jt,jA,jy]
       refine bR 7 fun K hK=>?_
       go_simp;have hrd:wH w R (Pt T 226 #[.slice A6 es.length c6,.pointer none]*(Row 120 4 (.slice A6 es.length c6) es.length (es.flatMap cu)*aW es)) q false wd:=⟨A7,c7,HS.o,HQ.o⟩;go_at_call 141
       (refine(jK none 0 [] R _ q false w _ hrd hq (fun _ W _=>Rd.nil W none) (by simp) (by unfold maxLen;omega) (by simp)).mono ?_)
       rintro x v7 ⟨g,rfl,hge,A8,c8,hs,hq8⟩;simp only[jD];have HGe:=ah hge;have HQ8:=ah hq8;replace HS:Hid (Sat w (Pt R 223 #[.slice A8 (dx [] q false).2.1.length c8,.bool (dx [] q false).2.2]*(Pt T 226 #[.slice A6 es.length c6,.pointer none]*(Row 120 4 (.slice A6 es.length c6) es.length (es.flatMap cu)*(aW es*(Row 5 1 (aO g.key) g.key.2.2.length (g.key.2.2.map bv)*Row 5 1 (aO g.value) g.value.2.2.length (g.value.2.2.map bv)))))) v7):=hs.of (by ac_rfl);clear hs hrd hge hq8;refine hK.out _ _ trivial (fun hS0=>?_);clear hK K;refine bR 8 fun K hK=>?_
       go_simp;have hs:=HS.o.af 120 #[.slice g.key.1 g.key.2.2.length g.key.2.1,.slice g.value.1 g.value.2.2.length g.value.2.1,.int .i64 g.seq,.bool g.dead];have hl:=aL v7 #[.slice g.key.1 g.key.2.2.length g.key.2.1,.slice g.value.1 g.value.2.2.length g.value.2.1,.int .i64 g.seq,.bool g.dead] 120;revert hs hl;generalize World.alloc v7 _=v8;generalize v7.heap.size=g8;intro hs hl;have HLt:=ah hl;replace HS:Hid (Sat w (Pt R 223 #[.slice A8 (dx [] q false).2.1.length c8,.bool (dx [] q false).2.2]*(Pt T 226 #[.slice A6 es.length c6,.pointer none]*(Row 120 4 (.slice A6 es.length c6) es.length (es.flatMap cu)*(aW es*(Row 5 1 (aO g.key) g.key.2.2.length (g.key.2.2.map bv)*(Row 5 1 (aO g.value) g.value.2.2.length (g.value.2.2.map bv)*Pt g8 120 #[.slice g.key.1 g.key.2.2.length g.key.2.1,.slice g.value.1 g.value.2.2.length g.value.2.1,.int .i64 g.seq,.bool g.dead])))))) v8):=hs.of (by ac_rfl);clear hs hl;refine hK.out _ _ trivial (fun hS0=>?_);clear hK K
       rotate_left
       go_simp;have hrd:wH w R (Pt T 226 #[.slice A6 es.length c6,.pointer none]*(Row 120 4 (.slice A6 es.length c6) es.length (es.flatMap cu)*aW es)) q false wd:=⟨A7,c7,HS.o,HQ.o⟩;go_at_call 141
       (refine(jK none 0 [] R _ q false w _ hrd hq (fun _ W _=>Rd.nil W none) (by simp) (by unfold maxLen;omega) (by simp)).mono ?_)
       rintro x v7 ⟨g,rfl,hge,A8,c8,hs,hq8⟩;simp only[jD];have HGe:=ah hge;have HQ8:=ah hq8;replace HS:Hid (Sat w (Pt R 223 #[.slice A8 (dx [] q false).2.1.length c8,.bool (dx [] q false).2.2]*(Pt T 226 #[.slice A6 es.length c6,.pointer none]*(Row 120 4 (.slice A6 es.length c6) es.length (es.flatMap cu)*(aW es*(Row 5 1 (aO g.key) g.key.2.2.length (g.key.2.2.map bv)*Row 5 1 (aO g.value) g.value.2.2.length (g.value.2.2.map bv)))))) v7):=hs.of (by ac_rfl);clear hs hrd hge hq8;refine hK.out _ _ trivial (fun hS0=>?_);clear hK K;refine dc (i:=4) (j:=8) rfl rfl (by kernel_rfl) (fun K hK=>?_) (fun K hK=>?_);have c0:=HS.o.av.cell 0;go_simp;clear c0;refine hK.out _ _ trivial (fun hS0=>?_);clear hK K
       try simp only[Act.put,jt,jA,jy]
       refine bR 8 fun K hK=>?_
       go_simp;have hs:=HS.o.af 120 #[.slice g.key.1 g.key.2.2.length g.key.2.1,.slice g.value.1 g.value.2.2.length g.value.2.1,.int .i64 g.seq,.bool g.dead];have hl:=aL v7 #[.slice g.key.1 g.key.2.2.length g.key.2.1,.slice g.value.1 g.value.2.2.length g.value.2.1,.int .i64 g.seq,.bool g.dead] 120;revert hs hl;generalize World.alloc v7 _=v8;generalize v7.heap.size=g8;intro hs hl;have HLt:=ah hl;replace HS:Hid (Sat w (Pt R 223 #[.slice A8 (dx [] q false).2.1.length c8,.bool (dx [] q false).2.2]*(Pt T 226 #[.slice A6 es.length c6,.pointer none]*(Row 120 4 (.slice A6 es.length c6) es.length (es.flatMap cu)*(aW es*(Row 5 1 (aO g.key) g.key.2.2.length (g.key.2.2.map bv)*(Row 5 1 (aO g.value) g.value.2.2.length (g.value.2.2.map bv)*Pt g8 120 #[.slice g.key.1 g.key.2.2.length g.key.2.1,.slice g.value.1 g.value.2.2.length g.value.2.1,.int .i64 g.seq,.bool g.dead])))))) v8):=hs.of (by ac_rfl);clear hs hl;refine hK.out _ _ trivial (fun hS0=>?_);clear hK K
       rotate_left
       go_simp;have hs:=HS.o.af 120 #[.slice g.key.1 g.key.2.2.length g.key.2.1,.slice g.value.1 g.value.2.2.length g.value.2.1,.int .i64 g.seq,.bool g.dead];have hl:=aL v7 #[.slice g.key.1 g.key.2.2.length g.key.2.1,.slice g.value.1 g.value.2.2.length g.value.2.1,.int .i64 g.seq,.bool g.dead] 120;revert hs hl;generalize World.alloc v7 _=v8;generalize v7.heap.size=g8;intro hs hl;have HLt:=ah hl;replace HS:Hid (Sat w (Pt R 223 #[.slice A8 (dx [] q false).2.1.length c8,.bool (dx [] q false).2.2]*(Pt T 226 #[.slice A6 es.length c6,.pointer none]*(Row 120 4 (.slice A6 es.length c6) es.length (es.flatMap cu)*(aW es*(Row 5 1 (aO g.key) g.key.2.2.length (g.key.2.2.map bv)*(Row 5 1 (aO g.value) g.value.2.2.length (g.value.2.2.map bv)*Pt g8 120 #[.slice g.key.1 g.key.2.2.length g.key.2.1,.slice g.value.1 g.value.2.2.length g.value.2.1,.int .i64 g.seq,.bool g.dead])))))) v8):=hs.of (by ac_rfl);clear hs hl;refine hK.out _ _ trivial (fun hS0=>?_);clear hK K;refine bR 4 fun K hK=>?_
       have c0:=HS.o.av.cell 0;go_simp;clear c0;refine hK.out _ _ trivial (fun hS0=>?_);clear hK K
       try simp only[Act.put,jt,jA,jy]
       rotate_left
       all_goals
        refine bR 9 fun K hK=>?_
        refine aQ rfl (.tmp 70) (.tmp 74) 116 rfl 120 i0 _ 4 64 Tryz.underlying116 Hi0.o Hz0.o Hz1.o Hz2.o rfl (by decide) (.slice A6 es.length c6) es.length (es.flatMap cu) rfl w _ (by exact HS.o.bD) (some ⟨g8,0,none⟩) 1 1 (cu g) rfl (by exact HLt.o) rfl (by have:=rm [g];simpa using this) (by unfold maxLen;omega) (by omega) ?_;intro A9 c9 v9 hs;replace HS:Hid (Sat w (Pt R 223 #[.slice A8 (dx [] q false).2.1.length c8,.bool (dx [] q false).2.2]*(Pt T 226 #[.slice A6 es.length c6,.pointer none]*(Row 120 4 (.slice A9 (es.length+1) c9) (es.length+1) (es.flatMap cu++cu g)*(aW es*(Row 5 1 (aO g.key) g.key.2.2.length (g.key.2.2.map bv)*(Row 5 1 (aO g.value) g.value.2.2.length (g.value.2.2.map bv)*Pt g8 120 #[.slice g.key.1 g.key.2.2.length g.key.2.1,.slice g.value.1 g.value.2.2.length g.value.2.1,.int .i64 g.seq,.bool g.dead])))))) v9):=hs.of (by ac_rfl);clear hs;refine hK.out _ _ trivial (fun hS0=>?_);clear hK K
        try simp only[Act.put,jt,jA,jy]
        refine cm 10 11 ?_;refine bR 12 fun K hK=>?_
        have hs:=HS.o.av.set 0 (.slice A9 (es.length+1) c9);have f0:=HS.o.av.frozen 0;have c0:=HS.o.av.cell 0;go_simp;clear f0 c0;revert hs;generalize World.setCell v9 _ _=v12;intro hs;replace HS:Hid (Sat w (Pt R 223 #[.slice A8 (dx [] q false).2.1.length c8,.bool (dx [] q false).2.2]*(Pt T 226 #[.slice A9 (es.length+1) c9,.pointer none]*(Row 120 4 (.slice A9 (es.length+1) c9) (es.length+1) (es.flatMap cu++cu g)*(aW es*(Row 5 1 (aO g.key) g.key.2.2.length (g.key.2.2.map bv)*(Row 5 1 (aO g.value) g.value.2.2.length (g.value.2.2.map bv)*Pt g8 120 #[.slice g.key.1 g.key.2.2.length g.key.2.1,.slice g.value.1 g.value.2.2.length g.value.2.1,.int .i64 g.seq,.bool g.dead])))))) v12):=hs.of (by ac_rfl);clear hs;refine hK.out _ _ trivial (fun hS0=>?_);clear hK K
        try simp only[Act.put,jt,jA,jy]
        refine wpAnyH_done (by kernel_rfl) ?_ _;go_wp2_with fail;go_roundw
        .have hsm:=rX [] q false;rw[<-HGe.o] at hsm;refine⟨i+1,by omega,by push_cast;rfl,⟨A9,c9,es++[g],(dx [] q false).2.1,(dx [] q false).2.2,?_,by rw[List.length_append,HEs.o];rfl,Nat.le_trans (xr _ _ _) hq,?_,A8,c8,?_,HQ8.o⟩⟩
         .have h9:=HRun2.o;unfold qt at h9;simp only[HAh.o] at h9;rw[List.map_append,List.map_singleton,HGe.o];exact h9
         .intro e he;rcases List.mem_append.1 he with he | he
          .exact HSm6.o e he
          .rw[List.mem_singleton.1 he];exact hsm
         .rw[fP,List.flatMap_append,List.length_append];have h9:=HS.o.of (show _=Pt g8 120 _*(Pt R 223 _*(Pt T 226 _*(Row 120 4 _ _ _*(Row 5 1 (aO g.key) _ _*(Row 5 1 (aO g.value) _ _*aW es))))) by ac_rfl);have h10:=h9.right;simpa using h10
        .simp[intOf];omega
      .obtain⟨p,hp⟩: ∃ p,i=p+1:=⟨i - 1,by cases i with | zero=>simp at h8 | succ n=>omega⟩;have hpl:p<es.length:=by have:=HEs.o;omega
       obtain⟨mm,hm1,hm2⟩: ∃ mm:Nat,(i:Int).tmod 8=(mm:Int)/\0<mm:=⟨i % 8,by rw[Int.tmod_eq_emod_of_nonneg (by omega)];omega,by omega⟩;have hmi:(0:Int)<(mm:Int):=by omega
       have hii:(i:Int) - 1=(p:Int):=by omega
       have hwp:IntKind.i64.wrap (p:Int)=(p:Int):=by rw[IntKind.wrap_i64];omega
       have hpi:(p:Int)<es.length:=by omega
       obtain⟨lb,lo,rfl,hq4⟩:=eh HRow.o (by omega);obtain⟨y0,_,_,_⟩:=hq4 p hpl;unfold aO at y0;have HAh:Hid (mO (es.map En.ao)=es[p].key.2.2):=by
        unfold Hid mO;rw[List.length_map,HEs.o,if_neg h8,hp,Nat.add_sub_cancel,List.getElem?_map,List.getElem?_eq_getElem hpl];rfl
       have HHal:Hid (∀ (X:SP) (W:World),Sat w (X*(Pt T 226 #[.slice (some ⟨lb,lo,none⟩) es.length c6,.pointer none]*(Row 120 4 (.slice (some ⟨lb,lo,none⟩) es.length c6) es.length (es.flatMap cu)*aW es))) W->Rd W es[p].key.1 es[p].key.2.2):=fun X W hW=>
        ((gu (hW.of (show _=aW es*(X*(Pt T 226 _*Row 120 4 _ _ _)) by ac_rfl))) _ (List.getElem_mem hpl)).1
       have HCp:=ah (HCap.o _ (List.getElem_mem hpl));have HSp:=ah (HSm6.o _ (List.getElem_mem hpl)).1;have HPp:=ah hp;clear h8 hp hm2 hq4;go_upto_region 15 with fail;refine wp_region_held_drew (S:=fun _=>True) (by kernel_rfl) trivial ?_;intro hS0;have HSd:=ah HS.o.drew;revert HSd;generalize wr.drew=wd;intro HSd;clear HS;have HS:Hid (Sat w (Pt R 223 #[.slice A7 q.length c7,.bool false]*(Pt T 226 #[.slice (some ⟨lb,lo,none⟩) es.length c6,.pointer none]*(Row 120 4 (.slice (some ⟨lb,lo,none⟩) es.length c6) es.length (es.flatMap cu)*aW es))) wd):=HSd;clear HSd;refine an 0 1 2 3 ?_;refine cm 5 6 ?_;refine dc (i:=4) (j:=7) rfl rfl (by kernel_rfl) (fun K hK=>?_) (fun K hK=>?_);have c0:=HS.o.av.cell 0;go_simp;clear c0;refine hK.out _ _ trivial (fun hS0=>?_);clear hK K
       try simp only[Act.put,jt,jA,jy]
       refine bR 7 fun K hK=>?_
       go_simp;have hrd:wH w R (Pt T 226 #[.slice (some ⟨lb,lo,none⟩) es.length c6,.pointer none]*(Row 120 4 (.slice (some ⟨lb,lo,none⟩) es.length c6) es.length (es.flatMap cu)*aW es)) q false wd:=⟨A7,c7,HS.o,HQ.o⟩;go_at_call 141
       (refine(jK es[p].key.1 es[p].key.2.1 es[p].key.2.2 R _ q false w _ hrd hq HHal.o HCp.o.1 HCp.o.2 (by have:=HSp.o;omega)).mono ?_)
       rintro x v7 ⟨g,rfl,hge,A8,c8,hs,hq8⟩;simp only[jD];have HGe:=ah hge;have HQ8:=ah hq8;replace HS:Hid (Sat w (Pt R 223 #[.slice A8 (dx es[p].key.2.2 q false).2.1.length c8,.bool (dx es[p].key.2.2 q false).2.2]*(Pt T 226 #[.slice (some ⟨lb,lo,none⟩) es.length c6,.pointer none]*(Row 120 4 (.slice (some ⟨lb,lo,none⟩) es.length c6) es.length (es.flatMap cu)*(aW es*(Row 5 1 (aO g.key) g.key.2.2.length (g.key.2.2.map bv)*Row 5 1 (aO g.value) g.value.2.2.length (g.value.2.2.map bv)))))) v7):=hs.of (by ac_rfl);clear hs hrd hge hq8;refine hK.out _ _ trivial (fun hS0=>?_);clear hK K;refine bR 8 fun K hK=>?_
       go_simp;have hs:=HS.o.af 120 #[.slice g.key.1 g.key.2.2.length g.key.2.1,.slice g.value.1 g.value.2.2.length g.value.2.1,.int .i64 g.seq,.bool g.dead];have hl:=aL v7 #[.slice g.key.1 g.key.2.2.length g.key.2.1,.slice g.value.1 g.value.2.2.length g.value.2.1,.int .i64 g.seq,.bool g.dead] 120;revert hs hl;generalize World.alloc v7 _=v8;generalize v7.heap.size=g8;intro hs hl;have HLt:=ah hl;replace HS:Hid (Sat w (Pt R 223 #[.slice A8 (dx es[p].key.2.2 q false).2.1.length c8,.bool (dx es[p].key.2.2 q false).2.2]*(Pt T 226 #[.slice (some ⟨lb,lo,none⟩) es.length c6,.pointer none]*(Row 120 4 (.slice (some ⟨lb,lo,none⟩) es.length c6) es.length (es.flatMap cu)*(aW es*(Row 5 1 (aO g.key) g.key.2.2.length (g.key.2.2.map bv)*(Row 5 1 (aO g.value) g.value.2.2.length (g.value.2.2.map bv)*Pt g8 120 #[.slice g.key.1 g.key.2.2.length g.key.2.1,.slice g.value.1 g.value.2.2.length g.value.2.1,.int .i64 g.seq,.bool g.dead])))))) v8):=hs.of (by ac_rfl);clear hs hl;refine hK.out _ _ trivial (fun hS0=>?_);clear hK K
       rotate_left
       go_simp;have hrd:wH w R (Pt T 226 #[.slice (some ⟨lb,lo,none⟩) es.length c6,.pointer none]*(Row 120 4 (.slice (some ⟨lb,lo,none⟩) es.length c6) es.length (es.flatMap cu)*aW es)) q false wd:=⟨A7,c7,HS.o,HQ.o⟩;go_at_call 141
       (refine(jK es[p].key.1 es[p].key.2.1 es[p].key.2.2 R _ q false w _ hrd hq HHal.o HCp.o.1 HCp.o.2 (by have:=HSp.o;omega)).mono ?_)
       rintro x v7 ⟨g,rfl,hge,A8,c8,hs,hq8⟩;simp only[jD];have HGe:=ah hge;have HQ8:=ah hq8;replace HS:Hid (Sat w (Pt R 223 #[.slice A8 (dx es[p].key.2.2 q false).2.1.length c8,.bool (dx es[p].key.2.2 q false).2.2]*(Pt T 226 #[.slice (some ⟨lb,lo,none⟩) es.length c6,.pointer none]*(Row 120 4 (.slice (some ⟨lb,lo,none⟩) es.length c6) es.length (es.flatMap cu)*(aW es*(Row 5 1 (aO g.key) g.key.2.2.length (g.key.2.2.map bv)*Row 5 1 (aO g.value) g.value.2.2.length (g.value.2.2.map bv)))))) v7):=hs.of (by ac_rfl);clear hs hrd hge hq8;refine hK.out _ _ trivial (fun hS0=>?_);clear hK K;refine dc (i:=4) (j:=8) rfl rfl (by kernel_rfl) (fun K hK=>?_) (fun K hK=>?_);have c0:=HS.o.av.cell 0;go_simp;clear c0;refine hK.out _ _ trivial (fun hS0=>?_);clear hK K
       try simp only[Act.put,jt,jA,jy]
       refine bR 8 fun K hK=>?_
       go_simp;have hs:=HS.o.af 120 #[.slice g.key.1 g.key.2.2.length g.key.2.1,.slice g.value.1 g.value.2.2.length g.value.2.1,.int .i64 g.seq,.bool g.dead];have hl:=aL v7 #[.slice g.key.1 g.key.2.2.length g.key.2.1,.slice g.value.1 g.value.2.2.length g.value.2.1,.int .i64 g.seq,.bool g.dead] 120;revert hs hl;generalize World.alloc v7 _=v8;generalize v7.heap.size=g8;intro hs hl;have HLt:=ah hl;replace HS:Hid (Sat w (Pt R 223 #[.slice A8 (dx es[p].key.2.2 q false).2.1.length c8,.bool (dx es[p].key.2.2 q false).2.2]*(Pt T 226 #[.slice (some ⟨lb,lo,none⟩) es.length c6,.pointer none]*(Row 120 4 (.slice (some ⟨lb,lo,none⟩) es.length c6) es.length (es.flatMap cu)*(aW es*(Row 5 1 (aO g.key) g.key.2.2.length (g.key.2.2.map bv)*(Row 5 1 (aO g.value) g.value.2.2.length (g.value.2.2.map bv)*Pt g8 120 #[.slice g.key.1 g.key.2.2.length g.key.2.1,.slice g.value.1 g.value.2.2.length g.value.2.1,.int .i64 g.seq,.bool g.dead])))))) v8):=hs.of (by ac_rfl);clear hs hl;refine hK.out _ _ trivial (fun hS0=>?_);clear hK K
       rotate_left
       go_simp;have hs:=HS.o.af 120 #[.slice g.key.1 g.key.2.2.length g.key.2.1,.slice g.value.1 g.value.2.2.length g.value.2.1,.int .i64 g.seq,.bool g.dead];have hl:=aL v7 #[.slice g.key.1 g.key.2.2.length g.key.2.1,.slice g.value.1 g.value.2.2.length g.value.2.1,.int .i64 g.seq,.bool g.dead] 120;revert hs hl;generalize World.alloc v7 _=v8;generalize v7.heap.size=g8;intro hs hl;have HLt:=ah hl;replace HS:Hid (Sat w (Pt R 223 #[.slice A8 (dx es[p].key.2.2 q false).2.1.length c8,.bool (dx es[p].key.2.2 q false).2.2]*(Pt T 226 #[.slice (some ⟨lb,lo,none⟩) es.length c6,.pointer none]*(Row 120 4 (.slice (some ⟨lb,lo,none⟩) es.length c6) es.length (es.flatMap cu)*(aW es*(Row 5 1 (aO g.key) g.key.2.2.length (g.key.2.2.map bv)*(Row 5 1 (aO g.value) g.value.2.2.length (g.value.2.2.map bv)*Pt g8 120 #[.slice g.key.1 g.key.2.2.length g.key.2.1,.slice g.value.1 g.value.2.2.length g.value.2.1,.int .i64 g.seq,.bool g.dead])))))) v8):=hs.of (by ac_rfl);clear hs hl;refine hK.out _ _ trivial (fun hS0=>?_);clear hK K;refine bR 4 fun K hK=>?_
       have c0:=HS.o.av.cell 0;go_simp;clear c0;refine hK.out _ _ trivial (fun hS0=>?_);clear hK K
       try simp only[Act.put,jt,jA,jy]
       rotate_left
       all_goals
        refine bR 9 fun K hK=>?_
        refine aQ rfl (.tmp 70) (.tmp 74) 116 rfl 120 i0 _ 4 64 Tryz.underlying116 Hi0.o Hz0.o Hz1.o Hz2.o rfl (by decide) (.slice (some ⟨lb,lo,none⟩) es.length c6) es.length (es.flatMap cu) rfl w _ (by exact HS.o.bD) (some ⟨g8,0,none⟩) 1 1 (cu g) rfl (by exact HLt.o) rfl (by have:=rm [g];simpa using this) (by unfold maxLen;omega) (by omega) ?_;intro A9 c9 v9 hs;replace HS:Hid (Sat w (Pt R 223 #[.slice A8 (dx es[p].key.2.2 q false).2.1.length c8,.bool (dx es[p].key.2.2 q false).2.2]*(Pt T 226 #[.slice (some ⟨lb,lo,none⟩) es.length c6,.pointer none]*(Row 120 4 (.slice A9 (es.length+1) c9) (es.length+1) (es.flatMap cu++cu g)*(aW es*(Row 5 1 (aO g.key) g.key.2.2.length (g.key.2.2.map bv)*(Row 5 1 (aO g.value) g.value.2.2.length (g.value.2.2.map bv)*Pt g8 120 #[.slice g.key.1 g.key.2.2.length g.key.2.1,.slice g.value.1 g.value.2.2.length g.value.2.1,.int .i64 g.seq,.bool g.dead])))))) v9):=hs.of (by ac_rfl);clear hs;refine hK.out _ _ trivial (fun hS0=>?_);clear hK K
        try simp only[Act.put,jt,jA,jy]
        refine cm 10 11 ?_;refine bR 12 fun K hK=>?_
        have hs:=HS.o.av.set 0 (.slice A9 (es.length+1) c9);have f0:=HS.o.av.frozen 0;have c0:=HS.o.av.cell 0;go_simp;clear f0 c0;revert hs;generalize World.setCell v9 _ _=v12;intro hs;replace HS:Hid (Sat w (Pt R 223 #[.slice A8 (dx es[p].key.2.2 q false).2.1.length c8,.bool (dx es[p].key.2.2 q false).2.2]*(Pt T 226 #[.slice A9 (es.length+1) c9,.pointer none]*(Row 120 4 (.slice A9 (es.length+1) c9) (es.length+1) (es.flatMap cu++cu g)*(aW es*(Row 5 1 (aO g.key) g.key.2.2.length (g.key.2.2.map bv)*(Row 5 1 (aO g.value) g.value.2.2.length (g.value.2.2.map bv)*Pt g8 120 #[.slice g.key.1 g.key.2.2.length g.key.2.1,.slice g.value.1 g.value.2.2.length g.value.2.1,.int .i64 g.seq,.bool g.dead])))))) v12):=hs.of (by ac_rfl);clear hs;refine hK.out _ _ trivial (fun hS0=>?_);clear hK K
        try simp only[Act.put,jt,jA,jy]
        refine wpAnyH_done (by kernel_rfl) ?_ _;go_wp2_with fail;go_roundw
        .have hsm:=rX es[p].key.2.2 q false;rw[<-HGe.o] at hsm;refine⟨i+1,by omega,by push_cast;rfl,⟨A9,c9,es++[g],(dx es[p].key.2.2 q false).2.1,(dx es[p].key.2.2 q false).2.2,?_,by rw[List.length_append,HEs.o];rfl,Nat.le_trans (xr _ _ _) hq,?_,A8,c8,?_,HQ8.o⟩⟩
         .have h9:=HRun2.o;unfold qt at h9;simp only[HAh.o] at h9;rw[List.map_append,List.map_singleton,HGe.o];exact h9
         .intro e he;rcases List.mem_append.1 he with he | he
          .exact HSm6.o e he
          .rw[List.mem_singleton.1 he];exact hsm
         .rw[fP,List.flatMap_append,List.length_append];have h9:=HS.o.of (show _=Pt g8 120 _*(Pt R 223 _*(Pt T 226 _*(Row 120 4 _ _ _*(Row 5 1 (aO g.key) _ _*(Row 5 1 (aO g.value) _ _*aW es))))) by ac_rfl);have h10:=h9.right;simpa using h10
        .simp[intOf];omega
     .have HFin:Hid (S=(es.map En.ao,q,s)):=by
       have h1:=HRn.o;by_cases hlt:i<N
       .have hst:s=true:=by
         cases s with
         | true=>rfl
         | false=>exact absurd ⟨hlt,rfl⟩ hgo
        rw[Bo _ (by exact hst)] at h1;exact h1.symm
       .rw[show N - i=0 by omega] at h1;exact h1.symm
      clear HRn;have hwi:i<N/\s=true\/i=N:=by
       by_cases hlt:i<N
       .cases s with
        | true=>exact .inl ⟨hlt,rfl⟩
        | false=>exact absurd ⟨hlt,rfl⟩ hgo
       .exact .inr (by omega)
      obtain⟨D,hD⟩: ∃ D,cd (es.map En.ao)=D:=⟨_,rfl⟩;have HDe:=ah hD;have HBu:Hid (Calls Tryz.prog 142 #[.slice A6 es.length c6] wr (yL (es.map En.ao) wr)):=tD A6 c6 es wr HRow.o HEn.o hl6 HM6.o (fun e he=>⟨by have:=(HSm6.o e he).1;omega,by have:=(HSm6.o e he).2.1;omega,(HCap.o e he).1,(HCap.o e he).2⟩) (fun e he=>(HSm6.o e he).2.2);clear hD hgo;rcases hwi with ⟨hlt,rfl⟩ | hEq
      ·
       have HO:Hid (fz b=73):=by unfold Hid;rw[HOf.o,if_pos];rw[HFin.o];exact .inl rfl
       go_wp2_with fail;refine HBu.o.mono ?_;intro x w8 hb8;obtain⟨A8,n8,c8,e8,rfl,k8⟩:=ug hb8;have hs8:=HS.o.new k8;have q1:=hs8.cell 1;have HC8:=ah hs8.aP;clear hb8 hs8 k8;go_wp2_with fail;go_ret2;exact .inl ⟨by rw[HO.o];decide,by rw[HO.o];rfl,HC8.o⟩
      .cases s
       case true=>
        have HO:Hid (fz b=73):=by unfold Hid;rw[HOf.o,if_pos];rw[HFin.o];exact .inl rfl
        go_wp2_with fail;refine HBu.o.mono ?_;intro x w8 hb8;obtain⟨A8,n8,c8,e8,rfl,k8⟩:=ug hb8;have hs8:=HS.o.new k8;have q1:=hs8.cell 1;have HC8:=ah hs8.aP;clear hb8 hs8 k8;go_wp2_with fail;go_ret2;exact .inl ⟨by rw[HO.o];decide,by rw[HO.o];rfl,HC8.o⟩
       case false=>
        by_cases hne:D=0
        .subst hne;have h65:es.length<=65536:=by have:=qv HDe.o;simpa using this
         obtain⟨kk,hkk⟩: ∃ k,decide (aR (es.map En.ao)=b)=k:=⟨_,rfl⟩;have HKk:=ah hkk;clear hkk
         cases kk
         case false=>
          go_wp2_with fail;refine HBu.o.mono ?_;rintro x w8 (⟨h0,_⟩ | ⟨_,A8,c8,rfl,hl8,hm8,hs8⟩)
          .exact absurd HDe.o h0
          have hs9:=HS.o.new hs8.aP;have q1:=hs9.cell 1;have q2:=hs9.av.cell 0;have q3:=hs9.av.cell 1;have q4:=hs9.av.frozen 1;have HR8:Hid (Rd w8 A8 (aR (es.map En.ao))):=aH.bO hs8.aS;have HK8:=ah hs8.aP;have HS9:=ah hs9;clear hs8 hs9;have HO:Hid (fz b=73):=by unfold Hid;rw[HOf.o,if_pos];rw[HFin.o];exact .inr (.inr (of_decide_eq_false HKk.o))
          go_wp2_with (go_at_call 126;refine(eZ (A8,c8,aR (es.map En.ao)) (A,c,b) w8 HR8.o (HB.o.new HS9.o.aP)).mono ?_;rintro x w9 ⟨rfl,rfl⟩;rw[HKk.o]);go_ret2;exact .inl ⟨by rw[HO.o];decide,by rw[HO.o];rfl,HS9.o.aP⟩
         case true=>
          go_wp2_with fail;refine HBu.o.mono ?_;rintro x w8 (⟨h0,_⟩ | ⟨_,A8,c8,rfl,hl8,hm8,hs8⟩)
          .exact absurd HDe.o h0
          have hs9:=HS.o.new hs8.aP;have q1:=hs9.cell 1;have q2:=hs9.av.cell 0;have q3:=hs9.av.cell 1;have q4:=hs9.av.frozen 1;have HR8:Hid (Rd w8 A8 (aR (es.map En.ao))):=aH.bO hs8.aS;have HK8:=ah hs8.aP;have HS9:=ah hs9;clear hs8 hs9;have HO:Hid (fz b=0):=by unfold Hid;rw[HOf.o,if_neg];rw[HFin.o];rintro (h1 | h1 | h1);cases h1;exact h1 HDe.o;exact h1 (of_decide_eq_true HKk.o)
          go_wp2_with (first
           | (go_at_call 126;refine(eZ (A8,c8,aR (es.map En.ao)) (A,c,b) w8 HR8.o (HB.o.new HS9.o.aP)).mono ?_;rintro x w9 ⟨rfl,rfl⟩;rw[HKk.o])
           | (go_at_call 143;refine(nT A6 c6 es _ (HRow.o.new HK8.o) (fun e he=>⟨(HEn.o e he).1.new HK8.o,(HEn.o e he).2.new HK8.o⟩) hl6 HM6.o h65 (fun e he=>by have:=(HSm6.o e he).1;omega)).mono ?_;rintro x w10 ⟨g,hh,n,rfl,hF,hg,hh1,k10,hn1,hn2⟩;have hs10:=HS9.o.new k10;have z3:=hs10.av.cell 1;have z4:=hs10.av.frozen 1;have HF:=ah hF;have HG:=ah (And.intro hg hh1);have HNn:=ah (And.intro hn1 hn2);have HS10:=ah hs10;clear hF hg hh1 k10 hn1 hn2 hs10))
          go_ret2;have h11:=HS10.o.av.set 1 (.pointer (some ⟨g,0,none⟩));have hT1:=HS9.o.av.lt;have hG:=HG.o;refine .inr ⟨HO.o,T,es,rfl,by rw[HSs.o,HFin.o],?_,HS10.o.av.base,h11.aP⟩;refine⟨⟨A6,c6,g,hh,n,h11.cell 0,h11.cell 1,h11.bD.cj,hl6,HM6.o,HF.o.aP (aq.setCell (p:=⟨T,1,none⟩) (aq.refl (One T) _) (fun _=>(show One T T from rfl)) _) (fun e=>?_) (fun e=>?_),HNn.o.1,HNn.o.2⟩,?_,HCap.o,HDe.o⟩
          .have e:g=T:=e;omega
          .have e:hh=T:=e;omega
          .exact gu (h11.of (show _=aW es*(Pt R 223 _*(Pt T 226 _*Row 120 4 _ _ _)) by ac_rfl))
        .have HO:Hid (fz b=73):=by unfold Hid;rw[HOf.o,if_pos];rw[HFin.o];exact .inr (.inl (by rw[HDe.o];exact hne))
         have hne2:¬ (D:Int)=0:=by omega
         go_wp2_with fail;refine HBu.o.mono ?_;rintro x w8 (⟨_,rfl,k8⟩ | ⟨h0,_⟩)
         .rw[HDe.o];have hs8:=HS.o.new k8;have q1:=hs8.cell 1;have HC8:=ah hs8.aP;clear hs8 k8;go_wp2_with fail;go_ret2;exact .inl ⟨by rw[HO.o];decide,by rw[HO.o];rfl,HC8.o⟩
         .exact absurd (HDe.o ▸ h0) hne
theorem GC (e:En) (w:World) (hr:pJ w e) (hk:e.key.2.2.length<=140737488355328) (hv:e.value.2.2.length<=140737488355328):
 Calls Tryz.prog 146 #[jD e] w (jW w aV e):=by
 have h:=Sat.start w;obtain⟨⟨kA,kc,k⟩,⟨vA,vc,v⟩,seq,dead⟩:=e;have HRk:Hid (Rd w kA k):=hr.1;have HRv:Hid (Rd w vA v):=hr.2;have hk':k.length<=140737488355328:=hk;have hv':v.length<=140737488355328:=hv;have h1:=h.bG (b:=w.heap.size) 120 #[.slice kA k.length kc,.slice vA v.length vc,.int .i64 seq,.bool dead] rfl;have h2:=h1.bG (b:=w.heap.size+1) 120 #[.slice none 0 0,.slice none 0 0,.int .i64 0,.bool false] (by simp);have hc2:aq No w _:=((aq.refl No w).alloc (.cells #[.slice kA k.length kc,.slice vA v.length vc,.int .i64 seq,.bool dead] 120)).alloc (.cells #[.slice none 0 0,.slice none 0 0,.int .i64 0,.bool false] 120);clear hr h h1;unfold jD;go_enter Tryz.func146, Tryz.ntmps146;go_wp2_with fail;revert h2 hc2;generalize (w.alloc _).alloc _=W;intro h2 hc2;generalize w.heap.size+1=B at*
 generalize w.heap.size=E at*
 have c0:=h2.av.cell 0;have c1:=h2.av.cell 1;have c2:=h2.av.cell 2;have c3:=h2.av.cell 3;have HS0:=ah h2;have HC0:=ah hc2;clear h2 hc2;go_region_law (first
  | (go_simp;go_at_call 104;(with_reducible refine(ox kA kc k HS0.o.drew (HRk.o.new HC0.o.drew) hk').mono ?_);rintro x w1 ⟨A,c,rfl,k1,hs1⟩;have HS1:=ah hs1;have HC1:=ah (HC0.o.drew.tr k1);have c0:=hs1.bD.cell 0;have c1:=hs1.bD.cell 1;have c2:=hs1.bD.cell 2;have c3:=hs1.bD.cell 3;clear hs1 k1)
  | (go_simp;go_at_call 104;(with_reducible refine(ox vA vc v HS1.o (HRv.o.new HC1.o) hv').mono ?_);rintro x w2 ⟨B2,d,rfl,k2,hs2⟩;have HS2:=ah hs2;have HC2:=ah (HC1.o.tr k2);have c0:=hs2.bW.cell 0;have c1:=hs2.bW.cell 1;have c2:=hs2.bW.cell 2;have c3:=hs2.bW.cell 3;have f0:=hs2.bW.frozen 0;have f1:=hs2.bW.frozen 1;clear hs2 k2))
 all_goals
  have h5:=(HS2.o.bW.set 0 (.slice A k.length c)).set 1 (.slice B2 v.length d);clear f0 f1 c0 c1 c2 c3;revert h5;generalize World.setCell _ _ _=w3;intro h5;have c0:=h5.cell 0;have c1:=h5.cell 1;have c2:=h5.cell 2;have c3:=h5.cell 3;have d0:=h5.bW.cell 0;have d1:=h5.bW.cell 1;have d2:=h5.bW.cell 2;have d3:=h5.bW.cell 3;have f0:=h5.bW.frozen 0;have f1:=h5.bW.frozen 1;have f2:=h5.bW.frozen 2;have f3:=h5.bW.frozen 3;have h6:=(((h5.bW.set 0 (.slice A k.length c)).set 1 (.slice B2 v.length d)).set 2 (.int .i64 seq)).set 3 (.bool dead);go_wp2_with fail;revert h6;generalize World.setCell _ _ _=w4;intro h6;refine bodyPost_ret (results_cell_row (p:=2) (by kernel_rfl) _ _ B 120 _ (0,0) _ rfl h6.at Tryz.underlying120 rfl (by kernel_rfl)) rfl ?_;exact⟨A,c,B2,d,rfl,h6.right.right.av⟩
theorem xL (e:En) (w0 w:World) (F:SP) (h:Sat w0 F w) (hr:pJ w e) (hk:e.key.2.2.length<=140737488355328) (hv:e.value.2.2.length<=140737488355328):
 Calls Tryz.prog 146 #[jD e] w fun x w'=>jW w0 F e x w'/\aq No w w':=by
 refine(GC e w hr hk hv).mono ?_;rintro x w' ⟨A,c,B,d,rfl,hs⟩;exact⟨⟨A,c,B,d,rfl,(h.join hs (bf (bM _ _ _ _ _) (bf (bM _ _ _ _ _) dt))).of (by rw[aj,aj,aX])⟩,hs.aP⟩
def AQ (w:World) (b:Nat) (e:En):Prop:=w.cell? ⟨b,0,none⟩=some (.slice e.key.1 e.key.2.2.length e.key.2.1)/\w.cell? ⟨b,1,none⟩=some (.slice e.value.1 e.value.2.2.length e.value.2.1)/\w.cell? ⟨b,2,none⟩=some (.int .i64 e.seq)/\w.cell? ⟨b,3,none⟩=some (.bool e.dead)
theorem AQ.new {w w':World} {b:Nat} {e:En} (h:AQ w b e) (k:aq No w w'):AQ w' b e:=⟨k.cell h.1 id,k.cell h.2.1 id,k.cell h.2.2.1 id,k.cell h.2.2.2 id⟩
theorem EI (bt be T:Nat) (es:List En) (e:En) (i:Nat) (w:World) (h:mL w T es) (hb:w.cell? ⟨bt,0,none⟩=some (.pointer (some ⟨T,0,none⟩))) (he:AQ w be e) (hr:pJ w e) (hi:i<es.length):
 Calls Tryz.prog 184 #[.int .i64 (i:Int),.pointer (some ⟨bt,0,none⟩),.pointer (some ⟨be,0,none⟩)] w fun x w'=>x = .returned (.bool (!aF es[i].ao e.ao))/\aq No w w':=by
 obtain⟨A,c,g,hh,n,a1,_,a3,a4,a5,_⟩:=h.box;obtain⟨lb,lo,rfl,hq⟩:=eh a3 (by omega);obtain⟨y0,y1,y2,y3⟩:=hq i hi;unfold aO at y0 y1;obtain⟨e0,e1,e2,e3⟩:=he;have HE:=ah (h.rd _ (List.getElem_mem hi));have HR:=ah hr;have hii:(i:Int)<es.length:=by omega
 obtain⟨Z,hZ⟩: ∃ Z,aF es[i].ao e.ao=Z:=⟨_,rfl⟩;have HZ:=ah hZ;rw[hZ];have S0:w.cell? ⟨bt,0,none⟩=some (.pointer (some ⟨T,0,none⟩))/\w.cell? ⟨T,0,none⟩=some (.slice (some ⟨lb,lo,none⟩) es.length c)/\w.cell? ⟨lb,lo+i*4,none⟩=some (.slice es[i].key.1 es[i].key.2.2.length es[i].key.2.1)/\w.cell? ⟨lb,lo+i*4+1,none⟩=some (.slice es[i].value.1 es[i].value.2.2.length es[i].value.2.1)/\w.cell? ⟨lb,lo+i*4+2,none⟩=some (.int .i64 es[i].seq)/\w.cell? ⟨lb,lo+i*4+3,none⟩=some (.bool es[i].dead)/\AQ w be e:=⟨hb,a1,y0,y1,y2,y3,e0,e1,e2,e3⟩;have HS:=ah S0;clear h hb hr hq a3 hZ S0 a1 y0 y1 y2 y3 e0 e1 e2 e3;go_enter Tryz.func184, Tryz.ntmps184;go_upto_region 1 with fail;refine wp_region_held_drew (S:=fun w'=>w'.cell? ⟨bt,0,none⟩=some (.pointer (some ⟨T,0,none⟩))/\w'.cell? ⟨T,0,none⟩=some (.slice (some ⟨lb,lo,none⟩) es.length c)/\w'.cell? ⟨lb,lo+i*4,none⟩=some (.slice es[i].key.1 es[i].key.2.2.length es[i].key.2.1)/\w'.cell? ⟨lb,lo+i*4+1,none⟩=some (.slice es[i].value.1 es[i].value.2.2.length es[i].value.2.1)/\w'.cell? ⟨lb,lo+i*4+2,none⟩=some (.int .i64 es[i].seq)/\w'.cell? ⟨lb,lo+i*4+3,none⟩=some (.bool es[i].dead)/\w'.cell? ⟨be,0,none⟩=some (.slice e.key.1 e.key.2.2.length e.key.2.1)/\w'.cell? ⟨be,1,none⟩=some (.slice e.value.1 e.value.2.2.length e.value.2.1)/\w'.cell? ⟨be,2,none⟩=some (.int .i64 e.seq)/\w'.cell? ⟨be,3,none⟩=some (.bool e.dead)) (by kernel_rfl) HS.o ?_;intro hS0;refine an 0 1 2 3 ?_;refine an 4 5 6 7 ?_;refine bR 8 fun K hK=>?_
 go_simp;go_at_call 147;refine(sF es[i] e _ ⟨HE.o.1.new (aq.refl No w).drew,HE.o.2.new (aq.refl No w).drew⟩ ⟨HR.o.1.new (aq.refl No w).drew,HR.o.2.new (aq.refl No w).drew⟩).mono ?_;rintro x w1 ⟨rfl,k1⟩;rw[HZ.o];have HK:=ah ((aq.refl No w).drew.tr k1);clear k1
 refine hK.out _ _ ⟨HK.o.cell HS.o.1 id,HK.o.cell HS.o.2.1 id,HK.o.cell HS.o.2.2.1 id,HK.o.cell HS.o.2.2.2.1 id,HK.o.cell HS.o.2.2.2.2.1 id,HK.o.cell HS.o.2.2.2.2.2.1 id,(AQ.new HS.o.2.2.2.2.2.2 HK.o)⟩ (fun hS0=>?_);clear hK K;refine cm 9 10 ?_;refine wpAnyH_done (by kernel_rfl) ?_ _;go_wp2_with fail;go_ret;exact⟨rfl,HK.o⟩
def wg (es:List En) (e:En) (k:Nat):Prop:=k<=es.length/\(∀ (j:Nat) (h:j<es.length),j<k->aF es[j].ao e.ao=true)/\(∀ h:k<es.length,aF es[k].ao e.ao=false)
structure Nn (w:World) (es:List En) (e:En) (i j:Nat) (wr:World):Prop where
 lo: ∀ (m:Nat) (h:m<es.length),m<i->aF es[m].ao e.ao=true
 hi: ∀ (m:Nat) (h:m<es.length),j<=m->aF es[m].ao e.ao=false
 aP:aq No w wr
theorem Ac (bt be T:Nat) (es:List En) (e:En) (w:World) (h:mL w T es) (hb:w.cell? ⟨bt,0,none⟩=some (.pointer (some ⟨T,0,none⟩))) (he:AQ w be e) (hr:pJ w e) (hn:es.length<=65536)
 (hmono: ∀ (a b:Nat) (ha:a<es.length) (hb:b<es.length),a<=b->aF es[b].ao e.ao=true->aF es[a].ao e.ao=true):
 Calls Tryz.prog 183 #[.int .i64 (es.length:Int),.func (.func 184) #[] #[.pointer (some ⟨bt,0,none⟩),.pointer (some ⟨be,0,none⟩)]] w fun x w'=> ∃ k:Nat,x = .returned (.int .i64 (k:Int))/\wg es e k/\aq No w w':=by
 have HT:=ah h;have HB:=ah hb;have HE:=ah he;have HR:=ah hr;have HM:=ah hmono;clear h hb he hr hmono;go_enter Tryz.func183, Tryz.ntmps183;go_wp2_with fail;go_loopw [5,6] (fun iv jv wr=> ∃ i j:Nat,i<=j/\j<=es.length/\iv = .int .i64 i/\jv = .int .i64 j/\Hid (Nn w es e i j wr)) (fun iv jv _=>((intOf jv) - (intOf iv)).toNat)
 case atStart=>exact⟨0,es.length,by omega,by omega,rfl,rfl,fun m _ h=>by omega,fun m h h2=>by omega,aq.refl _ _⟩
 case round=>
  obtain⟨i,j,hij,hj,rfl,rfl,HD⟩:=hrel;by_cases hlt:i<j
  .obtain⟨m,hm⟩: ∃ m,m=(i+j) / 2:=⟨_,rfl⟩;have hmi:i<=m:=by omega
   have hmj:m<j:=by omega
   have hml:m<es.length:=by omega
   have hw1:IntKind.u64.wrap ((i:Int)+(j:Int))=(i:Int)+j:=by rw[IntKind.wrap_u64];omega
   have hsh:((i:Int)+j) / 2=m:=by omega
   have hw2:IntKind.i64.wrap (m:Int)=m:=by rw[IntKind.wrap_i64];omega
   have HMm:=ah hm;clear hm;obtain⟨Z,hZ⟩: ∃ Z,aF es[m].ao e.ao=Z:=⟨_,rfl⟩;have HZ:=ah hZ;clear hZ
   cases Z
   all_goals
    go_wp2_with (go_at_call 184;refine(EI bt be T es e m _ (HT.o.new HD.o.aP) (HD.o.aP.cell HB.o id) (HE.o.new HD.o.aP) ⟨HR.o.1.new HD.o.aP,HR.o.2.new HD.o.aP⟩ hml).mono ?_;rintro x w1 ⟨rfl,k1⟩;rw[HZ.o];have HK:=ah (HD.o.aP.tr k1);clear k1);go_roundw
   .exact⟨i,m,by omega,by omega,rfl,rfl,⟨HD.o.lo,fun a ha h2=>by
     cases hq:aF es[a].ao e.ao with
     | false=>rfl
     | true=>rw[HM.o m a hml ha h2 hq] at HZ;exact absurd HZ.o (by simp),HK.o⟩⟩
   .simp[intOf];omega
   .exact⟨m+1,j,by omega,by omega,by push_cast;rfl,rfl,⟨fun a ha h2=>HM.o a m ha hml (by omega) HZ.o,HD.o.hi,HK.o⟩⟩
   .simp[intOf];omega
  .have hij2:i=j:=by omega
   subst hij2;go_wp2_with fail;go_ret;exact⟨i,rfl,⟨hj,fun a ha h2=>HD.o.lo a ha h2,fun h=>HD.o.hi i h (Nat.le_refl _)⟩,HD.o.aP⟩
theorem oZ {l:List aw} (h:dR l=true) (e:aw): ∀ (d a:Nat) (ha:a<l.length) (hb:a+d<l.length),aF l[a+d] e=true->aF l[a] e=true
 | 0,_,_,_,hx=>hx
 | d+1,a,ha,hb,hx=>oZ h e d a ha (by omega) (jx ((iS l).1 h (a+d) (by omega)) hx)
theorem sM {L:List aw} (h:cd L=0):dR L=true:=by
 cases hs:dR L with
 | true=>rfl
 | false=>unfold cd at h;rw[if_pos hs] at h;cases h
theorem mL.mono {w:World} {T:Nat} {es:List En} (h:mL w T es) (e:aw) (a b:Nat) (ha:a<es.length) (hb:b<es.length) (hab:a<=b) (hx:aF es[b].ao e=true):aF es[a].ao e=true:=by
 obtain⟨d,rfl⟩: ∃ d,b=a+d:=⟨b - a,by omega⟩;have h1:=oZ (sM h.ok) e d a (by simpa using ha) (by simpa using hb);rw[List.getElem_map,List.getElem_map] at h1;exact h1 hx
theorem mL.bU {w:World} {T:Nat} {es:List En} (h:mL w T es):es.length<=65536:=by
 have:=qv h.ok;simpa using this
theorem wg.at {es:List En} {e:En} {k:Nat} (h:wg es e k):k=wT e.ao (es.map En.ao):=by
 obtain⟨h1,h2,h3⟩:=h;by_cases hk:k<es.length
 .refine I0 (by simpa using hk) (fun i hi hik=>?_) ?_
  .rw[List.getElem_map];exact h2 i (by simpa using hi) hik
  .rw[List.getElem_map];exact h3 hk
 .have hke:k=es.length:=by omega
  subst hke;have h4:=Lg (e:=e.ao) (L:=es.map En.ao) (fun i hi=>by rw[List.getElem_map];exact h2 i (by simpa using hi) (by simpa using hi));simpa using h4
theorem G2 (T:Nat) (es:List En) (e:En) (w:World) (h:mL w T es) (hr:pJ w e):
 Calls Tryz.prog 144 #[.pointer (some ⟨T,0,none⟩),jD e] w fun x w'=>x = .returned (.int .i64 (wT e.ao (es.map En.ao):Nat))/\aq No w w':=by
 obtain⟨w1,hw1⟩: ∃ w1,w1=w.alloc (.cells #[.pointer (some ⟨T,0,none⟩)] 176):=⟨_,rfl⟩;have s1:Sat w (Pt w.heap.size 176 #[.pointer (some ⟨T,0,none⟩)]*aV) w1:=by rw[hw1];exact(Sat.start w).af _ _
 have s2:=s1.af 120 #[.slice e.key.1 e.key.2.2.length e.key.2.1,.slice e.value.1 e.value.2.2.length e.value.2.1,.int .i64 e.seq,.bool e.dead];have hsz:w1.heap.size=w.heap.size+1:=by rw[hw1];simp
 obtain⟨A,c,g,hh,n,a1,_⟩:=h.box;have b1:=s2.aP.cell a1 id;have HSr:=fun x:Unit=>Ac w.heap.size w1.heap.size T es e _ (h.new s2.aP) (s2.av.cell 0) ⟨s2.cell 0,s2.cell 1,s2.cell 2,s2.cell 3⟩ ⟨hr.1.new s2.aP,hr.2.new s2.aP⟩ h.bU (fun a b ha hb hab hx=>h.mono e.ao a b ha hb hab hx)
 have c0:=s2.av.cell 0;have HC:=ah s2.aP;have HK:=ah HSr;unfold jD;clear h hr HSr s1;rw[hsz,hw1] at HK;rw[hw1] at b1 c0 HC;clear hsz;clear s2;go_enter Tryz.func144, Tryz.ntmps144;go_wp2_with (go_at_call 183;refine(HK.o ()).mono ?_;rintro x w3 ⟨k,rfl,hk,k3⟩;have HF:=ah hk;have HC3:=ah (HC.o.tr k3);clear hk k3);go_ret;exact⟨by rw[<-HF.o.at];rfl,HC3.o⟩
theorem mL.small {w:World} {T:Nat} {es:List En} (h:mL w T es): ∀ e ∈ es,e.key.2.2.length<=128/\e.value.2.2.length<=16384:=by
 intro e he;have h1:=h.ok;unfold cd at h1;split at h1
 .cases h1
 .split at h1
  .cases h1
  .rename_i h2
   cases hm:gM e.ao with
   | true=>have h3:=ir.1 hm;exact⟨h3.1,h3.2.1⟩
   | false=>exact absurd (.inr (List.any_eq_true.2 ⟨e.ao,List.mem_map_of_mem he,by rw[hm];rfl⟩)) h2
end Go.Proofs.YtmbaiglpgaoogaaGreat
