/- Joined, as they were built one by one: TabRange Sto7 Sto9 Sto11 MemLevL Sto13. -/
import Derived.Test.YtmbaiglpgaoogaaGreatC14
set_option maxHeartbeats 16000000
set_option linter.unusedVariables false
set_option maxRecDepth 100000
namespace Go.Proofs.YtmbaiglpgaoogaaGreat
open Go.RowKit Z
theorem zt:(Tryz.prog.info? 120).map (fun i=>(i.zero,i.size,i.bytes))=some (some (.agg #[.slice none 0 0,.slice none 0 0,.int .i64 0,.bool false]),4,64):=by kernel_rfl
structure NO (w:World) (tl:List UInt8) (l:List aw) (qs:List En) (i:Nat) (fs:List En) (A:Option Addr) (c:Nat) (wr:World):Prop where
 told:l=fs.map En.ao++((qs.drop i).map En.ao).takeWhile (wK tl)
 len:fs.length=i
 sat:Sat w (Row 120 4 (.slice A fs.length c) fs.length (fs.flatMap cu)*aW fs) wr
theorem zQ (F T:cW) (Tb:Nat) (es:List En) (w:World) (hf:Rd w F.1 F.2.2) (ht:Rd w T.1 T.2.2) (h:mL w Tb es):
 Calls Tryz.prog 107 #[.pointer (some ⟨Tb,0,none⟩),.slice F.1 F.2.2.length F.2.1,.slice T.1 T.2.2.length T.2.1] w (mI w (qb F.2.2 T.2.2 (es.map En.ao))):=by
 obtain⟨fp,fc,fl⟩:=F;obtain⟨tp,tc,tl⟩:=T;have HTb:=ah h;have HF:Hid (Rd w fp fl):=hf;have HT:Hid (Rd w tp tl):=ht;obtain⟨A,c,g,hh,n,a1,_,a3,a4,a5,_⟩:=h.box;have HA1:=ah a1;obtain⟨L,hL⟩: ∃ L,L=es.map En.ao:=⟨_,rfl⟩;have HL:=ah hL;obtain⟨k,hkk⟩: ∃ k,k=wT (cY fl) L:=⟨_,rfl⟩;have hkl:k<=es.length:=by rw[hkk];refine Nat.le_trans (Kt _ _) ?_;rw[hL];simp
 have HKK:=ah hkk;have HSm:=ah h.small;have HFew:=h.bU;have HRd:=ah h.rd;have HB0:Hid (aH w (if c=k then A else Option.map (fun x=>x.add (k*4)) A) ((es.drop k).flatMap cu)):=by
  by_cases hck:c=k
  .rw[List.drop_of_length_le (by omega)];exact aH.nil _ _
  .have h1:=aH.drop a3 (k:=k*4) (cap:=c*4) (by rw[qx];omega) (by rw[qx];omega);rw[<-Jz,if_neg (by omega)] at h1;rw[if_neg hck];exact h1
 rw[<-hL];show Calls _ _ #[_,.slice fp fl.length fc,.slice tp tl.length tc] w (mI w (qb fl tl L));obtain⟨i0,hi0,hz0,hz1,hz2⟩:=info_parts zt;clear hf ht h a1 a3 hL hkk;go_enter Tryz.func107, Tryz.ntmps107;go_upto_region 2 with fail;refine wp_region_held_drew (S:=fun w'=>w'.cell? ⟨Tb,0,none⟩=some (.slice A es.length c)) (by kernel_rfl) HA1.o ?_;intro hS0;refine an 0 1 2 3 ?_;refine an 4 5 6 10 ?_;refine bR 7 fun K hK=>?_
 go_simp;go_at_call 144;refine(G2 Tb es ⟨(fp,fc,fl),(none,0,[]),9223372036854775807,false⟩ _ (HTb.o.new (aq.refl No w).drew) ⟨HF.o.new (aq.refl No w).drew,Rd.nil _ _⟩).mono ?_;rintro x w1 ⟨rfl,k1⟩;rw[show (⟨(fp,fc,fl),(none,0,[]),9223372036854775807,false⟩:En).ao=cY fl from rfl, <-HL.o, <-HKK.o];have HK:=ah ((aq.refl No w).drew.tr k1);clear k1
 refine hK.out _ _ (HK.o.cell HA1.o id) (fun hS0=>?_);clear hK K;refine cm 8 9 ?_;refine wpAnyH_done (by kernel_rfl) ?_ _;obtain⟨B,hB⟩: ∃ B,(if c=k then A else Option.map (fun x=>x.add (k*4)) A)=B:=⟨_,rfl⟩;rw[hB] at HB0 ⊢;clear hB;obtain⟨m,hm⟩: ∃ m,es.length - k=m:=⟨_,rfl⟩;obtain⟨d,hd⟩: ∃ d,c - k=d:=⟨_,rfl⟩;rw[hm,hd];have hmd:m<=d:=by omega
 obtain⟨qs,hqs⟩: ∃ qs,es.drop k=qs:=⟨_,rfl⟩;have HQl:Hid (qs.length=m):=by unfold Hid;rw[<-hqs,List.length_drop];exact hm
 have HQm:Hid (∀ e ∈ qs,e ∈ es):=fun e he=>by rw[<-hqs] at he;exact List.mem_of_mem_drop he
 have HTd:Hid (qb fl tl L=(qs.map En.ao).takeWhile (wK tl)):=by unfold Hid qb;rw[<-HKK.o,HL.o, <-List.map_drop,hqs]
 have hm6:m<=65536:=by omega
 rw[hqs] at HB0;clear hm hd hqs hkl;by_cases h0:tl=[]
 case' pos=>
  have HZ:=ah h0;rw[show tl.length=0 by rw[h0];rfl];have h1:True:=trivial;clear h0
 case' neg=>
  have HZ:=ah h0;have h1:¬ tl.length=0:=by simpa using h0
  clear h0
 all_goals
  clear hS0;go_wp2_with fail;go_loopw [7,20] (fun out iv wr=> ∃ (i:Nat) (fs:List En) (A2:Option Addr) (c2:Nat),i<=m/\iv = .int .i64 i/\out = .slice A2 fs.length c2/\Hid (NO w tl (qb fl tl L) qs i fs A2 c2 wr)) (fun _ iv _=>m - (intOf iv).toNat)
  case atStart=>exact⟨0,[],none,0,by omega,rfl,rfl,HTd.o,rfl,(((Sat.start w).new HK.o).aI _ 4).of (by rfl)⟩
  case round=>
   obtain⟨i,fs,A2,c2,hi,rfl,rfl,HD⟩:=hrel;by_cases hlt:i<m
   .have hil:i<qs.length:=by rw[HQl.o];exact hlt
    obtain⟨lb,lo,rfl,hq⟩:=eh HB0.o (by omega);obtain⟨y0,y1,y2,y3⟩:=hq i hil;unfold aO at y0 y1;have z0:=HD.o.sat.aP.cell y0 id;have z1:=HD.o.sat.aP.cell y1 id;have z2:=HD.o.sat.aP.cell y2 id;have z3:=HD.o.sat.aP.cell y3 id;have HR:=ah (HRd.o _ (HQm.o _ (List.getElem_mem hil)));have hsm:=HSm.o _ (HQm.o _ (List.getElem_mem hil));have hk2:qs[i].key.2.2.length<=140737488355328:=by omega
    have hv3:qs[i].value.2.2.length<=140737488355328:=by omega
    have hlen:fs.length<=65536:=by have h1:=HD.o.len;omega
    have HTl:Hid (qb fl tl L=fs.map En.ao++if wK tl qs[i].ao then qs[i].ao::((qs.drop (i+1)).map En.ao).takeWhile (wK tl) else []):=by
     have h2:=HD.o.told;rw[List.drop_eq_getElem_cons hil,List.map_cons,List.takeWhile_cons] at h2;exact h2
    have hin:wK tl qs[i].ao=(decide (tl=[]) || decide (Lib.compareBytes qs[i].key.2.2 tl<0)):=rfl;have HIn:=ah hin;clear hq y0 y1 y2 y3 hsm hin;go_wp2_with (first
     | (go_at_call 145;refine(qN qs[i].key (tp,tc,tl) _ (HR.o.1.new (HD.o.sat.aP.alloc _)) (HT.o.new (HD.o.sat.aP.alloc _))).mono ?_;rintro x wx ⟨rfl,rfl⟩)
     | (go_at_call 146;refine(xL qs[i] w _ _ (HD.o.sat.aC _) ⟨HR.o.1.new (HD.o.sat.aP.alloc _),HR.o.2.new (HD.o.sat.aP.alloc _)⟩ hk2 hv3).mono ?_;rintro x w6 ⟨⟨A3,c3,B3,d3,rfl,hs6⟩,k6⟩;have HS6:=ah hs6;clear hs6 k6;simp only[jD])
     | (at_builtin;refine au rfl (.tmp 34) (.tmp 37) 116 rfl 120 i0 _ 4 64 Tryz.underlying116 hi0 hz0 hz1 hz2 rfl (by decide) (.slice A2 fs.length c2) fs.length (fs.flatMap cu) rfl w _ (by exact(HS6.o.aC _).bD) (some ⟨w6.heap.size,0,none⟩) 1 1 [.slice A3 qs[i].key.2.2.length c3,.slice B3 qs[i].value.2.2.length d3,.int .i64 qs[i].seq,.bool qs[i].dead] rfl (aL _ _ _) rfl (by intro u hu;simp at hu;rcases hu with rfl | rfl | rfl | rfl<;>rfl) (by unfold maxLen;omega) (by omega) ?_;intro A4 c4 w7 hs7;have HS7:=ah hs7;clear hs7))
    all_goals first
     | (go_ret
        have hB:wK tl qs[i].ao=false:=by
         have h2:=HZ.o;rw[HIn.o];simp[h2];omega
        refine⟨fs,A2,c2,rfl,?_,HD.o.sat.aC _⟩;rw[HTl.o,hB];simp)
     | (go_roundw
        .have hB:wK tl qs[i].ao=true:=by
          rw[HIn.o];have h2:=HZ.o;simp[h2]
          all_goals omega
         refine⟨i+1,fs++[⟨(A3,c3,qs[i].key.2.2),(B3,d3,qs[i].value.2.2),qs[i].seq,qs[i].dead⟩],A4,c4,by omega,by push_cast;rfl,by rw[List.length_append];rfl,?_,?_,?_⟩
         .rw[HTl.o,hB,if_pos rfl,List.map_append,List.append_assoc];rfl
         .rw[List.length_append,HD.o.len];rfl
         .refine HS7.o.of ?_;rw[fP,List.flatMap_append,List.length_append];rfl
        .simp[intOf];omega)
   .have HTl:Hid (qb fl tl L=fs.map En.ao):=by
     have h2:=HD.o.told;rw[List.drop_of_length_le (by rw[HQl.o];omega)] at h2;unfold Hid;simpa using h2
    go_wp2_with fail;go_ret;exact⟨fs,A2,c2,rfl,HTl.o.symm,HD.o.sat⟩
def cM (e:En):List Value:=[aO e.key,aO e.value]
theorem qj:(Tryz.prog.info? 65).map (fun i=>(i.zero,i.size,i.bytes))=some (some (.agg #[.slice none 0 0,.slice none 0 0]),2,48):=by kernel_rfl
def wA (w:World) (l:List aw) (x:Ending) (w':World):Prop:= ∃ (es qs:List En) (B:Option Addr) (d:Nat),x = .returned (.slice B qs.length d)/\(∀ q ∈ qs,q ∈ es)/\qs.map En.ao=l/\
 Sat w (Row 65 2 (.slice B qs.length d) qs.length (qs.flatMap cM)*aW es) w'
theorem Dr (s:Int) (c:Option (List UInt8)) {L:List aw} {i:Nat} (hi:i<L.length):cC s c (L.drop i)=if s<L[i].seq\/c=some L[i].key then cC s c (L.drop (i+1)) else (if L[i].dead=true then cC s (some L[i].key) (L.drop (i+1)) else L[i]::cC s (some L[i].key) (L.drop (i+1))):=by
 rw[List.drop_eq_getElem_cons hi];rfl
theorem F0 (s aD:Int) (b:Nat) (f t:cW) (L:List aw) (w:World) (hf:Calls Tryz.prog 125 #[.pointer (some ⟨b,0,none⟩),.slice f.1 f.2.2.length f.2.1,.slice t.1 t.2.2.length t.2.1] (w.alloc (.cells #[.int .i64 s] 135)) (mI (w.alloc (.cells #[.int .i64 s] 135)) L)) (hn:L.length<=1000000):
 Calls Tryz.prog 77 #[.agg #[.int .i64 s],.pointer (some ⟨b,0,none⟩),.slice f.1 f.2.2.length f.2.1,.slice t.1 t.2.2.length t.2.1,.int .i64 aD] w (wA w ((cC s none L).take aD.toNat)):=by
 obtain⟨j0,hj,hy0,hy1,hy2⟩:=info_parts qj;have Hj:=ah hj;have Hy0:=ah hy0;have Hy1:=ah hy1;have Hy2:=ah hy2;have HF:=ah hf;have HS0:=ah ((Sat.start w).af 135 #[.int .i64 s]);obtain⟨w1,hw1⟩: ∃ w1,w1=w.alloc (.cells #[.int .i64 s] 135):=⟨_,rfl⟩;rw[<-hw1] at HF HS0;have HW:=ah hw1;clear hf hj hy0 hy1 hy2 hw1;go_enter Tryz.func77, Tryz.ntmps77;go_upto_region 4 with fail;rw[<-HW.o];obtain⟨vb,hvb⟩: ∃ vb,vb=w.heap.size:=⟨_,rfl⟩;rw[<-hvb] at HS0;rw[<-hvb];clear hvb;go_wp2_with (go_at_call 125;(with_reducible refine HF.o.mono ?_);rintro e w2 ⟨es,A,c,rfl,hes,hs⟩);have HS2:=ah (HS0.o.join hs (bf (bM _ _ _ _ _) (cS _)));have HES:=ah hes;have hln:es.length<=1000000:=by have:=congrArg List.length hes;rw[List.length_map] at this;omega
 clear hes hs;have HS3:Hid (Sat w (Row 65 2 (.slice none 0 0) 0 []*(Row 120 4 (.slice A es.length c) es.length (es.flatMap cu)*(aW es*(Pt vb 135 #[.int .i64 s]*aV)))) w2):=(HS2.o.of (aj _ _ _)).aI 65 2;go_loopw [11,12,13,21] (fun ov kv bgv iv wr=> ∃ (i k d:Nat) (B:Option Addr) (K:cW) (bg:Bool) (qs:List En),i<=es.length/\k<=i/\iv = .int .i64 (i:Int)/\ov = .slice B k d/\kv = .slice K.1 K.2.2.length K.2.1/\bgv = .bool bg/\Hid (k=qs.length/\(∀ q ∈ qs,q ∈ es)/\qs.map En.ao++cC s (if bg=true then some K.2.2 else none) (L.drop i)=cC s none L/\k<=aD.toNat/\(K=(none,0,[])\/ ∃ e ∈ es,K=e.key)/\
  Sat w (Row 65 2 (.slice B k d) k (qs.flatMap cM)*(Row 120 4 (.slice A es.length c) es.length (es.flatMap cu)*(aW es*(Pt vb 135 #[.int .i64 s]*aV)))) wr)) (fun _ _ _ iv _=>es.length - (intOf iv).toNat)
 case atStart=>exact⟨0,0,0,none,(none,0,[]),false,[],by omega,by omega,rfl,rfl,rfl,rfl,rfl,(fun q hq=>by cases hq),rfl,Nat.zero_le _,.inl rfl,HS3.o⟩
 case round=>
  obtain⟨i,k,d,B,K,bg,qs,hi,hki,rfl,rfl,rfl,rfl,HD⟩:=hrel;by_cases hlt:i<es.length
  .have hs0:=HD.o.2.2.2.2.2;have hown:=gu (hs0.bD);obtain⟨lb,lo,rfl,hq⟩:=eh (hs0.av.cj) (by omega);obtain⟨y0,y1,y2,y3⟩:=hq i hlt;have HRi:=ah (hown _ (List.getElem_mem hlt));have HKr:Hid (Rd wr K.1 K.2.2):=by
    rcases HD.o.2.2.2.2.1 with h1 | ⟨e,he,h1⟩
    .rw[h1];exact fun hx=>absurd rfl hx
    .rw[h1];exact(hown e he).1
   have hPm:=ah (List.getElem_mem hlt);have HSc:Hid (cC s (if bg=true then some K.2.2 else none) (L.drop i)=if s<es[i].seq\/(if bg=true then some K.2.2 else none)=some es[i].key.2.2 then cC s (if bg=true then some K.2.2 else none) (L.drop (i+1)) else (if es[i].dead=true then cC s (some es[i].key.2.2) (L.drop (i+1)) else es[i].ao::cC s (some es[i].key.2.2) (L.drop (i+1)))):=by
    have hl:i<L.length:=by rw[<-HES.o,List.length_map];exact hlt
    have h9:=Dr s (if bg=true then some K.2.2 else none) hl;have h8:L[i]=es[i].ao:=by simp only[<-HES.o,List.getElem_map]
    rw[h8] at h9;exact h9
   have hii:(i:Int)<es.length:=by omega
   clear hq hown hs0;generalize es[i]=x at*
   obtain⟨⟨kA,kc,kl⟩,⟨vA,vc,vl⟩,sq,dd⟩:=x;replace y0:_=some (Value.slice kA kl.length kc):=y0;replace y1:_=some (Value.slice vA vl.length vc):=y1;replace y2:_=some (Value.int .i64 sq):=y2;replace y3:_=some (Value.bool dd):=y3;have hv0:=HD.o.2.2.2.2.2.bW.cell 0;go_upto_region 7 with fail;have hs2:=HD.o.2.2.2.2.2.af 120 #[.slice kA kl.length kc,.slice vA vl.length vc,.int .i64 sq,.bool dd];obtain⟨W4,hW4⟩: ∃ W4,W4=wr.alloc (.cells #[.slice kA kl.length kc,.slice vA vl.length vc,.int .i64 sq,.bool dd] 120):=⟨_,rfl⟩;rw[<-hW4] at hs2;rw[<-hW4];obtain⟨bx,hbx⟩: ∃ bx,bx=wr.heap.size:=⟨_,rfl⟩;rw[<-hbx] at hs2;rw[<-hbx];have HK4:Hid (Rd W4 K.1 K.2.2/\Rd W4 kA kl):=by rw[hW4];exact⟨HKr.o.alloc _,aH.alloc HRi.o.1 _⟩
   clear hW4 hbx y0 y1 y2 y3 hv0;have x0:=hs2.cell 0;have x1:=hs2.cell 1;have x2:=hs2.cell 2;have x3:=hs2.cell 3;have v0:=hs2.gw.cell 0;have HS4:=ah hs2;clear hs2;by_cases hsq:s<sq
   .have HN:Hid (cC s (if bg=true then some K.2.2 else none) (L.drop i)=cC s (if bg=true then some K.2.2 else none) (L.drop (i+1))):=by unfold Hid;rw[HSc.o,if_pos (.inl hsq)]
    go_wp2_with fail;go_roundw
    .exact⟨i+1,k,d,B,K,bg,qs,by omega,by omega,by push_cast;rfl,rfl,rfl,rfl,HD.o.1,HD.o.2.1,by rw[<-HN.o];exact HD.o.2.2.1,HD.o.2.2.2.1,HD.o.2.2.2.2.1,HS4.o.right⟩
    .simp[intOf];omega
   .cases bg
    .have HGo:Hid (cC s (if false=true then some K.2.2 else none) (L.drop i)=if dd=true then cC s (some kl) (L.drop (i+1)) else (⟨kl,vl,sq,dd⟩:aw)::cC s (some kl) (L.drop (i+1))):=by
      unfold Hid;rw[HSc.o,if_neg]
      .rfl
      .rintro (h1 | h1)
       .exact hsq h1
       .cases h1
     by_cases hm:aD<=k
     .have HQ:Hid (qs.map En.ao=(cC s none L).take aD.toNat):=by
       have h1:=HD.o.2.2.1;have h2:=HD.o.2.2.2.1;have h3:=HD.o.1;have h4:aD.toNat=(qs.map En.ao).length:=by rw[List.length_map];omega
       unfold Hid;rw[<-h1,h4,List.take_left]
      go_wp2_with fail;go_ret;have hk:=HD.o.1;subst hk;exact⟨es,qs,_,_,rfl,HD.o.2.1,HQ.o,by
       have h1:=HS4.o.right.bF;exact(h1.of (by ac_rfl:_=(Pt vb 135 #[.int .i64 s])*(Row 65 2 (.slice B qs.length d) qs.length (qs.flatMap cM)*(aW es*aV)))).right.of (by rw[bX (aW es) aV,aX])⟩
     .have hm2:¬ (aD:Int)<=(k:Int):=hm
      cases dd
      .have HS5:=ah ((HS4.o.aC (.cells #[.slice kA kl.length kc,.slice vA vl.length vc] 65)).av);go_wp2_with (at_builtin;refine au rfl (.tmp 48) (.tmp 54) 30 rfl 65 j0 _ 2 48 Tryz.underlying30 Hj.o Hy0.o Hy1.o Hy2.o rfl (by decide) (.slice B k d) k (qs.flatMap cM) rfl w _ (by exact HS5.o) (some ⟨W4.heap.size,0,none⟩) 1 1 [.slice kA kl.length kc,.slice vA vl.length vc] rfl (by exact(aL _ _ _)) rfl (by intro u hu;simp at hu;rcases hu with rfl | rfl<;>rfl) (by unfold maxLen;omega) (by omega) ?_;intro B5 d5 w5 hs5;have HS6:=ah hs5;clear hs5);go_roundw
       .refine⟨i+1,k+1,d5,B5,(kA,kc,kl),true,qs++[⟨(kA,kc,kl),(vA,vc,vl),sq,false⟩],by omega,by omega,by push_cast;rfl,rfl,rfl,rfl,by rw[List.length_append, <-HD.o.1];rfl,fun q hq=>?_,?_,by omega,.inr ⟨_,hPm.o,rfl⟩,?_⟩
        .rcases List.mem_append.1 hq with h1 | h1
         .exact HD.o.2.1 q h1
         .rw[List.mem_singleton.1 h1];exact hPm.o
        .have h1:=HD.o.2.2.1;rw[HGo.o] at h1;rw[List.map_append,List.append_assoc];exact h1
        .rw[List.flatMap_append];exact HS6.o.bF
       .simp[intOf];omega
      .go_wp2_with fail;go_roundw
       .exact⟨i+1,k,d,B,(kA,kc,kl),true,qs,by omega,by omega,by push_cast;rfl,rfl,rfl,rfl,HD.o.1,HD.o.2.1,by have h1:=HD.o.2.2.1;rw[HGo.o] at h1;exact h1,HD.o.2.2.2.1,.inr ⟨_,hPm.o,rfl⟩,HS4.o.right⟩
       .simp[intOf];omega
    .by_cases he:kl=K.2.2
     .have HBq:Hid (Calls Tryz.prog 126 #[.slice kA kl.length kc,.slice K.1 K.2.2.length K.2.1] W4 fun e w'=>e = .returned (.bool true)/\W4=w'):=by
       have h1:=eZ (kA,kc,kl) K W4 HK4.o.2 HK4.o.1;rw[decide_eq_true he] at h1;exact h1.mono fun e w' ⟨a,b⟩=>⟨a,b.symm⟩
      have HN:Hid (cC s (if true=true then some K.2.2 else none) (L.drop i)=cC s (if true=true then some K.2.2 else none) (L.drop (i+1))):=by
       unfold Hid;rw[HSc.o,if_pos];exact .inr (by rw[if_pos rfl];exact congrArg some he.symm)
      clear he;go_wp2_with (go_at_call 126;(with_reducible refine HBq.o.mono ?_);rintro e wx ⟨rfl,rfl⟩);go_roundw
      .exact⟨i+1,k,d,B,K,true,qs,by omega,by omega,by push_cast;rfl,rfl,rfl,rfl,HD.o.1,HD.o.2.1,by have h1:=HD.o.2.2.1;rw[HN.o] at h1;exact h1,HD.o.2.2.2.1,HD.o.2.2.2.2.1,HS4.o.right⟩
      .simp[intOf];omega
     .have HBq:Hid (Calls Tryz.prog 126 #[.slice kA kl.length kc,.slice K.1 K.2.2.length K.2.1] W4 fun e w'=>e = .returned (.bool false)/\W4=w'):=by
       have h1:=eZ (kA,kc,kl) K W4 HK4.o.2 HK4.o.1;rw[decide_eq_false he] at h1;exact h1.mono fun e w' ⟨a,b⟩=>⟨a,b.symm⟩
      have HGo:Hid (cC s (if true=true then some K.2.2 else none) (L.drop i)=if dd=true then cC s (some kl) (L.drop (i+1)) else (⟨kl,vl,sq,dd⟩:aw)::cC s (some kl) (L.drop (i+1))):=by
       unfold Hid;rw[HSc.o,if_neg]
       .rfl
       .rintro (h1 | h1)
        .exact hsq h1
        .rw[if_pos rfl] at h1;injection h1 with h1;exact he h1.symm
      clear he;by_cases hm:aD<=k
      .have HQ:Hid (qs.map En.ao=(cC s none L).take aD.toNat):=by
        have h1:=HD.o.2.2.1;have h2:=HD.o.2.2.2.1;have h3:=HD.o.1;have h4:aD.toNat=(qs.map En.ao).length:=by rw[List.length_map];omega
        unfold Hid;rw[<-h1,h4,List.take_left]
       go_wp2_with (go_at_call 126;(with_reducible refine HBq.o.mono ?_);rintro e wx ⟨rfl,rfl⟩);go_ret;have hk:=HD.o.1;subst hk;exact⟨es,qs,_,_,rfl,HD.o.2.1,HQ.o,by
        have h1:=HS4.o.right.bF;exact(h1.of (by ac_rfl:_=(Pt vb 135 #[.int .i64 s])*(Row 65 2 (.slice B qs.length d) qs.length (qs.flatMap cM)*(aW es*aV)))).right.of (by rw[bX (aW es) aV,aX])⟩
      .have hm2:¬ (aD:Int)<=(k:Int):=hm
       cases dd
       .have HS5:=ah ((HS4.o.aC (.cells #[.slice kA kl.length kc,.slice vA vl.length vc] 65)).av);go_wp2_with (first | (go_at_call 126;(with_reducible refine HBq.o.mono ?_);rintro e wx ⟨rfl,rfl⟩) | (at_builtin;refine au rfl (.tmp 48) (.tmp 54) 30 rfl 65 j0 _ 2 48 Tryz.underlying30 Hj.o Hy0.o Hy1.o Hy2.o rfl (by decide) (.slice B k d) k (qs.flatMap cM) rfl w _ (by exact HS5.o) (some ⟨W4.heap.size,0,none⟩) 1 1 [.slice kA kl.length kc,.slice vA vl.length vc] rfl (by exact(aL _ _ _)) rfl (by intro u hu;simp at hu;rcases hu with rfl | rfl<;>rfl) (by unfold maxLen;omega) (by omega) ?_;intro B5 d5 w5 hs5;have HS6:=ah hs5;clear hs5));go_roundw
        .refine⟨i+1,k+1,d5,B5,(kA,kc,kl),true,qs++[⟨(kA,kc,kl),(vA,vc,vl),sq,false⟩],by omega,by omega,by push_cast;rfl,rfl,rfl,rfl,by rw[List.length_append, <-HD.o.1];rfl,fun q hq=>?_,?_,by omega,.inr ⟨_,hPm.o,rfl⟩,?_⟩
         .rcases List.mem_append.1 hq with h1 | h1
          .exact HD.o.2.1 q h1
          .rw[List.mem_singleton.1 h1];exact hPm.o
         .have h1:=HD.o.2.2.1;rw[HGo.o] at h1;rw[List.map_append,List.append_assoc];exact h1
         .rw[List.flatMap_append];exact HS6.o.bF
        .simp[intOf];omega
       .go_wp2_with (go_at_call 126;(with_reducible refine HBq.o.mono ?_);rintro e wx ⟨rfl,rfl⟩);go_roundw
        .exact⟨i+1,k,d,B,(kA,kc,kl),true,qs,by omega,by omega,by push_cast;rfl,rfl,rfl,rfl,HD.o.1,HD.o.2.1,by have h1:=HD.o.2.2.1;rw[HGo.o] at h1;exact h1,HD.o.2.2.2.1,.inr ⟨_,hPm.o,rfl⟩,HS4.o.right⟩
        .simp[intOf];omega
  .have hie:i=es.length:=by omega
   subst hie;have HQ:Hid (qs.map En.ao=(cC s none L).take aD.toNat):=by
    have h1:=HD.o.2.2.1;rw[List.drop_eq_nil_of_le (by rw[<-HES.o,List.length_map];omega)] at h1;have h2:cC s (if bg=true then some K.2.2 else none) []=[]:=by cases bg<;>rfl
    rw[h2,List.append_nil] at h1;unfold Hid;rw[<-h1,List.take_of_length_le (by rw[List.length_map, <-HD.o.1];exact HD.o.2.2.2.1)]
   go_wp2_with fail;go_ret;have hk:=HD.o.1;subst hk;exact⟨es,qs,_,_,rfl,HD.o.2.1,HQ.o,by
    have h1:=HD.o.2.2.2.2.2.bF;exact(h1.of (by ac_rfl:_=(Pt vb 135 #[.int .i64 s])*(Row 65 2 (.slice B qs.length d) qs.length (qs.flatMap cM)*(aW es*aV)))).right.of (by rw[bX (aW es) aV,aX])⟩
section
variable {w0 w:World} {F:SP}
def FJ (w0:World) (F:SP) (q:Option (List UInt8)) (x:Ending) (w':World):Prop:= ∃ A c,x = .returned (.tuple #[.slice A (q.getD []).length c,.bool q.isSome])/\Sat w0 (Row 5 1 (.slice A (q.getD []).length c) (q.getD []).length ((q.getD []).map bv)*F) w'
theorem xi (tb hr:Nat) (ns:List Nd) (n:Nat) (s:Int) (K:cW) (hk:Rd w K.1 K.2.2) (h:Sat w0 (bK tb hr ns*F) w) (ht:ep ns n) (hn:n<=100000):
 Calls Tryz.prog 78 #[.agg #[.int .i64 s],.pointer (some ⟨tb,0,none⟩),.slice K.1 K.2.2.length K.2.1] w (FJ w0 (bK tb hr ns*F) (ew K.2.2 s (cG ns))):=by
 have hs1:=h.af 135 #[.int .i64 s];have hG:=I2 K s tb hr ns (w.alloc (.cells #[.int .i64 s] 135)) (hk.alloc _) (hs1.right.view ht.ok) ht.ok (ht.small hn);rw[show AE K.2.2 s ns=mw K.2.2 s (cG ns) by rw[GD];exact Cn (lM ht.ok)] at hG;unfold ew;obtain⟨q,hq⟩: ∃ q,q=mw K.2.2 s (cG ns):=⟨_,rfl⟩;rw[<-hq] at hG ⊢;have HG:=ah hG;have HS1:=ah hs1;have hv0:=hs1.cell 0;clear hG hs1 hk ht hq h;obtain⟨W1,hW1⟩: ∃ W1,W1=w.alloc (.cells #[.int .i64 s] 135):=⟨_,rfl⟩;rw[<-hW1] at HG HS1 hv0;have HW:=ah hW1;clear hW1;go_enter Tryz.func78, Tryz.ntmps78;go_upto_region 1 with fail;rw[<-HW.o];obtain⟨vb,hvb⟩: ∃ vb,vb=w.heap.size:=⟨_,rfl⟩;rw[<-hvb] at HS1 hv0;rw[<-hvb];clear hvb HW;go_upto_region 2 with (go_at_call 127;(with_reducible refine HG.o.mono ?_);rintro e w2 ⟨⟨⟨gA,gc,gk⟩,⟨hA,hcc,hv⟩,gs,gd⟩,rfl,hg,hs2⟩;unfold jD;dsimp only;have HGe:=ah hg;have HS2:=ah (HS1.o.right.join hs2 (cS _));clear hg hs2)
 cases q with
 | none=>
  simp only[Option.isSome_none];have HS3:=ah (HS2.o.aC (.cells #[.slice gA gk.length gc,.slice hA hv.length hcc,.int .i64 gs,.bool gd] 120));clear HS2;go_wp2_with fail;go_ret2;exact⟨none,0,rfl,HS3.o.right.aI 5 1⟩
 | some e=>
  have he:(⟨gk,hv,gs,gd⟩:aw)=e:=HGe.o;simp only[Option.isSome_some];subst he;have hs3:=HS2.o.af 120 #[.slice gA gk.length gc,.slice hA hv.length hcc,.int .i64 gs,.bool gd];have x1:=hs3.cell 1;have x3:=hs3.cell 3;have HS3:=ah hs3;clear hs3 HGe
  cases gd
  .go_wp2_with fail;go_ret2;refine⟨hA,hcc,rfl,?_⟩;have h1:=HS3.o.right;exact(h1.of (by show (Row _ _ _ _ _*(Row 5 1 (.slice hA hv.length hcc) hv.length (hv.map bv)*aV))*_=Row 5 1 (.slice gA gk.length gc) gk.length (gk.map bv)*(Row 5 1 (.slice hA hv.length hcc) hv.length (hv.map bv)*(bK tb hr ns*F));rw[aj,aj,aX];rfl)).right
  .go_wp2_with fail;go_ret2;exact⟨none,0,rfl,HS3.o.right.right.aI 5 1⟩
end
theorem vW (b:Nat) (q:Int) (w:World) (hc:w.cell? ⟨b,4,none⟩=some (.int .i64 q)):Calls Tryz.prog 76 #[.pointer (some ⟨b,0,none⟩)] w fun x w'=>x = .returned (.agg #[.int .i64 q])/\aq No w w':=by
 have hs:=(Sat.start w).af 135 #[.int .i64 0];have hc2:=hs.aP.cell hc id;have HS2:=ah ((Sat.start w).af 135 #[.int .i64 q]);have f0:=hs.frozen 0;clear hs hc;go_enter Tryz.func76, Tryz.ntmps76;go_wp2_with fail;refine bodyPost_ret (results_cell_row (p:=2) (by kernel_rfl) _ _ w.heap.size 135 _ (0,0) _ rfl HS2.o.at Tryz.underlying135 rfl (by kernel_rfl)) rfl ?_;exact⟨rfl,HS2.o.aP⟩
def GU (w0:World) (F:SP) (l:List Kv) (x:Ending) (w':World):Prop:= ∃ (es qs:List En) (B:Option Addr) (c:Nat),x = .returned (.slice B qs.length c)/\(∀ q ∈ qs,q ∈ es)/\qs.map (fun q=>cT q.ao)=l/\
 Sat w0 (Row 65 2 (.slice B qs.length c) qs.length (qs.flatMap cM)*(aW es*F)) w'
section
variable {w0 w:World} {F:SP}
theorem La (b d s:Nat) (v:Sd) (K:cW) (hk:Rd w K.1 K.2.2) (h:Sat w0 (dD b d s v*F) w) (hL:v.L.length<=90000):
 Calls Tryz.prog 32 #[.pointer (some ⟨b,0,none⟩),.slice K.1 K.2.2.length K.2.1] w (FJ w0 (dD b d s v*F) (ew K.2.2 v.seq v.L)):=by
 obtain⟨lg,L,sq,sn,bU,nx⟩:=v;obtain⟨tb,hr,mb,ns,⟨ht,he⟩,hs0⟩:=h.db;dsimp only at hL ht he;have hs:=hs0.of (dW ..);dsimp only at hs;have c3:w.cell? ⟨b,3,none⟩=some (.pointer (some ⟨tb,0,none⟩)):=hs.cell 3;have HNow:Hid (∀ W,aq No w W->Calls Tryz.prog 76 #[.pointer (some ⟨b,0,none⟩)] W fun x w'=>x = .returned (.agg #[.int .i64 (sq:Int)])/\aq No W w'):=fun W k=>vW b sq W (k.cell (hs.cell 4) id)
 have HGet:Hid (∀ W,aq No w W->Calls Tryz.prog 78 #[.agg #[.int .i64 (sq:Int)],.pointer (some ⟨tb,0,none⟩),.slice K.1 K.2.2.length K.2.1] W (FJ w0 (bK tb hr ns*(Pt b 113 (ez d s lg tb sq mb nx false)*(bY Tryz.prog 3 mb bU (iy sn)*F))) (ew K.2.2 sq (cG ns)))):=fun W k=>xi tb hr ns L.length sq K (hk.new k) (hs.av.new k) ht (by omega)
 have C3:=ah c3;have HE:=ah he;have HT:=ah ht;have HDrew:Hid (aq No w w.drew):=(aq.refl No w).drew;rw[he] at HGet;clear h hs0 hs hk ht he;show Calls _ _ _ _ (FJ w0 (dD b d s ⟨lg,L,sq,sn,bU,nx⟩*F) (ew K.2.2 sq L));generalize ew K.2.2 sq L=q at*
 go_enter Tryz.func32, Tryz.ntmps32;go_upto_region 1 with fail;refine wp_region_held_drew (S:=fun w'=>w'.cell? ⟨b,3,none⟩=some (.pointer (some ⟨tb,0,none⟩))) (by kernel_rfl) (by exact c3) ?_;intro hS0;refine an 0 2 3 4 ?_;refine cm 5 6 ?_;refine bR 1 fun K hK=>?_
 go_simp;go_at_call 76;(with_reducible refine(HNow.o _ HDrew.o).mono ?_);rintro e w2 ⟨rfl,k2⟩;have HK2:=ah (HDrew.o.tr k2);clear k2
 refine hK.out _ _ (HK2.o.cell C3.o id) (fun hS0=>?_);clear hK K;refine bR 7 fun K hK=>?_
 go_simp;go_at_call 78;(with_reducible refine(HGet.o _ HK2.o).mono ?_);rintro e w3 ⟨A,c,rfl,hs3⟩;have HS3:=ah hs3;clear hs3
 refine hK.out _ _ (HS3.o.bD.cell 3) (fun hS0=>?_);clear hK K;refine an 8 9 10 11 ?_;refine wpAnyH_done (by kernel_rfl) ?_ _;go_wp2_with fail;go_ret2;refine⟨A,c,rfl,?_⟩;have h1:=HS3.o.of (show _=Pt b 113 (ez d s lg tb sq mb nx false)*(bK tb hr ns*(bY Tryz.prog 3 mb bU (iy sn)*(Row 5 1 (.slice A (q.getD []).length c) (q.getD []).length ((q.getD []).map bv)*F))) by ac_rfl);exact(Sat.wJ (v:=⟨lg,L,sq,sn,bU,nx⟩) HT.o HE.o (by rw[dW];exact h1)).av
theorem uR {tb hr:Nat} {ns:List Nd} {L:List aw} (h:Sat w0 (bK tb hr ns*F) w) (ht:ep ns L.length) (he:cG ns=L) (hL:L.length<=90000) (q aD:Int) (f t:cW) (hf:Rd w f.1 f.2.2) (ht':Rd w t.1 t.2.2) {W:World} (k:aq No w W):
 Calls Tryz.prog 77 #[.agg #[.int .i64 q],.pointer (some ⟨tb,0,none⟩),.slice f.1 f.2.2.length f.2.1,.slice t.1 t.2.2.length t.2.1,.int .i64 aD] W (wA W ((cC q none (mr f.2.2 t.2.2 L)).take aD.toNat)):=by
 have kA:aq No w (W.alloc (.cells #[.int .i64 q] 135)):=k.alloc _;have h1:=Dg f.1 f.2.1 f.2.2 t.1 t.2.1 t.2.2 tb hr ns _ (hf.new kA) (ht'.new kA) ((h.new kA).view ht.ok) ht.ok (ht.small (by omega));rw[Bc ht,he] at h1;exact F0 q aD tb f t _ W h1 (by have:(mr f.2.2 t.2.2 L).length<=L.length:=List.length_filter_le _ _;omega)
theorem vi (b d s:Nat) (v:Sd) (f t:cW) (aD:Int) (hf:Rd w f.1 f.2.2) (ht':Rd w t.1 t.2.2) (h:Sat w0 (dD b d s v*F) w) (hL:v.L.length<=90000):
 Calls Tryz.prog 24 #[.pointer (some ⟨b,0,none⟩),.slice f.1 f.2.2.length f.2.1,.slice t.1 t.2.2.length t.2.1,.int .i64 aD] w (GU w0 (dD b d s v*F) ((dU f.2.2 t.2.2 (eP v.seq v.L)).take aD.toNat)):=by
 obtain⟨lg,L,sq,sn,bU,nx⟩:=v;obtain⟨tb,hr,mb,ns,⟨ht,he⟩,hs0⟩:=h.db;dsimp only at hL ht he;have hs:=hs0.of (dW ..);dsimp only at hs;have c3:w.cell? ⟨b,3,none⟩=some (.pointer (some ⟨tb,0,none⟩)):=hs.cell 3;have hpw:L.Pairwise dJ:=he ▸ lM ht.ok;have HNow:Hid (∀ W,aq No w W->Calls Tryz.prog 76 #[.pointer (some ⟨b,0,none⟩)] W fun x w'=>x = .returned (.agg #[.int .i64 (sq:Int)])/\aq No W w'):=fun W k=>vW b sq W (k.cell (hs.cell 4) id)
 have HSc:Hid (∀ W,aq No w W->Calls Tryz.prog 77 #[.agg #[.int .i64 (sq:Int)],.pointer (some ⟨tb,0,none⟩),.slice f.1 f.2.2.length f.2.1,.slice t.1 t.2.2.length t.2.1,.int .i64 aD] W (wA W ((cC sq none (mr f.2.2 t.2.2 L)).take aD.toNat))):=fun W k=>uR hs.av ht he hL sq aD f t hf ht' k
 have C3:=ah c3;have HE:=ah he;have HT:=ah ht;have HS:=ah hs;have HPw:=ah hpw;have HDrew:Hid (aq No w w.drew):=(aq.refl No w).drew;clear h hs0 hs hf ht' ht he hpw;go_enter Tryz.func24, Tryz.ntmps24;go_upto_region 1 with fail;refine wp_region_held_drew (S:=fun w'=>w'.cell? ⟨b,3,none⟩=some (.pointer (some ⟨tb,0,none⟩))) (by kernel_rfl) (by exact c3) ?_;intro hS0;refine an 0 2 3 4 ?_;refine an 5 6 7 8 ?_;refine bR 1 fun K hK=>?_
 go_simp;go_at_call 76;(with_reducible refine(HNow.o _ HDrew.o).mono ?_);rintro e w2 ⟨rfl,k2⟩;have HK2:=ah (HDrew.o.tr k2);clear k2
 refine hK.out _ _ (HK2.o.cell C3.o id) (fun hS0=>?_);clear hK K;refine bR 9 fun K hK=>?_
 go_simp;go_at_call 77;(with_reducible refine(HSc.o _ HK2.o).mono ?_);rintro e w3 ⟨es,qs,B,c,rfl,hin,hqs,hs3⟩;have HIn:=ah hin;have HQs:=ah hqs;have HS3:=ah ((HS.o.new HK2.o).join hs3 (bf (bM _ _ _ _ _) (cS _)));clear hin hqs hs3
 refine hK.out _ _ (HS3.o.av.cell 3) (fun hS0=>?_);clear hK K;refine cH 10 ?_;refine wpAnyH_done (by kernel_rfl) ?_ _;go_wp2_with fail;go_ret;refine⟨es,qs,B,c,rfl,HIn.o,?_,?_⟩
 .have h2:=congrArg (List.map cT) HQs.o;rw[List.map_map] at h2;rw[show (fun q:En=>cT q.ao)=cT ∘ En.ao from rfl,h2,List.map_take];show (eP sq (mr f.2.2 t.2.2 L)).take _=_;rw[zf HPw.o]
 .have h1:=HS3.o.of (show _=Pt b 113 (ez d s lg tb sq mb nx false)*(bK tb hr ns*(bY Tryz.prog 3 mb bU (iy sn)*(Row 65 2 (.slice B qs.length c) qs.length (qs.flatMap cM)*(aW es*F)))) by ac_rfl);exact(Sat.wJ (v:=⟨lg,L,sq,sn,bU,nx⟩) HT.o HE.o (by rw[dW];exact h1)).of (by ac_rfl)
theorem Ht (b d s:Nat) (v:Sd) (h:Sat w0 (dD b d s v*F) w) (hL:v.L.length<=90000):
 Calls Tryz.prog 31 #[.pointer (some ⟨b,0,none⟩)] w fun x w'=>x = .returned (.int .i64 ((eP v.seq v.L).length:Nat))/\Sat w0 (dD b d s v*F) w':=by
 have hsc:=vi (w0:=w0) (F:=F) b d s v (none,0,[]) (none,0,[]) 4611686018427387904 (Rd.nil _ _) (Rd.nil _ _) h hL;rw[Cb] at hsc;have hvl:(eP v.seq v.L).length<=v.L.length:=by
  unfold eP;rw[List.length_map];exact(kY _ _ _).length_le
 rw[List.take_of_length_le (by show _<=4611686018427387904;omega)] at hsc;have HSc:Hid (Calls Tryz.prog 24 #[.pointer (some ⟨b,0,none⟩),.slice none 0 0,.slice none 0 0,.int .i64 4611686018427387904] w (GU w0 (dD b d s v*F) (eP v.seq v.L))):=hsc;generalize eP v.seq v.L=l at*
 clear h hsc;go_enter Tryz.func31, Tryz.ntmps31;go_wp2_with (go_at_call 24;(with_reducible refine HSc.o.mono ?_);rintro e w2 ⟨es,qs,B,c,rfl,hin,hqs,hs2⟩;have HQs:=ah hqs;have HS2:=ah hs2;clear hin hqs hs2);go_ret;refine⟨?_,HS2.o.right.right⟩;rw[<-HQs.o,List.length_map];rfl
theorem Jd (b d s:Nat) (v:Sd) (h:Sat w0 (dD b d s v*F) w):Calls Tryz.prog 87 #[.pointer (some ⟨b,0,none⟩)] w fun x w'=>x = .returned (.bool false)/\w=w':=by
 obtain⟨tb,hr,mb,ns,_,hs0⟩:=h.db;have c7:w.cell? ⟨b,7,none⟩=some (.bool false):=(hs0.of (dW ..)).cell 7;clear h hs0;go_enter Tryz.func87, Tryz.ntmps87;go_wp2_with fail;go_ret;exact⟨rfl,rfl⟩
theorem wB (b d s:Nat) (v:Sd) (h:Sat w0 (dD b d s v*F) w):Calls Tryz.prog 70 #[.pointer (some ⟨b,0,none⟩)] w fun x w'=>x = .returned (.int .i64 21)/\Sat w0 F w':=by
 obtain⟨tb,hr,mb,ns,_,hs0⟩:=h.db;have hs:=hs0.of (dW ..);have f7:=hs.frozen 7;have c7:=hs.cell 7;have HS:=ah (hs.set 7 (.bool true));clear h hs0 hs;go_enter Tryz.func70, Tryz.ntmps70;go_wp2_with fail;go_ret;exact⟨rfl,HS.o.right.right.right⟩
theorem Ji (f:Int->Option Nat) (i:Int) (q:Nat):IA (iy f) i (.agg #[.int .i64 (q:Int)])=iy (fun j=>if j=i then some q else f j):=by
 funext j
 unfold IA iy;dsimp only;split<;>rfl
theorem IS (f:Int->Option Nat) (i:Int):J6 (iy f) i=iy (fun j=>if j=i then none else f j):=by
 funext j
 unfold J6 iy;dsimp only;split<;>rfl
theorem Du (w:World):(zeroValue 135).run Tryz.prog w = .ok (.agg #[.int .i64 0]) w:=by kernel_rfl
theorem oP {mb n:Nat} {f:Int->Option Nat} {G:SP} (h:Sat w0 (bY Tryz.prog 3 mb n (iy f)*G) w) (i:Int) (hi: -9223372036854775808<=i/\i<=9223372036854775807):
 (Instr.lookup 111 (.map (some mb)) (.int .i64 i) true).run Tryz.prog w = .ok (.tuple #[.agg #[.int .i64 (((f i).getD 0:Nat):Int)],.bool (f i).isSome]) w:=by
 rw[h.rq (t:= 111) Tryz.underlying3 Tryz.underlying111 (Du w) i hi];unfold iy
 cases f i<;>rfl
theorem Jn (b d s:Nat) (v:Sd) (i:Int) (hi: -9223372036854775808<=i/\i<=9223372036854775807) (h:Sat w0 (dD b d s v*F) w):
 Calls Tryz.prog 43 #[.pointer (some ⟨b,0,none⟩),.int .i64 i] w fun x w'=>x = .returned (.int .i64 (if (v.snaps i).isSome=true then 0 else 104))/\Sat w0 (dD b d s { v with snaps:=fun j=>if j=i then none else v.snaps j }*F) w':=by
 obtain⟨lg,L,sq,sn,bU,nx⟩:=v;obtain⟨tb,hr,mb,ns,⟨ht,he⟩,hs0⟩:=h.db;dsimp only at ht he;have hs:=hs0.of (dW ..);dsimp only at hs;have c5:w.cell? ⟨b,5,none⟩=some (.map (some mb)):=hs.cell 5;have hlk:=oP hs.bD i hi;have HT:=ah ht;have HE:=ah he
 cases hsn:sn i with
 | none=>
  rw[hsn] at hlk;have hsn2:(fun j=>if j=i then none else sn j)=sn:=by
   funext j
   by_cases e:j=i
   .rw[if_pos e,e,hsn]
   .rw[if_neg e]
  have HS:=ah (hs.aC (.cells #[.int .i64 0] 135));clear h hs0 hs ht he;replace hlk:(Instr.lookup 111 (.map (some mb)) (.int .i64 i) true).run Tryz.prog w = .ok (.tuple #[.agg #[.int .i64 0],.bool false]) w:=hlk;show Calls _ _ _ _ fun x w'=>x = .returned (.int .i64 (if (sn i).isSome=true then 0 else 104))/\Sat w0 (dD b d s ⟨lg,L,sq,fun j=>if j=i then none else sn j,bU,nx⟩*F) w'
  rw[hsn2,hsn];have HSn:=ah hsn;clear hsn hsn2;go_enter Tryz.func43, Tryz.ntmps43;go_wp2_with fail;go_ret;exact⟨rfl,Sat.wJ (v:=⟨lg,L,sq,sn,bU,nx⟩) HT.o HE.o (by rw[dW];exact HS.o)⟩
 | some q=>
  rw[hsn] at hlk;replace hlk:(Instr.lookup 111 (.map (some mb)) (.int .i64 i) true).run Tryz.prog w = .ok (.tuple #[.agg #[.int .i64 (q:Int)],.bool true]) w:=hlk;have hs1:=hs.af 135 #[.int .i64 (q:Int)];obtain⟨w2,hrun,hs2,_⟩:=hs1.bW.map_drop (t:= 111) Tryz.underlying3 Tryz.underlying111 i hi 0;rw[IS] at hs2;have c5':(w.alloc (.cells #[.int .i64 (q:Int)] 135)).cell? ⟨b,5,none⟩=some (.map (some mb)):=hs1.av.cell 5;have HS:=ah hs2;clear h hs0 hs ht he hs1 hs2;show Calls _ _ _ _ fun x w'=>x = .returned (.int .i64 (if (sn i).isSome=true then 0 else 104))/\Sat w0 (dD b d s ⟨lg,L,sq,fun j=>if j=i then none else sn j,bU,nx⟩*F) w'
  rw[hsn];clear hsn;go_enter Tryz.func43, Tryz.ntmps43;go_wp2_with fail;go_ret;refine⟨rfl,Sat.wJ (tb:=tb) (hr:=hr) (mb:=mb) (ns:=ns) (v:=⟨lg,L,sq,fun j=>if j=i then none else sn j,bU,nx⟩) HT.o HE.o ?_⟩;rw[dW];exact(HS.o.of (show _=Pt w.heap.size 135 #[.int .i64 (q:Int)]*(Pt b 113 (ez d s lg tb sq mb nx false)*(bK tb hr ns*(bY Tryz.prog 3 mb bU (iy (fun j=>if j=i then none else sn j))*F))) by ac_rfl)).right
end
theorem tH (i:Int) (b hr:Nat) (ns:List Nd) (w:World) (hv:View w b hr ns) (hok:xN ns) (hsm:Small ns):
 Calls Tryz.prog 122 #[.pointer (some ⟨b,0,none⟩),.int .i64 i] w (mI w (Bp i ns)):=by
 have HV:=ah hv;have HO:=ah hok;have HS:=ah hsm;have q0:=hv.head;clear hv hok hsm;by_cases h:0<=i/\i<8
 .obtain⟨h0,h8⟩:=h;have HL:Hid (Bp i ns=oU [] i.toNat ns):=by unfold Hid Bp;rw[if_pos ⟨h0,h8⟩]
  obtain⟨j,rfl⟩: ∃ j:Nat,i=j:=⟨i.toNat,by omega⟩;have hj:j<8:=by omega
  have q1:=HV.o.links j hj;have h1:¬ (j:Int)<0:=by omega
  have h2:¬ (8:Int)<=j:=by omega
  have h3:(j:Int)<8:=by omega
  obtain⟨PP,hPP⟩: ∃ PP,dX (di dq ns j) = .pointer PP:=⟨_,rfl⟩;rw[hPP] at q1;have HP:=ah hPP;clear hPP;go_enter Tryz.func122, Tryz.ntmps122;go_wp2_with (go_at_call 154;rw[<-HP.o];refine(sa none 0 [] b hr ns [] ns j w (Rd.nil _ _) HV.o HO.o HS.o rfl hj).mono ?_;rintro x w1 ⟨es,A,c,rfl,he,hs⟩;have HE:=ah he;have HS1:=ah hs;clear he hs);go_ret;rw[HL.o];exact⟨es,A,c,rfl,HE.o,HS1.o⟩
 .have HL:Hid (Bp i ns=[]):=by unfold Hid Bp;rw[if_neg h]
  have h1:i<0\/(0<=i/\8<=i):=by omega
  rw[HL.o];clear h;rcases h1 with h1 | ⟨h1,h2⟩
  .go_enter Tryz.func122, Tryz.ntmps122;go_wp2_with fail;go_ret;exact ux w
  .have h3:¬ i<0:=by omega
   go_enter Tryz.func122, Tryz.ntmps122;go_wp2_with fail;go_ret;exact ux w
section
variable {w0 w:World} {F:SP}
theorem I7 (b d s:Nat) (v:Sd) (h:Sat w0 (dD b d s v*F) w) (hx:v.next<=1000000000) (hf:v.bU<=1000000):
 Calls Tryz.prog 41 #[.pointer (some ⟨b,0,none⟩)] w fun x w'=>x = .returned (.int .i64 (v.next:Nat))/\Sat w0 (dD b d s { v with snaps:=fun j=>if j=((v.next:Nat):Int) then some v.seq else v.snaps j,bU:=v.bU+1,next:=v.next+1 }*F) w':=by
 obtain⟨lg,L,sq,sn,bU,nx⟩:=v;obtain⟨tb,hr,mb,ns,⟨ht,he⟩,hs0⟩:=h.db;dsimp only at ht he hx hf;have hs:=hs0.of (dW ..);dsimp only at hs;have c5:w.cell? ⟨b,5,none⟩=some (.map (some mb)):=hs.cell 5;have c6:w.cell? ⟨b,6,none⟩=some (.int .i64 (nx:Int)):=hs.cell 6;have HNow:Hid (∀ W,aq No w W->Calls Tryz.prog 76 #[.pointer (some ⟨b,0,none⟩)] W fun x w'=>x = .returned (.agg #[.int .i64 (sq:Int)])/\aq No W w'):=fun W k=>vW b sq W (k.cell (hs.cell 4) id)
 have HT:=ah ht;have HE:=ah he;have HS:=ah hs;have C5:=ah c5;have C6:=ah c6;have HDrew:Hid (aq No w w.drew):=(aq.refl No w).drew;have HMs:Hid (∀ W,aq No w W-> ∃ w3,(Instr.mapUpdate 111 (.map (some mb)) (.int .i64 (nx:Int)) (.agg #[.int .i64 (sq:Int)])).run Tryz.prog W = .ok () w3/\Sat w0 (Pt b 113 (ez d s lg tb sq mb nx false)*(bK tb hr ns*(bY Tryz.prog 3 mb (bU+1) (iy (fun j=>if j=((nx:Nat):Int) then some sq else sn j))*F))) w3):=fun W k=>by
  obtain⟨w3,hrun,hs3,_⟩:=((HS.o.new k).bD).oE (t:= 111) Tryz.underlying3 Tryz.underlying111 (nx:Int) (by omega) (.agg #[.int .i64 (sq:Int)]) (by unfold maxLen;omega);rw[Ji] at hs3;exact⟨w3,hrun,hs3.Nx⟩
 clear h hs0 hs ht he;go_enter Tryz.func41, Tryz.ntmps41;go_upto_region 1 with fail;refine wp_region_held_drew (S:=fun w'=>w'.cell? ⟨b,5,none⟩=some (.map (some mb))/\w'.cell? ⟨b,6,none⟩=some (.int .i64 (nx:Int))) (by kernel_rfl) ⟨(by exact c5),(by exact c6)⟩ ?_;intro hS0;refine an 0 1 2 3 ?_;refine an 4 5 6 7 ?_;refine cH 8 ?_;refine bR 9 fun K hK=>?_
 go_simp;go_at_call 76;(with_reducible refine(HNow.o _ HDrew.o).mono ?_);rintro e w2 ⟨rfl,k2⟩;have HK2:=ah (HDrew.o.tr k2);clear k2
 refine hK.out _ _ ⟨HK2.o.cell C5.o id,HK2.o.cell C6.o id⟩ (fun hS0=>?_);clear hK K;refine bR 10 fun K hK=>?_
 go_simp;obtain⟨w3,hrun,hs3⟩:=HMs.o _ HK2.o;have HS3:=ah hs3;clear hs3;simp only[hrun,Result.andThen_ok];clear hrun;refine hK.out _ _ ⟨HS3.o.cell 5,HS3.o.cell 6⟩ (fun hS0=>?_);clear hK K;refine wpAnyH_done (by kernel_rfl) ?_ _;have c6':=HS3.o.cell 6;have f6':=HS3.o.frozen 6;have HS4:=ah (HS3.o.set 6 (.int .i64 ((nx:Int)+1)));have c6'':(w3.setCell ⟨b,6,none⟩ (.int .i64 ((nx:Int)+1))).cell? ⟨b,6,none⟩=some (.int .i64 ((nx:Int)+1)):=HS4.o.cell 6;clear c5 c6;go_wp2_with fail;go_ret;refine⟨by first | rfl | (rw[show (nx:Int)+1 - 1=nx by omega];rfl),Sat.wJ (tb:=tb) (hr:=hr) (mb:=mb) (ns:=ns) (v:=⟨lg,L,sq,fun j=>if j=((nx:Nat):Int) then some sq else sn j,bU+1,nx+1⟩) HT.o HE.o ?_⟩;rw[dW];dsimp only;rw[show ((nx+1:Nat):Int)=(nx:Int)+1 by omega];exact HS4.o
theorem Fw (b d s:Nat) (v:Sd) (i:Int) (K:cW) (hi: -9223372036854775808<=i/\i<=9223372036854775807) (hk:Rd w K.1 K.2.2) (h:Sat w0 (dD b d s v*F) w) (hL:v.L.length<=90000) (q:Option (List UInt8)) (er:Int) (hq:(v.snaps i=none/\q=none/\er=104)\/ ∃ sq,v.snaps i=some sq/\q=ew K.2.2 sq v.L/\er=0):
 Calls Tryz.prog 42 #[.pointer (some ⟨b,0,none⟩),.int .i64 i,.slice K.1 K.2.2.length K.2.1] w fun x w'=> ∃ A c,x = .returned (.tuple #[.slice A (q.getD []).length c,.bool q.isSome,.int .i64 er])/\Sat w0 (Row 5 1 (.slice A (q.getD []).length c) (q.getD []).length ((q.getD []).map bv)*(dD b d s v*F)) w':=by
 obtain⟨lg,L,sq,sn,bU,nx⟩:=v;obtain⟨tb,hr,mb,ns,⟨ht,he⟩,hs0⟩:=h.db;dsimp only at ht he hL hq;have hs:=hs0.of (dW ..);dsimp only at hs;have c5:w.cell? ⟨b,5,none⟩=some (.map (some mb)):=hs.cell 5;have hlk:=oP hs.bD i hi;have HT:=ah ht;have HE:=ah he;rcases hq with ⟨h1,rfl,rfl⟩ | ⟨sx,h1,h2,rfl⟩
 .rw[h1] at hlk;replace hlk:(Instr.lookup 111 (.map (some mb)) (.int .i64 i) true).run Tryz.prog w = .ok (.tuple #[.agg #[.int .i64 0],.bool false]) w:=hlk;have HS:=ah (hs.aC (.cells #[.int .i64 0] 135));clear h hs0 hs ht he h1 hk;go_enter Tryz.func42, Tryz.ntmps42;go_wp2_with fail;go_ret3
  exact⟨none,0,rfl,(Sat.wJ (v:=⟨lg,L,sq,sn,bU,nx⟩) HT.o HE.o (by rw[dW];exact HS.o)).aI 5 1⟩
 .rw[h1] at hlk;replace hlk:(Instr.lookup 111 (.map (some mb)) (.int .i64 i) true).run Tryz.prog w = .ok (.tuple #[.agg #[.int .i64 (sx:Int)],.bool true]) w:=hlk;have hs1:=hs.af 135 #[.int .i64 (sx:Int)];obtain⟨W1,hW1⟩: ∃ W1,W1=w.alloc (.cells #[.int .i64 (sx:Int)] 135):=⟨_,rfl⟩;rw[<-hW1] at hs1;obtain⟨vb,hvb⟩: ∃ vb,vb=w.heap.size:=⟨_,rfl⟩;rw[<-hvb] at hs1;have HW:=ah hW1;have HVb:=ah hvb;have x0:W1.cell? ⟨vb,0,none⟩=some (.int .i64 (sx:Int)):=hs1.cell 0;have c3:W1.cell? ⟨b,3,none⟩=some (.pointer (some ⟨tb,0,none⟩)):=hs1.av.cell 3;have HGet:Hid (∀ W,aq No W1 W->Calls Tryz.prog 78 #[.agg #[.int .i64 (sx:Int)],.pointer (some ⟨tb,0,none⟩),.slice K.1 K.2.2.length K.2.1] W (FJ w0 (bK tb hr ns*(Pt vb 135 #[.int .i64 (sx:Int)]*(Pt b 113 (ez d s lg tb sq mb nx false)*(bY Tryz.prog 3 mb bU (iy sn)*F)))) q)):=fun W k=>by
   have h9:=xi tb hr ns L.length sx K ((show Rd W1 K.1 K.2.2 by rw[hW1];exact hk.alloc _).new k) ((hs1.new k).bD) ht (by omega);rw[he, <-h2] at h9;exact h9
  have HDrew:Hid (aq No W1 W1.drew):=(aq.refl No W1).drew;clear h hs0 hs ht he h1 h2 hk hs1 hW1 hvb;go_enter Tryz.func42, Tryz.ntmps42;go_upto_region 4 with fail;rw[<-HW.o, <-HVb.o];clear hlk c5 HW HVb;refine wp_region_held_drew (S:=fun w'=>w'.cell? ⟨b,3,none⟩=some (.pointer (some ⟨tb,0,none⟩))/\w'.cell? ⟨vb,0,none⟩=some (.int .i64 (sx:Int))) (by kernel_rfl) ⟨(by exact c3),(by exact x0)⟩ ?_;intro hS0;refine an 0 1 2 3 ?_;refine cm 4 5 ?_;refine bR 6 fun K hK=>?_
  go_simp;go_at_call 78;(with_reducible refine(HGet.o _ HDrew.o).mono ?_);rintro e w3 ⟨A,c,rfl,hs3⟩;have HS3:=ah hs3;clear hs3
  refine hK.out _ _ ⟨HS3.o.bW.cell 3,HS3.o.bD.cell 0⟩ (fun hS0=>?_);clear hK K;refine an 7 8 9 10 ?_;refine cH 11 ?_;refine wpAnyH_done (by kernel_rfl) ?_ _;go_wp2_with fail;go_ret3
  refine⟨A,c,rfl,?_⟩;have h1:=HS3.o.of (show _=Pt vb 135 #[.int .i64 (sx:Int)]*(Pt b 113 (ez d s lg tb sq mb nx false)*(bK tb hr ns*(bY Tryz.prog 3 mb bU (iy sn)*(Row 5 1 (.slice A (q.getD []).length c) (q.getD []).length ((q.getD []).map bv)*F)))) by ac_rfl);exact(Sat.wJ (v:=⟨lg,L,sq,sn,bU,nx⟩) HT.o HE.o (by rw[dW];exact h1.right)).av
theorem Ez (b d s:Nat) (v:Sd) (i:Int) (f t:cW) (aD:Int) (hi: -9223372036854775808<=i/\i<=9223372036854775807) (hf:Rd w f.1 f.2.2) (ht':Rd w t.1 t.2.2) (h:Sat w0 (dD b d s v*F) w) (hL:v.L.length<=90000) (l:List Kv) (er:Int)
 (hq:(v.snaps i=none/\l=[]/\er=104)\/ ∃ sq,v.snaps i=some sq/\l=(dU f.2.2 t.2.2 (eP sq v.L)).take aD.toNat/\er=0):
 Calls Tryz.prog 45 #[.pointer (some ⟨b,0,none⟩),.int .i64 i,.slice f.1 f.2.2.length f.2.1,.slice t.1 t.2.2.length t.2.1,.int .i64 aD] w fun x w'=> ∃ (es qs:List En) (B:Option Addr) (c:Nat),x = .returned (.tuple #[.slice B qs.length c,.int .i64 er])/\(∀ q ∈ qs,q ∈ es)/\qs.map (fun q=>cT q.ao)=l/\
  Sat w0 (Row 65 2 (.slice B qs.length c) qs.length (qs.flatMap cM)*(aW es*(dD b d s v*F))) w':=by
 obtain⟨lg,L,sq,sn,bU,nx⟩:=v;obtain⟨tb,hr,mb,ns,⟨ht,he⟩,hs0⟩:=h.db;dsimp only at ht he hL hq;have hs:=hs0.of (dW ..);dsimp only at hs;have c5:w.cell? ⟨b,5,none⟩=some (.map (some mb)):=hs.cell 5;have hlk:=oP hs.bD i hi;have hpw:L.Pairwise dJ:=he ▸ lM ht.ok;have HT:=ah ht;have HE:=ah he;rcases hq with ⟨h1,rfl,rfl⟩ | ⟨sx,h1,h2,rfl⟩
 .rw[h1] at hlk;replace hlk:(Instr.lookup 111 (.map (some mb)) (.int .i64 i) true).run Tryz.prog w = .ok (.tuple #[.agg #[.int .i64 0],.bool false]) w:=hlk;have HS:=ah (hs.aC (.cells #[.int .i64 0] 135));clear h hs0 hs ht he h1 hf ht' hpw;go_enter Tryz.func45, Tryz.ntmps45;go_wp2_with fail;go_ret2;refine⟨[],[],none,0,rfl,by simp,rfl,?_⟩;have h1:=(Sat.wJ (v:=⟨lg,L,sq,sn,bU,nx⟩) HT.o HE.o (by rw[dW];exact HS.o)).aI 65 2;exact h1.of (show _=Row 65 2 (.slice none 0 0) 0 []*(aV*_) by rw[aX])
 .rw[h1] at hlk;replace hlk:(Instr.lookup 111 (.map (some mb)) (.int .i64 i) true).run Tryz.prog w = .ok (.tuple #[.agg #[.int .i64 (sx:Int)],.bool true]) w:=hlk;have hs1:=hs.af 135 #[.int .i64 (sx:Int)];obtain⟨W1,hW1⟩: ∃ W1,W1=w.alloc (.cells #[.int .i64 (sx:Int)] 135):=⟨_,rfl⟩;rw[<-hW1] at hs1;obtain⟨vb,hvb⟩: ∃ vb,vb=w.heap.size:=⟨_,rfl⟩;rw[<-hvb] at hs1;have HW:=ah hW1;have HVb:=ah hvb;have x0:W1.cell? ⟨vb,0,none⟩=some (.int .i64 (sx:Int)):=hs1.cell 0;have c3:W1.cell? ⟨b,3,none⟩=some (.pointer (some ⟨tb,0,none⟩)):=hs1.av.cell 3;have hf1:Rd W1 f.1 f.2.2:=by rw[hW1];exact hf.alloc _
  have ht1:Rd W1 t.1 t.2.2:=by rw[hW1];exact ht'.alloc _
  have HSc:Hid (∀ W,aq No W1 W->Calls Tryz.prog 77 #[.agg #[.int .i64 (sx:Int)],.pointer (some ⟨tb,0,none⟩),.slice f.1 f.2.2.length f.2.1,.slice t.1 t.2.2.length t.2.1,.int .i64 aD] W (wA W ((cC sx none (mr f.2.2 t.2.2 L)).take aD.toNat))):=fun W k=>uR hs1.bD ht he hL sx aD f t hf1 ht1 k
  have HDrew:Hid (aq No W1 W1.drew):=(aq.refl No W1).drew;have HS1:=ah hs1;have HL:=ah h2;have HPw:=ah hpw;clear h hs0 hs ht he h1 h2 hf ht' hs1 hW1 hvb hf1 ht1 hpw;go_enter Tryz.func45, Tryz.ntmps45;go_upto_region 4 with fail;rw[<-HW.o, <-HVb.o];clear hlk c5 HW HVb;refine wp_region_held_drew (S:=fun w'=>w'.cell? ⟨b,3,none⟩=some (.pointer (some ⟨tb,0,none⟩))/\w'.cell? ⟨vb,0,none⟩=some (.int .i64 (sx:Int))) (by kernel_rfl) ⟨(by exact c3),(by exact x0)⟩ ?_;intro hS0;refine an 0 1 2 3 ?_;refine an 4 5 6 7 ?_;refine bR 8 fun K hK=>?_
  go_simp;go_at_call 77;(with_reducible refine(HSc.o _ HDrew.o).mono ?_);rintro e w3 ⟨es,qs,B,c,rfl,hin,hqs,hs3⟩;have HIn:=ah hin;have HQs:=ah hqs;have HS3:=ah ((HS1.o.new HDrew.o).join hs3 (bf (bM _ _ _ _ _) (cS _)));clear hin hqs hs3
  refine hK.out _ _ ⟨HS3.o.bD.cell 3,HS3.o.av.cell 0⟩ (fun hS0=>?_);clear hK K;refine cm 9 10 ?_;refine wpAnyH_done (by kernel_rfl) ?_ _;go_wp2_with fail;go_ret2;refine⟨es,qs,B,c,rfl,HIn.o,?_,?_⟩
  .have h2:=congrArg (List.map cT) HQs.o;rw[List.map_map] at h2;rw[show (fun q:En=>cT q.ao)=cT ∘ En.ao from rfl,h2,List.map_take,HL.o];show (eP sx (mr f.2.2 t.2.2 L)).take _=_;rw[zf HPw.o]
  .have h1:=HS3.o.of (show _=Pt vb 135 #[.int .i64 (sx:Int)]*(Pt b 113 (ez d s lg tb sq mb nx false)*(bK tb hr ns*(bY Tryz.prog 3 mb bU (iy sn)*(Row 65 2 (.slice B qs.length c) qs.length (qs.flatMap cM)*(aW es*F))))) by ac_rfl);exact(Sat.wJ (v:=⟨lg,L,sq,sn,bU,nx⟩) HT.o HE.o (by rw[dW];exact h1.right)).of (by ac_rfl)
end
end Go.Proofs.YtmbaiglpgaoogaaGreat
