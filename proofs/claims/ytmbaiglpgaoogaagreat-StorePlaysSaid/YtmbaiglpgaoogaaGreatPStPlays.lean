/- StorePlays: the walk. (Written by gen_stplays.py.) -/
import Derived.Test.YtmbaiglpgaoogaaGreatP01
import Derived.Test.YtmbaiglpgaoogaaGreatP02
import Derived.Test.YtmbaiglpgaoogaaGreatP03
import Derived.Test.YtmbaiglpgaoogaaGreatP04
import Derived.Test.YtmbaiglpgaoogaaGreatP05
import Derived.Test.YtmbaiglpgaoogaaGreatP06
import Derived.Test.YtmbaiglpgaoogaaGreatP07
import Derived.Test.YtmbaiglpgaoogaaGreatP08
import Derived.Test.YtmbaiglpgaoogaaGreatP09
import Derived.Test.YtmbaiglpgaoogaaGreatP10
import Derived.Test.YtmbaiglpgaoogaaGreatP11
set_option maxHeartbeats 16000000
set_option linter.unusedVariables false
set_option maxRecDepth 100000
namespace Go.Proofs.YtmbaiglpgaoogaaGreat
open Go.RowKit Z
theorem LR (A:Option Addr) (c:Nat) (l:List K5) (w:World) (hl:Mv w A c l):
 Calls Tryz.prog 14 #[.slice A l.length c] w (JD true w):=by
 have HB:Hid (Calls Tryz.prog 25 #[.int .i64 8192] w fun e w'=> ∃ d b,e = .returned (.tuple #[.pointer (some ⟨d,0,none⟩),.pointer (some ⟨b,0,none⟩)])/\cX w bF b d 8192 0 1 0 1 [] (fun _=>none) w'):=oG (w0:=w) (w:=w) (F:=bF) 8192 (by omega) (Sat.start w);have HWk:Hid (∀ w2 b d,cX w bF b d 8192 0 1 0 1 [] (fun _=>none) w2->Calls Tryz.prog 26 #[] w2 fun e w'=>e = .returned (.bool true)/\cX w bF b d 8192 0 1 0 1 [] (fun _=>none) w'):=fun w2 b d h=>by
  refine(wB (w0:=w2) (F:=bF) (Sat.start w2)).mono ?_;rintro e w' ⟨rfl,hs⟩;exact⟨rfl,h.new hs.aL⟩
 have HL:=ah hl;have hl1:l.length<=17592186043904:=by have:=hl.2.2.2.1;omega
 clear hl;go_enter Tryz.func14, Tryz.ntmps14;go_upto_region 4 with (first
  | (go_at_call 25;(with_reducible refine HB.o.mono ?_);rintro e w2 ⟨d,b,rfl,hs⟩;have HS2:=ah hs;clear hs)
  | (go_at_call 26;(with_reducible refine(HWk.o _ _ _ HS2.o).mono ?_);rintro e w3 ⟨rfl,hs⟩;have HS3:=ah hs;clear hs))
 clear HB HWk HS2;go_upto_region 6 with fail;have hs4:cX w (eN w3.heap.size [] [] []*bF) b d 8192 0 1 0 1 [] (fun _=>none) (w3.alloc (.cells #[.slice none 0 0,.slice none 0 0,.slice none 0 0] 36)):=(HS3.o.of (iU bF).symm).map fun G hG=>(hG.Ha).of (by rw[iU];ac_rfl)
 obtain⟨g,hg⟩: ∃ g,g=w3.heap.size:=⟨_,rfl⟩;obtain⟨W4,hW4⟩: ∃ W4,W4=w3.alloc (.cells #[.slice none 0 0,.slice none 0 0,.slice none 0 0] 36):=⟨_,rfl⟩;rw[<-hg, <-hW4] at hs4
 try simp only[World.size_alloc]
 have hsz:W4.heap.size=w3.heap.size+1:=by rw[hW4,World.size_alloc]
 rw[<-hW4, <-hsz, <-hg];have hs5:cX w (eN g [] [] []*(Lv W4.heap.size 0*bF)) b d 8192 0 1 0 1 [] (fun _=>none) (W4.alloc (.cells #[.slice none 0 0,.slice none 0 0,.slice none 0 0,.slice none 0 0,.slice none 0 0,.slice none 0 0] 91)):=hs4.map fun G hG=>(Nl hG).of (by rw[iU,iU];ac_rfl)
 have HS5:=ah hs5;clear hs4 hs5 HS3 hW4 hsz hg;generalize W4.heap.size=kb at*
 go_wp2_with fail;go_loopw [7,4] (fun iv bv wr=> ∃ (i b:Nat),i<=l.length/\i<=80/\iv = .int .i64 (i:Int)/\bv = .pointer (some ⟨b,0,none⟩)/\Hid (∃ M,LV M/\Mt w bF b d 8192 (12*i) (1+2*i) 0 g kb i i M wr)) (fun iv _ _=>90 - (intOf iv).toNat)
 case atStart=>exact⟨0,b,by omega,by omega,rfl,rfl,[],(fun p hp=>by cases hp),[],[],by simp,(fun N hN=>by cases hN),by rw[Me];exact HS5.o⟩
 case round=>
  obtain⟨i,b,hi,hi8,rfl,rfl,HD⟩:=hrel;by_cases hlt:i<l.length/\i<80
  .obtain⟨hlt,h80⟩:=hlt;obtain⟨M,hM,Ms,gs,hq,hMs,hS⟩:=HD.o;obtain⟨lb,lo,rfl,y0,y1,y2,y3,y4,y5,y6,y7⟩:=Nf (HL.o.2.2.1.new hS.sat.aL) hlt;have HIn:=ah (HL.o.2.2.2.2 _ (List.getElem_mem hlt));generalize l[i]=x at*
   obtain⟨op,xn,bA,bc,ps,⟨kA,kc,kl⟩,⟨tA,tc,tl⟩,Lt,ec,kp,torn,cut⟩:=x;replace y0:_=some (Value.int .i64 op):=y0;replace y1:_=some (Value.int .i64 xn):=y1;replace y2:_=some (Value.slice bA ps.length bc):=y2;replace y3:_=some (Value.slice kA kl.length kc):=y3;replace y4:_=some (Value.slice tA tl.length tc):=y4;replace y5:_=some (Value.slice Lt kp.length ec):=y5;replace y6:_=some (Value.int .i64 torn):=y6;replace y7:_=some (Value.int .i64 cut):=y7;have hii:(i:Int)<l.length:=by omega
   have hi80:(i:Int)<80:=by omega
   have HM:=ah hM;have HMs:=ah hMs;have hq80:Ms.length<=i:=hq;have HCt:Hid (Calls Tryz.prog 44 #[.agg #[.int .i64 op,.int .i64 xn,.slice bA ps.length bc,.slice kA kl.length kc,.slice tA tl.length tc,.slice Lt kp.length ec,.int .i64 torn,.int .i64 cut]] wr fun e w'=> ∃ B c,e = .returned (.agg #[.int .i64 op,.int .i64 xn,.slice B (Lx ps).length c,.slice kA kl.length kc,.slice tA tl.length tc,.slice Lt kp.length ec,.int .i64 torn,.int .i64 cut])/\cX w (Row 43 3 (.slice B (Lx ps).length c) (Lx ps).length ((Lx ps).flatMap fI)*(eN g M Ms gs*(Lv kb i*bF))) b d 8192 (12*i) (1+2*i) 0 (Ms.length+1) M (Lu Ms gs) w'):=ah (NL ⟨op,xn,bA,bc,ps,(kA,kc,kl),(tA,tc,tl),Lt,ec,kp,torn,cut⟩ hS (fun W hW=>HIn.o.batch.2.2.1.new hW.aL) ⟨HIn.o.batch.1,by have:=HIn.o.batch.2.1;unfold maxLen at this;show bc<=_;omega⟩ (fun p hp=>⟨(HIn.o.batch.2.2.2.2 p hp).1.2.1,(HIn.o.batch.2.2.2.2 p hp).2.2.1⟩));clear hlt h80 hM hMs hS hq HD;go_upto_region 10 with (go_at_call 44;(with_reducible refine HCt.o.mono ?_);rintro e w5 ⟨B,c5,rfl,hs⟩;have HS6:=ah hs;clear hs)
   clear HCt y0 y1 y2 y3 y4 y5 y6 y7;have HPr:Hid (∀ W,ao No w W->gZ W (Lx ps)):=ah fun W k=>Nw (HIn.o.batch.r.new k)
   obtain⟨cp,hcp⟩: ∃ cp,cp=Lx ps:=⟨_,rfl⟩;have HCp:=ah hcp;rw[<-hcp] at HS6 HPr;rw[<-hcp];have hcl:cp.length<=12:=by rw[hcp];exact MY ps
   obtain⟨CS,hCS⟩: ∃ CS:Array Value,CS = #[.int .i64 op,.int .i64 xn,.slice B cp.length c5,.slice kA kl.length kc,.slice tA tl.length tc,.slice Lt kp.length ec,.int .i64 torn,.int .i64 cut]:=⟨_,rfl⟩;rw[<-hCS];have h7:cX w (Pt w5.heap.size 80 CS*(Row 43 3 (.slice B cp.length c5) cp.length (cp.flatMap fI)*(eN g M Ms gs*(Lv kb i*bF)))) b d 8192 (12*i) (1+2*i) 0 (Ms.length+1) M (Lu Ms gs) (w5.alloc (.cells CS 80)):=HS6.o.Ls (.cells CS 80);revert h7;generalize w5.alloc _=W7;intro h7;generalize w5.heap.size=E at*
   have HCl:Hid (∀ X W,Sat w (Pt E 80 CS*X) W->W.cell? ⟨E,0,none⟩=some (.int .i64 op)/\W.cell? ⟨E,2,none⟩=some (.slice B cp.length c5)):=ah fun X W hW=>⟨by rw[hW.cell 0,hCS];rfl,by rw[hW.cell 2,hCS];rfl⟩
   have HLd:Hid (∀ X W,Sat w (Pt E 80 CS*X) W->W.cell? ⟨E,0,none⟩=some (.int .i64 op)/\W.cell? ⟨E,1,none⟩=some (.int .i64 xn)/\W.cell? ⟨E,2,none⟩=some (.slice B cp.length c5)/\W.cell? ⟨E,3,none⟩=some (.slice kA kl.length kc)/\W.cell? ⟨E,4,none⟩=some (.slice tA tl.length tc)/\W.cell? ⟨E,5,none⟩=some (.slice Lt kp.length ec)/\W.cell? ⟨E,6,none⟩=some (.int .i64 torn)/\W.cell? ⟨E,7,none⟩=some (.int .i64 cut)):=ah fun X W hW=>⟨by rw[hW.cell 0,hCS];rfl,by rw[hW.cell 1,hCS];rfl,by rw[hW.cell 2,hCS];rfl,by rw[hW.cell 3,hCS];rfl,by rw[hW.cell 4,hCS];rfl,by rw[hW.cell 5,hCS];rfl,by rw[hW.cell 6,hCS];rfl,by rw[hW.cell 7,hCS];rfl⟩
   have x0:=(HCl.o _ _ h7.sat).1;have HS7:=ah h7;clear h7 hCS hcp HS6;go_upto_region 13 with (go_at_call 27;(with_reducible refine(H8 _ 10 _ (by omega) (by omega)).mono ?_);rintro e wx ⟨rfl,rfl⟩)
   have HWi:=ah (JL op 10 (by omega));have hwi:=HWi.o;have H0e:Hid (wi op 10=wi op 10):=rfl;obtain⟨dd,hdd⟩: ∃ dd,dd=wi op 10:=⟨_,rfl⟩;rw[<-hdd] at hwi;rw[<-hdd];have HDd:=ah hdd;clear x0 HWi H0e hdd;by_cases h0:dd=0
   .have hd0:(dd:Int)=0:=by omega
    rw[hd0];clear hd0 hwi;obtain⟨j0,hj,hy0,hy1,hy2⟩:=info_parts AH;have Hj:=ah hj;have Hy0:=ah hy0;have Hy1:=ah hy1;have Hy2:=ah hy2;obtain⟨PE,hPE⟩: ∃ PE,PE=Pt E 80 CS:=⟨_,rfl⟩;obtain⟨RB,hRB⟩: ∃ RB,RB=Row 43 3 (.slice B cp.length c5) cp.length (cp.flatMap fI):=⟨_,rfl⟩;obtain⟨Y,hY⟩: ∃ Y,Y=eN g M Ms gs*(Lv kb i*bF):=⟨_,rfl⟩;rw[<-hPE, <-hRB, <-hY] at HS7;have HY:=ah hY;have HE2:Hid (∀ X W,Sat w (PE*X) W->W.cell? ⟨E,2,none⟩=some (.slice B cp.length c5)):=ah fun X W hW=>by rw[hPE] at hW;exact(HCl.o X W hW).2
    have HRB:Hid (∀ X W,Sat w (RB*X) W->aF W B (cp.flatMap fI)/\(0<cp.length-> ∃ b o,B=some ⟨b,o,none⟩/\ ∀ (X:SP) (W:World),Sat w (RB*X) W-> ∀ i (hi:i<cp.length),W.cell? ⟨b,o+i*3,none⟩=some (aJ cp[i].key)/\W.cell? ⟨b,o+i*3+1,none⟩=some (aJ cp[i].value)/\W.cell? ⟨b,o+i*3+2,none⟩=some (.bool cp[i].dead))):=ah fun X W hW=>by
     rw[hRB] at hW ⊢;exact⟨hW.cj,fun h0=>My hW h0⟩
    have HFw:Hid (∀ p ∈ cp,p.key.2.2.length<=140/\p.value.2.2.length<=200):=ah (by rw[HCp.o];exact Md);clear hj hy0 hy1 hy2 hPE hRB hY HLd HCl HDd;go_wp2_with fail;go_loopw [9,10] (fun lv iv wr=> ∃ (j c:Nat) (L:Option Addr) (cs:List Pu),j<=cp.length/\iv = .int .i64 (j:Int)/\lv = .slice L j c/\Hid (cs.length=j/\cs.map Pu.bq=(cp.take j).map Pu.bq/\cX w (Row 43 3 (.slice L j c) j (cs.flatMap fI)*(Ly cs*(PE*(RB*Y)))) b d 8192 (12*i) (1+2*i) 0 (Ms.length+1) M (Lu Ms gs) wr)) (fun _ iv _=>cp.length - (intOf iv).toNat)
    case atStart=>exact⟨0,0,none,[],by omega,rfl,rfl,rfl,rfl,HS7.o.map fun G hG=>(hG.aN 43 3).of (by show _=G*(_*(bF*_));rw[bf];exact aX _ _ _)⟩
    case round=>
     obtain⟨j,c,L,cs,hj,rfl,rfl,HD⟩:=hrel;by_cases hlt:j<cp.length
     .obtain⟨hcsl,hcs,hS⟩:=HD.o;obtain⟨rb,ro,rfl,hrow⟩:=(HRB.o _ _ hS.sat.right.right.right).2 (by omega);have HSt:Hid (∀ p:Pu,p.bq=cp[j].bq->(cs++[p]).map Pu.bq=(cp.take (j+1)).map Pu.bq):=ah fun p hp=>MK hlt hcs hp
      have HRd:Hid (∀ W,ao No w W->Js W cp[j]):=ah fun W k=>HPr.o W k _ (List.getElem_mem hlt)
      have hfw:=HFw.o _ (List.getElem_mem hlt);have HRo:Hid (∀ (X:SP) (W:World),Sat w (RB*X) W->W.cell? ⟨rb,ro+j*3,none⟩=some (aJ cp[j].key)/\W.cell? ⟨rb,ro+j*3+1,none⟩=some (aJ cp[j].value)/\W.cell? ⟨rb,ro+j*3+2,none⟩=some (.bool cp[j].dead)):=ah fun X W hW=>hrow X W hW j hlt
      clear hrow;generalize cp[j]=p at*
      obtain⟨⟨kA,kc2,kl2⟩,⟨vA,vc,vl⟩,dd2⟩:=p;obtain⟨hf1,hf2⟩:=hfw;replace hf1:kl2.length<=140:=hf1;replace hf2:vl.length<=200:=hf2;have HRo2:Hid (∀ (X:SP) (W:World),Sat w (RB*X) W->W.cell? ⟨rb,ro+j*3,none⟩=some (.slice kA kl2.length kc2)/\W.cell? ⟨rb,ro+j*3+1,none⟩=some (.slice vA vl.length vc)/\W.cell? ⟨rb,ro+j*3+2,none⟩=some (.bool dd2)):=HRo;have HK:Hid (∀ (X:SP) (W:World),Sat w (PE*(RB*X)) W->W.cell? ⟨E,2,none⟩=some (.slice (some ⟨rb,ro,none⟩) cp.length c5)/\W.cell? ⟨rb,ro+j*3,none⟩=some (.slice kA kl2.length kc2)/\W.cell? ⟨rb,ro+j*3+1,none⟩=some (.slice vA vl.length vc)/\W.cell? ⟨rb,ro+j*3+2,none⟩=some (.bool dd2)):=ah fun X W hW=>⟨HE2.o _ _ hW,HRo2.o _ _ hW.right⟩
      have HS0:=ah (hS.map fun G hG=>hG.drew);have HTk:Hid (Calls Tryz.prog 46 #[.slice kA kl2.length kc2] wr.drew fun e w'=> ∃ A2 c2,e = .returned (.slice A2 kl2.length c2)/\cX w (Row 5 1 (.slice A2 kl2.length c2) kl2.length (kl2.map bv)*(Row 43 3 (.slice L j c) j (cs.flatMap fI)*(Ly cs*(PE*(RB*Y))))) b d 8192 (12*i) (1+2*i) 0 (Ms.length+1) M (Lu Ms gs) w'):=ah (Nu kA kc2 kl2 (HRd.o _ HS0.o.sat.aL).1 (by omega) HS0.o);have HTv:Hid (∀ A2 c2 W,cX w (Row 5 1 (.slice A2 kl2.length c2) kl2.length (kl2.map bv)*(Row 43 3 (.slice L j c) j (cs.flatMap fI)*(Ly cs*(PE*(RB*Y))))) b d 8192 (12*i) (1+2*i) 0 (Ms.length+1) M (Lu Ms gs) W->Calls Tryz.prog 46 #[.slice vA vl.length vc] W fun e w'=> ∃ A3 c3,e = .returned (.slice A3 vl.length c3)/\cX w (Row 5 1 (.slice A3 vl.length c3) vl.length (vl.map bv)*(Row 5 1 (.slice A2 kl2.length c2) kl2.length (kl2.map bv)*(Row 43 3 (.slice L j c) j (cs.flatMap fI)*(Ly cs*(PE*(RB*Y)))))) b d 8192 (12*i) (1+2*i) 0 (Ms.length+1) M (Lu Ms gs) w'):=ah fun A2 c2 W hW=>Nu vA vc vl (HRd.o _ hW.sat.aL).2 (by omega) hW
      have hjj:(j:Int)<cp.length:=by omega
      have HCs:=ah hcsl;have x2:=(HK.o _ _ hS.sat.right.right).1;clear hS hcs hcsl HRo HD hlt HS7 HRd HRo2;go_upto_region 18 with fail;clear x2;refine wp_region_held_drew (S:=fun w'=>w'.cell? ⟨E,2,none⟩=some (.slice (some ⟨rb,ro,none⟩) cp.length c5)/\w'.cell? ⟨rb,ro+j*3,none⟩=some (.slice kA kl2.length kc2)/\w'.cell? ⟨rb,ro+j*3+1,none⟩=some (.slice vA vl.length vc)/\w'.cell? ⟨rb,ro+j*3+2,none⟩=some (.bool dd2)) (by kernel_rfl) (HK.o _ _ HS0.o.sat.right.right) ?_;intro hS0;refine an 0 1 2 3 ?_;refine an 4 5 6 8 ?_;refine an 9 10 11 12 ?_;refine an 13 15 16 17 ?_;refine cw 18 19 ?_;refine ca 20 ?_;refine bC 7 fun K hK=>?_
      go_simp;go_at_call 46;(with_reducible refine HTk.o.mono ?_);rintro e w7 ⟨A2,c2,rfl,hs⟩;have HS7:=ah hs;clear hs
      refine hK.out _ _ (HK.o _ _ HS7.o.sat.right.right.right) (fun hS0=>?_);clear hK K;refine bC 14 fun K hK=>?_
      go_simp;go_at_call 46;(with_reducible refine(HTv.o _ _ _ HS7.o).mono ?_);rintro e w14 ⟨A3,c3,rfl,hs⟩;have HS14:=ah hs;clear hs
      refine hK.out _ _ (HK.o _ _ HS14.o.sat.right.right.right.right) (fun hS0=>?_);clear hK K;refine ca 21 ?_;refine bC 22 fun K hK=>?_
      go_simp;obtain⟨G,hG,hR⟩:=HS14.o.KW;have HR:=ah hR;have HG:=ah ((hG.of (show _=Row 43 3 (.slice L j c) j (cs.flatMap fI)*(PE*(RB*(Row 5 1 (.slice A2 kl2.length c2) kl2.length (kl2.map bv)*(Row 5 1 (.slice A3 vl.length c3) vl.length (vl.map bv)*(Ly cs*(Y*G)))))) by ac_rfl)).aD (.cells #[.slice A2 kl2.length c2,.slice A3 vl.length c3,.bool dd2] 43));clear hG hR;refine hK.out _ _ (HK.o _ _ HG.o.right) (fun hS0=>?_);clear hK K;refine bC 23 fun K hK=>?_
      refine aQ rfl (.tmp 63) (.tmp 85) 22 rfl 43 j0 _ 3 56 Tryz.underlying22 Hj.o Hy0.o Hy1.o Hy2.o rfl (by decide) (.slice L j c) j (cs.flatMap fI) rfl w _ (by exact HG.o) (some ⟨w14.heap.size,0,none⟩) 1 1 [.slice A2 kl2.length c2,.slice A3 vl.length c3,.bool dd2] rfl (aR _ _ _) rfl (by intro u hu;simp at hu;rcases hu with rfl | rfl | rfl<;>rfl) (by unfold maxLen;omega) (by omega) ?_;intro A23 c23 w23 hs;have HS23:=ah hs;clear hs;refine hK.out _ _ (HK.o _ _ HS23.o.right) (fun hS0=>?_);clear hK K
      try simp only[Act.put,et,eh,ep]
      refine ca 24 ?_;refine wpAnyH_done (by kernel_rfl) ?_ _;go_wp2_with fail;go_roundw
      .refine⟨j+1,c23,A23,cs++[⟨(A2,c2,kl2),(A3,c3,vl),dd2⟩],by omega,by push_cast;rfl,rfl,by rw[List.length_append,HCs.o];rfl,HSt.o _ rfl,?_⟩;have e1:(cs++[(⟨(A2,c2,kl2),(A3,c3,vl),dd2⟩:Pu)]).flatMap fI=cs.flatMap fI++[.slice A2 kl2.length c2,.slice A3 vl.length c3,.bool dd2]:=by rw[List.flatMap_append];rfl
       have e2:Ly (cs++[(⟨(A2,c2,kl2),(A3,c3,vl),dd2⟩:Pu)])=Row 5 1 (.slice A2 kl2.length c2) kl2.length (kl2.map bv)*(Row 5 1 (.slice A3 vl.length c3) vl.length (vl.map bv)*Ly cs):=LW _ _;rw[e1,e2];exact HR.o _ _ (HS23.o.of (by ac_rfl))
      .simp[intOf];omega
     .have hje:j=cp.length:=by omega
      subst hje;obtain⟨hcsl,hcs,hS⟩:=HD.o;rw[List.take_length] at hcs;obtain⟨er,her⟩: ∃ er,er=NK (cp.map Pu.bq):=⟨_,rfl⟩;obtain⟨N,hN⟩: ∃ N,N=NA (cp.map Pu.bq) M:=⟨_,rfl⟩;have HNs:Hid (LV N):=ah (by rw[hN,HCp.o];exact Nc HM.o);have hpr:=hS.gW;have HRm:Hid (dt (cp.map Pu.bq)=0->ev 8192 (aZ (cp.map Pu.bq) M) (cp.map Pu.bq)=false):=ah fun hk=>by
       have hl12:(cp.map Pu.bq).length<=12:=by rw[List.length_map];exact hcl
       refine Mr HM.o ?_ hl12 (.inl ⟨rfl,by have:=hpr.2.1;omega⟩);rw[HCp.o] at hk ⊢;exact Mz hk
      have HWs:Hid (∀ W,cX w (Row 43 3 (.slice L cp.length c) cp.length (cs.flatMap fI)*(Ly cs*(PE*(RB*Y)))) b d 8192 (12*i) (1+2*i) 0 (Ms.length+1) M (Lu Ms gs) W->Calls Tryz.prog 20 #[.pointer (some ⟨b,0,none⟩),.slice L cp.length c] W fun x w'=>x = .returned (.int .i64 er)/\cX w (Row 43 3 (.slice L cp.length c) cp.length (cs.flatMap fI)*(Ly cs*(PE*(RB*Y)))) b d 8192 (12*i+12) (1+2*i+1) 0 (Ms.length+1) N (Lu Ms gs) w'):=ah fun W hW=>by
       rw[<-hcsl] at hW ⊢;refine(GC L c cs (by omega) (by omega) hW (fun W2 hW2=>⟨hW2.cj,hW2.right.Mu⟩) (fun p hp=>?_)).mono ?_
       .have h9:p.bq ∈ cp.map Pu.bq:=by rw[<-hcs];exact List.mem_map_of_mem hp
        obtain⟨p2,hp2,h10⟩:=List.mem_map.1 h9;have h11:=HFw.o p2 hp2;have h12:p2.key.2.2=p.key.2.2:=congrArg cE.key h10;have h13:p2.value.2.2=p.value.2.2:=congrArg cE.value h10;rw[<-h12, <-h13];omega
       .rintro x w' ⟨er2,M2,rfl,hr,hs⟩;rw[hcs] at hr;obtain⟨e1,e2⟩:=hr.of HRm.o;rw[<-her] at e1;rw[<-hN] at e2;subst e1;subst e2;exact⟨rfl,hs.mono (by omega) (by omega)⟩
      have HRw:Hid (∀ W,cX w (Row 43 3 (.slice L cp.length c) cp.length (cs.flatMap fI)*(Ly cs*(PE*(RB*Y)))) b d 8192 (12*i+12) (1+2*i+1) 0 (Ms.length+1) N (Lu Ms gs) W->Calls Tryz.prog 22 #[.pointer (some ⟨g,0,none⟩),.slice B cp.length c5] W fun x w'=>x = .returned (.int .i64 er)/\cX w (Row 43 3 (.slice L cp.length c) cp.length (cs.flatMap fI)*(LC cs*(PE*(RB*(eN g N Ms gs*(Lv kb i*bF)))))) b d 8192 (12*i+12) (1+2*i+1) 0 (Ms.length+1) N (Lu Ms gs) w'):=ah fun W hW=>by
       rw[HY.o] at hW;refine(Nq (F:=Row 43 3 (.slice L cp.length c) cp.length (cs.flatMap fI)*(Ly cs*(PE*(RB*(Lv kb i*bF))))) B c5 cp (hW.of (by ac_rfl)) (fun W2 hW2=>⟨(HRB.o _ _ hW2.right.right.right).1,HPr.o _ hW2.aL⟩) (by have:=hpr.2.1;omega) (fun p hp=>by have:=HFw.o p hp;omega)).mono ?_;rintro x w' ⟨rfl,hs⟩;rw[<-her];rw[<-hN] at hs;refine⟨rfl,hs.map fun G hG=>?_⟩;exact(hG.of (show _=Ly cs*(G*(Row 43 3 (.slice L cp.length c) cp.length (cs.flatMap fI)*(PE*(RB*(eN g N Ms gs*(Lv kb i*bF)))))) by ac_rfl)).NJ.of (by ac_rfl)
      have HFs:Hid (∀ p ∈ cs,p.key.2.2.length<=140/\p.value.2.2.length<=200):=ah fun p hp=>by
       have h9:p.bq ∈ cp.map Pu.bq:=by rw[<-hcs];exact List.mem_map_of_mem hp
       obtain⟨p2,hp2,h10⟩:=List.mem_map.1 h9;have h11:=HFw.o p2 hp2;have h12:p2.key.2.2=p.key.2.2:=congrArg cE.key h10;have h13:p2.value.2.2=p.value.2.2:=congrArg cE.value h10;rw[<-h12, <-h13];exact h11
      have HS0:=ah (hS.map fun G hG=>hG.drew);have HCs:=ah hcsl;have x2:=HE2.o _ _ hS.sat.right.right;have hge:¬ (cp.length:Int)<cp.length:=by omega
      clear hS hcs hcsl HD hlt HS7 hpr hN her HRm;go_upto_region 19 with fail;clear x2 hge;refine wp_region_held_drew (S:=fun w'=>w'.cell? ⟨E,2,none⟩=some (.slice B cp.length c5)) (by kernel_rfl) (HE2.o _ _ HS0.o.sat.right.right) ?_;intro hS0;refine an 0 1 4 5 ?_;refine ca 6 ?_;refine bC 2 fun K hK=>?_
      go_simp;go_at_call 20;(with_reducible refine(HWs.o _ HS0.o).mono ?_);rintro e w2 ⟨rfl,hs⟩;have HS12:=ah hs;clear hs
      refine hK.out _ _ (HE2.o _ _ HS12.o.sat.right.right) (fun hS0=>?_);clear hK K;refine bC 3 fun K hK=>?_
      go_simp;go_at_call 29;(with_reducible refine(kY _ _).mono ?_);rintro e wx ⟨rfl,rfl⟩
      refine hK.out _ _ (HE2.o _ _ HS12.o.sat.right.right) (fun hS0=>?_);clear hK K;refine bC 7 fun K hK=>?_
      go_simp;go_at_call 22;(with_reducible refine(HRw.o _ HS12.o).mono ?_);rintro e w7 ⟨rfl,hs⟩;have HS17:=ah hs;clear hs
      refine hK.out _ _ (HE2.o _ _ HS17.o.sat.right.right) (fun hS0=>?_);clear hK K;refine ca 8 ?_;refine wpAnyH_done (by kernel_rfl) ?_ _;clear HWs HRw HS0;obtain⟨RL,hRL⟩: ∃ RL,RL=Row 43 3 (.slice L cp.length c) cp.length (cs.flatMap fI):=⟨_,rfl⟩;rw[<-hRL] at HS17;have HRL:Hid (∀ X W,Sat w (RL*X) W->0<cs.length-> ∃ b o,L=some ⟨b,o,none⟩/\ ∀ (X:SP) (W:World),Sat w (RL*X) W-> ∀ i (hi:i<cs.length),W.cell? ⟨b,o+i*3,none⟩=some (aJ cs[i].key)/\W.cell? ⟨b,o+i*3+1,none⟩=some (aJ cs[i].value)/\W.cell? ⟨b,o+i*3+2,none⟩=some (.bool cs[i].dead)):=ah fun X W hW h0=>by
       rw[hRL, <-HCs.o] at hW ⊢;exact My hW h0
      obtain⟨Z,hZ⟩: ∃ Z,Z=PE*(RB*(eN g N Ms gs*(Lv kb i*bF))):=⟨_,rfl⟩;rw[<-hZ] at HS17;have HZ:=ah hZ;clear hRL hZ;go_wp2_with fail;go_loopw [11] (fun iv wr=> ∃ j:Nat,j<=cp.length/\iv = .int .i64 (j:Int)/\Hid (cX w (RL*(LC cs*Z)) b d 8192 (12*i+12) (1+2*i+1) 0 (Ms.length+1) N (Lu Ms gs) wr)) (fun iv _=>cp.length - (intOf iv).toNat)
      case atStart=>exact⟨0,by omega,rfl,HS17.o⟩
      case round=>
       obtain⟨j,hj2,rfl,HD⟩:=hrel;by_cases hlt:j<cp.length
       .have hjc:j<cs.length:=by rw[HCs.o];exact hlt
        obtain⟨rb,ro,rfl,hrow⟩:=HRL.o _ _ HD.o.sat (by omega);have HRo:Hid (∀ (X:SP) (W:World),Sat w (RL*X) W->W.cell? ⟨rb,ro+j*3,none⟩=some (aJ cs[j].key)/\W.cell? ⟨rb,ro+j*3+1,none⟩=some (aJ cs[j].value)):=ah fun X W hW=>⟨(hrow X W hW j hjc).1,(hrow X W hW j hjc).2.1⟩
        have HLk:Hid (∃ X:SP,LC cs=LK cs[j].key*X):=ah ⟨_,Mh hjc⟩;have HLv:Hid (∃ X:SP,LC cs=LK cs[j].value*X):=ah ⟨_,(Mh hjc).trans (aX _ _ _)⟩;obtain⟨hf1,hf2⟩:=HFs.o _ (List.getElem_mem hjc);clear hrow;generalize cs[j]=p at*
        obtain⟨⟨kA,kc2,kl2⟩,⟨vA,vc,vl⟩,dd2⟩:=p;replace hf1:kl2.length<=140:=hf1;replace hf2:vl.length<=200:=hf2;have HRo2:Hid (∀ (X:SP) (W:World),Sat w (RL*X) W->W.cell? ⟨rb,ro+j*3,none⟩=some (.slice kA kl2.length kc2)/\W.cell? ⟨rb,ro+j*3+1,none⟩=some (.slice vA vl.length vc)):=HRo;have hjj:(j:Int)<cp.length:=by omega
        clear hjc HRo;go_wp2_with fail;go_loopw [12] (fun nv wr=> ∃ n:Nat,n<=vl.length/\nv = .int .i64 (n:Int)/\Hid (cX w (RL*(LC cs*Z)) b d 8192 (12*i+12) (1+2*i+1) 0 (Ms.length+1) N (Lu Ms gs) wr)) (fun nv _=>vl.length - (intOf nv).toNat)
        case atStart=>exact⟨0,by omega,rfl,HD.o⟩
        case round=>
         obtain⟨n,hn,rfl,HV⟩:=hrel;have y1:=(HRo2.o _ _ HV.o.sat).2;by_cases hnl:n<vl.length
         .obtain⟨XV,hXV⟩:=HLv.o;obtain⟨gb,x,hA,z0,z1,hs⟩:=L7 HV.o (vA,vc,vl) hXV hnl;replace hA:vA=some ⟨gb,0,none⟩:=hA;subst hA;have HS2:=ah hs;have hnn:(n:Int)<vl.length:=by omega
          clear hs hXV hnl;go_wp2_with fail;go_roundw
          .exact⟨n+1,by omega,by push_cast;rfl,HS2.o⟩
          .simp[intOf];omega
         .have hnn:¬ (n:Int)<vl.length:=by omega
          clear hnl;go_wp2_with fail;clear y1 hnn;go_loopw [13] (fun nv wr=> ∃ n:Nat,n<=kl2.length/\nv = .int .i64 (n:Int)/\Hid (cX w (RL*(LC cs*Z)) b d 8192 (12*i+12) (1+2*i+1) 0 (Ms.length+1) N (Lu Ms gs) wr)) (fun nv _=>kl2.length - (intOf nv).toNat)
          case atStart=>exact⟨0,by omega,rfl,HV.o⟩
          case round=>
           obtain⟨n2,hn2,rfl,HU⟩:=hrel;have y1:=(HRo2.o _ _ HU.o.sat).1;by_cases hnl:n2<kl2.length
           .obtain⟨XV,hXV⟩:=HLk.o;obtain⟨gb,x,hA,z0,z1,hs⟩:=L7 HU.o (kA,kc2,kl2) hXV hnl;replace hA:kA=some ⟨gb,0,none⟩:=hA;subst hA;have HS2:=ah hs;have hnn:(n2:Int)<kl2.length:=by omega
            clear hs hXV hnl;go_wp2_with fail;go_roundw
            .exact⟨n2+1,by omega,by push_cast;rfl,HS2.o⟩
            .simp[intOf];omega
           .have hnn:¬ (n2:Int)<kl2.length:=by omega
            clear hnl;go_wp2_with fail;go_roundw
            .exact⟨j+1,by omega,by push_cast;rfl,HU.o⟩
            .simp[intOf];omega
       .have hjj:¬ (j:Int)<cp.length:=by omega
        have HFn:Hid (cX w (eN g N Ms gs*(Lv kb i*bF)) b d 8192 (12*i+12) (1+2*i+1) 0 (Ms.length+1) N (Lu Ms gs) wr):=ah (by
         have h9:=HD.o.drop.drop;rw[HZ.o] at h9;exact h9.drop.drop)
        clear hlt HD;go_wp2_with fail;go_roundw
        .exact⟨i+1,b,by omega,by omega,by push_cast;rfl,rfl,N,HNs.o,Ms,gs,by omega,HMs.o,cX.Lz (HFn.o.mono (by omega) (by omega)) (by omega)⟩
        .simp[intOf];omega
   .by_cases h8:dd=8
    .subst h8;have HOp:Hid (Calls Tryz.prog 19 #[.pointer (some ⟨d,0,none⟩)] W7 fun x w'=> ∃ b',x = .returned (.tuple #[.pointer (some ⟨b',0,none⟩),.int .i64 0])/\cX w (Pt E 80 CS*(Row 43 3 (.slice B cp.length c5) cp.length (cp.flatMap fI)*(eN g M Ms gs*(Lv kb i*bF)))) b' d 8192 (12*i) (1+2*i+2) 0 1 M (fun _=>none) w'):=JR (by omega) (by omega) HS7.o;have HOd:Hid (∀ b' W,cX w (Pt E 80 CS*(Row 43 3 (.slice B cp.length c5) cp.length (cp.flatMap fI)*(eN g M Ms gs*(Lv kb i*bF)))) b' d 8192 (12*i) (1+2*i+2) 0 1 M (fun _=>none) W->Calls Tryz.prog 47 #[.pointer (some ⟨g,0,none⟩)] W fun x w'=>x = .returned (.tuple #[])/\cX w (eN g M [] []*(Lv kb i*bF)) b' d 8192 (12*i) (1+2*i+2) 0 1 M (fun _=>none) w'):=ah fun b' W hW=>M7 hW.drop.drop
     clear HS7;go_upto_region 36 with (first
      | (go_at_call 19;(with_reducible refine HOp.o.mono ?_);rintro e w8 ⟨b2,rfl,hs⟩;have HS8:=ah hs;clear hs)
      | (go_at_call 29;(with_reducible refine(kY _ _).mono ?_);rintro e wx ⟨rfl,rfl⟩))
     go_wp2_with (go_at_call 47;(with_reducible refine(HOd.o _ _ HS8.o).mono ?_);rintro e w9 ⟨rfl,hs⟩;have HS9:=ah hs;clear hs);go_roundw
     .exact⟨i+1,b2,by omega,by omega,by push_cast;rfl,rfl,M,HM.o,[],[],by simp,(fun N hN=>by cases hN),by rw[Me];exact cX.Lz (HS9.o.mono (by omega) (by omega)) (by omega)⟩
     .simp[intOf];omega
    .have g0:((dd:Int)==0)=false:=by rw[beq_eq_false_iff_ne];omega
     have g8:((dd:Int)==8)=false:=by rw[beq_eq_false_iff_ne];omega
     have HAs:Hid (Calls Tryz.prog 48 #[.pointer (some ⟨b,0,none⟩),.pointer (some ⟨g,0,none⟩),.agg #[.int .i64 op,.int .i64 xn,.slice B cp.length c5,.slice kA kl.length kc,.slice tA tl.length tc,.slice Lt kp.length ec,.int .i64 torn,.int .i64 cut],.pointer (some ⟨kb,0,none⟩)] W7 fun e w'=>e = .returned (.bool true)/\Mt w bF b d 8192 (12*(i+1)) (1+2*(i+1)) 0 g kb (i+1) (i+1) M w'):=ah ((Ni (F:=Pt E 80 CS*(Row 43 3 (.slice B cp.length c5) cp.length (cp.flatMap fI)*bF)) (q:=i) ⟨op,xn,B,c5,cp,(kA,kc,kl),(tA,tc,tl),Lt,ec,kp,torn,cut⟩ ⟨Ms,gs,hq80,HMs.o,HS7.o.of (by ac_rfl)⟩ (by omega) (by omega) (by omega) (by omega) HIn.o.n (fun W hW=>⟨HIn.o.key.1.new hW.aL,HIn.o.too.1.new hW.aL⟩) (fun _=>rfl)).mono (by
      rintro e w' ⟨rfl,h9⟩;exact⟨rfl,h9.emp.mono (by omega) (by omega) (by omega) (by omega)⟩))
     obtain⟨l0,l1,l2,l3,l4,l5,l6,l7⟩:=HLd.o _ _ HS7.o.sat;clear h0 h8 HS7;go_wp2_with (go_at_call 48;(with_reducible refine HAs.o.mono ?_);rintro e w9 ⟨rfl,hs⟩;have HS9:=ah hs;clear hs);go_roundw
     .exact⟨i+1,b,by omega,by omega,by push_cast;rfl,rfl,M,HM.o,HS9.o⟩
     .simp[intOf];omega
  .obtain⟨M,hM,Ms,gs,hq,hMs,hS⟩:=HD.o;have hpr:=hS.gW;obtain⟨LX,lcx,vox,vgx,esx,RX,hex,hsx,hBx⟩:=hS.kD;obtain⟨F9,hF9⟩: ∃ F9,F9=Pt g 36 #[.slice LX esx.length lcx,vox,vgx]*(fw (.slice LX esx.length lcx) esx*(RX*(Lv kb i*bF))):=⟨_,rfl⟩;have HSx:Hid (cX w F9 b d 8192 (12*i) (1+2*i) 0 (Ms.length+1) M (Lu Ms gs) wr.drew):=ah (by rw[hF9];exact hsx.map fun G hG=>hG.drew);have HFc:Hid (∀ W,Sat w F9 W->W.cell? ⟨g,0,none⟩=some (.slice LX esx.length lcx)):=ah fun W hW=>by rw[hF9] at hW;exact hW.cell 0
   have htl:yf F9 LX esx:=by rw[hF9];exact Hk.left
   have hMl:M.length<=1000:=by have:=hpr.2.1;omega
   have HSc:Hid (∀ X W,cX w (X*F9) b d 8192 (12*i) (1+2*i) 0 (Ms.length+1) M (Lu Ms gs) W->Calls Tryz.prog 24 #[.pointer (some ⟨b,0,none⟩),.slice none 0 0,.slice none 0 0,.int .i64 1073741824] W fun x w'=> ∃ (B:Option Addr) (c:Nat) (qs es:List En),x = .returned (.slice B qs.length c)/\Hid (aY qs=M/\(∀ q ∈ qs,q ∈ es))/\cX w (CL B c qs es*(X*F9)) b d 8192 (12*i) (1+2*i) 0 (Ms.length+1) M (Lu Ms gs) w'):=ah fun X W hW=>(IK (none,0,[]) (none,0,[]) 1073741824 M (by rw[FN,List.take_of_length_le];show M.length<=1073741824;omega) (Rd.nil _ _) (Rd.nil _ _) (by omega) hW).mono (by
    rintro e w' ⟨B,c,qs,es,rfl,h1,h2,_,h3⟩;exact⟨B,c,qs,es,rfl,⟨h1,h2⟩,h3⟩)
   have HPa:Hid (∀ B c qs es X W,Hid (aY qs=M/\(∀ q ∈ qs,q ∈ es))->cX w (CL B c qs es*(X*F9)) b d 8192 (12*i) (1+2*i) 0 (Ms.length+1) M (Lu Ms gs) W->Calls Tryz.prog 23 #[.slice B qs.length c,.slice LX esx.length lcx] W fun x w'=>x = .returned (.bool true)/\cX w (X*F9) b d 8192 (12*i) (1+2*i) 0 (Ms.length+1) M (Lu Ms gs) w'):=ah fun B c qs es X W h1 h3=>(xZ (IZ h1.o.2) htl.left.left (h1.o.1.trans hex.symm) (by have h4:=congrArg List.length h1.o.1;rw[bX] at h4;omega) h3).mono (by
    rintro e w' ⟨rfl,h9⟩;exact⟨rfl,h9.drop⟩)
   have HLk:Hid (∀ W,cX w (bF*F9) b d 8192 (12*i) (1+2*i) 0 (Ms.length+1) M (Lu Ms gs) W->Calls Tryz.prog 49 #[.pointer (some ⟨kb,0,none⟩)] W fun x w'=>x = .returned (.bool true)/\cX w (bF*F9) b d 8192 (12*i) (1+2*i) 0 (Ms.length+1) M (Lu Ms gs) w'):=ah fun W hW=>(MG (hW.of (show _=Lv kb i*(Pt g 36 #[.slice LX esx.length lcx,vox,vgx]*(fw (.slice LX esx.length lcx) esx*(RX*bF))) by rw[hF9,bf];ac_rfl)) (by omega)).mono (by
    rintro e w' ⟨rfl,h9⟩;exact⟨rfl,h9.of (by rw[hF9,bf];ac_rfl)⟩)
   have hme:((M.length:Int)==(esx.length:Int))=true:=by rw[<-hex,bX];simp
   have HS0:Hid (cX w (bF*F9) b d 8192 (12*i) (1+2*i) 0 (Ms.length+1) M (Lu Ms gs) wr.drew):=ah (HSx.o.of (bf F9).symm);have ht1:12*i<=1024:=by omega
   clear hex hsx hBx hpr hS hM hMs htl hF9 HSx;by_cases hlt2:i<l.length
   .have h80:i=80:=by
     by_cases h0:i<80
     .exact absurd ⟨hlt2,h0⟩ hlt
     .omega
    have hii:(i:Int)<l.length:=by omega
    have hi80:¬ (i:Int)<80:=by omega
    clear hlt hlt2 h80;go_upto_region 38 with fail;refine wp_region_held_drew (S:=fun w'=>w'.cell? ⟨g,0,none⟩=some (.slice LX esx.length lcx)) (by kernel_rfl) (HFc.o _ HS0.o.sat.right) ?_;intro hS0;refine an 0 2 3 4 ?_;refine cw 5 6 ?_;refine bC 1 fun K hK=>?_
    go_simp;go_at_call 24;(with_reducible refine(HSc.o _ _ HS0.o).mono ?_);rintro e w1 ⟨B1,c1,qs1,es1,rfl,HQ1,hs⟩;have HS1:=ah hs;clear hs
    refine hK.out _ _ (HFc.o _ HS1.o.sat.right.right) (fun hS0=>?_);clear hK K;refine bC 7 fun K hK=>?_
    go_simp;go_at_call 23;(with_reducible refine(HPa.o _ _ _ _ _ _ HQ1 HS1.o).mono ?_);rintro e w7 ⟨rfl,hs⟩;have HS7:=ah hs;clear hs
    refine hK.out _ _ (HFc.o _ HS7.o.sat.right) (fun hS0=>?_);clear hK K;refine an 8 9 11 12 ?_;refine an 13 14 15 16 ?_;refine bC 10 fun K hK=>?_
    go_simp;go_at_call 31;refine(Fq ht1 HS7.o).mono ?_;rintro e w10 ⟨rfl,hs⟩;have HS10:=ah hs;clear hs
    refine hK.out _ _ (HFc.o _ HS10.o.sat.right) (fun hS0=>?_);clear hK K;refine an 17 18 19 20 ?_;refine bC 21 fun K hK=>?_
    go_simp;go_at_call 49;(with_reducible refine(HLk.o _ HS10.o).mono ?_);rintro e w21 ⟨rfl,hs⟩;have HS21:=ah hs;clear hs
    refine hK.out _ _ (HFc.o _ HS21.o.sat.right) (fun hS0=>?_);clear hK K;refine an 22 23 24 26 ?_;refine an 27 28 29 30 ?_;refine bC 25 fun K hK=>?_
    go_simp;go_at_call 24;(with_reducible refine(HSc.o _ _ HS21.o).mono ?_);rintro e w25 ⟨B25,c25,qs25,es25,rfl,HQ25,hs⟩;have HS25:=ah hs;clear hs
    refine hK.out _ _ (HFc.o _ HS25.o.sat.right.right) (fun hS0=>?_);clear hK K;refine bC 31 fun K hK=>?_
    go_simp;go_at_call 23;(with_reducible refine(HPa.o _ _ _ _ _ _ HQ25 HS25.o).mono ?_);rintro e w31 ⟨rfl,hs⟩;have HS31:=ah hs;clear hs
    refine hK.out _ _ (HFc.o _ HS31.o.sat.right) (fun hS0=>?_);clear hK K;refine cw 32 33 ?_;refine wpAnyH_done (by kernel_rfl) ?_ _;go_wp2_with fail;go_ret;exact⟨rfl,HS31.o.sat.aL⟩
   .have hii:¬ (i:Int)<l.length:=by omega
    clear hlt hlt2;go_upto_region 38 with fail;refine wp_region_held_drew (S:=fun w'=>w'.cell? ⟨g,0,none⟩=some (.slice LX esx.length lcx)) (by kernel_rfl) (HFc.o _ HS0.o.sat.right) ?_;intro hS0;refine an 0 2 3 4 ?_;refine cw 5 6 ?_;refine bC 1 fun K hK=>?_
    go_simp;go_at_call 24;(with_reducible refine(HSc.o _ _ HS0.o).mono ?_);rintro e w1 ⟨B1,c1,qs1,es1,rfl,HQ1,hs⟩;have HS1:=ah hs;clear hs
    refine hK.out _ _ (HFc.o _ HS1.o.sat.right.right) (fun hS0=>?_);clear hK K;refine bC 7 fun K hK=>?_
    go_simp;go_at_call 23;(with_reducible refine(HPa.o _ _ _ _ _ _ HQ1 HS1.o).mono ?_);rintro e w7 ⟨rfl,hs⟩;have HS7:=ah hs;clear hs
    refine hK.out _ _ (HFc.o _ HS7.o.sat.right) (fun hS0=>?_);clear hK K;refine an 8 9 11 12 ?_;refine an 13 14 15 16 ?_;refine bC 10 fun K hK=>?_
    go_simp;go_at_call 31;refine(Fq ht1 HS7.o).mono ?_;rintro e w10 ⟨rfl,hs⟩;have HS10:=ah hs;clear hs
    refine hK.out _ _ (HFc.o _ HS10.o.sat.right) (fun hS0=>?_);clear hK K;refine an 17 18 19 20 ?_;refine bC 21 fun K hK=>?_
    go_simp;go_at_call 49;(with_reducible refine(HLk.o _ HS10.o).mono ?_);rintro e w21 ⟨rfl,hs⟩;have HS21:=ah hs;clear hs
    refine hK.out _ _ (HFc.o _ HS21.o.sat.right) (fun hS0=>?_);clear hK K;refine an 22 23 24 26 ?_;refine an 27 28 29 30 ?_;refine bC 25 fun K hK=>?_
    go_simp;go_at_call 24;(with_reducible refine(HSc.o _ _ HS21.o).mono ?_);rintro e w25 ⟨B25,c25,qs25,es25,rfl,HQ25,hs⟩;have HS25:=ah hs;clear hs
    refine hK.out _ _ (HFc.o _ HS25.o.sat.right.right) (fun hS0=>?_);clear hK K;refine bC 31 fun K hK=>?_
    go_simp;go_at_call 23;(with_reducible refine(HPa.o _ _ _ _ _ _ HQ25 HS25.o).mono ?_);rintro e w31 ⟨rfl,hs⟩;have HS31:=ah hs;clear hs
    refine hK.out _ _ (HFc.o _ HS31.o.sat.right) (fun hS0=>?_);clear hK K;refine cw 32 33 ?_;refine wpAnyH_done (by kernel_rfl) ?_ _;go_wp2_with fail;go_ret;exact⟨rfl,HS31.o.sat.aL⟩
end Go.Proofs.YtmbaiglpgaoogaaGreat
