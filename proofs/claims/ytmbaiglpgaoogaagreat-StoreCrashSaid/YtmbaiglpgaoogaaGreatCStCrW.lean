/- StoreCrash: the walk. (Written by gen_stcrw.py.) -/
import Derived.Test.YtmbaiglpgaoogaaGreatC29
set_option maxHeartbeats 16000000
set_option linter.unusedVariables false
set_option maxRecDepth 100000
namespace Go.Proofs.YtmbaiglpgaoogaaGreat
open Go.RowKit Z
theorem pS (A:Option Addr) (c:Nat) (l:List nB) (w:World) (hl:CJ w A c l):
 Calls Tryz.prog 15 #[.slice A l.length c] w (Mh true w):=by
 have HB:Hid (Calls Tryz.prog 25 #[.int .i64 4096] w fun e w'=> ∃ d b,e = .returned (.tuple #[.pointer (some ⟨d,0,none⟩),.pointer (some ⟨b,0,none⟩)])/\aY w aV b d 4096 0 1 0 1 [] (fun _=>none) w'):=pM (w0:=w) (w:=w) (F:=aV) 4096 (by omega) (Sat.start w);have HWk:Hid (∀ w2 b d,aY w aV b d 4096 0 1 0 1 [] (fun _=>none) w2->Calls Tryz.prog 26 #[] w2 fun e w'=>e = .returned (.bool true)/\aY w aV b d 4096 0 1 0 1 [] (fun _=>none) w'):=fun w2 b d h=>by
  refine(zb (w0:=w2) (F:=aV) (Sat.start w2)).mono ?_;rintro e w' ⟨rfl,hs⟩;exact⟨rfl,h.new hs.aP⟩
 have HL:=ah hl;have hl1:l.length<=17592186043904:=by have:=hl.2.2.2.1;omega
 clear hl;go_enter Tryz.func15, Tryz.ntmps15;go_upto_region 4 with (first
  | (go_at_call 25;(with_reducible refine HB.o.mono ?_);rintro e w2 ⟨d,b,rfl,hs⟩;have HS2:=ah hs;clear hs)
  | (go_at_call 26;(with_reducible refine(HWk.o _ _ _ HS2.o).mono ?_);rintro e w3 ⟨rfl,hs⟩;have HS3:=ah hs;clear hs))
 clear HB HWk HS2;go_upto_region 6 with fail;have hs4:aY w (bm w3.heap.size [] [] []*aV) b d 4096 0 1 0 1 [] (fun _=>none) (w3.alloc (.cells #[.slice none 0 0,.slice none 0 0,.slice none 0 0] 36)):=(HS3.o.of (ik aV).symm).map fun G hG=>(hG.Jp).of (by rw[ik];ac_rfl)
 obtain⟨g,hg⟩: ∃ g,g=w3.heap.size:=⟨_,rfl⟩;obtain⟨W4,hW4⟩: ∃ W4,W4=w3.alloc (.cells #[.slice none 0 0,.slice none 0 0,.slice none 0 0] 36):=⟨_,rfl⟩;rw[<-hg, <-hW4] at hs4
 try simp only[World.size_alloc]
 have hsz:W4.heap.size=w3.heap.size+1:=by rw[hW4,World.size_alloc]
 rw[<-hW4, <-hsz, <-hg];have hs5:aY w (bm g [] [] []*(bj W4.heap.size 0*aV)) b d 4096 0 1 0 1 [] (fun _=>none) (W4.alloc (.cells #[.slice none 0 0,.slice none 0 0,.slice none 0 0,.slice none 0 0,.slice none 0 0,.slice none 0 0] 91)):=hs4.map fun G hG=>(JT hG).of (by rw[ik,ik];ac_rfl)
 have HS5:=ah hs5;clear hs4 hs5 HS3 hW4 hsz hg;generalize W4.heap.size=kb at*
 go_wp2_with fail;go_loopw [7,4,5] (fun iv bv gv wr=> ∃ (i b g:Nat),i<=l.length/\i<=50/\iv = .int .i64 (i:Int)/\bv = .pointer (some ⟨b,0,none⟩)/\gv = .pointer (some ⟨g,0,none⟩)/\Hid (∃ M a,lL M/\a<=9223372036854775807/\iJ w aV b d 4096 (12*i) (1+4*i) a g kb i i M wr)) (fun iv _ _ _=>60 - (intOf iv).toNat)
 case atStart=>exact⟨0,b,g,by omega,by omega,rfl,rfl,rfl,[],0,(fun p hp=>by cases hp),by omega,[],[],by simp,(fun N hN=>by cases hN),by rw[ru];exact HS5.o⟩
 case round=>
  obtain⟨i,b,g,hi,hi5,rfl,rfl,rfl,HD⟩:=hrel;by_cases hlt:i<l.length/\i<50
  .obtain⟨hlt,h80⟩:=hlt;obtain⟨M,a,hM,ha,Ms,gs,hq,hMs,hS⟩:=HD.o;obtain⟨lb,lo,rfl,y0,y1,y2,y3,y4,y5,y6,y7⟩:=JZ (HL.o.2.2.1.new hS.sat.aP) hlt;have HIn:=ah (HL.o.2.2.2.2 _ (List.getElem_mem hlt));generalize l[i]=x at*
   obtain⟨op,xn,bA,bc,ps,⟨kA,kc,kl⟩,⟨tA,tc,tl⟩,eA,ec,kp,torn,cut⟩:=x;replace y0:_=some (Value.int .i64 op):=y0;replace y1:_=some (Value.int .i64 xn):=y1;replace y2:_=some (Value.slice bA ps.length bc):=y2;replace y3:_=some (Value.slice kA kl.length kc):=y3;replace y4:_=some (Value.slice tA tl.length tc):=y4;replace y5:_=some (Value.slice eA kp.length ec):=y5;replace y6:_=some (Value.int .i64 torn):=y6;replace y7:_=some (Value.int .i64 cut):=y7;have hii:(i:Int)<l.length:=by omega
   have hi80:(i:Int)<50:=by omega
   have HM:=ah hM;have HMs:=ah hMs;have hq80:Ms.length<=i:=hq;have HCt:Hid (Calls Tryz.prog 44 #[.agg #[.int .i64 op,.int .i64 xn,.slice bA ps.length bc,.slice kA kl.length kc,.slice tA tl.length tc,.slice eA kp.length ec,.int .i64 torn,.int .i64 cut]] wr fun e w'=> ∃ B c,e = .returned (.agg #[.int .i64 op,.int .i64 xn,.slice B (fk ps).length c,.slice kA kl.length kc,.slice tA tl.length tc,.slice eA kp.length ec,.int .i64 torn,.int .i64 cut])/\aY w (Row 43 3 (.slice B (fk ps).length c) (fk ps).length ((fk ps).flatMap dQ)*(bm g M Ms gs*(bj kb i*aV))) b d 4096 (12*i) (1+4*i) a (Ms.length+1) M (bu Ms gs) w'):=ah (M9 ⟨op,xn,bA,bc,ps,(kA,kc,kl),(tA,tc,tl),eA,ec,kp,torn,cut⟩ hS (fun W hW=>HIn.o.batch.2.2.1.new hW.aP) ⟨HIn.o.batch.1,by have:=HIn.o.batch.2.1;unfold maxLen at this;show bc<=_;omega⟩ (fun p hp=>⟨(HIn.o.batch.2.2.2.2 p hp).1.2.1,(HIn.o.batch.2.2.2.2 p hp).2.2.1⟩));clear hlt h80 hM hMs hS hq HD;go_upto_region 10 with (go_at_call 44;(with_reducible refine HCt.o.mono ?_);rintro e w5 ⟨B,c5,rfl,hs⟩;have HS6:=ah hs;clear hs)
   clear HCt y0 y1 y2 y3 y4 y5 y6 y7;have HPr:Hid (∀ W,aq No w W->eJ W (fk ps)):=ah fun W k=>KF (HIn.o.batch.r.new k)
   obtain⟨cp,hcp⟩: ∃ cp,cp=fk ps:=⟨_,rfl⟩;have HCp:=ah hcp;rw[<-hcp] at HS6 HPr;rw[<-hcp];have hcl:cp.length<=12:=by rw[hcp];exact Gh ps
   obtain⟨CS,hCS⟩: ∃ CS:Array Value,CS = #[.int .i64 op,.int .i64 xn,.slice B cp.length c5,.slice kA kl.length kc,.slice tA tl.length tc,.slice eA kp.length ec,.int .i64 torn,.int .i64 cut]:=⟨_,rfl⟩;rw[<-hCS];have h7:aY w (Pt w5.heap.size 80 CS*(Row 43 3 (.slice B cp.length c5) cp.length (cp.flatMap dQ)*(bm g M Ms gs*(bj kb i*aV)))) b d 4096 (12*i) (1+4*i) a (Ms.length+1) M (bu Ms gs) (w5.alloc (.cells CS 80)):=HS6.o.al (.cells CS 80);revert h7;generalize w5.alloc _=W7;intro h7;generalize w5.heap.size=E at*
   have HCl:Hid (∀ X W,Sat w (Pt E 80 CS*X) W->W.cell? ⟨E,0,none⟩=some (.int .i64 op)/\W.cell? ⟨E,2,none⟩=some (.slice B cp.length c5)):=ah fun X W hW=>⟨by rw[hW.cell 0,hCS];rfl,by rw[hW.cell 2,hCS];rfl⟩
   have HLd:Hid (∀ X W,Sat w (Pt E 80 CS*X) W->W.cell? ⟨E,0,none⟩=some (.int .i64 op)/\W.cell? ⟨E,1,none⟩=some (.int .i64 xn)/\W.cell? ⟨E,2,none⟩=some (.slice B cp.length c5)/\W.cell? ⟨E,3,none⟩=some (.slice kA kl.length kc)/\W.cell? ⟨E,4,none⟩=some (.slice tA tl.length tc)/\W.cell? ⟨E,5,none⟩=some (.slice eA kp.length ec)/\W.cell? ⟨E,6,none⟩=some (.int .i64 torn)/\W.cell? ⟨E,7,none⟩=some (.int .i64 cut)):=ah fun X W hW=>⟨by rw[hW.cell 0,hCS];rfl,by rw[hW.cell 1,hCS];rfl,by rw[hW.cell 2,hCS];rfl,by rw[hW.cell 3,hCS];rfl,by rw[hW.cell 4,hCS];rfl,by rw[hW.cell 5,hCS];rfl,by rw[hW.cell 6,hCS];rfl,by rw[hW.cell 7,hCS];rfl⟩
   clear hCS hcp HS6;have HKp:Hid (aH w eA (kp.map Value.bool)/\kp.length<=140737488351232):=ah ⟨HIn.o.keep.1,HIn.o.keep.2.2⟩;have HHa:=ah ha;have HFw:Hid (∀ p ∈ cp,p.key.2.2.length<=140/\p.value.2.2.length<=200):=ah (by rw[HCp.o];exact ya);obtain⟨PE,hPE⟩: ∃ PE,PE=Pt E 80 CS:=⟨_,rfl⟩;obtain⟨RB,hRB⟩: ∃ RB,RB=Row 43 3 (.slice B cp.length c5) cp.length (cp.flatMap dQ):=⟨_,rfl⟩;have h7b:=h7;rw[<-hPE, <-hRB] at h7b;have HPe:Hid (∀ X W,Sat w (PE*X) W->W.cell? ⟨E,0,none⟩=some (.int .i64 op)/\W.cell? ⟨E,1,none⟩=some (.int .i64 xn)/\W.cell? ⟨E,2,none⟩=some (.slice B cp.length c5)/\W.cell? ⟨E,3,none⟩=some (.slice kA kl.length kc)/\W.cell? ⟨E,4,none⟩=some (.slice tA tl.length tc)/\W.cell? ⟨E,5,none⟩=some (.slice eA kp.length ec)/\W.cell? ⟨E,6,none⟩=some (.int .i64 torn)/\W.cell? ⟨E,7,none⟩=some (.int .i64 cut)):=ah fun X W hW=>by rw[hPE] at hW;exact HLd.o X W hW
   have HRB:Hid (∀ X W,Sat w (RB*X) W->aH W B (cp.flatMap dQ)):=ah fun X W hW=>by rw[hRB] at hW;exact hW.cj
   obtain⟨LA,lc,R,hR,h8⟩:=(h7b.of (show _=bm g M Ms gs*(PE*(RB*(bj kb i*aV))) by ac_rfl)).Lf;have HR:=ah hR;have hpr:=h8.gh;have HMl:Hid (M.length<=12*i):=ah hpr.2.1;have HRb:Hid (∀ X W,Sat w (R*X) W->W.cell? ⟨g,0,none⟩=some (.slice LA M.length lc)):=ah fun X W hW=>(hR X W hW).1
   have x0:=HRb.o _ _ h8.sat.right;have h9:=h8.al (.cells #[.slice LA M.length lc] 32);clear hPE hRB h7 h7b hR hpr h8 HLd HCl ha;go_upto_region 11 with fail;revert h9;generalize W7.alloc _=W8;intro h9;generalize W7.heap.size=O at*
   obtain⟨PO,hPO⟩: ∃ PO,PO=Pt O 32 #[.slice LA M.length lc]:=⟨_,rfl⟩;have HPo:Hid (∀ X W,Sat w (PO*X) W->W.cell? ⟨O,0,none⟩=some (.slice LA M.length lc)/\W.frozen? ⟨O,0,none⟩=false/\ ∀ v:Value,Sat w (Pt O 32 #[v]*X) (W.setCell ⟨O,0,none⟩ v)):=ah fun X W hW=>by
    rw[hPO] at hW;exact⟨hW.cell 0,hW.frozen 0,fun v=>hW.set 0 v⟩
   have HS9:Hid (aY w (PO*(bQ (.slice LA M.length lc) M*(R*(PE*(RB*(bj kb i*aV)))))) b d 4096 (12*i) (1+4*i) a (Ms.length+1) M (bu Ms gs) W8):=ah (by rw[hPO];exact h9);clear h9 hPO x0;have x0:=(HPe.o _ _ HS9.o.sat.right.right.right).1;go_upto_region 14 with (go_at_call 27;(with_reducible refine(Cm _ 10 _ (by omega) (by omega)).mono ?_);rintro e wx ⟨rfl,rfl⟩)
   have HWi:=ah (Ke op 10 (by omega));have hwi:=HWi.o;obtain⟨dd,hdd⟩: ∃ dd,dd=wi op 10:=⟨_,rfl⟩;rw[<-hdd] at hwi;rw[<-hdd];have HDd:=ah hdd;have hit:12*i<=588:=by omega
   clear x0 HWi hdd;by_cases h0:dd=0
   .subst h0;clear HDd;obtain⟨er,her⟩: ∃ er,er=KG (cp.map Pu.bE):=⟨_,rfl⟩;obtain⟨N2,hN2⟩: ∃ N2,N2=IB (cp.map Pu.bE) M:=⟨_,rfl⟩;have HNs:Hid (lL N2):=ah (by rw[hN2,HCp.o];exact IX HM.o);have HEr:=ah her;have HN2:=ah hN2;clear her hN2;have HRm:Hid (dB (cp.map Pu.bE)=0->fh 4096 (bq (cp.map Pu.bE) M) (cp.map Pu.bE)=false):=ah fun hk=>by
     have hl12:(cp.map Pu.bE).length<=12:=by rw[List.length_map];exact hcl
     refine Bw HM.o ?_ hl12 (.inr ⟨rfl,by have:=HMl.o;omega⟩);rw[HCp.o] at hk ⊢;exact BC hk
    have HTw:Hid (Calls Tryz.prog 28 #[.agg #[.slice LA M.length lc]] W8 fun e w'=> ∃ va vn vc,e = .returned (.agg #[.slice va vn vc])/\aY w (bQ (.slice va vn vc) M*(bQ (.slice LA M.length lc) M*(PO*(R*(PE*(RB*(bj kb i*aV))))))) b d 4096 (12*i) (1+4*i) a (Ms.length+1) M (bu Ms gs) w'):=ah (Lv (HS9.o.of (show _=bQ (.slice LA M.length lc) M*(PO*(R*(PE*(RB*(bj kb i*aV))))) by ac_rfl)) (by have:=HMl.o;omega));have x0:=HRb.o _ _ HS9.o.sat.right.right;clear HS9;go_upto_region 16 with (go_at_call 28;(with_reducible refine HTw.o.mono ?_);rintro e w9 ⟨va,vn,vc',rfl,hs⟩;have HS9:=ah hs;clear hs)
    clear HTw x0;have h10:=(HS9.o.al (.cells #[.slice va vn vc',.slice none 0 0,.slice none 0 0] 36)).Nc;revert h10;generalize w9.alloc _=W10;intro h10;generalize w9.heap.size=g2 at*
    have HRw:Hid (Calls Tryz.prog 22 #[.pointer (some ⟨g2,0,none⟩),.slice B cp.length c5] W10 fun x w'=>x = .returned (.int .i64 er)/\aY w (bm g2 N2 [] []*(bQ (.slice LA M.length lc) M*(PO*(R*(PE*(RB*(bj kb i*aV))))))) b d 4096 (12*i) (1+4*i) a (Ms.length+1) M (bu Ms gs) w'):=ah (by
     rw[HEr.o,HN2.o];exact BL B c5 cp h10 (fun W2 hW2=>⟨HRB.o _ _ hW2.right.right.right.right,HPr.o _ hW2.aP⟩) (by have:=HMl.o;omega) (fun p hp=>by have:=HFw.o p hp;omega))
    have x2:=(HPe.o _ _ h10.sat.right.right.right.right).2.2.1;clear h10 HS9;go_upto_region 17 with (go_at_call 22;(with_reducible refine HRw.o.mono ?_);rintro e w11 ⟨rfl,hs⟩;have HS11:=ah hs;clear hs)
    clear HRw x2;have x2:=(HPe.o _ _ HS11.o.sat.right.right.right.right).2.2.1;have HWs:Hid (Calls Tryz.prog 20 #[.pointer (some ⟨b,0,none⟩),.slice B cp.length c5] w11 fun x w'=> ∃ er2:Int,x = .returned (.int .i64 er2)/\Hid ((er2=er/\aY w (bm g2 N2 [] []*(bQ (.slice LA M.length lc) M*(PO*(R*(PE*(RB*(bj kb i*aV))))))) b d 4096 (12*i+12) (1+4*i+1) a (Ms.length+1) N2 (bu Ms gs) w')\/(er2=21/\ke w (bm g2 N2 [] []*(bQ (.slice LA M.length lc) M*(PO*(R*(PE*(RB*(bj kb i*aV))))))) d 4096 (12*i+12) (1+4*i+1) [M,N2] true w'))):=ah ((JN B c5 cp (by omega) (by omega) HHa.o HS11.o (fun W2 hW2=>⟨HRB.o _ _ hW2.right.right.right.right.right,HPr.o _ hW2.aP⟩) (fun p hp=>by have:=HFw.o p hp;omega) HRm.o).mono (by
     rintro x w' ⟨er2,rfl,hw⟩;refine⟨er2,rfl,?_⟩;rcases hw.o with ⟨e1,hs⟩ | ⟨e1,e2,hs⟩
     .rw[<-HEr.o] at e1;rw[<-HN2.o] at hs;exact .inl ⟨e1,hs.mono (by omega) (by omega)⟩
     .have e3:N2=bq (cp.map Pu.bE) M:=by rw[HN2.o];unfold IB;rw[if_pos e2]
      rw[<-e3] at hs;exact .inr ⟨e1,hs.mono (by omega) (by omega)⟩))
    clear HS11;go_upto_region 18 with (first
     | (go_at_call 20;(with_reducible refine HWs.o.mono ?_);rintro e w12 ⟨er2,rfl,HW⟩)
     | (go_at_call 29;(with_reducible refine(dr _ _).mono ?_);rintro e wx ⟨rfl,rfl⟩))
    clear HWs x2;rcases HW.o with ⟨e1,hs⟩ | ⟨e1,hs⟩
    .subst e1;have HS12:=ah hs;clear hs HW;have g21:(er2==21)=false:=by rw[HEr.o];exact LH _
     by_cases hz:er2=0
     .have gz:(er2==0)=true:=by rw[hz];rfl
      clear hz;have hs13:=(HS12.o.of (show _=R*(bm g2 N2 [] []*(bQ (.slice LA M.length lc) M*(PO*(PE*(RB*(bj kb i*aV)))))) by ac_rfl)).turn fun F' W hW=>(HR.o F' W hW).2
      have HRw:Hid (Calls Tryz.prog 22 #[.pointer (some ⟨g,0,none⟩),.slice B cp.length c5] w12 fun x w'=>x = .returned (.int .i64 er2)/\iJ w aV b d 4096 (12*(i+1)) (1+4*(i+1)) a g kb (i+1) (i+1) N2 w'):=ah ((BL B c5 cp hs13 (fun W2 hW2=>⟨HRB.o _ _ hW2.right.right.right.right,HPr.o _ hW2.aP⟩) (by have:=HMl.o;omega) (fun p hp=>by have:=HFw.o p hp;omega)).mono (by
       rintro x w' ⟨rfl,hs⟩;rw[<-HEr.o];rw[<-HN2.o] at hs;refine⟨rfl,iJ.mono (t:=12*i+12) (k:=1+4*i+1) (m:=i) (q:=i) ?_ (by omega) (by omega) (by omega) (by omega)⟩;exact(show iJ w (bm g2 N2 [] []*(bQ (.slice LA M.length lc) M*(PO*(PE*(RB*aV))))) b d 4096 (12*i+12) (1+4*i+1) a g kb i i N2 w' from ⟨Ms,gs,hq80,HMs.o,hs.of (by ac_rfl)⟩).emp))
      have x2:=(HPe.o _ _ HS12.o.sat.right.right.right.right).2.2.1;clear hs13 HS12;go_upto_region 41 with (go_at_call 22;(with_reducible refine HRw.o.mono ?_);rintro e w13 ⟨rfl,hs⟩;have HPl:=ah hs;clear hs)
      have HOf:=ah (iJ.AF HPl.o);go_wp2_with (go_at_call 40;(with_reducible refine HOf.o.mono ?_);rintro e wx ⟨rfl,rfl⟩);go_roundw
      .exact⟨i+1,_,_,by omega,by omega,by push_cast;rfl,rfl,rfl,N2,a,HNs.o,HHa.o,HPl.o⟩
      .simp[intOf];omega
     .have gz:(er2==0)=false:=by rw[beq_eq_false_iff_ne];exact hz
      have hn:N2=M:=by
       rw[HN2.o];unfold IB;rw[if_neg];intro h1;apply hz;rw[HEr.o];unfold KG;rw[h1];rfl
      have HPl:Hid (iJ w aV b d 4096 (12*(i+1)) (1+4*(i+1)) a g kb (i+1) (i+1) M w12):=ah (by
       have hs13:=(HS12.o.of (show _=R*(bm g2 N2 [] []*(bQ (.slice LA M.length lc) M*(PO*(PE*(RB*(bj kb i*aV)))))) by ac_rfl)).turn fun F' W hW=>(HR.o F' W hW).2
       rw[hn] at hs13;refine iJ.mono (t:=12*i+12) (k:=1+4*i+1) (m:=i) (q:=i) ?_ (by omega) (by omega) (by omega) (by omega);exact(show iJ w (bm g2 M [] []*(bQ (.slice LA M.length lc) M*(PO*(PE*(RB*aV))))) b d 4096 (12*i+12) (1+4*i+1) a g kb i i M w12 from ⟨Ms,gs,hq80,HMs.o,hs13.of (by ac_rfl)⟩).emp)
      clear hz hn HS12;go_upto_region 41 with fail;have HOf:=ah (iJ.AF HPl.o);go_wp2_with (go_at_call 40;(with_reducible refine HOf.o.mono ?_);rintro e wx ⟨rfl,rfl⟩);go_roundw
      .exact⟨i+1,_,_,by omega,by omega,by push_cast;rfl,rfl,rfl,M,a,HM.o,HHa.o,HPl.o⟩
      .simp[intOf];omega
    .subst e1;have HC12:=ah hs;have HOf0:=ah (EJ hs);obtain⟨LB,lcb,R2,hR2,hC2⟩:=hs.Lf;have x2:=(hR2 _ _ (hC2.sat.right)).1;obtain⟨y0,f0,hset⟩:=HPo.o _ _ hC2.sat.right.right.right;have hC3:ke w (bQ (.slice LA M.length lc) M*(bQ (.slice LB N2.length lcb) N2*(Pt O 32 #[.slice LB N2.length lcb]*(R*(PE*(RB*(bj kb i*aV))))))) d 4096 (12*i+12) (1+4*i+1) [M,N2] true (w12.setCell ⟨O,0,none⟩ (.slice LB N2.length lcb)):=by
      obtain⟨G,hG,hRG⟩:=hC2.re;have h13:=(HPo.o _ _ (hG.of (show _=PO*(R2*(bQ (.slice LA M.length lc) M*(bQ (.slice LB N2.length lcb) N2*(R*(PE*(RB*(bj kb i*aV)))))*G)) by ac_rfl))).2.2 (.slice LB N2.length lcb);have h14:=h13.av.right;exact hRG _ _ (h14.of (by ac_rfl))
     have HC3:=ah hC3;clear hs HW hR2 hC2 hset HC12 hC3;go_upto_region 41 with (go_at_call 40;(with_reducible refine HOf0.o.mono ?_);rintro e wx ⟨rfl,rfl⟩)
     revert HC3;generalize World.setCell w12 _ _=WD;intro HCr;clear x2 y0 f0 HOf0;obtain⟨PO2,hPO2⟩: ∃ PO2,PO2=Pt O 32 #[.slice LB N2.length lcb]:=⟨_,rfl⟩;rw[<-hPO2] at HCr;have HPo2:Hid (∀ X W,Sat w (PO2*X) W->W.cell? ⟨O,0,none⟩=some (.slice LB N2.length lcb)):=ah fun X W hW=>by
      rw[hPO2] at hW;exact hW.cell 0
     clear hPO2;have HOp:Hid (Calls Tryz.prog 50 #[.pointer (some ⟨d,0,none⟩),.agg #[.slice LA M.length lc],.agg #[.slice LB N2.length lcb],.agg #[.int .i64 op,.int .i64 xn,.slice B cp.length c5,.slice kA kl.length kc,.slice tA tl.length tc,.slice eA kp.length ec,.int .i64 torn,.int .i64 cut]] WD.drew fun e w'=> ∃ b' g',e = .returned (.tuple #[.pointer (some ⟨b',0,none⟩),.pointer (some ⟨g',0,none⟩)])/\Hid (∃ N,lL N/\iJ w (PO2*(R*(PE*(RB*aV)))) b' d 4096 (12*(i+1)) (1+4*(i+1)) 0 g' kb (i+1) (i+1) N w')):=ah (kC ⟨op,xn,B,c5,cp,(kA,kc,kl),(tA,tc,tl),eA,ec,kp,torn,cut⟩ (by omega) (by omega) HKp.o.1 HKp.o.2 (fun N hN=>by rcases List.mem_cons.1 hN with h | h;exact .inl h;exact .inr (List.mem_singleton.1 h)) HM.o HNs.o (by omega) (by omega) (by omega) ((HCr.o.map fun G hG=>hG.drew).of (show _=bQ (.slice LA M.length lc) M*(bQ (.slice LB N2.length lcb) N2*(bj kb i*(PO2*(R*(PE*(RB*aV)))))) by ac_rfl)));have HKe:Hid (∀ w',Sat w (PO2*(R*(PE*(RB*aV)))) w'->w'.cell? ⟨g,0,none⟩=some (.slice LA M.length lc)/\w'.cell? ⟨O,0,none⟩=some (.slice LB N2.length lcb)/\w'.cell? ⟨E,0,none⟩=some (.int .i64 op)/\w'.cell? ⟨E,1,none⟩=some (.int .i64 xn)/\w'.cell? ⟨E,2,none⟩=some (.slice B cp.length c5)/\w'.cell? ⟨E,3,none⟩=some (.slice kA kl.length kc)/\w'.cell? ⟨E,4,none⟩=some (.slice tA tl.length tc)/\w'.cell? ⟨E,5,none⟩=some (.slice eA kp.length ec)/\w'.cell? ⟨E,6,none⟩=some (.int .i64 torn)/\w'.cell? ⟨E,7,none⟩=some (.int .i64 cut)):=ah fun w' hW=>⟨HRb.o _ _ hW.right,(HPo2.o _ _ hW),HPe.o _ _ hW.right.right⟩
     have HS0:=ah ((HCr.o.sat.drew).of (show _=(bQ (.slice LA M.length lc) M*(bQ (.slice LB N2.length lcb) N2*bj kb i))*(PO2*(R*(PE*(RB*aV)))) by ac_rfl)).right;have HOf:=ah (EJ HCr.o);clear HCr;go_upto_region 42 with (go_at_call 40;(with_reducible refine HOf.o.mono ?_);rintro e wx ⟨rfl,rfl⟩)
     refine tK HKe (HS0.o) ?_;intro hS0;refine an 0 1 2 3 ?_;refine cm 4 5 ?_;refine cH 6 ?_;refine bR 7 fun K hK=>?_
     go_simp;go_at_call 50;(with_reducible refine HOp.o.mono ?_);rintro e w9 ⟨b9,g9,rfl,HD9⟩
     refine hK.out _ _ (by obtain⟨_,_,_,_,_,_,hs9⟩:=HD9.o;exact HKe.o _ hs9.sat.right.right) (fun hS0=>?_);clear hK K;refine an 8 9 10 11 ?_;refine cH 12 ?_;refine wpAnyH_done (by kernel_rfl) ?_ _;obtain⟨N9,hN9,hP9⟩:=HD9.o;have HN9:=ah hN9;have HPl:=ah hP9.emp;clear hN9 hP9 HD9 HOp HKe HS0 HOf;go_wp2_with fail;go_roundw
     .exact⟨i+1,_,_,by omega,by omega,by push_cast;rfl,rfl,rfl,N9,0,HN9.o,by omega,HPl.o⟩
     .simp[intOf];omega
   .by_cases h7:dd=7
    .subst h7;clear HDd h0;have HTd:Hid (Calls Tryz.prog 35 #[.pointer (some ⟨b,0,none⟩)] W8 fun x w'=> ∃ er:Int,x = .returned (.int .i64 er)/\Hid ((er=0/\aY w (PO*(bQ (.slice LA M.length lc) M*(R*(PE*(RB*(bj kb i*aV)))))) b d 4096 (12*i) (1+4*i+1) a (Ms.length+1) M (bu Ms gs) w')\/(er=21/\ke w (PO*(bQ (.slice LA M.length lc) M*(R*(PE*(RB*(bj kb i*aV)))))) d 4096 (12*i) (1+4*i+1) [M] true w'))):=ah (K5 (by omega) (by omega) HHa.o HS9.o);clear HS9;go_upto_region 26 with (first
      | (go_at_call 35;(with_reducible refine HTd.o.mono ?_);rintro e w12 ⟨er,rfl,HW⟩)
      | (go_at_call 29;(with_reducible refine(dr _ _).mono ?_);rintro e wx ⟨rfl,rfl⟩))
     clear HTd;rcases HW.o with ⟨rfl,hs⟩ | ⟨rfl,hs⟩
     .have HPl:Hid (iJ w aV b d 4096 (12*(i+1)) (1+4*(i+1)) a g kb (i+1) (i+1) M w12):=ah (by
       have hs13:=(hs.of (show _=R*(bQ (.slice LA M.length lc) M*(PO*(PE*(RB*(bj kb i*aV))))) by ac_rfl)).turn fun F' W hW=>(HR.o F' W hW).2
       refine iJ.mono (t:=12*i) (k:=1+4*i+1) (m:=i) (q:=i) ?_ (by omega) (by omega) (by omega) (by omega);exact(show iJ w (bQ (.slice LA M.length lc) M*(PO*(PE*(RB*aV)))) b d 4096 (12*i) (1+4*i+1) a g kb i i M w12 from ⟨Ms,gs,hq80,HMs.o,hs13.of (by ac_rfl)⟩).emp)
      clear hs HW;go_upto_region 41 with fail;have HOf:=ah (iJ.AF HPl.o);go_wp2_with (go_at_call 40;(with_reducible refine HOf.o.mono ?_);rintro e wx ⟨rfl,rfl⟩);go_roundw
      .exact⟨i+1,_,_,by omega,by omega,by push_cast;rfl,rfl,rfl,M,a,HM.o,HHa.o,HPl.o⟩
      .simp[intOf];omega
     .have HOf0:=ah (EJ hs);have HCr:Hid (ke w (bQ (.slice LA M.length lc) M*(bQ (.slice LA M.length lc) M*(PO*(R*(PE*(RB*(bj kb i*aV))))))) d 4096 (12*i) (1+4*i+1) [M] true w12):=ah (hs.map fun G hG=>((hG.of (show _=bQ (.slice LA M.length lc) M*(G*(PO*(R*(PE*(RB*(bj kb i*aV)))))) by ac_rfl)).vG).of (by ac_rfl));clear hs HW;go_upto_region 41 with (go_at_call 40;(with_reducible refine HOf0.o.mono ?_);rintro e wx ⟨rfl,rfl⟩)
      clear HOf0;have HOp:Hid (Calls Tryz.prog 50 #[.pointer (some ⟨d,0,none⟩),.agg #[.slice LA M.length lc],.agg #[.slice LA M.length lc],.agg #[.int .i64 op,.int .i64 xn,.slice B cp.length c5,.slice kA kl.length kc,.slice tA tl.length tc,.slice eA kp.length ec,.int .i64 torn,.int .i64 cut]] w12.drew fun e w'=> ∃ b' g',e = .returned (.tuple #[.pointer (some ⟨b',0,none⟩),.pointer (some ⟨g',0,none⟩)])/\Hid (∃ N,lL N/\iJ w (PO*(R*(PE*(RB*aV)))) b' d 4096 (12*(i+1)) (1+4*(i+1)) 0 g' kb (i+1) (i+1) N w')):=ah (kC ⟨op,xn,B,c5,cp,(kA,kc,kl),(tA,tc,tl),eA,ec,kp,torn,cut⟩ (by omega) (by omega) HKp.o.1 HKp.o.2 (fun N hN=> .inl (List.mem_singleton.1 hN)) HM.o HM.o (by omega) (by omega) (by omega) ((HCr.o.map fun G hG=>hG.drew).of (show _=bQ (.slice LA M.length lc) M*(bQ (.slice LA M.length lc) M*(bj kb i*(PO*(R*(PE*(RB*aV)))))) by ac_rfl)));have HKe:Hid (∀ w',Sat w (PO*(R*(PE*(RB*aV)))) w'->w'.cell? ⟨g,0,none⟩=some (.slice LA M.length lc)/\w'.cell? ⟨O,0,none⟩=some (.slice LA M.length lc)/\w'.cell? ⟨E,0,none⟩=some (.int .i64 op)/\w'.cell? ⟨E,1,none⟩=some (.int .i64 xn)/\w'.cell? ⟨E,2,none⟩=some (.slice B cp.length c5)/\w'.cell? ⟨E,3,none⟩=some (.slice kA kl.length kc)/\w'.cell? ⟨E,4,none⟩=some (.slice tA tl.length tc)/\w'.cell? ⟨E,5,none⟩=some (.slice eA kp.length ec)/\w'.cell? ⟨E,6,none⟩=some (.int .i64 torn)/\w'.cell? ⟨E,7,none⟩=some (.int .i64 cut)):=ah fun w' hW=>⟨HRb.o _ _ hW.right,(HPo.o _ _ hW).1,HPe.o _ _ hW.right.right⟩
      have HS0:=ah ((HCr.o.sat.drew).of (show _=(bQ (.slice LA M.length lc) M*(bQ (.slice LA M.length lc) M*bj kb i))*(PO*(R*(PE*(RB*aV)))) by ac_rfl)).right;have HOf:=ah (EJ HCr.o);clear HCr;go_upto_region 42 with (go_at_call 40;(with_reducible refine HOf.o.mono ?_);rintro e wx ⟨rfl,rfl⟩)
      refine tK HKe (HS0.o) ?_;intro hS0;refine an 0 1 2 3 ?_;refine cm 4 5 ?_;refine cH 6 ?_;refine bR 7 fun K hK=>?_
      go_simp;go_at_call 50;(with_reducible refine HOp.o.mono ?_);rintro e w9 ⟨b9,g9,rfl,HD9⟩
      refine hK.out _ _ (by obtain⟨_,_,_,_,_,_,hs9⟩:=HD9.o;exact HKe.o _ hs9.sat.right.right) (fun hS0=>?_);clear hK K;refine an 8 9 10 11 ?_;refine cH 12 ?_;refine wpAnyH_done (by kernel_rfl) ?_ _;obtain⟨N9,hN9,hP9⟩:=HD9.o;have HN9:=ah hN9;have HPl:=ah hP9.emp;clear hN9 hP9 HD9 HOp HKe HS0 HOf;go_wp2_with fail;go_roundw
      .exact⟨i+1,_,_,by omega,by omega,by push_cast;rfl,rfl,rfl,N9,0,HN9.o,by omega,HPl.o⟩
      .simp[intOf];omega
    .by_cases h8:dd=8
     .subst h8;clear HDd h0 h7;have HOp0:Hid (Calls Tryz.prog 19 #[.pointer (some ⟨d,0,none⟩)] W8 fun x w'=> ∃ (pv:Value) (er:Int),x = .returned (.tuple #[pv,.int .i64 er])/\Hid ((∃ b',pv = .pointer (some ⟨b',0,none⟩)/\er=0/\aY w (PO*(bQ (.slice LA M.length lc) M*(R*(PE*(RB*(bj kb i*aV)))))) b' d 4096 (12*i) (1+4*i+2) a 1 M (fun _=>none) w')\/(pv = .pointer none/\er=21/\ke w (PO*(bQ (.slice LA M.length lc) M*(R*(PE*(RB*(bj kb i*aV)))))) d 4096 (12*i) (1+4*i+2) [M] true w'))):=ah (Ll (by omega) (by omega) HHa.o HS9.o);clear HS9;go_upto_region 30 with (go_at_call 19;(with_reducible refine HOp0.o.mono ?_);rintro e w12 ⟨pv,er,rfl,HW⟩)
      clear HOp0;rcases HW.o with ⟨b2,rfl,rfl,hs⟩ | ⟨rfl,rfl,hs⟩
      .have HOd:Hid (Calls Tryz.prog 47 #[.pointer (some ⟨g,0,none⟩)] w12 fun x w'=>x = .returned (.tuple #[])/\iJ w aV b2 d 4096 (12*(i+1)) (1+4*(i+1)) a g kb (i+1) (i+1) M w'):=ah (by
        have hs13:=(hs.of (show _=R*(bQ (.slice LA M.length lc) M*(PO*(PE*(RB*(bj kb i*aV))))) by ac_rfl)).turn fun F' W hW=>(HR.o F' W hW).2
        refine(Gq hs13).mono ?_;rintro x w' ⟨rfl,hs14⟩;refine⟨rfl,iJ.mono (t:=12*i) (k:=1+4*i+2) (m:=i) (q:=i) ?_ (by omega) (by omega) (by omega) (by omega)⟩;exact(show iJ w (bQ (.slice LA M.length lc) M*(PO*(PE*(RB*aV)))) b2 d 4096 (12*i) (1+4*i+2) a g kb i i M w' from ⟨[],[],Nat.zero_le _,(fun N hN=>by cases hN),by rw[ru];exact hs14.of (by ac_rfl)⟩).emp)
       clear hs HW;go_upto_region 41 with (first
        | (go_at_call 29;(with_reducible refine(dr _ _).mono ?_);rintro e wx ⟨rfl,rfl⟩)
        | (go_at_call 47;(with_reducible refine HOd.o.mono ?_);rintro e w13 ⟨rfl,hs⟩;have HPl:=ah hs;clear hs))
       have HOf:=ah (iJ.AF HPl.o);go_wp2_with (go_at_call 40;(with_reducible refine HOf.o.mono ?_);rintro e wx ⟨rfl,rfl⟩);go_roundw
       .exact⟨i+1,_,_,by omega,by omega,by push_cast;rfl,rfl,rfl,M,a,HM.o,HHa.o,HPl.o⟩
       .simp[intOf];omega
      .have HOf0:=ah (EJ hs);have HCr:Hid (ke w (bQ (.slice LA M.length lc) M*(bQ (.slice LA M.length lc) M*(PO*(R*(PE*(RB*(bj kb i*aV))))))) d 4096 (12*i) (1+4*i+2) [M] true w12):=ah (hs.map fun G hG=>((hG.of (show _=bQ (.slice LA M.length lc) M*(G*(PO*(R*(PE*(RB*(bj kb i*aV)))))) by ac_rfl)).vG).of (by ac_rfl));clear hs HW;go_upto_region 41 with (first
        | (go_at_call 29;(with_reducible refine(dr _ _).mono ?_);rintro e wx ⟨rfl,rfl⟩)
        | (go_at_call 40;(with_reducible refine HOf0.o.mono ?_);rintro e wx ⟨rfl,rfl⟩))
       clear HOf0;have HOp:Hid (Calls Tryz.prog 50 #[.pointer (some ⟨d,0,none⟩),.agg #[.slice LA M.length lc],.agg #[.slice LA M.length lc],.agg #[.int .i64 op,.int .i64 xn,.slice B cp.length c5,.slice kA kl.length kc,.slice tA tl.length tc,.slice eA kp.length ec,.int .i64 torn,.int .i64 cut]] w12.drew fun e w'=> ∃ b' g',e = .returned (.tuple #[.pointer (some ⟨b',0,none⟩),.pointer (some ⟨g',0,none⟩)])/\Hid (∃ N,lL N/\iJ w (PO*(R*(PE*(RB*aV)))) b' d 4096 (12*(i+1)) (1+4*(i+1)) 0 g' kb (i+1) (i+1) N w')):=ah (kC ⟨op,xn,B,c5,cp,(kA,kc,kl),(tA,tc,tl),eA,ec,kp,torn,cut⟩ (by omega) (by omega) HKp.o.1 HKp.o.2 (fun N hN=> .inl (List.mem_singleton.1 hN)) HM.o HM.o (by omega) (by omega) (by omega) ((HCr.o.map fun G hG=>hG.drew).of (show _=bQ (.slice LA M.length lc) M*(bQ (.slice LA M.length lc) M*(bj kb i*(PO*(R*(PE*(RB*aV)))))) by ac_rfl)));have HKe:Hid (∀ w',Sat w (PO*(R*(PE*(RB*aV)))) w'->w'.cell? ⟨g,0,none⟩=some (.slice LA M.length lc)/\w'.cell? ⟨O,0,none⟩=some (.slice LA M.length lc)/\w'.cell? ⟨E,0,none⟩=some (.int .i64 op)/\w'.cell? ⟨E,1,none⟩=some (.int .i64 xn)/\w'.cell? ⟨E,2,none⟩=some (.slice B cp.length c5)/\w'.cell? ⟨E,3,none⟩=some (.slice kA kl.length kc)/\w'.cell? ⟨E,4,none⟩=some (.slice tA tl.length tc)/\w'.cell? ⟨E,5,none⟩=some (.slice eA kp.length ec)/\w'.cell? ⟨E,6,none⟩=some (.int .i64 torn)/\w'.cell? ⟨E,7,none⟩=some (.int .i64 cut)):=ah fun w' hW=>⟨HRb.o _ _ hW.right,(HPo.o _ _ hW).1,HPe.o _ _ hW.right.right⟩
       have HS0:=ah ((HCr.o.sat.drew).of (show _=(bQ (.slice LA M.length lc) M*(bQ (.slice LA M.length lc) M*bj kb i))*(PO*(R*(PE*(RB*aV)))) by ac_rfl)).right;have HOf:=ah (EJ HCr.o);clear HCr;go_upto_region 42 with (go_at_call 40;(with_reducible refine HOf.o.mono ?_);rintro e wx ⟨rfl,rfl⟩)
       refine tK HKe (HS0.o) ?_;intro hS0;refine an 0 1 2 3 ?_;refine cm 4 5 ?_;refine cH 6 ?_;refine bR 7 fun K hK=>?_
       go_simp;go_at_call 50;(with_reducible refine HOp.o.mono ?_);rintro e w9 ⟨b9,g9,rfl,HD9⟩
       refine hK.out _ _ (by obtain⟨_,_,_,_,_,_,hs9⟩:=HD9.o;exact HKe.o _ hs9.sat.right.right) (fun hS0=>?_);clear hK K;refine an 8 9 10 11 ?_;refine cH 12 ?_;refine wpAnyH_done (by kernel_rfl) ?_ _;obtain⟨N9,hN9,hP9⟩:=HD9.o;have HN9:=ah hN9;have HPl:=ah hP9.emp;clear hN9 hP9 HD9 HOp HKe HS0 HOf;go_wp2_with fail;go_roundw
       .exact⟨i+1,_,_,by omega,by omega,by push_cast;rfl,rfl,rfl,N9,0,HN9.o,by omega,HPl.o⟩
       .simp[intOf];omega
     .by_cases h9:dd=9
      .subst h9;clear HDd h0 h7 h8;have HAr:Hid (Calls Tryz.prog 37 #[.pointer (some ⟨d,0,none⟩),.int .i64 xn] W8 fun e w'=>e = .returned (.tuple #[])/\iJ w aV b d 4096 (12*(i+1)) (1+4*(i+1)) xn.toNat g kb (i+1) (i+1) M w'):=ah ((MZ xn HS9.o).mono (by
        rintro e w' ⟨rfl,hs⟩;have hs13:=(hs.of (show _=R*(bQ (.slice LA M.length lc) M*(PO*(PE*(RB*(bj kb i*aV))))) by ac_rfl)).turn fun F' W hW=>(HR.o F' W hW).2
        refine⟨rfl,iJ.mono (t:=12*i) (k:=1+4*i) (m:=i) (q:=i) ?_ (by omega) (by omega) (by omega) (by omega)⟩;exact(show iJ w (bQ (.slice LA M.length lc) M*(PO*(PE*(RB*aV)))) b d 4096 (12*i) (1+4*i) xn.toNat g kb i i M w' from ⟨Ms,gs,hq80,HMs.o,hs13.of (by ac_rfl)⟩).emp))
       have HXn:Hid (xn.toNat<=9223372036854775807):=ah (by have h1:xn<=9223372036854775807:=HIn.o.n.2;omega);have x1:=(HPe.o _ _ HS9.o.sat.right.right.right).2.1;clear HS9;go_upto_region 41 with (go_at_call 37;(with_reducible refine HAr.o.mono ?_);rintro e w13 ⟨rfl,hs⟩;have HPl:=ah hs;clear hs)
       have HOf:=ah (iJ.AF HPl.o);go_wp2_with (go_at_call 40;(with_reducible refine HOf.o.mono ?_);rintro e wx ⟨rfl,rfl⟩);go_roundw
       .exact⟨i+1,_,_,by omega,by omega,by push_cast;rfl,rfl,rfl,M,xn.toNat,HM.o,HXn.o,HPl.o⟩
       .simp[intOf];omega
      .by_cases h10:dd=10
       .subst h10;clear HDd h0 h7 h8 h9;have HCr:Hid (ke w (bQ (.slice LA M.length lc) M*(bQ (.slice LA M.length lc) M*(PO*(R*(PE*(RB*(bj kb i*aV))))))) d 4096 (12*i) (1+4*i+1) [M] false W8):=ah ((HS9.o.NQ (by omega)).map fun G hG=>((hG.of (show _=bQ (.slice LA M.length lc) M*(G*(PO*(R*(PE*(RB*(bj kb i*aV)))))) by ac_rfl)).vG).of (by ac_rfl));clear HS9;go_upto_region 38 with fail;have HOp:Hid (Calls Tryz.prog 50 #[.pointer (some ⟨d,0,none⟩),.agg #[.slice LA M.length lc],.agg #[.slice LA M.length lc],.agg #[.int .i64 op,.int .i64 xn,.slice B cp.length c5,.slice kA kl.length kc,.slice tA tl.length tc,.slice eA kp.length ec,.int .i64 torn,.int .i64 cut]] W8.drew fun e w'=> ∃ b' g',e = .returned (.tuple #[.pointer (some ⟨b',0,none⟩),.pointer (some ⟨g',0,none⟩)])/\Hid (∃ N,lL N/\iJ w (PO*(R*(PE*(RB*aV)))) b' d 4096 (12*(i+1)) (1+4*(i+1)) 0 g' kb (i+1) (i+1) N w')):=ah (kC ⟨op,xn,B,c5,cp,(kA,kc,kl),(tA,tc,tl),eA,ec,kp,torn,cut⟩ (by omega) (by omega) HKp.o.1 HKp.o.2 (fun N hN=> .inl (List.mem_singleton.1 hN)) HM.o HM.o (by omega) (by omega) (by omega) ((HCr.o.map fun G hG=>hG.drew).of (show _=bQ (.slice LA M.length lc) M*(bQ (.slice LA M.length lc) M*(bj kb i*(PO*(R*(PE*(RB*aV)))))) by ac_rfl)));have HKe:Hid (∀ w',Sat w (PO*(R*(PE*(RB*aV)))) w'->w'.cell? ⟨g,0,none⟩=some (.slice LA M.length lc)/\w'.cell? ⟨E,0,none⟩=some (.int .i64 op)/\w'.cell? ⟨E,1,none⟩=some (.int .i64 xn)/\w'.cell? ⟨E,2,none⟩=some (.slice B cp.length c5)/\w'.cell? ⟨E,3,none⟩=some (.slice kA kl.length kc)/\w'.cell? ⟨E,4,none⟩=some (.slice tA tl.length tc)/\w'.cell? ⟨E,5,none⟩=some (.slice eA kp.length ec)/\w'.cell? ⟨E,6,none⟩=some (.int .i64 torn)/\w'.cell? ⟨E,7,none⟩=some (.int .i64 cut)):=ah fun w' hW=>⟨HRb.o _ _ hW.right,HPe.o _ _ hW.right.right⟩
        have HS0:=ah ((HCr.o.sat.drew).of (show _=(bQ (.slice LA M.length lc) M*(bQ (.slice LA M.length lc) M*bj kb i))*(PO*(R*(PE*(RB*aV)))) by ac_rfl)).right;refine tK HKe (HS0.o) ?_;intro hS0;refine an 0 1 2 3 ?_;refine an 4 5 6 7 ?_;refine cm 8 9 ?_;refine bR 10 fun K hK=>?_
        go_simp;go_at_call 50;(with_reducible refine HOp.o.mono ?_);rintro e w9 ⟨b9,g9,rfl,HD9⟩
        refine hK.out _ _ (by obtain⟨_,_,_,_,_,_,hs9⟩:=HD9.o;exact HKe.o _ hs9.sat.right.right) (fun hS0=>?_);clear hK K;refine an 11 12 13 14 ?_;refine cH 15 ?_;refine wpAnyH_done (by kernel_rfl) ?_ _;obtain⟨N9,hN9,hP9⟩:=HD9.o;have HN9:=ah hN9;have HPl:=ah hP9.emp;clear hN9 hP9 HD9 HOp HKe HS0;go_upto_region 41 with fail;have HOf:=ah (iJ.AF HPl.o);go_wp2_with (go_at_call 40;(with_reducible refine HOf.o.mono ?_);rintro e wx ⟨rfl,rfl⟩);go_roundw
        .exact⟨i+1,_,_,by omega,by omega,by push_cast;rfl,rfl,rfl,N9,0,HN9.o,by omega,HPl.o⟩
        .simp[intOf];omega
       .have g0:((dd:Int)==0)=false:=by rw[beq_eq_false_iff_ne];omega
        have g7:((dd:Int)==7)=false:=by rw[beq_eq_false_iff_ne];omega
        have g8:((dd:Int)==8)=false:=by rw[beq_eq_false_iff_ne];omega
        have g9:((dd:Int)==9)=false:=by rw[beq_eq_false_iff_ne];omega
        have g10:((dd:Int)==10)=false:=by rw[beq_eq_false_iff_ne];omega
        have HAs:Hid (Calls Tryz.prog 48 #[.pointer (some ⟨b,0,none⟩),.pointer (some ⟨g,0,none⟩),.agg #[.int .i64 op,.int .i64 xn,.slice B cp.length c5,.slice kA kl.length kc,.slice tA tl.length tc,.slice eA kp.length ec,.int .i64 torn,.int .i64 cut],.pointer (some ⟨kb,0,none⟩)] W8 fun e w'=>e = .returned (.bool true)/\iJ w aV b d 4096 (12*(i+1)) (1+4*(i+1)) a g kb (i+1) (i+1) M w'):=ah (by
         have hs13:=(HS9.o.of (show _=R*(bQ (.slice LA M.length lc) M*(PO*(PE*(RB*(bj kb i*aV))))) by ac_rfl)).turn fun F' W hW=>(HR.o F' W hW).2
         refine(Ka (F:=bQ (.slice LA M.length lc) M*(PO*(PE*(RB*aV)))) (q:=i) ⟨op,xn,B,c5,cp,(kA,kc,kl),(tA,tc,tl),eA,ec,kp,torn,cut⟩ ⟨Ms,gs,hq80,HMs.o,hs13.of (by ac_rfl)⟩ (by omega) (by omega) (by omega) (by omega) HIn.o.n (fun W hW=>⟨HIn.o.key.1.new hW.aP,HIn.o.too.1.new hW.aP⟩) (fun h=>absurd (HDd.o.trans h) h7)).mono ?_;rintro e w' ⟨rfl,h11⟩;exact⟨rfl,h11.emp.mono (by omega) (by omega) (by omega) (by omega)⟩)
        obtain⟨l0,l1,l2,l3,l4,l5,l6,l7⟩:=HPe.o _ _ HS9.o.sat.right.right.right;clear h0 h7 h8 h9 h10 HS9;go_upto_region 41 with (go_at_call 48;(with_reducible refine HAs.o.mono ?_);rintro e w13 ⟨rfl,hs⟩;have HPl:=ah hs;clear hs)
        clear l0 l1 l2 l3 l4 l5 l6 l7;have HOf:=ah (iJ.AF HPl.o);go_wp2_with (go_at_call 40;(with_reducible refine HOf.o.mono ?_);rintro e wx ⟨rfl,rfl⟩);go_roundw
        .exact⟨i+1,_,_,by omega,by omega,by push_cast;rfl,rfl,rfl,M,a,HM.o,HHa.o,HPl.o⟩
        .simp[intOf];omega
  .obtain⟨M,a,hM,ha,Ms,gs,hq,hMs,hS⟩:=HD.o;have hpr:=hS.gh;obtain⟨LX,lcx,vox,vgx,esx,RX,hex,hsx,hBx⟩:=hS.lC;obtain⟨F9,hF9⟩: ∃ F9,F9=Pt g 36 #[.slice LX esx.length lcx,vox,vgx]*(eH (.slice LX esx.length lcx) esx*(RX*(bj kb i*aV))):=⟨_,rfl⟩;have HS0:Hid (aY w F9 b d 4096 (12*i) (1+4*i) a (Ms.length+1) M (bu Ms gs) wr.drew):=ah (by rw[hF9];exact hsx.map fun G hG=>hG.drew);have HFc:Hid (∀ W,Sat w F9 W->W.cell? ⟨g,0,none⟩=some (.slice LX esx.length lcx)):=ah fun W hW=>by rw[hF9] at hW;exact hW.cell 0
   have htl:qd F9 LX esx:=by rw[hF9];exact nP.left
   have hMl:M.length<=1000:=by have:=hpr.2.1;omega
   have HSc:Hid (∀ W,aY w F9 b d 4096 (12*i) (1+4*i) a (Ms.length+1) M (bu Ms gs) W->Calls Tryz.prog 24 #[.pointer (some ⟨b,0,none⟩),.slice none 0 0,.slice none 0 0,.int .i64 1073741824] W fun x w'=> ∃ (B:Option Addr) (c:Nat) (qs es:List En),x = .returned (.slice B qs.length c)/\Hid (az qs=M/\(∀ q ∈ qs,q ∈ es))/\aY w (eV B c qs es*F9) b d 4096 (12*i) (1+4*i) a (Ms.length+1) M (bu Ms gs) w'):=ah fun W hW=>(Av (none,0,[]) (none,0,[]) 1073741824 M (by rw[wS,List.take_of_length_le];show M.length<=1073741824;omega) (Rd.nil _ _) (Rd.nil _ _) (by omega) hW).mono (by
    rintro e w' ⟨B,c,qs,es,rfl,h1,h2,_,h3⟩;exact⟨B,c,qs,es,rfl,⟨h1,h2⟩,h3⟩)
   have HPa:Hid (∀ B c qs es W,Hid (az qs=M/\(∀ q ∈ qs,q ∈ es))->aY w (eV B c qs es*F9) b d 4096 (12*i) (1+4*i) a (Ms.length+1) M (bu Ms gs) W->Calls Tryz.prog 23 #[.slice B qs.length c,.slice LX esx.length lcx] W fun x w'=>x = .returned (.bool true)/\aY w F9 b d 4096 (12*i) (1+4*i) a (Ms.length+1) M (bu Ms gs) w'):=ah fun B c qs es W h1 h3=>(mN (sG h1.o.2) htl.left (h1.o.1.trans hex.symm) (by have h4:=congrArg List.length h1.o.1;rw[bB] at h4;omega) h3).mono (by
    rintro e w' ⟨rfl,h9⟩;exact⟨rfl,h9.drop⟩)
   clear hex hsx hBx hpr hS hM hMs htl hF9 ha;by_cases hlt2:i<l.length
   .have h80:i=50:=by
     by_cases h0:i<50
     .exact absurd ⟨hlt2,h0⟩ hlt
     .omega
    have hii:(i:Int)<l.length:=by omega
    have hi80:¬ (i:Int)<50:=by omega
    clear hlt hlt2 h80;go_upto_region 45 with fail;refine tK HFc (HS0.o.sat) ?_;intro hS0;refine an 0 2 3 4 ?_;refine cm 5 6 ?_;refine bR 1 fun K hK=>?_
    go_simp;go_at_call 24;(with_reducible refine(HSc.o _ HS0.o).mono ?_);rintro e w1 ⟨B1,c1,qs1,es1,rfl,HQ1,hs⟩;have HS1:=ah hs;clear hs
    refine hK.out _ _ (HFc.o _ HS1.o.sat.right) (fun hS0=>?_);clear hK K;refine bR 7 fun K hK=>?_
    go_simp;go_at_call 23;(with_reducible refine(HPa.o _ _ _ _ _ HQ1 HS1.o).mono ?_);rintro e w7 ⟨rfl,hs⟩;have HS7:=ah hs;clear hs
    refine hK.out _ _ (HFc.o _ HS7.o.sat) (fun hS0=>?_);clear hK K;refine cH 8 ?_;refine wpAnyH_done (by kernel_rfl) ?_ _;go_wp2_with fail;go_ret;exact⟨rfl,HS7.o.sat.aP⟩
   .have hii:¬ (i:Int)<l.length:=by omega
    clear hlt hlt2;go_upto_region 45 with fail;refine tK HFc (HS0.o.sat) ?_;intro hS0;refine an 0 2 3 4 ?_;refine cm 5 6 ?_;refine bR 1 fun K hK=>?_
    go_simp;go_at_call 24;(with_reducible refine(HSc.o _ HS0.o).mono ?_);rintro e w1 ⟨B1,c1,qs1,es1,rfl,HQ1,hs⟩;have HS1:=ah hs;clear hs
    refine hK.out _ _ (HFc.o _ HS1.o.sat.right) (fun hS0=>?_);clear hK K;refine bR 7 fun K hK=>?_
    go_simp;go_at_call 23;(with_reducible refine(HPa.o _ _ _ _ _ HQ1 HS1.o).mono ?_);rintro e w7 ⟨rfl,hs⟩;have HS7:=ah hs;clear hs
    refine hK.out _ _ (HFc.o _ HS7.o.sat) (fun hS0=>?_);clear hK K;refine cH 8 ?_;refine wpAnyH_done (by kernel_rfl) ?_ _;go_wp2_with fail;go_ret;exact⟨rfl,HS7.o.sat.aP⟩
end Go.Proofs.YtmbaiglpgaoogaaGreat
