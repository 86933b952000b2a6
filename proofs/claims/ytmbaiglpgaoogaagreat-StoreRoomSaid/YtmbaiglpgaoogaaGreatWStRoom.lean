/- StoreRoom: the walk. (Written by gen_stroom.py.) -/
import Derived.Test.YtmbaiglpgaoogaaGreatW02
import Derived.Test.YtmbaiglpgaoogaaGreatW34
set_option maxHeartbeats 16000000
set_option linter.unusedVariables false
set_option maxRecDepth 100000
namespace Go.Proofs.YtmbaiglpgaoogaaGreat
open Go.RowKit Z
theorem gJ (x:Int) (w:World):Calls Tryz.prog 27 #[.int .i64 x,.int .i64 0,.int .i64 3000] w fun e w'=> ∃ m:Nat,m<=3000/\e = .returned (.int .i64 (m:Int))/\w=w':=by
 refine(H8 x 3000 w (by omega) (by omega)).mono ?_;rintro e w' ⟨rfl,rfl⟩;have:=JL x 3000 (by omega);exact⟨wi x 3000,by omega,rfl,rfl⟩
theorem pK (b0:Int) (A:Option Addr) (c:Nat) (l:List Int) (w:World) (hb0: -9223372036854775808<=b0/\b0<=9223372036854775807)
 (hl:l.length<=c/\c<=maxLen/\aF w A (l.map fun n=> .int .i64 n)/\l.length<=17592186043904/\ ∀ n ∈ l, -9223372036854775808<=n/\n<=9223372036854775807):
 Calls Tryz.prog 4 #[.int .i64 b0,.slice A l.length c] w (JD true w):=by
 have a7:=KH;have hbn:0<=bits .and .i64 b0 511/\bits .and .i64 b0 511<=511:=yW b0 511 (by omega);obtain⟨n,hn⟩: ∃ n:Nat,(n:Int)=600+bits .and .i64 b0 511:=⟨(600+bits .and .i64 b0 511).toNat,by omega⟩;have hn1:600<=n/\n<=1111:=by omega
 obtain⟨r5,hr5⟩: ∃ r5,bits .and .i64 b0 511=r5:=⟨_,rfl⟩;rw[hr5] at hn hbn;have HB:Hid (Calls Tryz.prog 25 #[.int .i64 (600+r5)] w fun e w'=> ∃ d b,e = .returned (.tuple #[.pointer (some ⟨d,0,none⟩),.pointer (some ⟨b,0,none⟩)])/\cX w bF b d n 0 1 0 1 [] (fun _=>none) w'):=ah (by rw[<-hn];exact oG (w0:=w) (w:=w) (F:=bF) n (by omega) (Sat.start w));have HWk:Hid (∀ w2 b d,cX w bF b d n 0 1 0 1 [] (fun _=>none) w2->Calls Tryz.prog 26 #[] w2 fun e w'=>e = .returned (.bool true)/\cX w bF b d n 0 1 0 1 [] (fun _=>none) w'):=fun w2 b d h=>by
  refine(wB (w0:=w2) (F:=bF) (Sat.start w2)).mono ?_;rintro e w' ⟨rfl,hs⟩;exact⟨rfl,h.new hs.aL⟩
 have HL:=ah hl;have hl1:l.length<=17592186043904:=hl.2.2.2.1;clear hl hb0;go_enter Tryz.func4, Tryz.ntmps4;go_upto_region 5 with (first
  | (go_at_call 25;(with_reducible refine HB.o.mono ?_);rintro e w2 ⟨d,b,rfl,hs⟩;have HS2:=ah hs;clear hs)
  | (go_at_call 26;(with_reducible refine(HWk.o _ _ _ HS2.o).mono ?_);rintro e w3 ⟨rfl,hs⟩;have HS3:=ah hs;clear hs))
 rw[<-hn];have HN1:=ah hn1;clear HB HWk HS2 hr5 hn hbn;go_upto_region 6 with fail;have hs4:cX w (eN w3.heap.size [] [] []*bF) b d n 0 1 0 1 [] (fun _=>none) (w3.alloc (.cells #[.slice none 0 0,.slice none 0 0,.slice none 0 0] 36)):=(HS3.o.of (iU bF).symm).map fun G hG=>(hG.Ha).of (by rw[iU];ac_rfl)
 have HS4:=ah hs4;clear hs4 HS3;go_wp2_with fail;go_loopw [8,7] (fun iv mv wr=> ∃ (i g:Nat),i<=l.length/\i<=120/\iv = .int .i64 (i:Int)/\mv = .pointer (some ⟨g,0,none⟩)/\Hid (∃ M,cX w (eN g M [] []*bF) b d n i (1+i) 0 1 M (fun _=>none) wr)) (fun iv _ _=>130 - (intOf iv).toNat)
 case atStart=>exact⟨0,_,by omega,by omega,rfl,rfl,[],HS4.o⟩
 case round=>
  obtain⟨i,g,hi,hi2,rfl,rfl,HD⟩:=hrel;by_cases hlt:i<l.length/\i<120
  .obtain⟨hlt,h120⟩:=hlt;obtain⟨M,hS⟩:=HD.o;have hpr:=hS.gW;obtain⟨G,hG,hR⟩:=hS.KW;have hG2:=hG.of (show _=eN g M [] []*(bF*G) by ac_rfl);obtain⟨LA,lc,vo,vg,es,R,he,h1,hB⟩:=hG2.kD;obtain⟨lb,lo,hA,hcell⟩:=(HL.o.2.2.1.new hS.sat.aL) (by intro h0;have:=congrArg List.length h0;rw[List.length_map,List.length_nil] at this;omega);subst hA;have y0:=hcell i (by rw[List.length_map];exact hlt);rw[List.getElem_map] at y0;have HZ:Hid (∀ v,Sat w (Pt g 36 #[.slice LA es.length lc,vo,vg]*(fw (.slice LA es.length lc) es*(R*(bF*G)))) v->v.cell? ⟨lb,lo+i,none⟩=some (.int .i64 l[i])):=ah fun v hv=>by
    obtain⟨lb',lo',hA,hcell⟩:=(HL.o.2.2.1.new hv.aL) (by intro h0;have:=congrArg List.length h0;rw[List.length_map,List.length_nil] at this;omega);injection hA with hA
    injection hA with e1 e2
    subst e1;subst e2;have y1:=hcell i (by rw[List.length_map];exact hlt);rw[List.getElem_map] at y1;exact y1
   generalize l[i]=x at*
   obtain⟨X,hX⟩: ∃ X,X=Pt g 36 #[.slice LA es.length lc,vo,vg]*(fw (.slice LA es.length lc) es*(R*(bF*G))):=⟨_,rfl⟩;rw[<-hX] at HZ h1;obtain⟨s,hsx⟩: ∃ s:Nat,(s:Int)=x % 8:=⟨(x % 8).toNat,by omega⟩;have hx8:x % 8=(s:Int):=hsx.symm;have hs8:s<8:=by omega
   have w1:IntKind.u8.wrap (s:Int)=s:=by rw[IntKind.wrap_u8];omega
   have hii:(i:Int)<l.length:=by omega
   have hi120:(i:Int)<120:=by omega
   have HPr:=ah hpr;have HR:=ah hR;have HBk:=ah hB;have HE:=ah he;have HX:=ah hX;have HMl:Hid (M.length<=120):=ah (by have:=hpr.2.1;omega);have HEl:Hid (es.length=M.length):=ah (by rw[<-he,bX]);have HS:=ah h1.drew;clear hcell hS hpr hG hR hG2 hB he hX h1 hlt hsx HD y0;go_upto_region 9 with fail;go_cut [9] (fun pv wx=> ∃ (gp ga gb m:Nat),pv = .pointer (some ⟨gp,0,none⟩)/\Hid (m<=3000/\Sat w (Pt gp 43 #[.slice (some ⟨ga,0,none⟩) 2 2,.slice (some ⟨gb,0,none⟩) m m,.bool false]*(Pt ga 5 #[.int .u8 107,.int .u8 (s:Int)]*(Pt gb 5 (madeCells #[.int .u8 0] m)*X))) wx))
   case first=>
    refine wp_region_held_drew (S:=fun w'=>w'.cell? ⟨lb,lo+i,none⟩=some (.int .i64 x)) (by kernel_rfl) (HZ.o _ HS.o) ?_;intro hS0;revert hS0 HS;generalize wr.drew=wd0;intro HS hS0;refine an 0 1 2 3 ?_;refine an 4 5 7 8 ?_;refine cw 9 10 ?_;refine ca 11 ?_;refine lA (i:=6) (j:=12) (k:=15) rfl rfl rfl (by kernel_rfl) (fun K hK=>?_) (fun K hK=>?_) (fun K hK=>?_)
    ·
     go_simp;have hs:=HS.o.ab 5 #[.int .u8 107,.int .u8 (s:Int)];obtain⟨wd1,hN⟩: ∃ v,v=wd0.alloc (.cells #[.int .u8 107,.int .u8 (s:Int)] 5):=⟨_,rfl⟩;obtain⟨g6,hgk⟩: ∃ x,x=wd0.heap.size:=⟨_,rfl⟩;rw[<-hN, <-hgk] at hs;rw[<-hN, <-hgk];replace HS:Hid (Sat w (Pt g6 5 #[.int .u8 107,.int .u8 (s:Int)]*X) wd1):=ah (hs.of (by ac_rfl));clear hs hN hgk;refine hK.out _ _ (by first | exact HZ.o _ HS.o | exact HZ.o _ HS.o.right | exact HZ.o _ HS.o.right.right | exact HZ.o _ HS.o.right.right.right) (fun hS0=>?_);clear hK K;refine bM (i:=12) (j:=15) rfl rfl (by kernel_rfl) (fun K hK=>?_) (fun K hK=>?_)
     ·
      go_simp;go_at_call 27;(with_reducible refine(gJ _ _).mono ?_);rintro e wx ⟨m,hm3,rfl,rfl⟩
      refine hK.out _ _ (by first | exact HZ.o _ HS.o | exact HZ.o _ HS.o.right | exact HZ.o _ HS.o.right.right | exact HZ.o _ HS.o.right.right.right) (fun hS0=>?_);clear hK K;refine bM (i:=13) (j:=15) rfl rfl (by kernel_rfl) (fun K hK=>?_) (fun K hK=>?_)
      ·
       have hmk:=ch m (by omega) wd1;go_simp;clear hmk;have hs:=HS.o.ab 5 (madeCells #[.int .u8 0] m);obtain⟨wd2,hN⟩: ∃ v,v=wd1.alloc (.cells (madeCells #[.int .u8 0] m) 5):=⟨_,rfl⟩;obtain⟨g13,hgk⟩: ∃ x,x=wd1.heap.size:=⟨_,rfl⟩;rw[<-hN, <-hgk] at hs;rw[<-hN, <-hgk];replace HS:Hid (Sat w (Pt g6 5 #[.int .u8 107,.int .u8 (s:Int)]*(Pt g13 5 (madeCells #[.int .u8 0] m)*X)) wd2):=ah (hs.of (by ac_rfl));clear hs hN hgk;refine hK.out _ _ (by first | exact HZ.o _ HS.o | exact HZ.o _ HS.o.right | exact HZ.o _ HS.o.right.right | exact HZ.o _ HS.o.right.right.right) (fun hS0=>?_);clear hK K
       try simp only[Act.put,et,eh,ep]
       refine ca 14 ?_;refine bC 15 fun K hK=>?_
       go_simp;have hs:=HS.o.ab 43 #[.slice none 0 0,.slice none 0 0,.bool false];obtain⟨wd3,hN⟩: ∃ v,v=wd2.alloc (.cells #[.slice none 0 0,.slice none 0 0,.bool false] 43):=⟨_,rfl⟩;obtain⟨g15,hgk⟩: ∃ x,x=wd2.heap.size:=⟨_,rfl⟩;rw[<-hN, <-hgk] at hs;rw[<-hN, <-hgk];replace HS:Hid (Sat w (Pt g15 43 #[.slice none 0 0,.slice none 0 0,.bool false]*(Pt g6 5 #[.int .u8 107,.int .u8 (s:Int)]*(Pt g13 5 (madeCells #[.int .u8 0] m)*X))) wd3):=ah (hs.of (by ac_rfl));clear hs hN hgk;refine hK.out _ _ (by first | exact HZ.o _ HS.o | exact HZ.o _ HS.o.right | exact HZ.o _ HS.o.right.right | exact HZ.o _ HS.o.right.right.right) (fun hS0=>?_);clear hK K;refine bC 16 fun K hK=>?_
       have h15:=HS.o;have f0:=h15.frozen 0;have f1:=h15.frozen 1;have f2:=h15.frozen 2;have x0:=h15.cell 0;have x1:=h15.cell 1;have x2:=h15.cell 2;go_simp;clear f0 f1 f2 x0 x1 x2;have hs:=((h15.set 0 (.slice (some ⟨g6,0,none⟩) 2 2)).set 1 (.slice (some ⟨g13,0,none⟩) m m)).set 2 (.bool false);obtain⟨wd4,hN⟩: ∃ v,v=((wd3.setCell ⟨g15,0,none⟩ (.slice (some ⟨g6,0,none⟩) 2 2)).setCell ⟨g15,1,none⟩ (.slice (some ⟨g13,0,none⟩) m m)).setCell ⟨g15,2,none⟩ (.bool false):=⟨_,rfl⟩;rw[<-hN] at hs;rw[<-hN];replace HS:Hid (Sat w (Pt g15 43 #[.slice (some ⟨g6,0,none⟩) 2 2,.slice (some ⟨g13,0,none⟩) m m,.bool false]*(Pt g6 5 #[.int .u8 107,.int .u8 (s:Int)]*(Pt g13 5 (madeCells #[.int .u8 0] m)*X))) wd4):=ah hs;clear hs hN h15;refine hK.out _ _ (by first | exact HZ.o _ HS.o | exact HZ.o _ HS.o.right | exact HZ.o _ HS.o.right.right | exact HZ.o _ HS.o.right.right.right) (fun hS0=>?_);clear hK K
       try simp only[Act.put,et,eh,ep]
       refine wpAnyH_done (by kernel_rfl) ?_ _
       (try go_simp)
       (try go_wp2_with fail)
       go_meet
       exact⟨g15,g6,g13,m,rfl,hm3,HS.o⟩
      ·
       go_simp;have hs:=HS.o.ab 43 #[.slice none 0 0,.slice none 0 0,.bool false];obtain⟨wd2,hN⟩: ∃ v,v=wd1.alloc (.cells #[.slice none 0 0,.slice none 0 0,.bool false] 43):=⟨_,rfl⟩;obtain⟨g15,hgk⟩: ∃ x,x=wd1.heap.size:=⟨_,rfl⟩;rw[<-hN, <-hgk] at hs;rw[<-hN, <-hgk];replace HS:Hid (Sat w (Pt g15 43 #[.slice none 0 0,.slice none 0 0,.bool false]*(Pt g6 5 #[.int .u8 107,.int .u8 (s:Int)]*X)) wd2):=ah (hs.of (by ac_rfl));clear hs hN hgk;refine hK.out _ _ (by first | exact HZ.o _ HS.o | exact HZ.o _ HS.o.right | exact HZ.o _ HS.o.right.right | exact HZ.o _ HS.o.right.right.right) (fun hS0=>?_);clear hK K;refine bC 13 fun K hK=>?_
       have hmk:=ch m (by omega) wd2;go_simp;clear hmk;have hs:=HS.o.ab 5 (madeCells #[.int .u8 0] m);obtain⟨wd3,hN⟩: ∃ v,v=wd2.alloc (.cells (madeCells #[.int .u8 0] m) 5):=⟨_,rfl⟩;obtain⟨g13,hgk⟩: ∃ x,x=wd2.heap.size:=⟨_,rfl⟩;rw[<-hN, <-hgk] at hs;rw[<-hN, <-hgk];replace HS:Hid (Sat w (Pt g15 43 #[.slice none 0 0,.slice none 0 0,.bool false]*(Pt g6 5 #[.int .u8 107,.int .u8 (s:Int)]*(Pt g13 5 (madeCells #[.int .u8 0] m)*X))) wd3):=ah (hs.of (by ac_rfl));clear hs hN hgk;refine hK.out _ _ (by first | exact HZ.o _ HS.o | exact HZ.o _ HS.o.right | exact HZ.o _ HS.o.right.right | exact HZ.o _ HS.o.right.right.right) (fun hS0=>?_);clear hK K
       try simp only[Act.put,et,eh,ep]
       refine ca 14 ?_;refine bC 16 fun K hK=>?_
       have h15:=HS.o;have f0:=h15.frozen 0;have f1:=h15.frozen 1;have f2:=h15.frozen 2;have x0:=h15.cell 0;have x1:=h15.cell 1;have x2:=h15.cell 2;go_simp;clear f0 f1 f2 x0 x1 x2;have hs:=((h15.set 0 (.slice (some ⟨g6,0,none⟩) 2 2)).set 1 (.slice (some ⟨g13,0,none⟩) m m)).set 2 (.bool false);obtain⟨wd4,hN⟩: ∃ v,v=((wd3.setCell ⟨g15,0,none⟩ (.slice (some ⟨g6,0,none⟩) 2 2)).setCell ⟨g15,1,none⟩ (.slice (some ⟨g13,0,none⟩) m m)).setCell ⟨g15,2,none⟩ (.bool false):=⟨_,rfl⟩;rw[<-hN] at hs;rw[<-hN];replace HS:Hid (Sat w (Pt g15 43 #[.slice (some ⟨g6,0,none⟩) 2 2,.slice (some ⟨g13,0,none⟩) m m,.bool false]*(Pt g6 5 #[.int .u8 107,.int .u8 (s:Int)]*(Pt g13 5 (madeCells #[.int .u8 0] m)*X))) wd4):=ah hs;clear hs hN h15;refine hK.out _ _ (by first | exact HZ.o _ HS.o | exact HZ.o _ HS.o.right | exact HZ.o _ HS.o.right.right | exact HZ.o _ HS.o.right.right.right) (fun hS0=>?_);clear hK K
       try simp only[Act.put,et,eh,ep]
       refine wpAnyH_done (by kernel_rfl) ?_ _
       (try go_simp)
       (try go_wp2_with fail)
       go_meet
       exact⟨g15,g6,g13,m,rfl,hm3,HS.o⟩
     ·
      go_simp;have hs:=HS.o.ab 43 #[.slice none 0 0,.slice none 0 0,.bool false];obtain⟨wd2,hN⟩: ∃ v,v=wd1.alloc (.cells #[.slice none 0 0,.slice none 0 0,.bool false] 43):=⟨_,rfl⟩;obtain⟨g15,hgk⟩: ∃ x,x=wd1.heap.size:=⟨_,rfl⟩;rw[<-hN, <-hgk] at hs;rw[<-hN, <-hgk];replace HS:Hid (Sat w (Pt g15 43 #[.slice none 0 0,.slice none 0 0,.bool false]*(Pt g6 5 #[.int .u8 107,.int .u8 (s:Int)]*X)) wd2):=ah (hs.of (by ac_rfl));clear hs hN hgk;refine hK.out _ _ (by first | exact HZ.o _ HS.o | exact HZ.o _ HS.o.right | exact HZ.o _ HS.o.right.right | exact HZ.o _ HS.o.right.right.right) (fun hS0=>?_);clear hK K;refine bC 12 fun K hK=>?_
      go_simp;go_at_call 27;(with_reducible refine(gJ _ _).mono ?_);rintro e wx ⟨m,hm3,rfl,rfl⟩
      refine hK.out _ _ (by first | exact HZ.o _ HS.o | exact HZ.o _ HS.o.right | exact HZ.o _ HS.o.right.right | exact HZ.o _ HS.o.right.right.right) (fun hS0=>?_);clear hK K;refine bC 13 fun K hK=>?_
      have hmk:=ch m (by omega) wd2;go_simp;clear hmk;have hs:=HS.o.ab 5 (madeCells #[.int .u8 0] m);obtain⟨wd3,hN⟩: ∃ v,v=wd2.alloc (.cells (madeCells #[.int .u8 0] m) 5):=⟨_,rfl⟩;obtain⟨g13,hgk⟩: ∃ x,x=wd2.heap.size:=⟨_,rfl⟩;rw[<-hN, <-hgk] at hs;rw[<-hN, <-hgk];replace HS:Hid (Sat w (Pt g15 43 #[.slice none 0 0,.slice none 0 0,.bool false]*(Pt g6 5 #[.int .u8 107,.int .u8 (s:Int)]*(Pt g13 5 (madeCells #[.int .u8 0] m)*X))) wd3):=ah (hs.of (by ac_rfl));clear hs hN hgk;refine hK.out _ _ (by first | exact HZ.o _ HS.o | exact HZ.o _ HS.o.right | exact HZ.o _ HS.o.right.right | exact HZ.o _ HS.o.right.right.right) (fun hS0=>?_);clear hK K
      try simp only[Act.put,et,eh,ep]
      refine ca 14 ?_;refine bC 16 fun K hK=>?_
      have h15:=HS.o;have f0:=h15.frozen 0;have f1:=h15.frozen 1;have f2:=h15.frozen 2;have x0:=h15.cell 0;have x1:=h15.cell 1;have x2:=h15.cell 2;go_simp;clear f0 f1 f2 x0 x1 x2;have hs:=((h15.set 0 (.slice (some ⟨g6,0,none⟩) 2 2)).set 1 (.slice (some ⟨g13,0,none⟩) m m)).set 2 (.bool false);obtain⟨wd4,hN⟩: ∃ v,v=((wd3.setCell ⟨g15,0,none⟩ (.slice (some ⟨g6,0,none⟩) 2 2)).setCell ⟨g15,1,none⟩ (.slice (some ⟨g13,0,none⟩) m m)).setCell ⟨g15,2,none⟩ (.bool false):=⟨_,rfl⟩;rw[<-hN] at hs;rw[<-hN];replace HS:Hid (Sat w (Pt g15 43 #[.slice (some ⟨g6,0,none⟩) 2 2,.slice (some ⟨g13,0,none⟩) m m,.bool false]*(Pt g6 5 #[.int .u8 107,.int .u8 (s:Int)]*(Pt g13 5 (madeCells #[.int .u8 0] m)*X))) wd4):=ah hs;clear hs hN h15;refine hK.out _ _ (by first | exact HZ.o _ HS.o | exact HZ.o _ HS.o.right | exact HZ.o _ HS.o.right.right | exact HZ.o _ HS.o.right.right.right) (fun hS0=>?_);clear hK K
      try simp only[Act.put,et,eh,ep]
      refine wpAnyH_done (by kernel_rfl) ?_ _
      (try go_simp)
      (try go_wp2_with fail)
      go_meet
      exact⟨g15,g6,g13,m,rfl,hm3,HS.o⟩
    ·
     go_simp;go_at_call 27;(with_reducible refine(gJ _ _).mono ?_);rintro e wx ⟨m,hm3,rfl,rfl⟩
     refine hK.out _ _ (by first | exact HZ.o _ HS.o | exact HZ.o _ HS.o.right | exact HZ.o _ HS.o.right.right | exact HZ.o _ HS.o.right.right.right) (fun hS0=>?_);clear hK K;refine lA (i:=6) (j:=13) (k:=15) rfl rfl rfl (by kernel_rfl) (fun K hK=>?_) (fun K hK=>?_) (fun K hK=>?_)
     ·
      go_simp;have hs:=HS.o.ab 5 #[.int .u8 107,.int .u8 (s:Int)];obtain⟨wd1,hN⟩: ∃ v,v=wd0.alloc (.cells #[.int .u8 107,.int .u8 (s:Int)] 5):=⟨_,rfl⟩;obtain⟨g6,hgk⟩: ∃ x,x=wd0.heap.size:=⟨_,rfl⟩;rw[<-hN, <-hgk] at hs;rw[<-hN, <-hgk];replace HS:Hid (Sat w (Pt g6 5 #[.int .u8 107,.int .u8 (s:Int)]*X) wd1):=ah (hs.of (by ac_rfl));clear hs hN hgk;refine hK.out _ _ (by first | exact HZ.o _ HS.o | exact HZ.o _ HS.o.right | exact HZ.o _ HS.o.right.right | exact HZ.o _ HS.o.right.right.right) (fun hS0=>?_);clear hK K;refine bM (i:=13) (j:=15) rfl rfl (by kernel_rfl) (fun K hK=>?_) (fun K hK=>?_)
      ·
       have hmk:=ch m (by omega) wd1;go_simp;clear hmk;have hs:=HS.o.ab 5 (madeCells #[.int .u8 0] m);obtain⟨wd2,hN⟩: ∃ v,v=wd1.alloc (.cells (madeCells #[.int .u8 0] m) 5):=⟨_,rfl⟩;obtain⟨g13,hgk⟩: ∃ x,x=wd1.heap.size:=⟨_,rfl⟩;rw[<-hN, <-hgk] at hs;rw[<-hN, <-hgk];replace HS:Hid (Sat w (Pt g6 5 #[.int .u8 107,.int .u8 (s:Int)]*(Pt g13 5 (madeCells #[.int .u8 0] m)*X)) wd2):=ah (hs.of (by ac_rfl));clear hs hN hgk;refine hK.out _ _ (by first | exact HZ.o _ HS.o | exact HZ.o _ HS.o.right | exact HZ.o _ HS.o.right.right | exact HZ.o _ HS.o.right.right.right) (fun hS0=>?_);clear hK K
       try simp only[Act.put,et,eh,ep]
       refine ca 14 ?_;refine bC 15 fun K hK=>?_
       go_simp;have hs:=HS.o.ab 43 #[.slice none 0 0,.slice none 0 0,.bool false];obtain⟨wd3,hN⟩: ∃ v,v=wd2.alloc (.cells #[.slice none 0 0,.slice none 0 0,.bool false] 43):=⟨_,rfl⟩;obtain⟨g15,hgk⟩: ∃ x,x=wd2.heap.size:=⟨_,rfl⟩;rw[<-hN, <-hgk] at hs;rw[<-hN, <-hgk];replace HS:Hid (Sat w (Pt g15 43 #[.slice none 0 0,.slice none 0 0,.bool false]*(Pt g6 5 #[.int .u8 107,.int .u8 (s:Int)]*(Pt g13 5 (madeCells #[.int .u8 0] m)*X))) wd3):=ah (hs.of (by ac_rfl));clear hs hN hgk;refine hK.out _ _ (by first | exact HZ.o _ HS.o | exact HZ.o _ HS.o.right | exact HZ.o _ HS.o.right.right | exact HZ.o _ HS.o.right.right.right) (fun hS0=>?_);clear hK K;refine bC 16 fun K hK=>?_
       have h15:=HS.o;have f0:=h15.frozen 0;have f1:=h15.frozen 1;have f2:=h15.frozen 2;have x0:=h15.cell 0;have x1:=h15.cell 1;have x2:=h15.cell 2;go_simp;clear f0 f1 f2 x0 x1 x2;have hs:=((h15.set 0 (.slice (some ⟨g6,0,none⟩) 2 2)).set 1 (.slice (some ⟨g13,0,none⟩) m m)).set 2 (.bool false);obtain⟨wd4,hN⟩: ∃ v,v=((wd3.setCell ⟨g15,0,none⟩ (.slice (some ⟨g6,0,none⟩) 2 2)).setCell ⟨g15,1,none⟩ (.slice (some ⟨g13,0,none⟩) m m)).setCell ⟨g15,2,none⟩ (.bool false):=⟨_,rfl⟩;rw[<-hN] at hs;rw[<-hN];replace HS:Hid (Sat w (Pt g15 43 #[.slice (some ⟨g6,0,none⟩) 2 2,.slice (some ⟨g13,0,none⟩) m m,.bool false]*(Pt g6 5 #[.int .u8 107,.int .u8 (s:Int)]*(Pt g13 5 (madeCells #[.int .u8 0] m)*X))) wd4):=ah hs;clear hs hN h15;refine hK.out _ _ (by first | exact HZ.o _ HS.o | exact HZ.o _ HS.o.right | exact HZ.o _ HS.o.right.right | exact HZ.o _ HS.o.right.right.right) (fun hS0=>?_);clear hK K
       try simp only[Act.put,et,eh,ep]
       refine wpAnyH_done (by kernel_rfl) ?_ _
       (try go_simp)
       (try go_wp2_with fail)
       go_meet
       exact⟨g15,g6,g13,m,rfl,hm3,HS.o⟩
      ·
       go_simp;have hs:=HS.o.ab 43 #[.slice none 0 0,.slice none 0 0,.bool false];obtain⟨wd2,hN⟩: ∃ v,v=wd1.alloc (.cells #[.slice none 0 0,.slice none 0 0,.bool false] 43):=⟨_,rfl⟩;obtain⟨g15,hgk⟩: ∃ x,x=wd1.heap.size:=⟨_,rfl⟩;rw[<-hN, <-hgk] at hs;rw[<-hN, <-hgk];replace HS:Hid (Sat w (Pt g15 43 #[.slice none 0 0,.slice none 0 0,.bool false]*(Pt g6 5 #[.int .u8 107,.int .u8 (s:Int)]*X)) wd2):=ah (hs.of (by ac_rfl));clear hs hN hgk;refine hK.out _ _ (by first | exact HZ.o _ HS.o | exact HZ.o _ HS.o.right | exact HZ.o _ HS.o.right.right | exact HZ.o _ HS.o.right.right.right) (fun hS0=>?_);clear hK K;refine bC 13 fun K hK=>?_
       have hmk:=ch m (by omega) wd2;go_simp;clear hmk;have hs:=HS.o.ab 5 (madeCells #[.int .u8 0] m);obtain⟨wd3,hN⟩: ∃ v,v=wd2.alloc (.cells (madeCells #[.int .u8 0] m) 5):=⟨_,rfl⟩;obtain⟨g13,hgk⟩: ∃ x,x=wd2.heap.size:=⟨_,rfl⟩;rw[<-hN, <-hgk] at hs;rw[<-hN, <-hgk];replace HS:Hid (Sat w (Pt g15 43 #[.slice none 0 0,.slice none 0 0,.bool false]*(Pt g6 5 #[.int .u8 107,.int .u8 (s:Int)]*(Pt g13 5 (madeCells #[.int .u8 0] m)*X))) wd3):=ah (hs.of (by ac_rfl));clear hs hN hgk;refine hK.out _ _ (by first | exact HZ.o _ HS.o | exact HZ.o _ HS.o.right | exact HZ.o _ HS.o.right.right | exact HZ.o _ HS.o.right.right.right) (fun hS0=>?_);clear hK K
       try simp only[Act.put,et,eh,ep]
       refine ca 14 ?_;refine bC 16 fun K hK=>?_
       have h15:=HS.o;have f0:=h15.frozen 0;have f1:=h15.frozen 1;have f2:=h15.frozen 2;have x0:=h15.cell 0;have x1:=h15.cell 1;have x2:=h15.cell 2;go_simp;clear f0 f1 f2 x0 x1 x2;have hs:=((h15.set 0 (.slice (some ⟨g6,0,none⟩) 2 2)).set 1 (.slice (some ⟨g13,0,none⟩) m m)).set 2 (.bool false);obtain⟨wd4,hN⟩: ∃ v,v=((wd3.setCell ⟨g15,0,none⟩ (.slice (some ⟨g6,0,none⟩) 2 2)).setCell ⟨g15,1,none⟩ (.slice (some ⟨g13,0,none⟩) m m)).setCell ⟨g15,2,none⟩ (.bool false):=⟨_,rfl⟩;rw[<-hN] at hs;rw[<-hN];replace HS:Hid (Sat w (Pt g15 43 #[.slice (some ⟨g6,0,none⟩) 2 2,.slice (some ⟨g13,0,none⟩) m m,.bool false]*(Pt g6 5 #[.int .u8 107,.int .u8 (s:Int)]*(Pt g13 5 (madeCells #[.int .u8 0] m)*X))) wd4):=ah hs;clear hs hN h15;refine hK.out _ _ (by first | exact HZ.o _ HS.o | exact HZ.o _ HS.o.right | exact HZ.o _ HS.o.right.right | exact HZ.o _ HS.o.right.right.right) (fun hS0=>?_);clear hK K
       try simp only[Act.put,et,eh,ep]
       refine wpAnyH_done (by kernel_rfl) ?_ _
       (try go_simp)
       (try go_wp2_with fail)
       go_meet
       exact⟨g15,g6,g13,m,rfl,hm3,HS.o⟩
     ·
      have hmk:=ch m (by omega) wd0;go_simp;clear hmk;have hs:=HS.o.ab 5 (madeCells #[.int .u8 0] m);obtain⟨wd1,hN⟩: ∃ v,v=wd0.alloc (.cells (madeCells #[.int .u8 0] m) 5):=⟨_,rfl⟩;obtain⟨g13,hgk⟩: ∃ x,x=wd0.heap.size:=⟨_,rfl⟩;rw[<-hN, <-hgk] at hs;rw[<-hN, <-hgk];replace HS:Hid (Sat w (Pt g13 5 (madeCells #[.int .u8 0] m)*X) wd1):=ah (hs.of (by ac_rfl));clear hs hN hgk;refine hK.out _ _ (by first | exact HZ.o _ HS.o | exact HZ.o _ HS.o.right | exact HZ.o _ HS.o.right.right | exact HZ.o _ HS.o.right.right.right) (fun hS0=>?_);clear hK K
      try simp only[Act.put,et,eh,ep]
      refine bM (i:=6) (j:=15) rfl rfl (by kernel_rfl) (fun K hK=>?_) (fun K hK=>?_)
      ·
       go_simp;have hs:=HS.o.ab 5 #[.int .u8 107,.int .u8 (s:Int)];obtain⟨wd2,hN⟩: ∃ v,v=wd1.alloc (.cells #[.int .u8 107,.int .u8 (s:Int)] 5):=⟨_,rfl⟩;obtain⟨g6,hgk⟩: ∃ x,x=wd1.heap.size:=⟨_,rfl⟩;rw[<-hN, <-hgk] at hs;rw[<-hN, <-hgk];replace HS:Hid (Sat w (Pt g6 5 #[.int .u8 107,.int .u8 (s:Int)]*(Pt g13 5 (madeCells #[.int .u8 0] m)*X)) wd2):=ah (hs.of (by ac_rfl));clear hs hN hgk;refine hK.out _ _ (by first | exact HZ.o _ HS.o | exact HZ.o _ HS.o.right | exact HZ.o _ HS.o.right.right | exact HZ.o _ HS.o.right.right.right) (fun hS0=>?_);clear hK K;refine ca 14 ?_;refine bC 15 fun K hK=>?_
       go_simp;have hs:=HS.o.ab 43 #[.slice none 0 0,.slice none 0 0,.bool false];obtain⟨wd3,hN⟩: ∃ v,v=wd2.alloc (.cells #[.slice none 0 0,.slice none 0 0,.bool false] 43):=⟨_,rfl⟩;obtain⟨g15,hgk⟩: ∃ x,x=wd2.heap.size:=⟨_,rfl⟩;rw[<-hN, <-hgk] at hs;rw[<-hN, <-hgk];replace HS:Hid (Sat w (Pt g15 43 #[.slice none 0 0,.slice none 0 0,.bool false]*(Pt g6 5 #[.int .u8 107,.int .u8 (s:Int)]*(Pt g13 5 (madeCells #[.int .u8 0] m)*X))) wd3):=ah (hs.of (by ac_rfl));clear hs hN hgk;refine hK.out _ _ (by first | exact HZ.o _ HS.o | exact HZ.o _ HS.o.right | exact HZ.o _ HS.o.right.right | exact HZ.o _ HS.o.right.right.right) (fun hS0=>?_);clear hK K;refine bC 16 fun K hK=>?_
       have h15:=HS.o;have f0:=h15.frozen 0;have f1:=h15.frozen 1;have f2:=h15.frozen 2;have x0:=h15.cell 0;have x1:=h15.cell 1;have x2:=h15.cell 2;go_simp;clear f0 f1 f2 x0 x1 x2;have hs:=((h15.set 0 (.slice (some ⟨g6,0,none⟩) 2 2)).set 1 (.slice (some ⟨g13,0,none⟩) m m)).set 2 (.bool false);obtain⟨wd4,hN⟩: ∃ v,v=((wd3.setCell ⟨g15,0,none⟩ (.slice (some ⟨g6,0,none⟩) 2 2)).setCell ⟨g15,1,none⟩ (.slice (some ⟨g13,0,none⟩) m m)).setCell ⟨g15,2,none⟩ (.bool false):=⟨_,rfl⟩;rw[<-hN] at hs;rw[<-hN];replace HS:Hid (Sat w (Pt g15 43 #[.slice (some ⟨g6,0,none⟩) 2 2,.slice (some ⟨g13,0,none⟩) m m,.bool false]*(Pt g6 5 #[.int .u8 107,.int .u8 (s:Int)]*(Pt g13 5 (madeCells #[.int .u8 0] m)*X))) wd4):=ah hs;clear hs hN h15;refine hK.out _ _ (by first | exact HZ.o _ HS.o | exact HZ.o _ HS.o.right | exact HZ.o _ HS.o.right.right | exact HZ.o _ HS.o.right.right.right) (fun hS0=>?_);clear hK K
       try simp only[Act.put,et,eh,ep]
       refine wpAnyH_done (by kernel_rfl) ?_ _
       (try go_simp)
       (try go_wp2_with fail)
       go_meet
       exact⟨g15,g6,g13,m,rfl,hm3,HS.o⟩
      ·
       go_simp;have hs:=HS.o.ab 43 #[.slice none 0 0,.slice none 0 0,.bool false];obtain⟨wd2,hN⟩: ∃ v,v=wd1.alloc (.cells #[.slice none 0 0,.slice none 0 0,.bool false] 43):=⟨_,rfl⟩;obtain⟨g15,hgk⟩: ∃ x,x=wd1.heap.size:=⟨_,rfl⟩;rw[<-hN, <-hgk] at hs;rw[<-hN, <-hgk];replace HS:Hid (Sat w (Pt g15 43 #[.slice none 0 0,.slice none 0 0,.bool false]*(Pt g13 5 (madeCells #[.int .u8 0] m)*X)) wd2):=ah (hs.of (by ac_rfl));clear hs hN hgk;refine hK.out _ _ (by first | exact HZ.o _ HS.o | exact HZ.o _ HS.o.right | exact HZ.o _ HS.o.right.right | exact HZ.o _ HS.o.right.right.right) (fun hS0=>?_);clear hK K;refine bC 6 fun K hK=>?_
       go_simp;have hs:=HS.o.ab 5 #[.int .u8 107,.int .u8 (s:Int)];obtain⟨wd3,hN⟩: ∃ v,v=wd2.alloc (.cells #[.int .u8 107,.int .u8 (s:Int)] 5):=⟨_,rfl⟩;obtain⟨g6,hgk⟩: ∃ x,x=wd2.heap.size:=⟨_,rfl⟩;rw[<-hN, <-hgk] at hs;rw[<-hN, <-hgk];replace HS:Hid (Sat w (Pt g15 43 #[.slice none 0 0,.slice none 0 0,.bool false]*(Pt g6 5 #[.int .u8 107,.int .u8 (s:Int)]*(Pt g13 5 (madeCells #[.int .u8 0] m)*X))) wd3):=ah (hs.of (by ac_rfl));clear hs hN hgk;refine hK.out _ _ (by first | exact HZ.o _ HS.o | exact HZ.o _ HS.o.right | exact HZ.o _ HS.o.right.right | exact HZ.o _ HS.o.right.right.right) (fun hS0=>?_);clear hK K;refine ca 14 ?_;refine bC 16 fun K hK=>?_
       have h15:=HS.o;have f0:=h15.frozen 0;have f1:=h15.frozen 1;have f2:=h15.frozen 2;have x0:=h15.cell 0;have x1:=h15.cell 1;have x2:=h15.cell 2;go_simp;clear f0 f1 f2 x0 x1 x2;have hs:=((h15.set 0 (.slice (some ⟨g6,0,none⟩) 2 2)).set 1 (.slice (some ⟨g13,0,none⟩) m m)).set 2 (.bool false);obtain⟨wd4,hN⟩: ∃ v,v=((wd3.setCell ⟨g15,0,none⟩ (.slice (some ⟨g6,0,none⟩) 2 2)).setCell ⟨g15,1,none⟩ (.slice (some ⟨g13,0,none⟩) m m)).setCell ⟨g15,2,none⟩ (.bool false):=⟨_,rfl⟩;rw[<-hN] at hs;rw[<-hN];replace HS:Hid (Sat w (Pt g15 43 #[.slice (some ⟨g6,0,none⟩) 2 2,.slice (some ⟨g13,0,none⟩) m m,.bool false]*(Pt g6 5 #[.int .u8 107,.int .u8 (s:Int)]*(Pt g13 5 (madeCells #[.int .u8 0] m)*X))) wd4):=ah hs;clear hs hN h15;refine hK.out _ _ (by first | exact HZ.o _ HS.o | exact HZ.o _ HS.o.right | exact HZ.o _ HS.o.right.right | exact HZ.o _ HS.o.right.right.right) (fun hS0=>?_);clear hK K
       try simp only[Act.put,et,eh,ep]
       refine wpAnyH_done (by kernel_rfl) ?_ _
       (try go_simp)
       (try go_wp2_with fail)
       go_meet
       exact⟨g15,g6,g13,m,rfl,hm3,HS.o⟩
     ·
      go_simp;have hs:=HS.o.ab 43 #[.slice none 0 0,.slice none 0 0,.bool false];obtain⟨wd1,hN⟩: ∃ v,v=wd0.alloc (.cells #[.slice none 0 0,.slice none 0 0,.bool false] 43):=⟨_,rfl⟩;obtain⟨g15,hgk⟩: ∃ x,x=wd0.heap.size:=⟨_,rfl⟩;rw[<-hN, <-hgk] at hs;rw[<-hN, <-hgk];replace HS:Hid (Sat w (Pt g15 43 #[.slice none 0 0,.slice none 0 0,.bool false]*X) wd1):=ah (hs.of (by ac_rfl));clear hs hN hgk;refine hK.out _ _ (by first | exact HZ.o _ HS.o | exact HZ.o _ HS.o.right | exact HZ.o _ HS.o.right.right | exact HZ.o _ HS.o.right.right.right) (fun hS0=>?_);clear hK K;refine bM (i:=6) (j:=13) rfl rfl (by kernel_rfl) (fun K hK=>?_) (fun K hK=>?_)
      ·
       go_simp;have hs:=HS.o.ab 5 #[.int .u8 107,.int .u8 (s:Int)];obtain⟨wd2,hN⟩: ∃ v,v=wd1.alloc (.cells #[.int .u8 107,.int .u8 (s:Int)] 5):=⟨_,rfl⟩;obtain⟨g6,hgk⟩: ∃ x,x=wd1.heap.size:=⟨_,rfl⟩;rw[<-hN, <-hgk] at hs;rw[<-hN, <-hgk];replace HS:Hid (Sat w (Pt g15 43 #[.slice none 0 0,.slice none 0 0,.bool false]*(Pt g6 5 #[.int .u8 107,.int .u8 (s:Int)]*X)) wd2):=ah (hs.of (by ac_rfl));clear hs hN hgk;refine hK.out _ _ (by first | exact HZ.o _ HS.o | exact HZ.o _ HS.o.right | exact HZ.o _ HS.o.right.right | exact HZ.o _ HS.o.right.right.right) (fun hS0=>?_);clear hK K;refine bC 13 fun K hK=>?_
       have hmk:=ch m (by omega) wd2;go_simp;clear hmk;have hs:=HS.o.ab 5 (madeCells #[.int .u8 0] m);obtain⟨wd3,hN⟩: ∃ v,v=wd2.alloc (.cells (madeCells #[.int .u8 0] m) 5):=⟨_,rfl⟩;obtain⟨g13,hgk⟩: ∃ x,x=wd2.heap.size:=⟨_,rfl⟩;rw[<-hN, <-hgk] at hs;rw[<-hN, <-hgk];replace HS:Hid (Sat w (Pt g15 43 #[.slice none 0 0,.slice none 0 0,.bool false]*(Pt g6 5 #[.int .u8 107,.int .u8 (s:Int)]*(Pt g13 5 (madeCells #[.int .u8 0] m)*X))) wd3):=ah (hs.of (by ac_rfl));clear hs hN hgk;refine hK.out _ _ (by first | exact HZ.o _ HS.o | exact HZ.o _ HS.o.right | exact HZ.o _ HS.o.right.right | exact HZ.o _ HS.o.right.right.right) (fun hS0=>?_);clear hK K
       try simp only[Act.put,et,eh,ep]
       refine ca 14 ?_;refine bC 16 fun K hK=>?_
       have h15:=HS.o;have f0:=h15.frozen 0;have f1:=h15.frozen 1;have f2:=h15.frozen 2;have x0:=h15.cell 0;have x1:=h15.cell 1;have x2:=h15.cell 2;go_simp;clear f0 f1 f2 x0 x1 x2;have hs:=((h15.set 0 (.slice (some ⟨g6,0,none⟩) 2 2)).set 1 (.slice (some ⟨g13,0,none⟩) m m)).set 2 (.bool false);obtain⟨wd4,hN⟩: ∃ v,v=((wd3.setCell ⟨g15,0,none⟩ (.slice (some ⟨g6,0,none⟩) 2 2)).setCell ⟨g15,1,none⟩ (.slice (some ⟨g13,0,none⟩) m m)).setCell ⟨g15,2,none⟩ (.bool false):=⟨_,rfl⟩;rw[<-hN] at hs;rw[<-hN];replace HS:Hid (Sat w (Pt g15 43 #[.slice (some ⟨g6,0,none⟩) 2 2,.slice (some ⟨g13,0,none⟩) m m,.bool false]*(Pt g6 5 #[.int .u8 107,.int .u8 (s:Int)]*(Pt g13 5 (madeCells #[.int .u8 0] m)*X))) wd4):=ah hs;clear hs hN h15;refine hK.out _ _ (by first | exact HZ.o _ HS.o | exact HZ.o _ HS.o.right | exact HZ.o _ HS.o.right.right | exact HZ.o _ HS.o.right.right.right) (fun hS0=>?_);clear hK K
       try simp only[Act.put,et,eh,ep]
       refine wpAnyH_done (by kernel_rfl) ?_ _
       (try go_simp)
       (try go_wp2_with fail)
       go_meet
       exact⟨g15,g6,g13,m,rfl,hm3,HS.o⟩
      ·
       have hmk:=ch m (by omega) wd1;go_simp;clear hmk;have hs:=HS.o.ab 5 (madeCells #[.int .u8 0] m);obtain⟨wd2,hN⟩: ∃ v,v=wd1.alloc (.cells (madeCells #[.int .u8 0] m) 5):=⟨_,rfl⟩;obtain⟨g13,hgk⟩: ∃ x,x=wd1.heap.size:=⟨_,rfl⟩;rw[<-hN, <-hgk] at hs;rw[<-hN, <-hgk];replace HS:Hid (Sat w (Pt g15 43 #[.slice none 0 0,.slice none 0 0,.bool false]*(Pt g13 5 (madeCells #[.int .u8 0] m)*X)) wd2):=ah (hs.of (by ac_rfl));clear hs hN hgk;refine hK.out _ _ (by first | exact HZ.o _ HS.o | exact HZ.o _ HS.o.right | exact HZ.o _ HS.o.right.right | exact HZ.o _ HS.o.right.right.right) (fun hS0=>?_);clear hK K
       try simp only[Act.put,et,eh,ep]
       refine bC 6 fun K hK=>?_
       go_simp;have hs:=HS.o.ab 5 #[.int .u8 107,.int .u8 (s:Int)];obtain⟨wd3,hN⟩: ∃ v,v=wd2.alloc (.cells #[.int .u8 107,.int .u8 (s:Int)] 5):=⟨_,rfl⟩;obtain⟨g6,hgk⟩: ∃ x,x=wd2.heap.size:=⟨_,rfl⟩;rw[<-hN, <-hgk] at hs;rw[<-hN, <-hgk];replace HS:Hid (Sat w (Pt g15 43 #[.slice none 0 0,.slice none 0 0,.bool false]*(Pt g6 5 #[.int .u8 107,.int .u8 (s:Int)]*(Pt g13 5 (madeCells #[.int .u8 0] m)*X))) wd3):=ah (hs.of (by ac_rfl));clear hs hN hgk;refine hK.out _ _ (by first | exact HZ.o _ HS.o | exact HZ.o _ HS.o.right | exact HZ.o _ HS.o.right.right | exact HZ.o _ HS.o.right.right.right) (fun hS0=>?_);clear hK K;refine ca 14 ?_;refine bC 16 fun K hK=>?_
       have h15:=HS.o;have f0:=h15.frozen 0;have f1:=h15.frozen 1;have f2:=h15.frozen 2;have x0:=h15.cell 0;have x1:=h15.cell 1;have x2:=h15.cell 2;go_simp;clear f0 f1 f2 x0 x1 x2;have hs:=((h15.set 0 (.slice (some ⟨g6,0,none⟩) 2 2)).set 1 (.slice (some ⟨g13,0,none⟩) m m)).set 2 (.bool false);obtain⟨wd4,hN⟩: ∃ v,v=((wd3.setCell ⟨g15,0,none⟩ (.slice (some ⟨g6,0,none⟩) 2 2)).setCell ⟨g15,1,none⟩ (.slice (some ⟨g13,0,none⟩) m m)).setCell ⟨g15,2,none⟩ (.bool false):=⟨_,rfl⟩;rw[<-hN] at hs;rw[<-hN];replace HS:Hid (Sat w (Pt g15 43 #[.slice (some ⟨g6,0,none⟩) 2 2,.slice (some ⟨g13,0,none⟩) m m,.bool false]*(Pt g6 5 #[.int .u8 107,.int .u8 (s:Int)]*(Pt g13 5 (madeCells #[.int .u8 0] m)*X))) wd4):=ah hs;clear hs hN h15;refine hK.out _ _ (by first | exact HZ.o _ HS.o | exact HZ.o _ HS.o.right | exact HZ.o _ HS.o.right.right | exact HZ.o _ HS.o.right.right.right) (fun hS0=>?_);clear hK K
       try simp only[Act.put,et,eh,ep]
       refine wpAnyH_done (by kernel_rfl) ?_ _
       (try go_simp)
       (try go_wp2_with fail)
       go_meet
       exact⟨g15,g6,g13,m,rfl,hm3,HS.o⟩
    ·
     go_simp;have hs:=HS.o.ab 43 #[.slice none 0 0,.slice none 0 0,.bool false];obtain⟨wd1,hN⟩: ∃ v,v=wd0.alloc (.cells #[.slice none 0 0,.slice none 0 0,.bool false] 43):=⟨_,rfl⟩;obtain⟨g15,hgk⟩: ∃ x,x=wd0.heap.size:=⟨_,rfl⟩;rw[<-hN, <-hgk] at hs;rw[<-hN, <-hgk];replace HS:Hid (Sat w (Pt g15 43 #[.slice none 0 0,.slice none 0 0,.bool false]*X) wd1):=ah (hs.of (by ac_rfl));clear hs hN hgk;refine hK.out _ _ (by first | exact HZ.o _ HS.o | exact HZ.o _ HS.o.right | exact HZ.o _ HS.o.right.right | exact HZ.o _ HS.o.right.right.right) (fun hS0=>?_);clear hK K;refine bM (i:=6) (j:=12) rfl rfl (by kernel_rfl) (fun K hK=>?_) (fun K hK=>?_)
     ·
      go_simp;have hs:=HS.o.ab 5 #[.int .u8 107,.int .u8 (s:Int)];obtain⟨wd2,hN⟩: ∃ v,v=wd1.alloc (.cells #[.int .u8 107,.int .u8 (s:Int)] 5):=⟨_,rfl⟩;obtain⟨g6,hgk⟩: ∃ x,x=wd1.heap.size:=⟨_,rfl⟩;rw[<-hN, <-hgk] at hs;rw[<-hN, <-hgk];replace HS:Hid (Sat w (Pt g15 43 #[.slice none 0 0,.slice none 0 0,.bool false]*(Pt g6 5 #[.int .u8 107,.int .u8 (s:Int)]*X)) wd2):=ah (hs.of (by ac_rfl));clear hs hN hgk;refine hK.out _ _ (by first | exact HZ.o _ HS.o | exact HZ.o _ HS.o.right | exact HZ.o _ HS.o.right.right | exact HZ.o _ HS.o.right.right.right) (fun hS0=>?_);clear hK K;refine bC 12 fun K hK=>?_
      go_simp;go_at_call 27;(with_reducible refine(gJ _ _).mono ?_);rintro e wx ⟨m,hm3,rfl,rfl⟩
      refine hK.out _ _ (by first | exact HZ.o _ HS.o | exact HZ.o _ HS.o.right | exact HZ.o _ HS.o.right.right | exact HZ.o _ HS.o.right.right.right) (fun hS0=>?_);clear hK K;refine bC 13 fun K hK=>?_
      have hmk:=ch m (by omega) wd2;go_simp;clear hmk;have hs:=HS.o.ab 5 (madeCells #[.int .u8 0] m);obtain⟨wd3,hN⟩: ∃ v,v=wd2.alloc (.cells (madeCells #[.int .u8 0] m) 5):=⟨_,rfl⟩;obtain⟨g13,hgk⟩: ∃ x,x=wd2.heap.size:=⟨_,rfl⟩;rw[<-hN, <-hgk] at hs;rw[<-hN, <-hgk];replace HS:Hid (Sat w (Pt g15 43 #[.slice none 0 0,.slice none 0 0,.bool false]*(Pt g6 5 #[.int .u8 107,.int .u8 (s:Int)]*(Pt g13 5 (madeCells #[.int .u8 0] m)*X))) wd3):=ah (hs.of (by ac_rfl));clear hs hN hgk;refine hK.out _ _ (by first | exact HZ.o _ HS.o | exact HZ.o _ HS.o.right | exact HZ.o _ HS.o.right.right | exact HZ.o _ HS.o.right.right.right) (fun hS0=>?_);clear hK K
      try simp only[Act.put,et,eh,ep]
      refine ca 14 ?_;refine bC 16 fun K hK=>?_
      have h15:=HS.o;have f0:=h15.frozen 0;have f1:=h15.frozen 1;have f2:=h15.frozen 2;have x0:=h15.cell 0;have x1:=h15.cell 1;have x2:=h15.cell 2;go_simp;clear f0 f1 f2 x0 x1 x2;have hs:=((h15.set 0 (.slice (some ⟨g6,0,none⟩) 2 2)).set 1 (.slice (some ⟨g13,0,none⟩) m m)).set 2 (.bool false);obtain⟨wd4,hN⟩: ∃ v,v=((wd3.setCell ⟨g15,0,none⟩ (.slice (some ⟨g6,0,none⟩) 2 2)).setCell ⟨g15,1,none⟩ (.slice (some ⟨g13,0,none⟩) m m)).setCell ⟨g15,2,none⟩ (.bool false):=⟨_,rfl⟩;rw[<-hN] at hs;rw[<-hN];replace HS:Hid (Sat w (Pt g15 43 #[.slice (some ⟨g6,0,none⟩) 2 2,.slice (some ⟨g13,0,none⟩) m m,.bool false]*(Pt g6 5 #[.int .u8 107,.int .u8 (s:Int)]*(Pt g13 5 (madeCells #[.int .u8 0] m)*X))) wd4):=ah hs;clear hs hN h15;refine hK.out _ _ (by first | exact HZ.o _ HS.o | exact HZ.o _ HS.o.right | exact HZ.o _ HS.o.right.right | exact HZ.o _ HS.o.right.right.right) (fun hS0=>?_);clear hK K
      try simp only[Act.put,et,eh,ep]
      refine wpAnyH_done (by kernel_rfl) ?_ _
      (try go_simp)
      (try go_wp2_with fail)
      go_meet
      exact⟨g15,g6,g13,m,rfl,hm3,HS.o⟩
     ·
      go_simp;go_at_call 27;(with_reducible refine(gJ _ _).mono ?_);rintro e wx ⟨m,hm3,rfl,rfl⟩
      refine hK.out _ _ (by first | exact HZ.o _ HS.o | exact HZ.o _ HS.o.right | exact HZ.o _ HS.o.right.right | exact HZ.o _ HS.o.right.right.right) (fun hS0=>?_);clear hK K;refine bM (i:=6) (j:=13) rfl rfl (by kernel_rfl) (fun K hK=>?_) (fun K hK=>?_)
      ·
       go_simp;have hs:=HS.o.ab 5 #[.int .u8 107,.int .u8 (s:Int)];obtain⟨wd2,hN⟩: ∃ v,v=wd1.alloc (.cells #[.int .u8 107,.int .u8 (s:Int)] 5):=⟨_,rfl⟩;obtain⟨g6,hgk⟩: ∃ x,x=wd1.heap.size:=⟨_,rfl⟩;rw[<-hN, <-hgk] at hs;rw[<-hN, <-hgk];replace HS:Hid (Sat w (Pt g15 43 #[.slice none 0 0,.slice none 0 0,.bool false]*(Pt g6 5 #[.int .u8 107,.int .u8 (s:Int)]*X)) wd2):=ah (hs.of (by ac_rfl));clear hs hN hgk;refine hK.out _ _ (by first | exact HZ.o _ HS.o | exact HZ.o _ HS.o.right | exact HZ.o _ HS.o.right.right | exact HZ.o _ HS.o.right.right.right) (fun hS0=>?_);clear hK K;refine bC 13 fun K hK=>?_
       have hmk:=ch m (by omega) wd2;go_simp;clear hmk;have hs:=HS.o.ab 5 (madeCells #[.int .u8 0] m);obtain⟨wd3,hN⟩: ∃ v,v=wd2.alloc (.cells (madeCells #[.int .u8 0] m) 5):=⟨_,rfl⟩;obtain⟨g13,hgk⟩: ∃ x,x=wd2.heap.size:=⟨_,rfl⟩;rw[<-hN, <-hgk] at hs;rw[<-hN, <-hgk];replace HS:Hid (Sat w (Pt g15 43 #[.slice none 0 0,.slice none 0 0,.bool false]*(Pt g6 5 #[.int .u8 107,.int .u8 (s:Int)]*(Pt g13 5 (madeCells #[.int .u8 0] m)*X))) wd3):=ah (hs.of (by ac_rfl));clear hs hN hgk;refine hK.out _ _ (by first | exact HZ.o _ HS.o | exact HZ.o _ HS.o.right | exact HZ.o _ HS.o.right.right | exact HZ.o _ HS.o.right.right.right) (fun hS0=>?_);clear hK K
       try simp only[Act.put,et,eh,ep]
       refine ca 14 ?_;refine bC 16 fun K hK=>?_
       have h15:=HS.o;have f0:=h15.frozen 0;have f1:=h15.frozen 1;have f2:=h15.frozen 2;have x0:=h15.cell 0;have x1:=h15.cell 1;have x2:=h15.cell 2;go_simp;clear f0 f1 f2 x0 x1 x2;have hs:=((h15.set 0 (.slice (some ⟨g6,0,none⟩) 2 2)).set 1 (.slice (some ⟨g13,0,none⟩) m m)).set 2 (.bool false);obtain⟨wd4,hN⟩: ∃ v,v=((wd3.setCell ⟨g15,0,none⟩ (.slice (some ⟨g6,0,none⟩) 2 2)).setCell ⟨g15,1,none⟩ (.slice (some ⟨g13,0,none⟩) m m)).setCell ⟨g15,2,none⟩ (.bool false):=⟨_,rfl⟩;rw[<-hN] at hs;rw[<-hN];replace HS:Hid (Sat w (Pt g15 43 #[.slice (some ⟨g6,0,none⟩) 2 2,.slice (some ⟨g13,0,none⟩) m m,.bool false]*(Pt g6 5 #[.int .u8 107,.int .u8 (s:Int)]*(Pt g13 5 (madeCells #[.int .u8 0] m)*X))) wd4):=ah hs;clear hs hN h15;refine hK.out _ _ (by first | exact HZ.o _ HS.o | exact HZ.o _ HS.o.right | exact HZ.o _ HS.o.right.right | exact HZ.o _ HS.o.right.right.right) (fun hS0=>?_);clear hK K
       try simp only[Act.put,et,eh,ep]
       refine wpAnyH_done (by kernel_rfl) ?_ _
       (try go_simp)
       (try go_wp2_with fail)
       go_meet
       exact⟨g15,g6,g13,m,rfl,hm3,HS.o⟩
      ·
       have hmk:=ch m (by omega) wd1;go_simp;clear hmk;have hs:=HS.o.ab 5 (madeCells #[.int .u8 0] m);obtain⟨wd2,hN⟩: ∃ v,v=wd1.alloc (.cells (madeCells #[.int .u8 0] m) 5):=⟨_,rfl⟩;obtain⟨g13,hgk⟩: ∃ x,x=wd1.heap.size:=⟨_,rfl⟩;rw[<-hN, <-hgk] at hs;rw[<-hN, <-hgk];replace HS:Hid (Sat w (Pt g15 43 #[.slice none 0 0,.slice none 0 0,.bool false]*(Pt g13 5 (madeCells #[.int .u8 0] m)*X)) wd2):=ah (hs.of (by ac_rfl));clear hs hN hgk;refine hK.out _ _ (by first | exact HZ.o _ HS.o | exact HZ.o _ HS.o.right | exact HZ.o _ HS.o.right.right | exact HZ.o _ HS.o.right.right.right) (fun hS0=>?_);clear hK K
       try simp only[Act.put,et,eh,ep]
       refine bC 6 fun K hK=>?_
       go_simp;have hs:=HS.o.ab 5 #[.int .u8 107,.int .u8 (s:Int)];obtain⟨wd3,hN⟩: ∃ v,v=wd2.alloc (.cells #[.int .u8 107,.int .u8 (s:Int)] 5):=⟨_,rfl⟩;obtain⟨g6,hgk⟩: ∃ x,x=wd2.heap.size:=⟨_,rfl⟩;rw[<-hN, <-hgk] at hs;rw[<-hN, <-hgk];replace HS:Hid (Sat w (Pt g15 43 #[.slice none 0 0,.slice none 0 0,.bool false]*(Pt g6 5 #[.int .u8 107,.int .u8 (s:Int)]*(Pt g13 5 (madeCells #[.int .u8 0] m)*X))) wd3):=ah (hs.of (by ac_rfl));clear hs hN hgk;refine hK.out _ _ (by first | exact HZ.o _ HS.o | exact HZ.o _ HS.o.right | exact HZ.o _ HS.o.right.right | exact HZ.o _ HS.o.right.right.right) (fun hS0=>?_);clear hK K;refine ca 14 ?_;refine bC 16 fun K hK=>?_
       have h15:=HS.o;have f0:=h15.frozen 0;have f1:=h15.frozen 1;have f2:=h15.frozen 2;have x0:=h15.cell 0;have x1:=h15.cell 1;have x2:=h15.cell 2;go_simp;clear f0 f1 f2 x0 x1 x2;have hs:=((h15.set 0 (.slice (some ⟨g6,0,none⟩) 2 2)).set 1 (.slice (some ⟨g13,0,none⟩) m m)).set 2 (.bool false);obtain⟨wd4,hN⟩: ∃ v,v=((wd3.setCell ⟨g15,0,none⟩ (.slice (some ⟨g6,0,none⟩) 2 2)).setCell ⟨g15,1,none⟩ (.slice (some ⟨g13,0,none⟩) m m)).setCell ⟨g15,2,none⟩ (.bool false):=⟨_,rfl⟩;rw[<-hN] at hs;rw[<-hN];replace HS:Hid (Sat w (Pt g15 43 #[.slice (some ⟨g6,0,none⟩) 2 2,.slice (some ⟨g13,0,none⟩) m m,.bool false]*(Pt g6 5 #[.int .u8 107,.int .u8 (s:Int)]*(Pt g13 5 (madeCells #[.int .u8 0] m)*X))) wd4):=ah hs;clear hs hN h15;refine hK.out _ _ (by first | exact HZ.o _ HS.o | exact HZ.o _ HS.o.right | exact HZ.o _ HS.o.right.right | exact HZ.o _ HS.o.right.right.right) (fun hS0=>?_);clear hK K
       try simp only[Act.put,et,eh,ep]
       refine wpAnyH_done (by kernel_rfl) ?_ _
       (try go_simp)
       (try go_wp2_with fail)
       go_meet
       exact⟨g15,g6,g13,m,rfl,hm3,HS.o⟩
   case rest=>
    obtain⟨gp,ga,gb,m,rfl,HC⟩:=hcut;have y0:=HZ.o _ HC.o.2.right.right.right;have c0:=HC.o.2.cell 0;have c1:=HC.o.2.cell 1;have c2:=HC.o.2.cell 2;have f0:=HC.o.2.frozen 0;have f1:=HC.o.2.frozen 1;have f2:=HC.o.2.frozen 2;refine ‹∀ (a:Act) (w:World),Code.wp _ _ _ a w->_› _ _ ?_
    apply wp_seq_k;intro _ _;go_cut [9] (fun pv wx=> ∃ (p:Pu),pv = .pointer (some ⟨gp,0,none⟩)/\Hid (p.key.2.2.length=2/\p.value.2.2.length<=3000/\(p.dead=true->p.value.2.2.length=0)/\(∀ A W,Sat w (Pt ga 5 #[.int .u8 107,.int .u8 (s:Int)]*(Pt gb 5 (madeCells #[.int .u8 0] m)*A)) W->Js W p)/\Sat w (Pt gp 43 #[aJ p.key,aJ p.value,.bool p.dead]*(Pt ga 5 #[.int .u8 107,.int .u8 (s:Int)]*(Pt gb 5 (madeCells #[.int .u8 0] m)*X))) wx))
    case first=>
     have HC1:=ah HC.o.1;have h5:=HC.o.2;have h6:=((h5.set 0 (.slice (some ⟨ga,0,none⟩) 2 2)).set 1 (.slice none 0 0)).set 2 (.bool true);have HC6:=ah h6;have HCv:Hid (Sat w (Pt gp 43 #[.slice (some ⟨ga,0,none⟩) 2 2,.slice (some ⟨gb,0,none⟩) (List.replicate m (0:UInt8)).length m,.bool false]*(Pt ga 5 #[.int .u8 107,.int .u8 (s:Int)]*(Pt gb 5 (madeCells #[.int .u8 0] m)*X))) wc):=ah (by rw[List.length_replicate];exact h5);have HKr:Hid (∀ A W,Sat w (Pt ga 5 #[.int .u8 107,.int .u8 (s:Int)]*A) W->Rd W (some ⟨ga,0,none⟩) [107,UInt8.ofNat s]):=ah fun A W hW=>kI (l:=[107,UInt8.ofNat s]) (b:=ga) (t:= 5) (fr:=(0,0)) (by
      have e:(([107,UInt8.ofNat s]:List UInt8).map bv).toArray = #[.int .u8 107,.int .u8 (s:Int)]:=by
       show #[bv 107,bv (UInt8.ofNat s)]=_;rw[IY (by omega)];rfl
      rw[e];exact hW)
     clear h5 h6;go_wp2_with fail
     all_goals go_meet
     all_goals first
      | exact⟨⟨(some ⟨ga,0,none⟩,2,[107,UInt8.ofNat s]),(none,0,[]),true⟩,rfl,rfl,Nat.zero_le _,(fun _=>rfl),fun A W hW=>⟨HKr.o _ _ hW,Rd.nil _ _⟩,HC6.o⟩
      | exact⟨⟨(some ⟨ga,0,none⟩,2,[107,UInt8.ofNat s]),(some ⟨gb,0,none⟩,m,List.replicate m 0),false⟩,rfl,rfl,by show (List.replicate m (0:UInt8)).length<=3000;rw[List.length_replicate];exact HC1.o,(fun h=>by cases h),fun A W hW=>⟨HKr.o _ _ hW,FE hW.right⟩,HCv.o⟩
    case rest=>
     obtain⟨p,rfl,HC2⟩:=hcut;have hk1:=HC2.o.1;have hv1:=HC2.o.2.1;obtain⟨⟨kA,kc,kl⟩,⟨vA,vc,vl⟩,dd⟩:=p;replace hk1:kl.length=2:=hk1;have hk2:kl.length<=2:=by omega
     replace hv1:vl.length<=3000:=hv1;obtain⟨cc,hcc⟩: ∃ cc:cE,cc=⟨kl,vl,dd⟩:=⟨_,rfl⟩;have HCc:=ah hcc;have HOk:Hid (iq cc):=ah (by rw[hcc];exact⟨⟨by show 1<=kl.length;omega,by show kl.length<=128;omega⟩,by show vl.length<=16384;omega,HC2.o.2.2.1⟩);have HCk:Hid (dt [cc]=0):=ah (xD.2 ⟨fun q hq=>by rw[List.mem_singleton] at hq;subst hq;exact HOk.o,by show jt cc+0<=_;rw[hcc];show kl.length+vl.length+16+0<=_;omega⟩);obtain⟨Yb,hYb⟩: ∃ Yb,Yb=Pt ga 5 #[.int .u8 107,.int .u8 (s:Int)]*(Pt gb 5 (madeCells #[.int .u8 0] m)*R):=⟨_,rfl⟩;have HYb:=ah hYb;have HPu:Hid (∀ A W,Sat w (Yb*A) W->Js W ⟨(kA,kc,kl),(vA,vc,vl),dd⟩):=ah fun A W hW=>by
      rw[hYb] at hW;exact HC2.o.2.2.2.1 (R*A) W (hW.of (by ac_rfl))
     have hs5:Sat w (Pt g 36 #[.slice LA es.length lc,vo,vg]*(fw (.slice LA es.length lc) es*(Pt gp 43 #[.slice kA kl.length kc,.slice vA vl.length vc,.bool dd]*(Yb*G)))) wc:=by
      have h9:=HC2.o.2.2.2.2;rw[HX.o,bf] at h9;rw[hYb];exact h9.of (by show Pt gp 43 #[.slice kA kl.length kc,.slice vA vl.length vc,.bool dd]*_=_;ac_rfl)
     have HS5:=ah hs5;have HTw:Hid (Calls Tryz.prog 28 #[.agg #[.slice LA es.length lc]] wc fun e w'=> ∃ va vn vc',e = .returned (.agg #[.slice va vn vc'])/\Sat w (qB (.slice va vn vc') M*(fw (.slice LA es.length lc) es*(Pt g 36 #[.slice LA es.length lc,vo,vg]*(Pt gp 43 #[.slice kA kl.length kc,.slice vA vl.length vc,.bool dd]*(Yb*G))))) w'):=ah ((BZ (hs5.ay.zV.Jw HE.o) (by have:=HMl.o;omega)).mono (by
      rintro e w' ⟨v',rfl,hs⟩;obtain⟨va,vn,vc',rfl⟩:=hs.JX;exact⟨va,vn,vc',rfl,hs.Kf⟩))
     have x0:wc.cell? ⟨g,0,none⟩=some (.slice LA es.length lc):=hs5.cell 0;have HS8r:=HR;clear hk1 hcc hYb hs5 HC2 HC HX HS;refine ‹∀ (a:Act) (w:World),Code.wp _ _ _ a w->_› _ _ ?_
     go_upto_region 13 with (go_at_call 28;(with_reducible refine HTw.o.mono ?_);rintro e w2 ⟨va,vn,vc',rfl,hs⟩;have HS6:=ah hs;clear hs)
     clear x0 HTw;have hs6:Sat w (eN w2.heap.size M [] []*(fw (.slice LA es.length lc) es*(Pt g 36 #[.slice LA es.length lc,vo,vg]*(Pt gp 43 #[.slice kA kl.length kc,.slice vA vl.length vc,.bool dd]*(Yb*G))))) (w2.alloc (.cells #[.slice va vn vc',.slice none 0 0,.slice none 0 0] 36)):=Gl (HS6.o.ab 36 #[.slice va vn vc',.slice none 0 0,.slice none 0 0]);obtain⟨W3,hW3⟩: ∃ W3,W3=w2.alloc (.cells #[.slice va vn vc',.slice none 0 0,.slice none 0 0] 36):=⟨_,rfl⟩;obtain⟨g2,hg2⟩: ∃ g2,g2=w2.heap.size:=⟨_,rfl⟩;rw[<-hW3, <-hg2] at hs6;rw[<-hW3, <-hg2];have c0:W3.cell? ⟨gp,0,none⟩=some (.slice kA kl.length kc):=hs6.bL.cell 0;have c1:W3.cell? ⟨gp,1,none⟩=some (.slice vA vl.length vc):=hs6.bL.cell 1;have c2:W3.cell? ⟨gp,2,none⟩=some (.bool dd):=hs6.bL.cell 2;have HWr:Hid (Calls Tryz.prog 22 #[.pointer (some ⟨g2,0,none⟩),.slice (some ⟨W3.heap.size,0,none⟩) 1 1] (W3.alloc (.cells #[.slice kA kl.length kc,.slice vA vl.length vc,.bool dd] 43)) fun x w'=>x = .returned (.int .i64 0)/\Sat w (eN g2 (dK cc M) [] []*(fw (.slice LA es.length lc) es*(Pt g 36 #[.slice LA es.length lc,vo,vg]*(Pt gp 43 #[.slice kA kl.length kc,.slice vA vl.length vc,.bool dd]*(Yb*G))))) w'):=ah ((GA ⟨(kA,kc,kl),(vA,vc,vl),dd⟩ W3.heap.size (hs6.alloc _).ay (fun W hW=>HPu.o G W hW.right.right.right) (by have:=HMl.o;omega) ⟨by show kl.length<=_;omega,by show vl.length<=_;omega⟩).mono (by
      rintro x w' ⟨rfl,hs⟩;have e1:(⟨(kA,kc,kl),(vA,vc,vl),dd⟩:Pu).bq=cc:=HCc.o.symm;rw[e1] at hs ⊢;rw[HCk.o] at hs ⊢;exact⟨rfl,hs⟩))
     clear hs6 hW3 hg2 HS6 HS5;go_upto_region 14 with (go_at_call 22;(with_reducible refine HWr.o.mono ?_);rintro e w4 ⟨rfl,hs⟩;have HS7:=ah hs;clear hs)
     clear c0 c1 c2 HWr;have hs7:=HR.o _ _ (HS7.o.of (show _=(eN g2 (dK cc M) [] []*(fw (.slice LA es.length lc) es*(Pt g 36 #[.slice LA es.length lc,vo,vg]*(Pt gp 43 #[.slice kA kl.length kc,.slice vA vl.length vc,.bool dd]*Yb))))*G by ac_rfl));have c0:w4.cell? ⟨gp,0,none⟩=some (.slice kA kl.length kc):=HS7.o.bL.cell 0;have c1:w4.cell? ⟨gp,1,none⟩=some (.slice vA vl.length vc):=HS7.o.bL.cell 1;have c2:w4.cell? ⟨gp,2,none⟩=some (.bool dd):=HS7.o.bL.cell 2;have HWs:Hid (Calls Tryz.prog 20 #[.pointer (some ⟨b,0,none⟩),.slice (some ⟨w4.heap.size,0,none⟩) 1 1] (w4.alloc (.cells #[.slice kA kl.length kc,.slice vA vl.length vc,.bool dd] 43)) fun x w'=> ∃ (er:Int) (M':List Kv),x = .returned (.int .i64 er)/\KT n [cc] M er M'/\cX w (eN g2 (dK cc M) [] []*(fw (.slice LA es.length lc) es*(Pt g 36 #[.slice LA es.length lc,vo,vg]*(Pt gp 43 #[.slice kA kl.length kc,.slice vA vl.length vc,.bool dd]*Yb)))) b d n (i+1) (1+i+1) 0 1 M' (fun _=>none) w'):=ah ((DT ⟨(kA,kc,kl),(vA,vc,vl),dd⟩ w4.heap.size (by omega) (by omega) (hs7.al _) (fun W hW=>HPu.o bF W (hW.right.right.right.right.of (iU Yb).symm) ) ⟨by show kl.length<=_;omega,by show vl.length<=_;omega⟩).mono (by
      rintro x w' ⟨er,M',rfl,hr,hs⟩;have e1:(⟨(kA,kc,kl),(vA,vc,vl),dd⟩:Pu).bq=cc:=HCc.o.symm;rw[e1] at hr;exact⟨er,M',rfl,hr,hs⟩))
     clear hs7 HS7;go_upto_region 15 with (first
      | (go_at_call 20;(with_reducible refine HWs.o.mono ?_);rintro e w5 ⟨er,M',rfl,hwr,hs⟩;have HS8:=ah hs;have HWR:=ah hwr;clear hs hwr)
      | (go_at_call 29;(with_reducible refine(kY _ _).mono ?_);rintro e wx ⟨rfl,rfl⟩))
     clear c0 c1 c2 HWs HS8r;obtain⟨F6,hF6⟩: ∃ F6,F6=eN g2 (dK cc M) [] []*(Pt gp 43 #[.slice kA kl.length kc,.slice vA vl.length vc,.bool dd]*Yb):=⟨_,rfl⟩;have hs8:cX w (Pt g 36 #[.slice LA es.length lc,vo,vg]*(fw (.slice LA es.length lc) es*F6)) b d n (i+1) (1+i+1) 0 1 M' (fun _=>none) w5.drew:=(HS8.o.of (by rw[hF6];ac_rfl)).map fun G hG=>hG.drew
     obtain⟨G5,hG5,hR5⟩:=hs8.KW;have hs9:=hG5.of (show _=fw (.slice LA es.length lc) es*(Pt g 36 #[.slice LA es.length lc,vo,vg]*(F6*G5)) by ac_rfl);have HFp:Hid (∀ W,Sat w F6 W->W.cell? ⟨gp,0,none⟩=some (.slice kA kl.length kc)/\W.cell? ⟨gp,1,none⟩=some (.slice vA vl.length vc)):=ah fun W hW=>by
      rw[hF6] at hW;exact⟨hW.ay.cell 0,hW.ay.cell 1⟩
     obtain⟨q,hq⟩: ∃ q,q=cI M:=⟨_,rfl⟩;have hq2:q<=2428800:=by
      have h1:=tM (M:=M) HPr.o.2.2;have h2:=HMl.o;have h3:M.length*20240<=120*20240:=Nat.mul_le_mul_right _ h2;omega
     have HAl:Hid (Calls Tryz.prog 30 #[.agg #[.slice LA es.length lc]] w5.drew fun e w'=>e = .returned (.int .i64 (q:Int))/\Sat w (fw (.slice LA es.length lc) es*(Pt g 36 #[.slice LA es.length lc,vo,vg]*(F6*G5))) w'):=ah (by
      have h9:=zb hs9 (by have:=HEl.o;have:=HMl.o;omega) (fun e he=>by
       have h1:(e.key.2.2,e.value.2.2) ∈ M:=by rw[<-HE.o];exact List.mem_map.2 ⟨e,he,rfl⟩
       have h2:e.key.2.2.length<=200/\e.value.2.2.length<=20000:=HPr.o.2.2 _ h1;exact⟨by have:=h2.1;show e.key.2.2.length<=_;omega,by have:=h2.2;show e.value.2.2.length<=_;omega⟩)
      rw[HE.o, <-hq] at h9;exact h9)
     have HQ:=ah hq;have HS9:=ah hs9;have HR5:=ah hR5;have HF6:=ah hF6;have hk0:kl.length<=2:=hk2;have e1:IntKind.i64.wrap ((q:Int)+kl.length)=(q:Int)+kl.length:=by rw[IntKind.wrap_i64];omega
     have e2:IntKind.i64.wrap ((q:Int)+kl.length+vl.length)=(q:Int)+kl.length+vl.length:=by rw[IntKind.wrap_i64];omega
     have e3:IntKind.i64.wrap ((q:Int)+kl.length+vl.length+40)=(q:Int)+kl.length+vl.length+40:=by rw[IntKind.wrap_i64];omega
     have e4:IntKind.i64.wrap (8*((q:Int)+kl.length+vl.length+40))=8*((q:Int)+kl.length+vl.length+40):=by rw[IntKind.wrap_i64];omega
     have e5:IntKind.i64.wrap ((kl.length:Int)+vl.length)=(kl.length:Int)+vl.length:=by rw[IntKind.wrap_i64];omega
     have e6:IntKind.i64.wrap ((kl.length:Int)+vl.length+16)=(kl.length:Int)+vl.length+16:=by rw[IntKind.wrap_i64];omega
     have e7:IntKind.i64.wrap (2*((kl.length:Int)+vl.length+16))=2*((kl.length:Int)+vl.length+16):=by rw[IntKind.wrap_i64];omega
     have e8:IntKind.i64.wrap (8*((q:Int)+kl.length+vl.length+40)+2*((kl.length:Int)+vl.length+16))=8*((q:Int)+kl.length+vl.length+40)+2*((kl.length:Int)+vl.length+16):=by rw[IntKind.wrap_i64];omega
     have e9:IntKind.i64.wrap (8*((q:Int)+kl.length+vl.length+40)+2*((kl.length:Int)+vl.length+16)+262144)=8*((q:Int)+kl.length+vl.length+40)+2*((kl.length:Int)+vl.length+16)+262144:=by rw[IntKind.wrap_i64];omega
     have HRm:Hid ((8*((q:Int)+kl.length+vl.length+40)+2*((kl.length:Int)+vl.length+16)+262144<=512*(n:Int))->ev n (aZ [cc] M) [cc]=false):=ah fun h0=>by
      refine yS HN1.o (by rw[HCc.o];show kl.length+vl.length<=_;omega) ?_;rw[HCc.o, <-HQ.o];show 8*(q+kl.length+vl.length+40)+2*(kl.length+vl.length+16)+262144<=512*n;omega
     clear hs8 hG5 hR5 hs9 hq hF6 HS8;refine wp_region_held_drew (S:=fun w'=>w'.cell? ⟨g,0,none⟩=some (.slice LA es.length lc)/\w'.cell? ⟨gp,0,none⟩=some (.slice kA kl.length kc)/\w'.cell? ⟨gp,1,none⟩=some (.slice vA vl.length vc)) (by kernel_rfl) ⟨HS9.o.ay.cell 0,(HFp.o _ (Sat.Ku HS9.o.right.right)).1,(HFp.o _ (Sat.Ku HS9.o.right.right)).2⟩ ?_;intro hS0;refine an 0 1 2 3 ?_;refine an 5 6 7 9 ?_;refine an 10 11 15 16 ?_;refine an 17 18 19 20 ?_;refine cw 21 22 ?_;refine ca 23 ?_;refine bC 4 fun K hK=>?_
     go_simp;go_at_call 30;(with_reducible refine HAl.o.mono ?_);rintro x w6 ⟨rfl,hs⟩;have HS6:=ah hs;clear hs
     refine hK.out _ _ ⟨HS6.o.ay.cell 0,(HFp.o _ (Sat.Ku HS6.o.right.right)).1,(HFp.o _ (Sat.Ku HS6.o.right.right)).2⟩ (fun hS0=>?_);clear hK K;refine an 8 12 13 14 ?_;refine cw 24 25 ?_;refine ca 26 ?_;refine wpAnyH_done (by kernel_rfl) ?_ _;refine ‹∀ (a:Act) (w:World),Code.wp _ _ _ a w->_› _ _ ?_
     apply wp_seq_k;intro _ _;go_cut [7] (fun mv wx=> ∃ (gx:Nat) (Mx:List Kv),mv = .pointer (some ⟨gx,0,none⟩)/\Hid (cX w (eN gx Mx [] []*bF) b d n (i+1) (1+i+1) 0 1 Mx (fun _=>none) wx))
     case first=>
      have HS10:Hid (cX w (Pt g 36 #[.slice LA es.length lc,vo,vg]*(fw (.slice LA es.length lc) es*F6)) b d n (i+1) (1+i+1) 0 1 M' (fun _=>none) w6):=ah (HR5.o _ _ (HS6.o.of (by ac_rfl)));have e10:IntKind.i64.wrap (512*(n:Int))=512*(n:Int):=by rw[IntKind.wrap_i64];omega
      rcases HWR.o with ⟨h1,_⟩ | ⟨_,hfu,rfl,hm⟩ | ⟨_,_,rfl,rfl⟩
      .exact absurd HCk.o h1
      .rw[hm] at HS10;have hle:¬ (8*((q:Int)+kl.length+vl.length+40)+2*((kl.length:Int)+vl.length+16)+262144<=512*(n:Int)):=fun h0=>by
        have:=HRm.o h0;rw[hfu] at this
        cases this
       have HFin:Hid (cX w (eN g M [] []*bF) b d n (i+1) (1+i+1) 0 1 M (fun _=>none) w6):=ah (cX.keep (B:=eN g2 (dK cc M) [] []*(Pt gp 43 #[.slice kA kl.length kc,.slice vA vl.length vc,.bool dd]*(Pt ga 5 #[.int .u8 107,.int .u8 (s:Int)]*Pt gb 5 (madeCells #[.int .u8 0] m)))) (HS10.o.map fun G hG=>by
        have h9:=hG.of (show _=Pt g 36 #[.slice LA es.length lc,vo,vg]*(fw (.slice LA es.length lc) es*(R*((eN g2 (dK cc M) [] []*(Pt gp 43 #[.slice kA kl.length kc,.slice vA vl.length vc,.bool dd]*(Pt ga 5 #[.int .u8 107,.int .u8 (s:Int)]*Pt gb 5 (madeCells #[.int .u8 0] m))))*G))) by rw[HF6.o,HYb.o];ac_rfl);exact(HBk.o _ _ h9).of (by ac_rfl)))
       clear hfu e1 e2 e3 e4 e5 e6 e7 e8 e9;go_wp2_with fail;go_meet
       exact⟨g,M,rfl,HFin.o⟩
      .have HFin:Hid (cX w (eN g2 (dK cc M) [] []*bF) b d n (i+1) (1+i+1) 0 1 (aZ [cc] M) (fun _=>none) w6):=ah (cX.keep (B:=Pt g 36 #[.slice LA es.length lc,vo,vg]*(fw (.slice LA es.length lc) es*(Pt gp 43 #[.slice kA kl.length kc,.slice vA vl.length vc,.bool dd]*Yb))) (HS10.o.of (by rw[HF6.o];ac_rfl)));clear e1 e2 e3 e4 e5 e6 e7 e8 e9;go_wp2_with fail;go_meet
       exact⟨g2,dK cc M,rfl,HFin.o⟩
     case rest=>
      obtain⟨gx,Mx,rfl,HS11⟩:=hcut;obtain⟨LX,lcx,vox,vgx,esx,RX,hex,hsx,hBx⟩:=HS11.o.kD;have HSx:=ah (hsx.map fun G hG=>hG.drew);have HBx:=ah hBx;have hne:((Mx.length:Int) !=(esx.length:Int))=false:=by rw[<-hex,bX];simp
      clear hex hsx hBx;refine ‹∀ (a:Act) (w:World),Code.wp _ _ _ a w->_› _ _ ?_
      go_upto_region 22 with fail;refine wp_region_held_drew (S:=fun w'=>w'.cell? ⟨gx,0,none⟩=some (.slice LX esx.length lcx)) (by kernel_rfl) (HSx.o.sat.cell 0) ?_;intro hS0;refine an 0 2 3 4 ?_;refine cw 5 6 ?_;refine ca 7 ?_;refine bC 1 fun K hK=>?_
      go_simp;go_at_call 31;refine(Fq (by omega) HSx.o).mono ?_;rintro x w22 ⟨rfl,hs⟩;have HS22:=ah hs;clear hs
      refine hK.out _ _ (HS22.o.sat.cell 0) (fun hS0=>?_);clear hK K;refine ca 8 ?_;refine wpAnyH_done (by kernel_rfl) ?_ _;go_wp2_with fail;go_roundw
      .exact⟨i+1,gx,by omega,by omega,by push_cast;rfl,rfl,Mx,by rw[show 1+(i+1)=1+i+1 by omega];exact cX.Dz HBx.o HS22.o⟩
      .simp[intOf];omega
  .obtain⟨M,hS⟩:=HD.o;have hpr:=hS.gW;obtain⟨LX,lcx,vox,vgx,esx,RX,hex,hsx,hBx⟩:=hS.kD;have HSx:=ah (hsx.map fun G hG=>hG.drew);have HSc:Hid (Calls Tryz.prog 24 #[.pointer (some ⟨b,0,none⟩),.slice none 0 0,.slice none 0 0,.int .i64 1073741824] wr.drew fun x w'=> ∃ (B:Option Addr) (c:Nat) (qs es:List En),x = .returned (.slice B qs.length c)/\aY qs=M/\(∀ q ∈ qs,q ∈ es)/\qs.length<=c/\cX w (CL B c qs es*(Pt g 36 #[.slice LX esx.length lcx,vox,vgx]*(fw (.slice LX esx.length lcx) esx*(RX*bF)))) b d n i (1+i) 0 1 M (fun _=>none) w'):=IK (none,0,[]) (none,0,[]) 1073741824 M (by rw[FN,List.take_of_length_le];show M.length<=1073741824;omega) (Rd.nil _ _) (Rd.nil _ _) (by omega) HSx.o;have HPa:Hid (∀ B c qs es w2,aY qs=M->(∀ q ∈ qs,q ∈ es)->cX w (CL B c qs es*(Pt g 36 #[.slice LX esx.length lcx,vox,vgx]*(fw (.slice LX esx.length lcx) esx*(RX*bF)))) b d n i (1+i) 0 1 M (fun _=>none) w2->Calls Tryz.prog 23 #[.slice B qs.length c,.slice LX esx.length lcx] w2 fun x w'=>x = .returned (.bool true)/\cX w (CL B c qs es*(Pt g 36 #[.slice LX esx.length lcx,vox,vgx]*(fw (.slice LX esx.length lcx) esx*(RX*bF)))) b d n i (1+i) 0 1 M (fun _=>none) w'):=ah fun B c qs es w2 h1 h2 h3=>xZ (IZ h2) Hk.left.left (h1.trans hex.symm) (by have h4:=congrArg List.length h1;rw[bX] at h4;have:=hpr.2.1;omega) h3
   clear hex hsx hBx hpr hS;by_cases hlt2:i<l.length
   .have h120:i=120:=by
     by_cases h0:i<120
     .exact absurd ⟨hlt2,h0⟩ hlt
     .omega
    have hii:(i:Int)<l.length:=by omega
    have hi120:¬ (i:Int)<120:=by omega
    clear hlt hlt2 h120;go_upto_region 24 with fail;refine wp_region_held_drew (S:=fun w'=>w'.cell? ⟨g,0,none⟩=some (.slice LX esx.length lcx)) (by kernel_rfl) (HSx.o.sat.cell 0) ?_;intro hS0;refine an 0 2 3 4 ?_;refine cw 5 6 ?_;refine bC 1 fun K hK=>?_
    go_simp;go_at_call 24;(with_reducible refine HSc.o.mono ?_);rintro x w2 ⟨B,c2,qs,es',rfl,hq1,hq2,_,hs⟩;have HQ1:=ah hq1;have HQ2:=ah hq2;have HS2:=ah hs;clear hq1 hq2 hs
    refine hK.out _ _ (HS2.o.sat.ay.cell 0) (fun hS0=>?_);clear hK K;refine bC 7 fun K hK=>?_
    go_simp;go_at_call 23;(with_reducible refine(HPa.o _ _ _ _ _ HQ1.o HQ2.o HS2.o).mono ?_);rintro x w7 ⟨rfl,hs⟩;have HS7:=ah hs;clear hs
    refine hK.out _ _ (HS7.o.sat.ay.cell 0) (fun hS0=>?_);clear hK K;refine ca 8 ?_;refine wpAnyH_done (by kernel_rfl) ?_ _;go_wp2_with fail;go_ret;exact⟨rfl,HS7.o.sat.aL⟩
   .have hii:¬ (i:Int)<l.length:=by omega
    clear hlt hlt2;go_upto_region 24 with fail;refine wp_region_held_drew (S:=fun w'=>w'.cell? ⟨g,0,none⟩=some (.slice LX esx.length lcx)) (by kernel_rfl) (HSx.o.sat.cell 0) ?_;intro hS0;refine an 0 2 3 4 ?_;refine cw 5 6 ?_;refine bC 1 fun K hK=>?_
    go_simp;go_at_call 24;(with_reducible refine HSc.o.mono ?_);rintro x w2 ⟨B,c2,qs,es',rfl,hq1,hq2,_,hs⟩;have HQ1:=ah hq1;have HQ2:=ah hq2;have HS2:=ah hs;clear hq1 hq2 hs
    refine hK.out _ _ (HS2.o.sat.ay.cell 0) (fun hS0=>?_);clear hK K;refine bC 7 fun K hK=>?_
    go_simp;go_at_call 23;(with_reducible refine(HPa.o _ _ _ _ _ HQ1.o HQ2.o HS2.o).mono ?_);rintro x w7 ⟨rfl,hs⟩;have HS7:=ah hs;clear hs
    refine hK.out _ _ (HS7.o.sat.ay.cell 0) (fun hS0=>?_);clear hK K;refine ca 8 ?_;refine wpAnyH_done (by kernel_rfl) ?_ _;go_wp2_with fail;go_ret;exact⟨rfl,HS7.o.sat.aL⟩
end Go.Proofs.YtmbaiglpgaoogaaGreat
