/- Joined, as they were built one by one: StCrL. -/
import Derived.Test.YtmbaiglpgaoogaaGreatC28
set_option maxHeartbeats 16000000
set_option linter.unusedVariables false
set_option maxRecDepth 100000
namespace Go.Proofs.YtmbaiglpgaoogaaGreat
open Go.RowKit Z
theorem tK {P:Program} {ops:Array Oper} {Q:Exit->Act->World->Prop} {S R:World->Prop} {id:Nat} {a:Act} {w:World} (HK:Hid (∀ w,R w->S w)) (hR:R w.drew) (h:S w.drew->wpAnyH P .any ops Q S ops.size (Array.replicate ops.size false) a w.drew) (hm:P.follows .mixedOrders=true:=by kernel_rfl):(Code.region id ops true).wp P Q a w:=wp_region_held_drew hm (HK.o _ hR) h
section
variable {w0 w w':World} {F F' A B:SP} {b d n t k a nx g kb m q:Nat} {M N:List Kv} {olds:Int->Option (List Kv)} {Ms:List (List Kv)} {gs:List Bool} {off:Bool}
theorem ke.re (h:ke w0 F d n t k Ms off w): ∃ G,Sat w0 (F*G) w/\ ∀ F' w',Sat w0 (F'*G) w'->ke w0 F' d n t k Ms off w':=by
 obtain⟨D,h1,h2,h3,h4,h5,h6⟩:=h;exact⟨ae d D,h6.of (bX _ _),fun F' w' hw=>⟨D,h1,h2,h3,h4,h5,hw.of (bX _ _)⟩⟩
theorem aY.L3 {a':Nat} (h:aY w0 F b d n t k a nx M olds w) (ha:a<=a'):aY w0 F b d n t k a' nx M olds w:=by
 obtain⟨s,S,v,D,h1,h2,h3,h4⟩:=h;exact⟨s,S,v,D,h1,by omega,h3,h4⟩
theorem K5 (hk:k<=10000) (ht:t<=1024) (ha:a<=9223372036854775807) (h:aY w0 F b d n t k a nx M olds w):
 Calls Tryz.prog 35 #[.pointer (some ⟨b,0,none⟩)] w fun x w'=> ∃ er:Int,x = .returned (.int .i64 er)/\Hid ((er=0/\aY w0 F b d n t (k+1) a nx M olds w')\/(er=21/\ke w0 F d n t (k+1) [M] true w')):=by
 obtain⟨s,S,v,D,h1,h2,h3,h4⟩:=h;refine(Cy b d s v n t k D S M olds h1 hk ht (by omega) h4).mono ?_;rintro x w' (⟨rfl,S',D',v',g3,g4,g5,g6,g7,g8⟩ | ⟨rfl,g1,D',g2,g3,g4,g5⟩)
 .exact⟨0,rfl,.inl ⟨rfl,s,S',v',D',g3,by omega,by omega,g8⟩⟩
 .exact⟨21,rfl,.inr ⟨rfl,D',g3,h1.len.2.1,h1.len.2.2.1,g2,g4,g5⟩⟩
theorem Ll (hk:k<=5000) (ht:t<=1024) (ha:a<=9223372036854775807) (h:aY w0 F b d n t k a nx M olds w):
 Calls Tryz.prog 19 #[.pointer (some ⟨d,0,none⟩)] w fun x w'=> ∃ (pv:Value) (er:Int),x = .returned (.tuple #[pv,.int .i64 er])/\Hid ((∃ b',pv = .pointer (some ⟨b',0,none⟩)/\er=0/\aY w0 F b' d n t (k+2) a 1 M (fun _=>none) w')\/(pv = .pointer none/\er=21/\ke w0 F d n t (k+2) [M] true w')):=by
 obtain⟨s,S,v,D,h1,h2,h3,h4⟩:=h;obtain⟨S',e1,e2⟩:=h1.again (by omega);have h5:Ln w0 F d n t (k+1) D.armed [M] w:=⟨D,S',e1,e2,rfl,h4.right.right⟩;refine(Ls ht (by omega) (by omega) h5).mono ?_;rintro x w' ⟨pv,er,rfl,hh⟩;refine⟨pv,er,rfl,?_⟩;rcases hh.o with ⟨b',rfl,rfl,h6⟩ | ⟨rfl,rfl,h6⟩
 .exact .inl ⟨b',rfl,rfl,h6.L3 h2⟩
 .exact .inr ⟨rfl,rfl,h6⟩
theorem JN (Ad:Option Addr) (c:Nat) (ps:List Pu) (hk:k<=10000) (ht:t+ps.length<=1024) (ha:a<=9223372036854775807) (h:aY w0 F b d n t k a nx M olds w)
 (hb: ∀ W,Sat w0 F W->aH W Ad (ps.flatMap dQ)/\eJ W ps) (hz: ∀ p ∈ ps,p.key.2.2.length<=1000000000/\p.value.2.2.length<=1000000000) (hf:dB (ps.map Pu.bE)=0->fh n (bq (ps.map Pu.bE) M) (ps.map Pu.bE)=false):
 Calls Tryz.prog 20 #[.pointer (some ⟨b,0,none⟩),.slice Ad ps.length c] w fun x w'=> ∃ er:Int,x = .returned (.int .i64 er)/\Hid ((er=KG (ps.map Pu.bE)/\aY w0 F b d n (t+ps.length) (k+1) a nx (IB (ps.map Pu.bE) M) olds w')\/(er=21/\dB (ps.map Pu.bE)=0/\ke w0 F d n (t+ps.length) (k+1) [M,bq (ps.map Pu.bE) M] true w')):=by
 obtain⟨s,S,v,D,h1,h2,h3,h4⟩:=h;refine(ze b d s v n t k D S M olds Ad c ps h1 hk ht (by omega) h4 hb hz).mono ?_;rintro x w' (⟨e1,g1,g2⟩ | ⟨e1,e2,g1,g2⟩ | ⟨e1,e2,rfl,S',D',v',g3,g4,g5,g6,g7,g8⟩ | ⟨e1,e2,rfl,g1,D',g2,g3,g4,g5⟩)
 .refine⟨_,g1,.inl ⟨rfl,?_⟩⟩;unfold IB;rw[if_neg e1];exact aY.mono (show aY w0 F b d n t k a nx M olds w' from ⟨s,S,v,D,h1,h2,h3,g2⟩) (by omega) (by omega)
 .rw[hf e1] at e2;cases e2
 .rw[List.length_map] at g3;refine⟨0,rfl,.inl ⟨by unfold KG;rw[e1];rfl,?_⟩⟩;unfold IB;rw[if_pos e1];exact⟨s,S',v',D',g3,by omega,by omega,g8⟩
 .rw[List.length_map] at g4;exact⟨21,rfl,.inr ⟨rfl,e1,D',g3,h1.len.2.1,h1.len.2.2.1,g2,g4,g5⟩⟩
end
section
variable {w0 w w':World} {F F' A B:SP} {b d n t k a nx g kb m q t' k' m' q':Nat} {M N Mo:List Kv} {olds:Int->Option (List Kv)} {Ms Ms':List (List Kv)} {gs:List Bool} {off:Bool} {v va vb:Value}
theorem Sat.Mt (h:Sat w0 (bm g N Ms gs*F) w): ∃ LA lc R,(∀ F' W,Sat w0 (R*F') W->W.cell? ⟨g,0,none⟩=some (.slice LA N.length lc)/\Sat w0 (bm g N Ms gs*F') W)/\Sat w0 (bQ (.slice LA N.length lc) N*(R*F)) w:=by
 obtain⟨LA,lc,vo,vg,es,R,he,h1,hB⟩:=h.lC;have hl:es.length=N.length:=by rw[<-he,bB]
 refine⟨LA,lc,Pt g 36 #[.slice LA es.length lc,vo,vg]*(eH (.slice LA es.length lc) es*R),fun F' W hW=>?_,?_⟩
 .have h2:=hW.of (show _=Pt g 36 #[.slice LA es.length lc,vo,vg]*(eH (.slice LA es.length lc) es*(R*F')) by ac_rfl);rw[<-hl];exact⟨h2.cell 0,hB _ _ h2⟩
 .rw[<-hl];exact((h1.av.qn).Bi he).of (by ac_rfl)
theorem aY.Lf (h:aY w0 (bm g N Ms gs*F) b d n t k a nx M olds w): ∃ LA lc R,(∀ F' W,Sat w0 (R*F') W->W.cell? ⟨g,0,none⟩=some (.slice LA N.length lc)/\Sat w0 (bm g N Ms gs*F') W)/\aY w0 (bQ (.slice LA N.length lc) N*(R*F)) b d n t k a nx M olds w:=by
 obtain⟨G,hG,hR⟩:=h.re;obtain⟨LA,lc,R,h1,h2⟩:=(hG.of (aj _ _ _)).Mt;exact⟨LA,lc,R,h1,hR _ _ (h2.of (by ac_rfl))⟩
theorem ke.Lf (h:ke w0 (bm g N Ms gs*F) d n t k Ms' off w): ∃ LA lc R,(∀ F' W,Sat w0 (R*F') W->W.cell? ⟨g,0,none⟩=some (.slice LA N.length lc)/\Sat w0 (bm g N Ms gs*F') W)/\ke w0 (bQ (.slice LA N.length lc) N*(R*F)) d n t k Ms' off w:=by
 obtain⟨G,hG,hR⟩:=h.re;obtain⟨LA,lc,R,h1,h2⟩:=(hG.of (aj _ _ _)).Mt;exact⟨LA,lc,R,h1,hR _ _ (h2.of (by ac_rfl))⟩
theorem aY.turn (hAB: ∀ F' W,Sat w0 (A*F') W->Sat w0 (B*F') W) (h:aY w0 (A*F) b d n t k a nx M olds w):aY w0 (B*F) b d n t k a nx M olds w:=by
 obtain⟨G,hG,hR⟩:=h.re;exact hR _ _ ((hAB _ _ (hG.of (aj _ _ _))).of (aj _ _ _).symm)
theorem ke.map (h:ke w0 F d n t k Ms off w) (f: ∀ G,Sat w0 (G*F) w->Sat w0 (G*F') w'):ke w0 F' d n t k Ms off w':=by
 obtain⟨G,hG,hR⟩:=h.re;exact hR _ _ ((f G (hG.of (bX _ _))).of (bX _ _))
theorem Lv (h:aY w0 (bQ v N*F) b d n t k a nx M olds w) (hl:N.length<=100000):
 Calls Tryz.prog 28 #[.agg #[v]] w fun e w'=> ∃ va vn vc,e = .returned (.agg #[.slice va vn vc])/\aY w0 (bQ (.slice va vn vc) N*(bQ v N*F)) b d n t k a nx M olds w':=by
 obtain⟨G,hG,hR⟩:=h.re;refine(tU (hG.of (aj _ _ _)) hl).mono ?_;rintro e w' ⟨v',rfl,hs⟩;obtain⟨va,vn,vc,rfl⟩:=hs.yK;exact⟨va,vn,vc,rfl,hR _ _ (hs.of (by ac_rfl))⟩
theorem aY.Nc (h:aY w0 (Pt g 36 #[v,.slice none 0 0,.slice none 0 0]*(bQ v N*F)) b d n t k a nx M olds w):aY w0 (bm g N [] []*F) b d n t k a nx M olds w:=by
 obtain⟨G,hG,hR⟩:=h.re;exact hR _ _ ((vO (hG.of (show _=Pt g 36 #[v,.slice none 0 0,.slice none 0 0]*(bQ v N*(F*G)) by ac_rfl))).of (by ac_rfl))
theorem iJ.AF (h:iJ w0 F b d n t k a g kb m q M w):Calls Tryz.prog 40 #[.pointer (some ⟨d,0,none⟩)] w fun e w'=>e = .returned (.bool false)/\w=w':=by
 obtain⟨Ms,gs,_,_,h3⟩:=h;exact M6 h3
theorem LH (cs:List cJ):(KG cs==21)=false:=by
 rw[beq_eq_false_iff_ne];unfold KG dB;split
 .decide
 .split
  .decide
  .split<;>decide
end
section
variable {w0 w w':World} {F F' A B:SP} {b d n t k a nx g:Nat} {M N Ma Mb:List Kv} {olds:Int->Option (List Kv)} {Ms:List (List Kv)} {gs:List Bool} {off:Bool} {v:Value}
theorem oY {qs fs:List En} {B C:Option Addr} {c c':Nat} {bo:Bool} (h1:qd F B qs) (h2:qd F C fs) (hb:decide (az qs=az fs)=bo) (hn:qs.length<=1000000) (h:aY w0 F b d n t k a nx M olds w):
 Calls Tryz.prog 23 #[.slice B qs.length c,.slice C fs.length c'] w fun x w'=>x = .returned (.bool bo)/\aY w0 F b d n t k a nx M olds w':=by
 obtain⟨a1,a2⟩:=h1 _ _ h.sat;obtain⟨b1,b2⟩:=h2 _ _ h.sat;refine(uB B C c c' qs fs w a1 a2 b1 b2 hn).mono ?_;rintro x w' ⟨rfl,hk⟩;rw[hb];exact⟨rfl,h.new hk⟩
theorem zZ (x:nB) {va vb:Value} (hk:k<=9000) (ht:t<=1000) (hr:aH w0 x.kA (x.keep.map Value.bool)) (hkl:x.keep.length<=140737488351232) (hMs: ∀ N ∈ Ms,N=Ma\/N=Mb) (h:ke w0 (bQ va Ma*(bQ vb Mb*F)) d n t k Ms off w):
 Calls Tryz.prog 50 #[.pointer (some ⟨d,0,none⟩),.agg #[va],.agg #[vb],.agg (Bg x)] w fun e w'=> ∃ b' g' N,e = .returned (.tuple #[.pointer (some ⟨b',0,none⟩),.pointer (some ⟨g',0,none⟩)])/\Hid ((N=Ma\/N=Mb)/\aY w0 (bm g' N [] []*F) b' d n t (k+1) 0 1 N (fun _=>none) w'):=by
 obtain⟨op,xn,bA,bc,ps,⟨kA,kc,kl⟩,⟨tA,tc,tl⟩,eA,ec,kp,torn,cut⟩:=x;replace hr:aH w0 eA (kp.map Value.bool):=hr;replace hkl:kp.length<=140737488351232:=hkl;obtain⟨G,hG,hR⟩:=h.re;obtain⟨ea,hea,h1⟩:=(hG.of (show _=bQ va Ma*(bQ vb Mb*(F*G)) by ac_rfl)).mp;obtain⟨LA,lca,rfl,_,_⟩:=h1.mD;obtain⟨eb,heb,h2⟩:=(h1.av).mp;obtain⟨LB,lcb,rfl,_,_⟩:=h2.mD;obtain⟨CS,hCS⟩: ∃ CS:Array Value,CS = #[.int .i64 op,.int .i64 xn,.slice bA ps.length bc,.slice kA kl.length kc,.slice tA tl.length tc,.slice eA kp.length ec,.int .i64 torn,.int .i64 cut]:=⟨_,rfl⟩;have h3:=(((h2.arg hr).bG (b:=w.heap.size) 32 #[.slice LA ea.length lca] rfl).bG (b:=w.heap.size+1) 32 #[.slice LB eb.length lcb] (by simp)).bG (b:=w.heap.size+1+1) 80 CS (by simp);have HR:=ah hR;have HA:=ah hea;have HB:=ah heb;have HMs:=ah hMs;clear h hG hR h1 h2 hr hea heb hMs;show Calls Tryz.prog 50 #[.pointer (some ⟨d,0,none⟩),.agg #[.slice LA ea.length lca],.agg #[.slice LB eb.length lcb],.agg #[.int .i64 op,.int .i64 xn,.slice bA ps.length bc,.slice kA kl.length kc,.slice tA tl.length tc,.slice eA kp.length ec,.int .i64 torn,.int .i64 cut]] w _;go_enter Tryz.func50, Tryz.ntmps50;go_upto_region 1 with fail;rw[<-hCS];revert h3;generalize ((w.alloc _).alloc _).alloc _=W;intro h3;generalize w.heap.size=E at*
 obtain⟨X,hX⟩: ∃ X,X=Pt (E+1+1) 80 CS*(Pt (E+1) 32 #[.slice LB eb.length lcb]*(Pt E 32 #[.slice LA ea.length lca]*(eH (.slice LA ea.length lca) ea*eH (.slice LB eb.length lcb) eb))):=⟨_,rfl⟩;have HC1:Hid (ke w0 (Ro eA (kp.map Value.bool)*(X*F)) d n t k Ms off W):=ah (HR.o _ _ (h3.of (by rw[hX];ac_rfl)));have HXx:Hid (∀ (Y:SP) W,Sat w0 (X*Y) W->W.cell? ⟨E+1+1,5,none⟩=some (.slice eA kp.length ec)/\W.cell? ⟨E+1+1,6,none⟩=some (.int .i64 torn)/\W.cell? ⟨E+1+1,7,none⟩=some (.int .i64 cut)):=ah fun Y W hW=>by
  rw[hX] at hW;have hW2:=hW.of (aj _ _ _);exact⟨by rw[hW2.cell 5,hCS];rfl,by rw[hW2.cell 6,hCS];rfl,by rw[hW2.cell 7,hCS];rfl⟩
 obtain⟨Qa,Qb,Qc,Qd,hXd⟩: ∃ Qa Qb Qc Qd:SP, ∀ Y:SP,X*Y=eH (.slice LA ea.length lca) ea*(Y*Qa)/\X*Y=eH (.slice LB eb.length lcb) eb*(Y*Qb)/\X*Y=Pt E 32 #[.slice LA ea.length lca]*(Y*Qc)/\X*Y=Pt (E+1) 32 #[.slice LB eb.length lcb]*(Y*Qd):=⟨Pt (E+1+1) 80 CS*(Pt (E+1) 32 #[.slice LB eb.length lcb]*(Pt E 32 #[.slice LA ea.length lca]*eH (.slice LB eb.length lcb) eb)),Pt (E+1+1) 80 CS*(Pt (E+1) 32 #[.slice LB eb.length lcb]*(Pt E 32 #[.slice LA ea.length lca]*eH (.slice LA ea.length lca) ea)),Pt (E+1+1) 80 CS*(Pt (E+1) 32 #[.slice LB eb.length lcb]*(eH (.slice LA ea.length lca) ea*eH (.slice LB eb.length lcb) eb)),Pt (E+1+1) 80 CS*(Pt E 32 #[.slice LA ea.length lca]*(eH (.slice LA ea.length lca) ea*eH (.slice LB eb.length lcb) eb)),fun Y=>by
  rw[hX];exact⟨by ac_rfl,by ac_rfl,by ac_rfl,by ac_rfl⟩⟩
 have HXd:=ah hXd;clear hXd;have HXa:Hid (∀ (Y:SP) W,Sat w0 (X*Y) W->W.cell? ⟨E,0,none⟩=some (.slice LA ea.length lca)/\W.cell? ⟨E+1,0,none⟩=some (.slice LB eb.length lcb)):=ah fun Y W hW=>⟨(hW.of (HXd.o Y).2.2.1).cell 0,(hW.of (HXd.o Y).2.2.2).cell 0⟩
 have HTa:Hid (∀ Y:SP,qd (X*Y) LA ea/\qd (X*Y) LB eb):=ah fun Y=>⟨fun W0 W hW=>nP W0 W (hW.of (HXd.o Y).1),fun W0 W hW=>nP W0 W (hW.of (HXd.o Y).2.1)⟩
 have HCu:Hid (Calls Tryz.prog 38 #[.pointer (some ⟨d,0,none⟩)] W fun e w'=>e = .returned (.tuple #[])/\ke w0 (Ro eA (kp.map Value.bool)*(X*F)) d n t k Ms true w'):=ah (Nl HC1.o);have HOn:Hid (∀ W,ke w0 (Ro eA (kp.map Value.bool)*(X*F)) d n t k Ms true W->Calls Tryz.prog 39 #[.pointer (some ⟨d,0,none⟩),.slice eA kp.length ec,.int .i64 torn,.int .i64 cut] W fun e w'=>e = .returned (.tuple #[])/\Ln w0 (Ro eA (kp.map Value.bool)*(X*F)) d n t k 0 Ms w'):=ah fun W hW=>NL eA ec kp torn cut (by omega) (by omega) hW
 have HOp:Hid (∀ W,Ln w0 (Ro eA (kp.map Value.bool)*(X*F)) d n t k 0 Ms W->Calls Tryz.prog 19 #[.pointer (some ⟨d,0,none⟩)] W fun x w'=> ∃ (b':Nat) (N:List Kv),x = .returned (.tuple #[.pointer (some ⟨b',0,none⟩),.int .i64 0])/\Hid ((N=Ma\/N=Mb)/\aY w0 (X*F) b' d n t (k+1) 0 1 N (fun _=>none) w')):=ah fun W hW=>(LI (by omega) (by omega) hW).mono (by
  rintro x w' ⟨N,hN,b',rfl,hs⟩;exact⟨b',N,rfl,HMs.o N hN,hs.drop⟩)
 clear h3 hX hCS HC1 HR HMs;go_upto_region 2 with (go_at_call 38;(with_reducible refine HCu.o.mono ?_);rintro e w1 ⟨rfl,hs⟩;have HC2:=ah hs;clear hs)
 obtain⟨x5,x6,x7⟩:=HXx.o _ _ HC2.o.sat.right;clear HCu;go_upto_region 3 with (go_at_call 39;(with_reducible refine(HOn.o _ HC2.o).mono ?_);rintro e w2 ⟨rfl,hs⟩;have HF2:=ah hs;clear hs)
 clear x5 x6 x7 HC2 HOn HXx;go_upto_region 6 with (first
  | (go_at_call 19;(with_reducible refine(HOp.o _ HF2.o).mono ?_);rintro e w3 ⟨b',N,rfl,HS3⟩)
  | (go_at_call 29;(with_reducible refine(dr _ _).mono ?_);rintro e wx ⟨rfl,rfl⟩))
 clear HOp HF2;have HN:=ah HS3.o.1;have hs3:=HS3.o.2;have hpr:=hs3.gh;have HNl:Hid (N.length<=1000):=ah (by have:=hpr.2.1;omega);have HSc:Hid (Calls Tryz.prog 24 #[.pointer (some ⟨b',0,none⟩),.slice none 0 0,.slice none 0 0,.int .i64 1073741824] w3 fun x w'=> ∃ (B:Option Addr) (c:Nat) (qs es:List En),x = .returned (.slice B qs.length c)/\Hid (az qs=N/\(∀ q ∈ qs,q ∈ es))/\aY w0 (eV B c qs es*(X*F)) b' d n t (k+1) 0 1 N (fun _=>none) w'):=ah ((Av (none,0,[]) (none,0,[]) 1073741824 N (by rw[wS,List.take_of_length_le];show N.length<=1073741824;have:=HNl.o;omega) (Rd.nil _ _) (Rd.nil _ _) (by omega) hs3).mono (by
  rintro e w' ⟨B,c,qs,es,rfl,h1,h2,_,h3⟩;exact⟨B,c,qs,es,rfl,⟨h1,h2⟩,h3⟩))
 clear HS3 hs3 hpr;go_upto_region 7 with (go_at_call 24;(with_reducible refine HSc.o.mono ?_);rintro e w4 ⟨B,c,qs,es,rfl,HQ,hs⟩;have HS4:=ah hs;clear hs)
 clear HSc;have HPa:Hid (∀ bo W,decide (N=Ma)=bo->aY w0 (eV B c qs es*(X*F)) b' d n t (k+1) 0 1 N (fun _=>none) W->Calls Tryz.prog 23 #[.slice B qs.length c,.slice LA ea.length lca] W fun x w'=>x = .returned (.bool bo)/\aY w0 (eV B c qs es*(X*F)) b' d n t (k+1) 0 1 N (fun _=>none) w'):=ah fun bo W hbo hW=>oY (sG HQ.o.2) ((HTa.o F).1.left) (by rw[HQ.o.1,HA.o];exact hbo) (by have h4:=congrArg List.length HQ.o.1;rw[bB] at h4;have:=HNl.o;omega) hW
 have HPb:Hid (∀ bo W,decide (N=Mb)=bo->aY w0 (eV B c qs es*(X*F)) b' d n t (k+1) 0 1 N (fun _=>none) W->Calls Tryz.prog 23 #[.slice B qs.length c,.slice LB eb.length lcb] W fun x w'=>x = .returned (.bool bo)/\aY w0 (eV B c qs es*(X*F)) b' d n t (k+1) 0 1 N (fun _=>none) w'):=ah fun bo W hbo hW=>oY (sG HQ.o.2) ((HTa.o F).2.left) (by rw[HQ.o.1,HB.o];exact hbo) (by have h4:=congrArg List.length HQ.o.1;rw[bB] at h4;have:=HNl.o;omega) hW
 obtain⟨x0,_⟩:=HXa.o _ _ HS4.o.sat.right;by_cases hna:N=Ma
 .have HP1:Hid (Calls Tryz.prog 23 #[.slice B qs.length c,.slice LA ea.length lca] w4 fun x w'=>x = .returned (.bool true)/\aY w0 (eV B c qs es*(X*F)) b' d n t (k+1) 0 1 N (fun _=>none) w'):=ah (HPa.o true w4 (decide_eq_true hna) HS4.o);have HNx:Hid (N=Ma\/N=Mb):=HN;have HAe:Hid (az ea=N):=ah (HA.o.trans hna.symm);clear HPa HPb HN HA hna HS4;go_upto_region 8 with (go_at_call 23;(with_reducible refine HP1.o.mono ?_);rintro e w5 ⟨rfl,hs⟩;have HS5:=ah hs;clear hs)
  clear x0 HP1;have HS0:=ah (HS5.o.drop.map fun G hG=>hG.drew);clear HS5;refine wp_region_held_drew (S:=fun w'=>w'.cell? ⟨E,0,none⟩=some (.slice LA ea.length lca)) (by kernel_rfl) ((HXa.o _ _ HS0.o.sat).1) ?_;intro hS0;refine an 0 1 2 4 ?_;refine bR 3 fun K hK=>?_
  go_simp;have hs:=HS0.o.al (.cells #[.slice LA ea.length lca,.slice none 0 0,.slice none 0 0] 36);have HS9:=ah hs;clear hs;refine hK.out _ _ ((HXa.o _ _ HS9.o.sat.right).1) (fun hS0=>?_);clear hK K;refine cH 5 ?_;refine wpAnyH_done (by kernel_rfl) ?_ _;go_wp2_with fail;go_ret2;refine⟨b',_,N,rfl,HNx.o,?_⟩;obtain⟨G,hG,hR⟩:=HS9.o.re;refine hR _ _ ?_;have e1:(X*F)*G=eH (.slice LA ea.length lca) ea*((F*G)*Qa):=by rw[aj];exact(HXd.o (F*G)).1
  have e2: ∀ R:SP,R*((F*G)*Qa)=((R*F)*G)*Qa:=fun R=>by ac_rfl
  have h9:=hG.of (aj _ _ _);rw[e1] at h9;have h10:=vO (h9.av.Bi HAe.o).av;exact(h10.of (e2 _)).left
 .have HP1:Hid (Calls Tryz.prog 23 #[.slice B qs.length c,.slice LA ea.length lca] w4 fun x w'=>x = .returned (.bool false)/\aY w0 (eV B c qs es*(X*F)) b' d n t (k+1) 0 1 N (fun _=>none) w'):=ah (HPa.o false w4 (decide_eq_false hna) HS4.o);have hnb:N=Mb:=HN.o.resolve_left hna;have HNx:Hid (N=Ma\/N=Mb):=HN;have HBe:Hid (az eb=N):=ah (HB.o.trans hnb.symm);have HP2:Hid (∀ W,aY w0 (eV B c qs es*(X*F)) b' d n t (k+1) 0 1 N (fun _=>none) W->Calls Tryz.prog 23 #[.slice B qs.length c,.slice LB eb.length lcb] W fun x w'=>x = .returned (.bool true)/\aY w0 (eV B c qs es*(X*F)) b' d n t (k+1) 0 1 N (fun _=>none) w'):=ah fun W hW=>HPb.o true W (decide_eq_true hnb) hW
  have HXb:Hid (∀ (Y:SP) W,Sat w0 (X*Y) W->W.cell? ⟨E+1,0,none⟩=some (.slice LB eb.length lcb)):=ah fun Y W hW=>(HXa.o Y W hW).2
  clear HPa HPb HN HB hna hnb HS4;go_upto_region 9 with (go_at_call 23;(with_reducible refine HP1.o.mono ?_);rintro e w5 ⟨rfl,hs⟩;have HS5:=ah hs;clear hs)
  have x1:=HXb.o _ _ HS5.o.sat.right;have HP3:=ah (HP2.o _ HS5.o);clear x0 HP1 HP2 HS5;go_upto_region 10 with (go_at_call 23;(with_reducible refine HP3.o.mono ?_);rintro e w6 ⟨rfl,hs⟩;have HS6:=ah hs;clear hs)
  clear x1 HP3;have HS0:=ah (HS6.o.drop.map fun G hG=>hG.drew);clear HS6;refine wp_region_held_drew (S:=fun w'=>w'.cell? ⟨E+1,0,none⟩=some (.slice LB eb.length lcb)) (by kernel_rfl) ((HXa.o _ _ HS0.o.sat).2) ?_;intro hS0;refine an 0 1 2 4 ?_;refine bR 3 fun K hK=>?_
  go_simp;have hs:=HS0.o.al (.cells #[.slice LB eb.length lcb,.slice none 0 0,.slice none 0 0] 36);have HS9:=ah hs;clear hs;refine hK.out _ _ ((HXa.o _ _ HS9.o.sat.right).2) (fun hS0=>?_);clear hK K;refine cH 5 ?_;refine wpAnyH_done (by kernel_rfl) ?_ _;go_wp2_with fail;go_ret2;refine⟨b',_,N,rfl,HNx.o,?_⟩;obtain⟨G,hG,hR⟩:=HS9.o.re;refine hR _ _ ?_;have e1:(X*F)*G=eH (.slice LB eb.length lcb) eb*((F*G)*Qb):=by rw[aj];exact(HXd.o (F*G)).2.1
  have e2: ∀ R:SP,R*((F*G)*Qb)=((R*F)*G)*Qb:=fun R=>by ac_rfl
  have h9:=hG.of (aj _ _ _);rw[e1] at h9;have h10:=vO (h9.av.Bi HBe.o).av;exact(h10.of (e2 _)).left
end
section
variable {w0 w w':World} {F:SP} {d n t k kb m t' k' m' q':Nat} {M Mo:List Kv} {Ms:List (List Kv)} {off:Bool} {va vb:Value}
theorem kC (x:nB) (hk:k<=9000) (ht:t<=1000) (hr:aH w0 x.kA (x.keep.map Value.bool)) (hkl:x.keep.length<=140737488351232) (hMs: ∀ N ∈ Ms,N=M\/N=Mo) (hM:lL M) (hMo:lL Mo) (ht':t<=t') (hk':k+1<=k') (hm:m<=m') (h:ke w0 (bQ va M*(bQ vb Mo*(bj kb m*F))) d n t k Ms off w):
 Calls Tryz.prog 50 #[.pointer (some ⟨d,0,none⟩),.agg #[va],.agg #[vb],.agg (Bg x)] w fun e w'=> ∃ b' g',e = .returned (.tuple #[.pointer (some ⟨b',0,none⟩),.pointer (some ⟨g',0,none⟩)])/\Hid (∃ N,lL N/\iJ w0 F b' d n t' k' 0 g' kb m' q' N w'):=by
 refine(zZ x hk ht hr hkl hMs h).mono ?_;rintro e w' ⟨b',g',N,rfl,h1⟩;refine⟨b',g',rfl,N,?_,?_⟩
 .rcases h1.o.1 with rfl | rfl
  .exact hM
  .exact hMo
 .have h2:iJ w0 F b' d n t (k+1) 0 g' kb m 0 N w':=⟨[],[],Nat.le_refl _,(fun N hN=>by cases hN),by rw[ru];exact h1.o.2⟩;exact h2.mono ht' hk' hm (Nat.zero_le _)
end
end Go.Proofs.YtmbaiglpgaoogaaGreat
