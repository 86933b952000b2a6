/- Joined, as they were built one by one: Sto19 Sto22 Sto20 Sto23. -/
import Derived.Test.YtmbaiglpgaoogaaGreatW02
import Derived.Test.YtmbaiglpgaoogaaGreatW19
import Derived.Test.YtmbaiglpgaoogaaGreatW25
import Derived.Test.YtmbaiglpgaoogaaGreatW30
import Derived.Test.YtmbaiglpgaoogaaGreatW31
set_option maxHeartbeats 16000000
set_option linter.unusedVariables false
set_option maxRecDepth 100000
namespace Go.Proofs.YtmbaiglpgaoogaaGreat
open Go.RowKit Z
section
variable {w0 w:World} {F:SP}
theorem AE {b d s:Nat} {v:Sd} {tb hr mb:Nat} {ns:List Nd} {X Y R F:SP} (ht:dS ns v.L.length) (he:cn ns=v.L) (h:Sat w0 (X*(Y*(Pt b 113 (ef d s v.log tb v.seq mb v.next false)*(R*(bE tb hr ns*(bT Tryz.prog 3 mb v.bP (iH v.snaps)*F)))))) w):
 Sat w0 (dG b d s v*(X*(Y*(R*F)))) w:=by
 refine Sat.zX (v:=v) (tb:=tb) (hr:=hr) (mb:=mb) (ns:=ns) ht he ?_;rw[eM];exact h.of (by ac_rfl)
theorem Sat.Bi {d s n k slot turn lim i safe:Nat} {D:Dk} {lo:Bool} {fa fb:Nat × Nat} {LF:List (List UInt8)} {sf:Nat->Nat} {E:List aq} {bs:List (List cE)} {G:SP} {W:World} (h:Sat w0 (ag s d (bU slot turn n i lo fa fb (aj (ae E)) LF none)*(af d D*G)) W)
 (hd:iI n D slot turn lo fa fb LF none sf lim i E bs safe) (hc:dq D k) (hk:k<=1000000000):
 Hid (Calls Tryz.prog 56 #[.pointer (some ⟨s,0,none⟩)] W fun e w'=>e = .returned (.int .i64 0)/\Sat w0 (ag s d (bU slot turn n i lo fa fb (aj (ae E)) LF none)*(af d D.flush.1*G)) w'):=by
 have h9:=uI h (by have:=hc.pend;omega);rw[hd.sync.1] at h9;exact h9
theorem Ab {b d s t k lg lx sq bP nx:Nat} {L:List aq} {sn:Int->Option Nat} {M:List Kv} {P R H:SP} {A:Option Addr} {c:Nat} {ps:List Pu} {cs:List cE} (hsh: ∀ (S':aK) (D':Dk) W,Sat w0 (ag s d S'*(af d D'*(P*H))) W->Sat w0 (dG b d s ⟨lg,L,sq,sn,bP,nx⟩*(ag s d S'*(af d D'*(R*F)))) W) (hl:lg=lx)
 (hb: ∀ W,Sat w0 F W->aF W A (ps.flatMap fI)/\gZ W ps) (hok: ∀ p ∈ ps,iq p.bq) (hm:cG L sq M t) (hf:sq<=k/\bP<=k/\nx<=k+1) (ht:t+ps.length<=1024) (hk:k<=10000) (hcs:cs=ps.map Pu.bq) (S':aK) (D':Dk):
 Hid (∀ W,Sat w0 (ag s d S'*(af d D'*(P*H))) W->Calls Tryz.prog 65 #[.pointer (some ⟨b,0,none⟩),.slice A ps.length c] W fun x w'=>x = .returned (.tuple #[])/\ ∃ qs,sE sn bP qs/\Sat w0 (dG b d s ⟨lx,dY qs (fP sq cs L),sq+1,sn,bP,nx⟩*(ag s d S'*(af d D'*F))) w'):=fun W hW=>by
 subst hl;have h9:=sL b d s ⟨lg,L,sq,sn,bP,nx⟩ A c ps (hsh S' D' W hW) (fun W' hW'=>hb W' hW'.right.right.right) hok (by omega) (by have:=hm.len;show L.length<=_;omega) (fun x hx=>⟨((hm.each x hx).seq).1,hm.top x hx⟩) (by show sq+1<=_;omega) (by show bP<=_;omega);refine h9.mono fun x w' h=>?_
 obtain⟨h1,qs,h2,h3⟩:=h;refine⟨h1,qs,h2,?_⟩;rw[hcs];exact h3.bL.right
def I4 (w0:World) (F:SP) (b d s:Nat) (v:Sd) (n t k:Nat) (D:Dk) (S:aK) (M:List Kv) (olds:Int->Option (List Kv)) (cs:List cE) (x:Ending) (w':World):Prop:=
 (dt cs≠0/\x = .returned (.int .i64 (dt cs:Nat))/\Sat w0 (dG b d s v*(ag s d S*(af d D*F))) w')\/
 (dt cs=0/\ev n (aZ cs M) cs=true/\x = .returned (.int .i64 103)/\Sat w0 (dG b d s v*(ag s d S*(af d D*F))) w')\/
 (dt cs=0/\ev n (aZ cs M) cs=false/\x = .returned (.int .i64 0)/\ ∃ S' D' v',Bq n (t+cs.length) (k+1) D' S' v' (aZ cs M) olds/\D'.armed<=D.armed/\D'.cells.length=n/\v'.snaps=v.snaps/\v'.next=v.next/\Sat w0 (dG b d s v'*(ag s d S'*(af d D'*F))) w')\/
 (dt cs=0/\ev n (aZ cs M) cs=false/\x = .returned (.int .i64 21)/\D.armed≠0/\ ∃ D',D'.off=true/\D'.cells.length=n/\wO n (t+cs.length) (k+1) D' [M,aZ cs M]/\Sat w0 (af d D'*F) w')
theorem wP (b d s:Nat) (v:Sd) (n t k:Nat) (D:Dk) (S:aK) (M:List Kv) (olds:Int->Option (List Kv)) (A:Option Addr) (c:Nat) (ps:List Pu)
 (hst:Bq n t k D S v M olds) (hk:k<=10000) (ht:t+ps.length<=1024) (ha:D.armed<=9223372036854775807) (h:Sat w0 (dG b d s v*(ag s d S*(af d D*F))) w)
 (hb: ∀ W,Sat w0 F W->aF W A (ps.flatMap fI)/\gZ W ps) (hz: ∀ p ∈ ps,p.key.2.2.length<=1000000000/\p.value.2.2.length<=1000000000):
 Calls Tryz.prog 20 #[.pointer (some ⟨b,0,none⟩),.slice A ps.length c] w (I4 w0 F b d s v n t k D S M olds (ps.map Pu.bq)):=by
 obtain⟨cs,hcs⟩: ∃ cs,cs=ps.map Pu.bq:=⟨_,rfl⟩;have hcl:cs.length=ps.length:=by rw[hcs,List.length_map]
 have hchk:=fun W (k:ao No w W)=>Cr A c ps W ((hb w h.right.right.right).1.new k) (by omega) hz
 rw[<-hcs] at hchk;have HStI:=ah hst;have HT:=ah ht;have HCl:=ah hcl;have HK:=ah hk;have HAr:=ah ha;have HB:Hid (∀ W,Sat w0 F W->aF W A (ps.flatMap fI)/\gZ W ps):=hb;have HS:=ah h;have HCs:=ah hcs;have c7:w.cell? ⟨b,7,none⟩=some (.bool false):=by
  obtain⟨tb,hr,mb,ns,_,hs0⟩:=h.db;exact(hs0.of (eM ..)).cell 7
 rw[<-hcs];have HC7:=ah c7;clear hst hk ht ha hz hb h hcs hcl c7;by_cases hq:dt cs≠0
 .obtain⟨z,hz⟩: ∃ z,z=dt cs:=⟨_,rfl⟩;have hz0:((z:Int) !=0)=true:=by rw[bne_iff_ne];omega
  rw[<-hz] at hchk;have HChk:=ah hchk;have HZ:=ah hz;have HQ:=ah hq;clear hchk hz hq;go_enter Tryz.func20, Tryz.ntmps20;go_wp2_with (go_at_call 68;(with_reducible refine(HChk.o _ (ao.refl No _)).mono ?_);rintro e w1 ⟨rfl,k1⟩;have HS1:=ah (HS.o.new k1);clear k1);go_ret;refine .inl ⟨HQ.o,by rw[<-HZ.o];rfl,HS1.o⟩
 have hq0:dt cs=0:=Classical.not_not.1 hq;have hbat:nO cs:=xD.1 hq0;have hokp: ∀ p ∈ ps,iq p.bq:=fun p hp=>hbat.each _ (by rw[HCs.o];exact List.mem_map_of_mem hp)
 have hmem:=HStI.o.mem;have hmsz:=rW hmem;obtain⟨sf,lim,i,E,bs,⟨slot,turn,lo,fa,fb,LF,y,e1,e2,hd⟩,hlog,hcon,hmap,hlim,hi⟩:=HStI.o.F7;have hy:y=none:=by cases y with | none=>rfl | some z=>cases e2
 subst hy;have hfull: ∀ W,Sat w0 (dG b d s v*(af d D*(ag s d S*F))) W->Calls Tryz.prog 69 #[.pointer (some ⟨b,0,none⟩),.slice A ps.length c] W fun x w'=>x = .returned (.bool (ev n (aZ cs M) cs))/\Sat w0 (dG b d s v*(ag s d S*(af d D*F))) w':=fun W hW=>by
  have h9:=GM n b d s v A c ps D M hW ⟨hd.big,hd.aG⟩ hd.len (fun W' hW'=>HB.o W' hW'.right) hokp (by have:=HT.o;omega) (by have:=hmem.len;have:=HT.o;omega) hmem.view hmem.gW hmsz;rw[<-HCs.o] at h9;exact h9.mono fun x w' ⟨h1,h2⟩=>⟨h1,h2.of (by ac_rfl)⟩
 rw[hq0] at hchk;have HChk:=ah hchk;have HQ:=ah hq0;have HMem:=ah hmem;clear hchk hq hmsz;by_cases hfu:ev n (aZ cs M) cs=true
 .rw[hfu] at hfull;have HFull:=ah hfull;have HFu:=ah hfu;clear hfull hfu hbat hokp hmem e1 e2 hd hlog hcon hmap hlim hi hq0;go_enter Tryz.func20, Tryz.ntmps20;go_wp2_with (first
   | (go_at_call 68;(with_reducible refine(HChk.o _ (ao.refl No _)).mono ?_);rintro e w1 ⟨rfl,k1⟩;have HS1:=ah ((HS.o.new k1).of (show _=dG b d s v*(af d D*(ag s d S*F)) by ac_rfl));have c7:=k1.cell HC7.o id;clear k1)
   | (go_at_call 69;(with_reducible refine(HFull.o _ HS1.o).mono ?_);rintro e w2 ⟨rfl,hs2⟩;have HS2:=ah hs2;clear hs2))
  go_ret;refine .inr (.inl ⟨HQ.o,HFu.o,rfl,HS2.o⟩)
 have hfu0:ev n (aZ cs M) cs=false:=by simpa using hfu
 rw[hfu0] at hfull;have hsz:cI (aZ cs M)+400<=aC n*480/\bh (aE cs).length<=bj n:=by
  unfold ev at hfu0;rw[Bool.or_eq_false_iff,decide_eq_false_iff_not,decide_eq_false_iff_not] at hfu0;omega
 have hpo:Fg n t k v M olds cs:=⟨hmem,HStI.o.snaps,HStI.o.bP,by have:=HK.o;omega,hbat,hsz.1,hsz.2⟩;subst e1;obtain⟨lg,L,sq,sn,bP,nx⟩:=v;dsimp only at hlog hcon;have hszM:cI M+400<=aC n*480:=by have:=hcon.siz;rw[hmap] at this;exact this
 have hlai: ∀ W (G:SP),Sat w0 (G*F) W->Calls Tryz.prog 71 #[.slice A ps.length c] W fun x w'=> ∃ B bc,x = .returned (.slice B (aE cs).length bc)/\(aE cs).length<=bc/\bc<=maxLen/\Sat w0 (Row 5 1 (.slice B (aE cs).length bc) (aE cs).length ((aE cs).map bv)*(G*F)) w':=fun W G hW=>by
  have h9:=vS A c ps W (HB.o W hW.right).1 (HB.o W hW.right).2 (fun p hp=>⟨(hokp p hp).key.2,(hokp p hp).val⟩) (by have:=HT.o;omega);rw[<-HCs.o] at h9;refine h9.mono ?_;rintro x w' ⟨B,bc,rfl,hs'⟩;have h8:=(hW.join hs' (ba (bH _ _ _ _ _) df)).of (show _=Row 5 1 (.slice B (aE cs).length bc) (aE cs).length ((aE cs).map bv)*(G*F) by rw[cD _ bF,bf]);obtain⟨A',c',hsl,hc1,hc2⟩:=h8.bm;injection hsl with e1 e2 e3
  subst e3;exact⟨B,bc,rfl,hc1,hc2,h8⟩
 obtain⟨bl,hbl⟩: ∃ bl,bl=(aE cs).length:=⟨_,rfl⟩;rw[<-hbl] at hlai;have hbl2:bl<=262144:=by rw[hbl];exact tE hbat
 have hoff: ∀ W (G:SP),Sat w0 (af d D*G) W->Calls Tryz.prog 40 #[.pointer (some ⟨d,0,none⟩)] W fun e w'=>e = .returned (.bool false)/\W=w':=fun W G hW=>by
  have h9:=Ao d D w0 W G hW;rw[hd.good.fils.off] at h9;exact h9
 have HOff:=ah hoff;have HBl:=ah hbl;have HLai:=ah hlai;have HFull:=ah hfull;have HFu:=ah hfu0;have HPo:=ah hpo;have HDs:=ah hd;have HLog:=ah hlog;have HCon:=ah hcon;have HMap:=ah hmap;have HLim:=ah hlim;have HI:=ah hi;have HSzM:=ah hszM;have HOkp:=ah hokp;have HBat:=ah hbat;clear hoff hlai hfull hfu0 hfu hpo hd hlog hcon hmap hlim hi hszM hsz hbl hmem hbat hokp hq0 e2;go_enter Tryz.func20, Tryz.ntmps20;go_upto_region 6 with (go_at_call 68;(with_reducible refine(HChk.o _ (ao.refl No _)).mono ?_);rintro e w1 ⟨rfl,k1⟩;have HS1:=ah ((HS.o.new k1).of (show _=dG b d s ⟨lg,L,sq,sn,bP,nx⟩*(af d D*(ag s d (bU slot turn n i lo fa fb (aj (ae E)) LF none)*F)) by ac_rfl));have c7:=k1.cell HC7.o id;clear k1)
 go_upto_region 11 with (first
  | (go_at_call 69;(with_reducible refine(HFull.o _ HS1.o).mono ?_);rintro e w2 ⟨rfl,hs2⟩;obtain⟨tb,hr,mb,ns,hti,hs3⟩:=hs2.db;have HTi:Hid (dS ns L.length/\cn ns=L):=hti;have HS3:Hid (Sat w0 (Pt b 113 (ef d s lg tb sq mb nx false)*(bE tb hr ns*(bT Tryz.prog 3 mb bP (iH sn)*(ag s d (bU slot turn n i lo fa fb (aj (ae E)) LF none)*(af d D*F))))) w2):=hs3.of (eM ..);have c0:w2.cell? ⟨b,0,none⟩=some (.pointer (some ⟨d,0,none⟩)):=HS3.o.cell 0;clear hs2 hti hs3)
  | (go_at_call 40;(with_reducible refine(HOff.o _ _ HS3.o.fN).mono ?_);rintro e w3 ⟨rfl,rfl⟩)
  | (go_at_call 71;(with_reducible refine(HLai.o _ (Pt b 113 (ef d s lg tb sq mb nx false)*(bE tb hr ns*(bT Tryz.prog 3 mb bP (iH sn)*(ag s d (bU slot turn n i lo fa fb (aj (ae E)) LF none)*af d D)))) (HS3.o.of (by ac_rfl))).mono ?_);rintro e w5 ⟨B,bc,rfl,hb1,hb2,hs5⟩;have HS5:Hid (Sat w0 (Pt b 113 (ef d s lg tb sq mb nx false)*(ag s d (bU slot turn n i lo fa fb (aj (ae E)) LF none)*(af d D*(Row 5 1 (.slice B bl bc) bl ((aE cs).map bv)*(bE tb hr ns*(bT Tryz.prog 3 mb bP (iH sn)*F)))))) w5):=hs5.of (by ac_rfl);have HB1:=ah hb1;have HB2:=ah hb2;clear hs5 hb1 hb2))
 clear HS1 HS3 HFull HLai HOff HChk HC7 c7 c0 HS;obtain⟨H,hH⟩: ∃ H,H=Row 5 1 (.slice B bl bc) bl ((aE cs).map bv)*(bE tb hr ns*(bT Tryz.prog 3 mb bP (iH sn)*F)):=⟨_,rfl⟩;rw[<-hH] at HS5;have hrb: ∀ W,Sat w0 H W->Rd W B (aE cs):=fun W hW=>by rw[hH] at hW;exact hW.cj
 have HHe:=ah hH;have HRb:=ah hrb;have hshut: ∀ (lgx:Nat) (S':aK) (D':Dk) W,Sat w0 (ag s d S'*(af d D'*(Pt b 113 (ef d s (lgx:Nat) tb sq mb nx false)*H))) W->Sat w0 (dG b d s ⟨lgx,L,sq,sn,bP,nx⟩*(ag s d S'*(af d D'*(Row 5 1 (.slice B bl bc) bl ((aE cs).map bv)*F)))) W:=fun lgx S' D' W hW=>by
  rw[hH] at hW;exact AE (v:=⟨lgx,L,sq,sn,bP,nx⟩) HTi.o.1 HTi.o.2 hW
 have HShut:=ah hshut;clear hH hrb hshut;have hw1:=HStI.o.cnt;have hap: ∀ W,Sat w0 (Pt b 113 (ef d s lg tb sq mb nx false)*(ag s d (bU slot turn n i lo fa fb (aj (ae E)) LF none)*(af d D*H))) W->Calls Tryz.prog 72 #[.pointer (some ⟨s,0,none⟩),.int .i64 (lg:Int),.slice B bl bc] W fun e w'=>e = .returned (.int .i64 (((bU slot turn n i lo fa fb (aj (ae E)) LF none)).gz ((i:Int)+1) (aE cs) D).2.2)/\Sat w0 (ag s d (((bU slot turn n i lo fa fb (aj (ae E)) LF none)).gz ((i:Int)+1) (aE cs) D).1*(af d (((bU slot turn n i lo fa fb (aj (ae E)) LF none)).gz ((i:Int)+1) (aE cs) D).2.1*(Pt b 113 (ef d s lg tb sq mb nx false)*H))) w':=fun W hW=>by
  have h9:=Af (w0:=w0) (w:=W) (F:=Pt b 113 (ef d s lg tb sq mb nx false)*H) ((i:Int)+1) B bc (b:=aE cs) HDs.o.good hw1 (by have:=HK.o;omega) HAr.o (hW.of (by ac_rfl)) (fun W' hW'=>HRb.o W' hW'.right) (by rw[<-HBl.o];exact HB1.o) (by have:=HB2.o;unfold maxLen at this;omega);rw[<-HBl.o] at h9;rw[show (lg:Int)=(i:Int)+1 by have:=HLog.o;omega];rw[show (lg:Int)=(i:Int)+1 by have:=HLog.o;omega] at h9;exact h9
 have hpr:=HDs.o.put (cs:=cs) (by have:=HLim.o;have:=HK.o;omega) HBat.o;have C1:Hid (w5.cell? ⟨b,1,none⟩=some (.pointer (some ⟨s,0,none⟩))):=HS5.o.cell 1;have C2:Hid (w5.cell? ⟨b,2,none⟩=some (.int .i64 (lg:Int))):=HS5.o.cell 2
 cases hpr with
 | ok D1 e1 h1 cn1 ar1=>
  rw[e1] at hap;dsimp only at hap;have HAp:=ah hap;have HD1:=ah h1;have HCn1:=ah ((cn1 _ hw1).mono (show 20000*k+100+548<=20000*(k+1)+100 by omega));have HAr1:=ah ar1;clear hap h1 cn1 ar1 hw1;refine wp_region_held_drew (S:=fun w'=>w'.cell? ⟨b,1,none⟩=some (.pointer (some ⟨s,0,none⟩))/\w'.cell? ⟨b,2,none⟩=some (.int .i64 (lg:Int))) (by kernel_rfl) ⟨(by exact C1.o),(by exact C2.o)⟩ ?_;intro hS0;refine an 0 1 2 3 ?_;refine an 4 5 6 7 ?_;refine ca 8 ?_;refine bC 9 fun K hK=>?_
  go_simp;go_at_call 72;(with_reducible refine(HAp.o _ (HS5.o.new (ao.refl No _).drew)).mono ?_);rintro e w6 ⟨rfl,hs6⟩;have HS6:=ah hs6;clear hs6
  refine hK.out _ _ ⟨HS6.o.bp.cell 1,HS6.o.bp.cell 2⟩ (fun hS0=>?_);clear hK K;refine ca 10 ?_;refine wpAnyH_done (by kernel_rfl) ?_ _;have c1:w6.cell? ⟨b,1,none⟩=some (.pointer (some ⟨s,0,none⟩)):=HS6.o.bp.cell 1;have HSy:=HS6.o.Bi HD1.o HCn1.o (by have:=HK.o;omega);have HDn:=Ab (HShut.o lg) HLog.o HB.o HOkp.o HMem.o HStI.o.bP (by have:=HT.o;omega) (by have:=HK.o;omega) HCs.o (bU slot turn n i lo fa fb (aj (ae E)) (LF++split (aE cs)) none) D1.flush.1 (A:=A) (c:=c);go_wp2_with (first
   | (go_at_call 56;(with_reducible refine HSy.o.mono ?_);rintro e w7 ⟨rfl,hs7⟩;have HS7:=ah hs7;clear hs7)
   | (go_at_call 65;(with_reducible refine(HDn.o _ HS7.o).mono ?_);rintro e w8 ⟨rfl,hs8⟩;have HS8:=ah hs8;clear hs8))
  go_ret;obtain⟨qs,hqs,hs9⟩:=HS8.o;refine .inr (.inr (.inl ⟨HQ.o,HFu.o,rfl,_,_,_,AD HPo.o HD1.o HCon.o HMap.o (by have:=HLim.o;omega) (by have:=HI.o;omega) HCn1.o hqs,by rw[eu HD1.o.good.fils.off];exact HAr1.o,HD1.o.sync.2.len,rfl,rfl,hs9⟩))
 | off ha1 S1 D1 e1 o1 h1 cn1 l1=>
  rw[e1] at hap;dsimp only at hap;have HAp:=ah hap;have HCr:=ah h1;have HCn1:=ah ((cn1 _ hw1).mono (show 20000*k+100+548<=20000*(k+1)+100 by omega));have HAr1:=ah ha1;clear hap h1 cn1 ha1 hw1;refine wp_region_held_drew (S:=fun w'=>w'.cell? ⟨b,1,none⟩=some (.pointer (some ⟨s,0,none⟩))/\w'.cell? ⟨b,2,none⟩=some (.int .i64 (lg:Int))) (by kernel_rfl) ⟨(by exact C1.o),(by exact C2.o)⟩ ?_;intro hS0;refine an 0 1 2 3 ?_;refine an 4 5 6 7 ?_;refine ca 8 ?_;refine bC 9 fun K hK=>?_
  go_simp;go_at_call 72;(with_reducible refine(HAp.o _ (HS5.o.new (ao.refl No _).drew)).mono ?_);rintro e w6 ⟨rfl,hs6⟩;have HS6:=ah hs6;clear hs6
  refine hK.out _ _ ⟨HS6.o.bp.cell 1,HS6.o.bp.cell 2⟩ (fun hS0=>?_);clear hK K;refine ca 10 ?_;refine wpAnyH_done (by kernel_rfl) ?_ _;have HOf:Hid (Calls Tryz.prog 70 #[.pointer (some ⟨b,0,none⟩)] w6 fun x w'=>x = .returned (.int .i64 21)/\Sat w0 (af d D1*F) w'):=(tV b d s ⟨lg,L,sq,sn,bP,nx⟩ (HShut.o lg S1 D1 w6 HS6.o)).mono fun x w' ⟨h1,h2⟩=>⟨h1,h2.right.bo⟩
  go_wp2_with (go_at_call 70;(with_reducible refine HOf.o.mono ?_);rintro e w7 ⟨rfl,hs7⟩;have HS7:=ah hs7;clear hs7);go_ret;refine .inr (.inr (.inr ⟨HQ.o,HFu.o,rfl,HAr1.o,D1,o1,l1,AU HPo.o HCr.o HCon.o HMap.o HSzM.o (by have:=HLim.o;omega) (by have:=HI.o;omega) HCn1.o,HS7.o⟩))
 | no hro e1=>
  rw[e1] at hap;dsimp only at hap;have HAp:=ah hap;have HCn0:=ah hw1;clear hap hw1;refine wp_region_held_drew (S:=fun w'=>w'.cell? ⟨b,1,none⟩=some (.pointer (some ⟨s,0,none⟩))/\w'.cell? ⟨b,2,none⟩=some (.int .i64 (lg:Int))) (by kernel_rfl) ⟨(by exact C1.o),(by exact C2.o)⟩ ?_;intro hS0;refine an 0 1 2 3 ?_;refine an 4 5 6 7 ?_;refine ca 8 ?_;refine bC 9 fun K hK=>?_
  go_simp;go_at_call 72;(with_reducible refine(HAp.o _ (HS5.o.new (ao.refl No _).drew)).mono ?_);rintro e w6 ⟨rfl,hs6⟩;have HS6:=ah hs6;clear hs6
  refine hK.out _ _ ⟨HS6.o.bp.cell 1,HS6.o.bp.cell 2⟩ (fun hS0=>?_);clear hK K;refine ca 10 ?_;refine wpAnyH_done (by kernel_rfl) ?_ _;have HSw:Hid (Calls Tryz.prog 73 #[.pointer (some ⟨b,0,none⟩)] w6 fun e w'=> ∃ r:Int,e = .returned (.int .i64 r)/\Hid (zP w0 (Row 5 1 (.slice B bl bc) bl ((aE cs).map bv)*F) b d s ⟨lg,L,sq,sn,bP,nx⟩ n D lim i E bs (.returned (.int .i64 r)) w')):=by
   refine(AS b d s ⟨lg,L,sq,sn,bP,nx⟩ n slot turn D lo fa fb LF sf lim i E bs M t (20000*k+100) HDs.o HMem.o (by have:=HT.o;omega) HLog.o HSzM.o (by have:=HLim.o;have:=HK.o;omega) (by have:=HI.o;have:=HK.o;omega) HCn0.o (by have:=HK.o;omega) HAr.o (HShut.o lg _ _ _ HS6.o)).mono ?_;intro e w' hh;rcases hh with ⟨sl,tu,lo',a',b',D',sf',he,hrest⟩ | ⟨S',D',he,hrest⟩
   .exact⟨0,he,.inl ⟨sl,tu,lo',a',b',D',sf',rfl,hrest⟩⟩
   .exact⟨21,he,.inr ⟨S',D',rfl,hrest⟩⟩
  go_upto_region 14 with (go_at_call 73;(with_reducible refine HSw.o.mono ?_);rintro e w7 ⟨r,rfl,hsw⟩)
  clear HSw HS6 HAp;rcases hsw.o with ⟨sl,tu,lo2,a2,b2,D2,sf2,hr0,hd2,hc2,ha2,hs2⟩ | ⟨S2,D2,hr0,ha2,ho2,hcr2,hc2,hl2,hs2⟩
  .injection hr0 with hr0
   injection hr0 with _ hr0
   subst hr0;obtain⟨l2,hl2⟩: ∃ l2,l2=lg+2:=⟨_,rfl⟩;obtain⟨tb2,hr2,mb2,ns2,hti2,hs3⟩:=hs2.db;have hti3:dS ns2 L.length/\cn ns2=L:=hti2;have hs4:=hs3.of (eM ..);dsimp only at hs4;rw[<-hl2] at hs4;obtain⟨H2,hH2⟩: ∃ H2,H2=Row 5 1 (.slice B bl bc) bl ((aE cs).map bv)*(bE tb2 hr2 ns2*(bT Tryz.prog 3 mb2 bP (iH sn)*F)):=⟨_,rfl⟩;have HS8:Hid (Sat w0 (Pt b 113 (ef d s l2 tb2 sq mb2 nx false)*(ag s d (bU sl tu n (i+2) lo2 a2 b2 (aj (ae (cR L))) [] none)*(af d D2*H2))) w7):=hs4.of (by rw[hH2];ac_rfl);have HRb2:Hid (∀ W,Sat w0 H2 W->Rd W B (aE cs)):=fun W hW=>by rw[hH2] at hW;exact hW.cj
   have HShut2:Hid (∀ (S':aK) (D':Dk) W,Sat w0 (ag s d S'*(af d D'*(Pt b 113 (ef d s l2 tb2 sq mb2 nx false)*H2))) W->Sat w0 (dG b d s ⟨l2,L,sq,sn,bP,nx⟩*(ag s d S'*(af d D'*(Row 5 1 (.slice B bl bc) bl ((aE cs).map bv)*F)))) W):=fun S' D' W hW=>by
    rw[hH2] at hW;exact AE (v:=⟨l2,L,sq,sn,bP,nx⟩) hti3.1 hti3.2 hW
   have hcn2:=(hc2 _ HCn0.o);have hl3:(l2:Int)=((i+2:Nat):Int)+1:=by have:=HLog.o;omega
   have HL3:Hid (l2=i+2+1):=by have:=HLog.o;unfold Hid;omega
   have HS9:=HS8.o;have hap: ∀ W,Sat w0 (Pt b 113 (ef d s l2 tb2 sq mb2 nx false)*(ag s d (bU sl tu n (i+2) lo2 a2 b2 (aj (ae (cR L))) [] none)*(af d D2*H2))) W->Calls Tryz.prog 72 #[.pointer (some ⟨s,0,none⟩),.int .i64 (l2:Int),.slice B bl bc] W fun e w'=>e = .returned (.int .i64 (((bU sl tu n (i+2) lo2 a2 b2 (aj (ae (cR L))) [] none)).gz (((i+2:Nat):Int)+1) (aE cs) D2).2.2)/\Sat w0 (ag s d (((bU sl tu n (i+2) lo2 a2 b2 (aj (ae (cR L))) [] none)).gz (((i+2:Nat):Int)+1) (aE cs) D2).1*(af d (((bU sl tu n (i+2) lo2 a2 b2 (aj (ae (cR L))) [] none)).gz (((i+2:Nat):Int)+1) (aE cs) D2).2.1*(Pt b 113 (ef d s l2 tb2 sq mb2 nx false)*H2))) w':=fun W hW=>by
    have h9:=Af (w0:=w0) (w:=W) (F:=Pt b 113 (ef d s l2 tb2 sq mb2 nx false)*H2) (((i+2:Nat):Int)+1) B bc (b:=aE cs) hd2.good hcn2 (by have:=HK.o;omega) (Nat.le_trans ha2 HAr.o) (hW.of (by ac_rfl)) (fun W' hW'=>HRb2.o W' hW'.right) (by rw[<-HBl.o];exact HB1.o) (by have:=HB2.o;unfold maxLen at this;omega);rw[<-HBl.o] at h9;rw[hl3];rw[hl3] at h9;exact h9
   have hpr:=hd2.put (cs:=cs) (by have:=HLim.o;have:=HK.o;omega) HBat.o;have C1b:Hid (w7.cell? ⟨b,1,none⟩=some (.pointer (some ⟨s,0,none⟩))):=HS8.o.cell 1;have C2b:Hid (w7.cell? ⟨b,2,none⟩=some (.int .i64 (l2:Int))):=HS8.o.cell 2
   cases hpr with
   | no hro e2=>have:=HPo.o.log;simp only[List.length_nil] at hro;omega
   | ok D3 e3 h3 cn3 ar3=>
    rw[e3] at hap;dsimp only at hap;have HAp:=ah hap;have HD3:=ah h3;have HCn3:=ah ((cn3 _ hcn2).mono (show 20000*k+100+9000+548<=20000*(k+1)+100 by omega));have HAr3:Hid (D3.armed<=D.armed):=Nat.le_trans ar3 ha2;clear hap h3 cn3 ar3 hd2 hc2 ha2 hs2 hs3 hs4 hti2 hti3 hsw hl2 hl3 hH2 hcn2 HS9;go_upto_region 15 with fail;refine wp_region_held_drew (S:=fun w'=>w'.cell? ⟨b,1,none⟩=some (.pointer (some ⟨s,0,none⟩))/\w'.cell? ⟨b,2,none⟩=some (.int .i64 (l2:Int))) (by kernel_rfl) ⟨(by exact C1b.o),(by exact C2b.o)⟩ ?_;intro hS0;refine an 0 1 2 3 ?_;refine an 4 5 6 7 ?_;refine ca 8 ?_;refine bC 9 fun K hK=>?_
    go_simp;go_at_call 72;(with_reducible refine(HAp.o _ (HS8.o.new (ao.refl No _).drew)).mono ?_);rintro e w8 ⟨rfl,hs8⟩;have HS10:=ah hs8;clear hs8
    refine hK.out _ _ ⟨HS10.o.bp.cell 1,HS10.o.bp.cell 2⟩ (fun hS0=>?_);clear hK K;refine ca 10 ?_;refine wpAnyH_done (by kernel_rfl) ?_ _;have c1:w8.cell? ⟨b,1,none⟩=some (.pointer (some ⟨s,0,none⟩)):=HS10.o.bp.cell 1;have HSy:=HS10.o.Bi HD3.o HCn3.o (by have:=HK.o;omega);have HDn:=Ab HShut2.o HL3.o HB.o HOkp.o HMem.o HStI.o.bP (by have:=HT.o;omega) (by have:=HK.o;omega) HCs.o (bU sl tu n (i+2) lo2 a2 b2 (aj (ae (cR L))) ([]++split (aE cs)) none) D3.flush.1 (A:=A) (c:=c);go_wp2_with (first
     | (go_at_call 56;(with_reducible refine HSy.o.mono ?_);rintro e w9 ⟨rfl,hs9⟩;have HS11:=ah hs9;clear hs9)
     | (go_at_call 65;(with_reducible refine(HDn.o _ HS11.o).mono ?_);rintro e w10 ⟨rfl,hs10⟩;have HS12:=ah hs10;clear hs10))
    go_ret;obtain⟨qs,hqs,hs9⟩:=HS12.o;refine .inr (.inr (.inl ⟨HQ.o,HFu.o,rfl,_,_,_,AD (bs:=[]) HPo.o HD3.o (oT.fresh HMem.o HSzM.o) (iP HMem.o) (by have:=HLim.o;omega) (by have:=HI.o;omega) HCn3.o hqs,by rw[eu HD3.o.good.fils.off];exact HAr3.o,HD3.o.sync.2.len,rfl,rfl,hs9⟩))
   | off ha3 S3 D3 e3 o3 h3 cn3 l3=>
    rw[e3] at hap;dsimp only at hap;have HAp:=ah hap;have HCr:=ah h3;have HCn3:=ah ((cn3 _ hcn2).mono (show 20000*k+100+9000+548<=20000*(k+1)+100 by omega));have HAr3:Hid (D.armed≠0):=fun h0=>ha3 (by omega)
    clear hap h3 cn3 ha3 hd2 hc2 ha2 hs2 hs3 hs4 hti2 hti3 hsw hl2 hl3 hH2 hcn2 HS9;go_upto_region 15 with fail;refine wp_region_held_drew (S:=fun w'=>w'.cell? ⟨b,1,none⟩=some (.pointer (some ⟨s,0,none⟩))/\w'.cell? ⟨b,2,none⟩=some (.int .i64 (l2:Int))) (by kernel_rfl) ⟨(by exact C1b.o),(by exact C2b.o)⟩ ?_;intro hS0;refine an 0 1 2 3 ?_;refine an 4 5 6 7 ?_;refine ca 8 ?_;refine bC 9 fun K hK=>?_
    go_simp;go_at_call 72;(with_reducible refine(HAp.o _ (HS8.o.new (ao.refl No _).drew)).mono ?_);rintro e w8 ⟨rfl,hs8⟩;have HS10:=ah hs8;clear hs8
    refine hK.out _ _ ⟨HS10.o.bp.cell 1,HS10.o.bp.cell 2⟩ (fun hS0=>?_);clear hK K;refine ca 10 ?_;refine wpAnyH_done (by kernel_rfl) ?_ _;have HOf:Hid (Calls Tryz.prog 70 #[.pointer (some ⟨b,0,none⟩)] w8 fun x w'=>x = .returned (.int .i64 21)/\Sat w0 (af d D3*F) w'):=(tV b d s ⟨l2,L,sq,sn,bP,nx⟩ (HShut2.o S3 D3 w8 HS10.o)).mono fun x w' ⟨h1,h2⟩=>⟨h1,h2.right.bo⟩
    go_wp2_with (go_at_call 70;(with_reducible refine HOf.o.mono ?_);rintro e w9 ⟨rfl,hs9⟩;have HS11:=ah hs9;clear hs9);go_ret;refine .inr (.inr (.inr ⟨HQ.o,HFu.o,rfl,HAr3.o,D3,o3,l3,AU (bs:=[]) HPo.o HCr.o (oT.fresh HMem.o HSzM.o) (iP HMem.o) HSzM.o (by have:=HLim.o;omega) (by have:=HI.o;omega) HCn3.o,HS11.o⟩))
  .injection hr0 with hr0
   injection hr0 with _ hr0
   subst hr0;have HOf:Hid (Calls Tryz.prog 70 #[.pointer (some ⟨b,0,none⟩)] w7 fun x w'=>x = .returned (.int .i64 21)/\Sat w0 (af d D2*F) w'):=(tV b d s ⟨lg,L,sq,sn,bP,nx⟩ hs2).mono fun x w' ⟨h1,h2⟩=>⟨h1,h2.right.bo⟩
   have HCr:Hid (wO n (t+cs.length) (k+1) D2 [M,aZ cs M]):=hcr2.JP (M:=M) (by have:=HLim.o;omega) (by have:=HI.o;omega) (HCon.o.mono (Nat.le_add_right _ _) (by have h1:=HStI.o.bP.1;have h2:sq<=k:=h1;omega)) ((oT.fresh HMem.o HSzM.o).mono (Nat.le_add_right _ _) (by have h1:=HStI.o.bP.1;have h2:sq<=k:=h1;omega)) HMap.o (iP HMem.o) ((hc2 _ HCn0.o).mono (by omega)) List.mem_cons_self;have HAr2:=ah ha2;clear hc2 hs2 hcr2 hsw ha2;go_wp2_with (go_at_call 70;(with_reducible refine HOf.o.mono ?_);rintro e w9 ⟨rfl,hs9⟩;have HS11:=ah hs9;clear hs9);go_ret;refine .inr (.inr (.inr ⟨HQ.o,HFu.o,rfl,HAr2.o,D2,ho2,hl2,HCr.o,HS11.o⟩))
end
theorem GQ {slot turn n i:Nat} {lo:Bool} {a b:Nat × Nat} {IF LF:List (List UInt8)} {y:Xf} (hi:i % 2=0):mD ((bU slot turn n i lo a b IF LF y).files.map (·.num))=i+1:=by
 have h1:¬ i % 2=1:=by omega
 have h2:(i+1) % 2=1:=by omega
 have h3:¬ (i+2) % 2=1:=by omega
 cases y with
 | none=>
  show (if (i+1) % 2=1 then max (if i % 2=1 then max 0 i else 0) (i+1) else _)=_;rw[if_pos h2,if_neg h1];omega
 | some z=>
  show (if (i+2) % 2=1 then _ else (if (i+1) % 2=1 then max (if i % 2=1 then max 0 i else 0) (i+1) else _))=_;rw[if_neg h3,if_pos h2,if_neg h1];omega
theorem rV {w0 w:World}: ∀ {ks:bY} {F:SP},Sat w0 (iF ks*F) w-> ∀ x ∈ ks,x.2.2.length<=x.2.1/\x.2.1<=maxLen
 | [],_,_=>fun x hx=>by cases hx
 | y::ks,F,h=>fun x hx=>by
  have h1:Sat w0 (Row 5 1 (aI y) y.2.2.length (y.2.2.map bv)*(iF ks*F)) w:=h.of (aB _ _ _);rcases List.mem_cons.1 hx with rfl | hx
  .obtain⟨A,c,e,h2,h3⟩:=h1.bm;injection e with e1 e2 e3
   rw[e3];exact⟨h2,h3⟩
  .exact rV h1.right x hx
theorem Ho (w:World):(Instr.makeMap 111 none).run Tryz.prog w = .ok (.map (some w.heap.size)) (w.alloc (.map #[] 0)):=by
 simp[Instr.makeMap]
def cM (l:List aq):Int:=l.foldl (fun m e=>max m e.seq) 0
theorem CB (l:List aq) (e:aq):cM (l++[e])=max (cM l) e.seq:=by unfold cM;rw[List.foldl_append];rfl
theorem tF {k:Int}: ∀ (l:List aq) (m:Int),m<=k->(∀ x ∈ l,x.seq<=k)->l.foldl (fun m e=>max m e.seq) m<=k
 | [],m,h,_=>h
 | x::l,m,h,h2=>tF l _ (by have:=h2 x List.mem_cons_self;show max m x.seq<=k;omega) fun y hy=>h2 y (List.mem_cons_of_mem _ hy)
theorem mR: ∀ (l:List aq) (m:Int),m<=l.foldl (fun m e=>max m e.seq) m/\ ∀ x ∈ l,x.seq<=l.foldl (fun m e=>max m e.seq) m
 | [],m=>⟨Int.le_refl _,fun x h=>by cases h⟩
 | y::l,m=>by
  obtain⟨h1,h2⟩:=mR l (max m y.seq);refine⟨by show m<=l.foldl _ (max m y.seq);omega,fun x hx=>?_⟩;rcases List.mem_cons.1 hx with rfl | hx
  .show x.seq<=l.foldl _ (max m x.seq);omega
  .exact h2 x hx
section
variable {w0 w:World} {F:SP}
def Jt (w0:World) (F:SP) (d:Nat) (D:Dk) (t i:Nat) (E:List aq) (bs:List (List cE)) (yb:Bool) (S:aK) (x:Ending) (w':World):Prop:=
 (∃ b s L,x = .returned (.tuple #[.pointer (some ⟨b,0,none⟩),.int .i64 0])/\cG L ((cM E).toNat+bs.length) (iC E bs) t/\
  ((yb=false/\Sat w0 (dG b d s ⟨i+1,L,(cM E).toNat+bs.length,fun _=>none,0,1⟩*(ag s d S*(af d D*F))) w')\/(yb=true/\(S.switch [] [(i:Int)+2] D).2.2=0/\Sat w0 (dG b d s ⟨i+1,L,(cM E).toNat+bs.length,fun _=>none,0,1⟩*(ag s d (S.switch [] [(i:Int)+2] D).1*(af d (S.switch [] [(i:Int)+2] D).2.1*F))) w')))\/
 (yb=true/\(S.switch [] [(i:Int)+2] D).2.2≠0/\x = .returned (.tuple #[.pointer none,.int .i64 (S.switch [] [(i:Int)+2] D).2.2])/\Sat w0 (af d (S.switch [] [(i:Int)+2] D).2.1*F) w')
theorem GB (d n t k:Nat) (D:Dk) (slot turn:Nat) (lo:Bool) (fa fb:Nat × Nat) (LF:List (List UInt8)) (y:Xf) (sf:Nat->Nat) (lim i:Nat) (E:List aq) (bs:List (List cE))
 (ho:cJ D=(some (bU slot turn n i lo fa fb (aj (ae E)) LF y),0)) (hd:iI n D slot turn lo fa fb LF y sf lim i E bs bs.length) (hcon:oT n t k E bs) (ht:t<=1024) (hk:k<=10000) (hlim:lim<=4*k+8) (hi:i<=2*k+2) (hc:dq D (20000*k+100)) (ha:D.armed<=9223372036854775807) (h:Sat w0 (af d D*F) w):
 Calls Tryz.prog 19 #[.pointer (some ⟨d,0,none⟩)] w (Jt w0 F d D t i E bs y.isSome (bU slot turn n i lo fa fb (aj (ae E)) LF y)):=by
 have hmost:=hd.aG;have hbig:=hd.big;have hnums: ∀ f ∈ (bU slot turn n i lo fa fb (aj (ae E)) LF y).files,f.num<=2147483647:=fun f hf=>by
  cases y with
  | none=>
   rcases List.mem_cons.1 hf with rfl | hf
   .show i<=_;omega
   .rw[List.mem_singleton.1 hf];show i+1<=_;omega
  | some z=>
   rcases List.mem_cons.1 hf with rfl | hf
   .show i<=_;omega
   rcases List.mem_cons.1 hf with rfl | hf
   .show i+1<=_;omega
   .rw[List.mem_singleton.1 hf];show i+2<=_;omega
 have hfew:(bU slot turn n i lo fa fb (aj (ae E)) LF y).files.length<=1000:=by have:=uy slot turn n i lo fa fb (aj (ae E)) LF y;omega
 have HOp:=ah (rI h (by rw[hd.len];omega) (by rw[hd.len];omega) ho);obtain⟨S,hS⟩: ∃ S,S=bU slot turn n i lo fa fb (aj (ae E)) LF y:=⟨_,rfl⟩;have HSe:=ah hS;obtain⟨lg,hlg⟩: ∃ lg,lg=i+1:=⟨_,rfl⟩;have HLg:=ah hlg;have hnew:mD (S.files.map (·.num))=lg:=by rw[hS,hlg];exact GQ hd.num.2
 have hgood:Good D S sf lim:=by rw[hS];exact hd.good
 rw[<-hS] at HOp hnums hfew;have HNe:Hid (∀ s W (G:SP),Sat w0 (ag s d S*(af d D*G)) W->Calls Tryz.prog 57 #[.pointer (some ⟨s,0,none⟩)] W fun e w'=>e = .returned (.int .i64 (lg:Int))/\Sat w0 (ag s d S*(af d D*G)) w'):=fun s W G hW=>by
  have h9:=Bu (uS hgood hW) hnums hfew;rw[hnew] at h9;exact h9
 have hlg1:((lg:Int)==0)=false:=by rw[beq_eq_false_iff_ne];omega
 have hlg2:lg<=1000000:=by omega
 have hw1:IntKind.i64.wrap ((lg:Int) - 1)=(lg:Int) - 1:=by rw[IntKind.wrap_i64];omega
 have himgf:S.find ((lg:Int) - 1)=some ⟨i,iG n lo,aC n,fa.1,fa.2,aj (ae E)⟩:=by
  rw[hS,hlg,show ((i+1:Nat):Int) - 1=(i:Nat) by omega];exact xJ
 have hlogf:S.find (lg:Int)=some ⟨i+1,iG n lo+aC n,bj n,fb.1,fb.2,LF⟩:=by
  rw[hS,hlg,show ((i+1:Nat):Int)=(i:Int)+1 by omega];exact tT
 have HRd:Hid (∀ s W (G:SP),Sat w0 (ag s d S*(af d D*G)) W->Calls Tryz.prog 64 #[.pointer (some ⟨s,0,none⟩),.int .i64 (lg:Int)] W fun e w'=> ∃ A c rs,e = .returned (.tuple #[.slice A rs.length c,.int .i64 0])/\bK rs=bs.map aE/\Sat w0 (Row 41 1 (.slice A rs.length c) rs.length (rs.map aI)*(iF rs*(ag s d S*(af d D*G)))) w'):=fun s W G hW=>by
  refine(Gu hgood hW hlogf).mono ?_;rintro e w' ⟨u,rs,rfl,h1,h3⟩;obtain⟨A,c,rfl,_⟩:=h3.bm;exact⟨A,c,rs,rfl,h1.trans hd.tel.whole,h3⟩
 have HFi:Hid (∀ s W (G:SP),Sat w0 (ag s d S*(af d D*G)) W->Calls Tryz.prog 67 #[.pointer (some ⟨s,0,none⟩)] W fun e w'=> ∃ A c,e = .returned (.slice A S.files.length c)/\Sat w0 (Row 128 3 (.slice A S.files.length c) S.files.length ((S.files.map kp).flatMap dr)*(ag s d S*(af d D*G))) w'):=fun s W G hW=>by
  refine(uS hgood hW).mono ?_;rintro e w' ⟨u,rfl,h3⟩;obtain⟨A,c,rfl,_⟩:=h3.bm;exact⟨A,c,rfl,h3⟩
 have HSwB:Hid (∀ s g W (G:SP),Sat w0 (Pt g 3 #[.int .i64 ((i:Int)+2)]*(ag s d S*(af d D*G))) W->Calls Tryz.prog 55 #[.pointer (some ⟨s,0,none⟩),.slice none 0 0,.slice (some ⟨g,0,none⟩) 1 1] W (Jx w0 (Pt g 3 #[.int .i64 ((i:Int)+2)]*G) s d (S.switch [] [(i:Int)+2] D))):=fun s g W G hW=>
  iS none 0 [] (some ⟨g,0,none⟩) 1 [(i:Int)+2] hgood (by omega) (hW.of (by ac_rfl)) (fun _ _ hne=>absurd rfl hne) (fun W' hW'=>iL hW' (fun j hj=>by
   match j,hj with
   | 0,_=>rfl)) (by simp) (by simp) (by simp) (by simp) (fun q hq=>by
   rw[List.mem_singleton] at hq;omega) (by have:=hc.writes;omega) (by have:=hc.pend;omega) ha
 have HNm:Hid (∀ j (hj:j<(S.files.map kp).length),(j<2/\((S.files.map kp)[j].1:Int)<=lg)\/(j=2/\((S.files.map kp)[j].1:Int)=(i:Int)+2/\y.isSome=true)):=fun j hj=>by
  subst hS;subst hlg
  match j,hj with
  | 0,_=>exact .inl ⟨by omega,by show ((i:Nat):Int)<=((i+1:Nat):Int);omega⟩
  | 1,_=>exact .inl ⟨by omega,by show ((i+1:Nat):Int)<=((i+1:Nat):Int);omega⟩
  | 2,hj=>
   cases y with
   | none=>exact absurd hj (by simp[bU,Bp])
   | some z=>exact .inr ⟨rfl,by show ((i+2:Nat):Int)=(i:Int)+2;omega,rfl⟩
  | j+3,hj=>
   cases y with
   | none=>exact absurd hj (by simp[bU,Bp])
   | some z=>exact absurd hj (by simp[bU,Bp])
 have HNl:Hid ((y.isSome=false/\S.files.length=2)\/(y.isSome=true/\S.files.length=3)):=by
  subst hS
  cases y with
  | none=>exact .inl ⟨rfl,rfl⟩
  | some z=>exact .inr ⟨rfl,rfl⟩
 have HFr:Hid (∀ s W (G:SP),Sat w0 (ag s d S*(af d D*G)) W->Calls Tryz.prog 59 #[.pointer (some ⟨s,0,none⟩),.int .i64 ((lg:Int) - 1)] W fun e w'=> ∃ A c ts,e = .returned (.tuple #[.slice A ts.length c,.int .i64 0])/\bK ts=aj (ae E)/\Sat w0 (Row 41 1 (.slice A ts.length c) ts.length (ts.map aI)*(cd ts*(ag s d S*(af d D*G)))) w'):=fun s W G hW=>by
  refine(qH hgood hW himgf).mono ?_;rintro e w' ⟨u,ts,rfl,h1,h2,h3⟩;obtain⟨A,c,rfl,_⟩:=h3.bm;exact⟨A,c,ts,rfl,h1,h3⟩
 have hpl:(ae E).length<=20000000:=by
  have h1:=wv E fun e he=>⟨(hcon.uL.each e he).1.key.2,(hcon.uL.each e he).1.val⟩
  have h2:=sQ E fun e he=>(hcon.uL.each e he).1
  rw[tB] at h1;have h3:=hcon.bP;omega
 have HJo:Hid (∀ A c (ts:bY) W (G:SP),bK ts=aj (ae E)->Sat w0 (Row 41 1 (.slice A ts.length c) ts.length (ts.map aI)*(cd ts*G)) W->Calls Tryz.prog 61 #[.slice A ts.length c] W fun e w'=> ∃ B bc,e = .returned (.slice B (ae E).length bc)/\(ae E).length<=bc/\bc<=maxLen/\Sat w0 (Row 5 1 (.slice B (ae E).length bc) (ae E).length ((ae E).map bv)*(Row 41 1 (.slice A ts.length c) ts.length (ts.map aI)*(cd ts*G))) w'):=fun A c ts W G ht hW=>by
  have hfl:(bK ts).flatten=ae E:=by rw[ht,BM]
  have htl:ts.length<=20000000:=by
   have h1:(bK ts).length=ts.length:=by unfold bK;rw[List.length_map]
   rw[<-h1,ht,qS];omega
  have h9:=eG A c ts W ⟨hW.gD,fun x hx=>hW.ay.F4 hx⟩ (by rw[hfl];omega) (by omega);rw[hfl] at h9;refine h9.mono ?_;rintro e w' ⟨v,rfl,h1,h2⟩;have h3:=hW.dP h2 h1;obtain⟨B,bc,rfl,h4,h5⟩:=h3.bm;exact⟨B,bc,rfl,h4,h5,h3⟩
 have HUn:Hid (∀ B bc W (G:SP),(ae E).length<=bc->bc<=maxLen->Sat w0 (Row 5 1 (.slice B (ae E).length bc) (ae E).length ((ae E).map bv)*G) W->Calls Tryz.prog 60 #[.slice B (ae E).length bc] W fun e w'=> ∃ es A c,e = .returned (.slice A es.length c)/\es.map En.ak=E/\Sat w0 (Row 120 4 (.slice A es.length c) es.length (es.flatMap bV)*(aT es*G)) w'):=fun B bc W G h1 h2 hW=>by
  refine(tP B bc E W hcon.uL (by have:=hcon.bP;omega) hW.cj h1 h2).mono ?_;rintro e w' ⟨es,A,c,rfl,h3,h4⟩;have h5:=hW.join h4 (ba (bH _ _ _ _ _) (cN _));exact⟨es,A,c,rfl,h3,(h5.of (show _=Row 5 1 (.slice B (ae E).length bc) (ae E).length ((ae E).map bv)*(Row 120 4 (.slice A es.length c) es.length (es.flatMap bV)*(aT es*G)) by ac_rfl)).right⟩
 have HSrt:Hid (E.Pairwise dE):=hcon.uL.Kt;have HEa:Hid (∀ x ∈ E,(x.key.length<=200/\x.value.length<=20000)/\0<=x.seq/\x.seq<=1000000000):=fun x hx=>by
  have h1:=(hcon.uL.each x hx).1.key;have h2:=(hcon.uL.each x hx).1.val;have h3:=(hcon.uL.each x hx).1.seq;omega
 have hel0:E.length<=1024:=by have:=hcon.bP;omega
 have HEl0:=ah hel0;obtain⟨pl,hplE⟩: ∃ pl,pl=(ae E).length:=⟨_,rfl⟩;rw[<-hplE] at HJo HUn;have HPl:Hid (pl<=20000000):=by unfold Hid;omega
 have HD:=ah hd;have HCon:=ah hcon;have HT:=ah ht;have HK:=ah hk;have HLim:=ah hlim;have HI:=ah hi;have HC:=ah hc;have HA:=ah ha;have HGood:=ah hgood;have HFew:=ah hfew;have HNums:=ah hnums;clear hd hcon ht hk hlim hi hc ha h ho hS hlg hnew hgood hnums hfew hmost hbig himgf hlogf hpl hplE hel0;go_enter Tryz.func19, Tryz.ntmps19;go_upto_region 7 with (first
  | (go_at_call 53;(with_reducible refine HOp.o.mono ?_);rintro e w1 ⟨s,rfl,hs1⟩;have HS1:=ah hs1;clear hs1)
  | (go_at_call 57;(with_reducible refine(HNe.o _ _ _ HS1.o).mono ?_);rintro e w2 ⟨rfl,hs2⟩;have HS2:=ah hs2;clear hs2)
  | (go_at_call 57;(with_reducible refine(HNe.o _ _ _ HS2.o).mono ?_);rintro e w3 ⟨rfl,hs3⟩;have HS3:=ah hs3;clear hs3)
  | (go_at_call 58;(with_reducible refine(vE w0 _ _ HS3.o).mono ?_);rintro e w4 ⟨tb,hr,rfl,hs4⟩;have HS4:=ah hs4;have hmk:=Ho w4;clear hs4))
 have hs5:=(HS4.o.ub (P:= Tryz.prog) (k:= 3)).bO (b:=w4.heap.size+1) 113 (ef d s lg tb 0 w4.heap.size 1 false) (by simp);have hs5':Sat w0 (Pt (w4.heap.size+1) 113 (ef d s lg tb 0 w4.heap.size 1 false)*(bT Tryz.prog 3 w4.heap.size 0 (fun _=>none)*(bE tb hr []*(ag s d S*(af d D*F))))) ((w4.alloc (.map #[] 0)).alloc (.cells (ef d s lg tb 0 w4.heap.size 1 false) 113)):=hs5;obtain⟨W5,hW5⟩: ∃ W5,W5=(w4.alloc (.map #[] 0)).alloc (.cells (ef d s lg tb 0 w4.heap.size 1 false) 113):=⟨_,rfl⟩;rw[<-hW5] at hs5';unfold ef at hW5;rw[<-hW5];obtain⟨mb,hmb⟩: ∃ mb,mb=w4.heap.size:=⟨_,rfl⟩;obtain⟨b,hb⟩: ∃ b,b=w4.heap.size+1:=⟨_,rfl⟩;rw[<-hb, <-hmb] at hs5';rw[<-hb, <-hmb];have HS5:Hid (Sat w0 (ag s d S*(af d D*(Pt b 113 (ef d s lg tb 0 mb 1 false)*(bT Tryz.prog 3 mb 0 (fun _=>none)*(bE tb hr []*F))))) W5):=hs5'.of (by ac_rfl);clear hs5 hs5' hW5 hb hmb hmk HS1 HS2 HS3 HS4 HOp HNe;have c2:W5.cell? ⟨b,2,none⟩=some (.int .i64 (lg:Int)):=HS5.o.bp.cell 2;go_upto_region 8 with (go_at_call 59;(with_reducible refine(HFr.o _ _ _ HS5.o).mono ?_);rintro e w6 ⟨FA,fc,ts,rfl,ht,hs6⟩;have HTs:=ah ht;have HS6:=ah hs6;clear hs6 ht)
 go_wp2_with (first
  | (go_at_call 61;(with_reducible refine(HJo.o _ _ _ _ _ HTs.o HS6.o).mono ?_);rintro e w7 ⟨JA,jc,rfl,hj1,hj2,hs7⟩;have HJ1:=ah hj1;have HJ2:=ah hj2;have HS7:=ah hs7;clear hj1 hj2 hs7)
  | (go_at_call 60;(with_reducible refine(HUn.o _ _ _ _ HJ1.o HJ2.o HS7.o).mono ?_);rintro e w8 ⟨es,A,c,rfl,hes,hs8⟩;have HES:=ah hes;have HS8:=ah hs8;clear hes hs8))
 have HEl:Hid (es.length=E.length):=by unfold Hid;rw[<-HES.o,List.length_map]
 have hel:es.length<=1024:=by rw[HEl.o];exact HEl0.o
 have HS9:Hid (Sat w0 (bE tb hr []*(Pt b 113 (ef d s lg tb 0 mb 1 false)*(Row 120 4 (.slice A es.length c) es.length (es.flatMap bV)*(aT es*(bT Tryz.prog 3 mb 0 (fun _=>none)*(ag s d S*(af d D*F))))))) w8):=(HS8.o.of (show _=Row 41 1 (.slice FA ts.length fc) ts.length (ts.map aI)*(cd ts*(bE tb hr []*(Pt b 113 (ef d s lg tb 0 mb 1 false)*(Row 120 4 (.slice A es.length c) es.length (es.flatMap bV)*(aT es*(bT Tryz.prog 3 mb 0 (fun _=>none)*(ag s d S*(af d D*F)))))))) by ac_rfl)).right.right;clear HS8 HS7 HS6 HS5 HJo HUn HFr c2;go_loopw [57] (fun iv wr=> ∃ (j:Nat) (ms:List Nd) (q:Int),j<=es.length/\iv = .int .i64 (j:Int)/\Hid (dS ms j/\cn ms=E.take j/\q=cM (E.take j)/\Sat w0 (bE tb hr ms*(Pt b 113 (ef d s lg tb q mb 1 false)*(Row 120 4 (.slice A es.length c) es.length (es.flatMap bV)*(aT es*(bT Tryz.prog 3 mb 0 (fun _=>none)*(ag s d S*(af d D*F))))))) wr)) (fun iv _=>es.length - (intOf iv).toNat)
 case atStart=>exact⟨0,[],0,by omega,rfl,vV 0,rfl,rfl,HS9.o⟩
 case round=>
  obtain⟨j,ms,q,hj,rfl,HD0⟩:=hrel;by_cases hlt:j<es.length
  .obtain⟨lb,lo2,hA,hq⟩:=dU HD0.o.2.2.2.bp.cj (by omega);subst hA;obtain⟨y0,y1,y2,y3⟩:=hq j hlt;have HRi:=ah (fO HD0.o.2.2.2.bL _ (List.getElem_mem hlt));have hmE:es[j].ak ∈ E:=by rw[<-HES.o];exact List.mem_map_of_mem (List.getElem_mem hlt)
   have HLi:=ah (HEa.o _ hmE);have HTk:Hid (E.take (j+1)=E.take j++[es[j].ak]):=by
    unfold Hid;rw[<-HES.o,List.take_add_one,List.getElem?_eq_getElem (by rw[List.length_map];exact hlt),List.getElem_map];rfl
   have HNew:Hid (∀ x ∈ cn ms,dE x es[j].ak):=fun x hx=>by
    rw[HD0.o.2.1] at hx;have h2:=HSrt.o;rw[<-List.take_append_drop (j+1) E,HTk.o] at h2;have h3:=(List.pairwise_append.1 h2).1;exact(List.pairwise_append.1 h3).2.2 x hx _ (List.mem_singleton_self _)
   have hii:(j:Int)<es.length:=by omega
   clear hq hmE;generalize es[j]=x at*
   obtain⟨⟨kA,kc,kl⟩,⟨vA,vc,vl⟩,eq,dd⟩:=x;replace y0:_=some (Value.slice kA kl.length kc):=y0;replace y1:_=some (Value.slice vA vl.length vc):=y1;replace y2:_=some (Value.int .i64 eq):=y2;replace y3:_=some (Value.bool dd):=y3;replace HLi:Hid ((kl.length<=200/\vl.length<=20000)/\0<=eq/\eq<=1000000000):=HLi;go_upto_region 11 with fail;have hs7:=HD0.o.2.2.2.ab 120 #[.slice kA kl.length kc,.slice vA vl.length vc,.int .i64 eq,.bool dd];obtain⟨W7,hW7⟩: ∃ W7,W7=wr.alloc (.cells #[.slice kA kl.length kc,.slice vA vl.length vc,.int .i64 eq,.bool dd] 120):=⟨_,rfl⟩;rw[<-hW7] at hs7;rw[<-hW7];obtain⟨bx,hbx⟩: ∃ bx,bx=wr.heap.size:=⟨_,rfl⟩;rw[<-hbx] at hs7;rw[<-hbx];have HR7:Hid (Rd W7 kA kl/\Rd W7 vA vl):=by rw[hW7];exact⟨aF.alloc HRi.o.1 _,aF.alloc HRi.o.2 _⟩
   clear hW7 hbx y0 y1 y2 y3;have c3:=hs7.bp.cell 3;have x0:=hs7.cell 0;have x1:=hs7.cell 1;have x2:=hs7.cell 2;have x3:=hs7.cell 3;have HSr:=ah hs7;clear hs7;have HPu:Hid (∀ W H,ao No W7 W->Calls Tryz.prog 62 #[.pointer (some ⟨tb,0,none⟩),.agg #[.slice kA kl.length kc,.slice vA vl.length vc,.int .i64 eq,.bool dd],.int .i64 H] W fun x w'=> ∃ ns',x = .returned (.int .i64 0)/\dS ns' (j+1)/\cn ns'=E.take (j+1)/\Sat w0 (Pt bx 120 #[.slice kA kl.length kc,.slice vA vl.length vc,.int .i64 eq,.bool dd]*(bE tb hr ns'*(Pt b 113 (ef d s lg tb q mb 1 false)*(Row 120 4 (.slice (some ⟨lb,lo2,none⟩) es.length c) es.length (es.flatMap bV)*(aT es*(bT Tryz.prog 3 mb 0 (fun _=>none)*(ag s d S*(af d D*F)))))))) w'):=fun W H hW=>by
    refine(qf tb hr ms j H ⟨(kA,kc,kl),(vA,vc,vl),eq,dd⟩ w0 W _ (HSr.o.new hW).ay HD0.o.1 (by omega) ⟨HR7.o.1.new hW,HR7.o.2.new hW⟩ HLi.o.1.1 HLi.o.1.2 (by show eq<=eE;unfold eE;have:=HLi.o;omega) (fun x hx hs=>np hs (HNew.o x hx))).mono ?_;rintro x w' ⟨ns',rfl,k1,k2,k3⟩;exact⟨ns',rfl,k1,by rw[k2,tq HNew.o,HTk.o,HD0.o.2.1],k3.ay⟩
   have HH:=ah (fun W=>mg eq HLi.o.2 W);have HDrew:Hid (ao No W7 W7.drew):=(ao.refl No W7).drew;refine wp_region_held_drew (S:=fun w'=>w'.cell? ⟨b,3,none⟩=some (.pointer (some ⟨tb,0,none⟩))/\w'.cell? ⟨bx,0,none⟩=some (.slice kA kl.length kc)/\w'.cell? ⟨bx,1,none⟩=some (.slice vA vl.length vc)/\w'.cell? ⟨bx,2,none⟩=some (.int .i64 eq)/\w'.cell? ⟨bx,3,none⟩=some (.bool dd)) (by kernel_rfl) ⟨(by exact c3),x0,x1,x2,x3⟩ ?_;intro hS0;refine an 0 1 2 3 ?_;refine cw 4 5 ?_;refine ca 6 ?_;refine bC 7 fun K hK=>?_
   go_simp;go_at_call 63;(with_reducible refine(HH.o _).mono ?_);rintro e wx ⟨⟨hh,rfl,hh1,hh2⟩,rfl⟩
   refine hK.out _ _ ⟨(by exact c3),x0,x1,x2,x3⟩ (fun hS0=>?_);clear hK K;refine bC 8 fun K hK=>?_
   go_simp;go_at_call 62;(with_reducible refine(HPu.o _ hh HDrew.o).mono ?_);rintro e w9 ⟨ns2,rfl,n1,n2,hs8⟩;have HN1:=ah n1;have HN2:=ah n2;have HS10:=ah hs8;clear n1 n2 hs8
   refine hK.out _ _ ⟨HS10.o.bp.cell 3,HS10.o.cell 0,HS10.o.cell 1,HS10.o.cell 2,HS10.o.cell 3⟩ (fun hS0=>?_);clear hK K;refine wpAnyH_done (by kernel_rfl) ?_ _;have x2':w9.cell? ⟨bx,2,none⟩=some (.int .i64 eq):=HS10.o.cell 2;have c4':w9.cell? ⟨b,4,none⟩=some (.int .i64 q):=HS10.o.bp.cell 4;have f4':=HS10.o.bp.frozen 4;have X2:=ah x2';have C4:=ah c4';clear c3 x0 x1 x2 x3;go_upto_region 12 with fail;refine xM (z:=10) (S:=fun w'=>w'.cell? ⟨b,4,none⟩=some (.int .i64 q)/\w'.cell? ⟨bx,2,none⟩=some (.int .i64 eq)) (by kernel_rfl) ⟨(by exact C4.o),(by exact X2.o)⟩ ?_;intro hS0;refine mW 0 ?_;refine mW 1 ?_;refine mW 2 ?_;refine mW 3 ?_;refine mW 4 ?_;refine mW 5 ?_;refine mW 6 ?_;refine mW 7 ?_;refine Gm 8 fun K hK=>?_
   go_simp;refine hK.out _ _ ⟨(by exact C4.o),(by exact X2.o)⟩ (fun hS0=>?_);clear hK K;refine mW 9 ?_;refine te rfl (by kernel_rfl) (by kernel_rfl) (fun K hK=>?_);go_simp;refine hK.out _ _ ?_;clear hK K;have hs11:=((HS10.o.bp).set 4 (.int .i64 (max q eq))).new (ao.refl No _).drew;have HS11:=ah hs11;have HMx:Hid (max q eq=cM (E.take (j+1))):=by unfold Hid;rw[HTk.o,CB, <-HD0.o.2.2.1];rfl
   clear hs11 f4' c4' x2';go_wp2_with fail;go_roundw
   .exact⟨j+1,ns2,max q eq,by omega,by push_cast;rfl,HN1.o,HN2.o,HMx.o,(HS11.o.of (show _=Pt bx 120 #[.slice kA kl.length kc,.slice vA vl.length vc,.int .i64 eq,.bool dd]*(bE tb hr ns2*(Pt b 113 (ef d s lg tb (max q eq) mb 1 false)*(Row 120 4 (.slice (some ⟨lb,lo2,none⟩) es.length c) es.length (es.flatMap bV)*(aT es*(bT Tryz.prog 3 mb 0 (fun _=>none)*(ag s d S*(af d D*F))))))) by show Pt b 113 (ef d s lg tb (max q eq) mb 1 false)*_=_;ac_rfl)).right⟩
   .simp[intOf];omega
  .have hje:j=es.length:=by omega
   subst hje;have HQ0:Hid (dS ms E.length/\cn ms=E/\q=cM E):=by
    have h1:=HD0.o;rw[List.take_of_length_le (by have:=HEl.o;omega)] at h1;exact⟨by rw[<-HEl.o];exact h1.1,h1.2.1,h1.2.2.1⟩
   have HS12:=ah HD0.o.2.2.2;have hq0:(((cM E).toNat:Nat):Int)=cM E:=by have:=(mR E 0).1;unfold cM;omega
   have HMe:Hid (cG E (cM E).toNat (E.map cZ) E.length):=fC.mem HCon.o.uL (fun x hx=>by rw[hq0];exact(mR E 0).2 x hx);have HS13:Hid (Sat w0 (dG b d s ⟨lg,E,(cM E).toNat,fun _=>none,0,1⟩*(ag s d S*(af d D*F))) wr):=by
    refine Sat.zX (v:=⟨lg,E,(cM E).toNat,fun _=>none,0,1⟩) (tb:=tb) (hr:=hr) (mb:=mb) (ns:=ms) HQ0.o.1 HQ0.o.2.1 ?_;rw[eM];dsimp only;rw[hq0, <-HQ0.o.2.2];have h1:=HS12.o.of (show _=Row 120 4 (.slice A es.length c) es.length (es.flatMap bV)*(aT es*(Pt b 113 (ef d s lg tb q mb 1 false)*(bE tb hr ms*(bT Tryz.prog 3 mb 0 (fun _=>none)*(ag s d S*(af d D*F)))))) by ac_rfl);exact h1.right.right
   have c2:wr.cell? ⟨b,2,none⟩=some (.int .i64 (lg:Int)):=HS12.o.ay.cell 2;have HS14:Hid (Sat w0 (ag s d S*(af d D*(dG b d s ⟨lg,E,(cM E).toNat,fun _=>none,0,1⟩*F))) wr):=HS13.o.of (by ac_rfl);clear HS12 HS13 HD0 HQ0 hlt;go_wp2_with (go_at_call 64;(with_reducible refine(HRd.o _ _ _ HS14.o).mono ?_);rintro e w10 ⟨RA,rc,rs,rfl,hrs,hs15⟩;have HRs:=ah hrs;have HS15:=ah hs15;clear hrs hs15);have HRl:Hid (rs.length=bs.length):=by have:=congrArg List.length HRs.o;unfold bK at this;rw[List.length_map,List.length_map] at this;exact this
   have hbl:rs.length<=10000:=by rw[HRl.o];have:=HCon.o.bl;have:=HK.o;omega
   have HS16:Hid (Sat w0 (dG b d s ⟨lg,E,(cM E).toNat,fun _=>none,0,1⟩*(Row 41 1 (.slice RA rs.length rc) rs.length (rs.map aI)*(iF rs*(ag s d S*(af d D*F))))) w10):=HS15.o.of (by ac_rfl);clear HS14 HS15 c2;go_loopw [92] (fun iv wr=> ∃ (j:Nat),j<=rs.length/\iv = .int .i64 (j:Int)/\Hid (∃ L,cG L ((cM E).toNat+j) (iC E (bs.take j)) (E.length+((bs.take j).map List.length).sum)/\Sat w0 (dG b d s ⟨lg,L,(cM E).toNat+j,fun _=>none,0,1⟩*(Row 41 1 (.slice RA rs.length rc) rs.length (rs.map aI)*(iF rs*(ag s d S*(af d D*F))))) wr)) (fun iv _=>rs.length - (intOf iv).toNat)
   case atStart=>exact⟨0,by omega,rfl,E,HMe.o,HS16.o⟩
   case round=>
    obtain⟨j,hj,rfl,HD1⟩:=hrel;obtain⟨L,hmL,hsL⟩:=HD1.o;by_cases hlt:j<rs.length
    .have hrow:=hsL.ay.gD;obtain⟨lb,lo2,hA,hcell⟩:=hrow (by intro h0;have:=congrArg List.length h0;rw[List.length_map,List.length_nil] at this;omega);subst hA;have y0:=hcell j (by rw[List.length_map];exact hlt);rw[List.getElem_map] at y0;have hjb:j<bs.length:=by rw[<-HRl.o];exact hlt
     have hx2:rs[j].2.2=aE bs[j]:=by
      have h1:(bK rs)[j]'(by unfold bK;rw[List.length_map];exact hlt)=rs[j].2.2:=by unfold bK;rw[List.getElem_map]
      have h2:(bs.map aE)[j]'(by rw[List.length_map];exact hjb)=aE bs[j]:=by rw[List.getElem_map]
      rw[<-h1, <-h2];congr 1<;>exact HRs.o
     have hrd:=fun W (G:SP) (hW:Sat w0 (iF rs*G) W)=>AR hW (List.getElem_mem hlt)
     have hcp:=rV hsL.bp _ (List.getElem_mem hlt);have hbok:nO bs[j]:=HCon.o.bats _ (List.getElem_mem hjb);have htk:bs.take (j+1)=bs.take j++[bs[j]]:=by rw[List.take_add_one,List.getElem?_eq_getElem hjb];rfl
     have hsum:((bs.take (j+1)).map List.length).sum<=(bs.map List.length).sum:=by
      have h1:=congrArg (fun l=>(l.map List.length).sum) (List.take_append_drop (j+1) bs);simp only[List.map_append,List.sum_append] at h1;omega
     have hsum2:((bs.take (j+1)).map List.length).sum=((bs.take j).map List.length).sum+bs[j].length:=by rw[htk,List.map_append,List.sum_append];simp
     have hfew2:=HCon.o.bP;have hmap:iC E (bs.take (j+1))=aZ bs[j] (iC E (bs.take j)):=by rw[htk,lE]
     generalize bs[j]=cs at*
     generalize rs[j]=x at*
     obtain⟨xa,xc,xl⟩:=x;dsimp only at hx2 hrd hcp;replace y0:_=some (Value.slice xa xl.length xc):=y0;subst hx2;have hlb:=tE hbok;have hkk:=HK.o;have htt:=HT.o;have hqk:(cM E).toNat+bs.length<=10000:=by
      have h1:=tF E 0 (k:=((k - bs.length:Nat):Int)) (by omega) (fun x hx=>by have:=HCon.o.seqs x hx;omega);have h2:=HCon.o.bl;have h3:cM E<=((k - bs.length:Nat):Int):=h1;omega
     have HUl:Hid (∀ W,ao No wr W->Calls Tryz.prog 66 #[.slice xa (aE cs).length xc] W fun e w'=> ∃ B bd ps,e = .returned (.slice B ps.length bd)/\ps.map Pu.bq=cs/\(∀ W,Rd W xa (aE cs)->gZ W ps)/\Sat w0 (Row 43 3 (.slice B ps.length bd) ps.length (ps.flatMap fI)*(dG b d s ⟨lg,L,(cM E).toNat+j,fun _=>none,0,1⟩*(Row 41 1 (.slice (some ⟨lb,lo2,none⟩) rs.length rc) rs.length (rs.map aI)*(iF rs*(ag s d S*(af d D*F)))))) w'):=fun W hk=>by
      refine(yr xa xc cs W ((hrd _ _ hsL.bp).new hk) hcp.1 hcp.2 (fun p hp=>(hbok.each p hp).bq) (by omega)).mono ?_;rintro e w' ⟨B,bd,ps,h1,h2,rfl,h3⟩;have hpl:ps.length=cs.length:=by rw[<-h1,List.length_map]
      rw[<-hpl] at h3;refine⟨B,bd,ps,by rw[hpl],h1,h2,?_⟩;exact((hsL.new hk).join h3 (ba (bH _ _ _ _ _) df)).of (by rw[cD _ bF,bf])
     have hJn:j+1<=bs.length:=by rw[<-HRl.o];exact hlt
     have HDn:Hid (∀ B bd (ps:List Pu) W,ps.map Pu.bq=cs->(∀ W,Rd W xa (aE cs)->gZ W ps)->Sat w0 (Row 43 3 (.slice B ps.length bd) ps.length (ps.flatMap fI)*(dG b d s ⟨lg,L,(cM E).toNat+j,fun _=>none,0,1⟩*(Row 41 1 (.slice (some ⟨lb,lo2,none⟩) rs.length rc) rs.length (rs.map aI)*(iF rs*(ag s d S*(af d D*F)))))) W->Calls Tryz.prog 65 #[.pointer (some ⟨b,0,none⟩),.slice B ps.length bd] W fun e w'=>e = .returned (.tuple #[])/\Hid (∃ L',cG L' ((cM E).toNat+(j+1)) (iC E (bs.take (j+1))) (E.length+((bs.take (j+1)).map List.length).sum)/\Sat w0 (dG b d s ⟨lg,L',(cM E).toNat+(j+1),fun _=>none,0,1⟩*(Row 41 1 (.slice (some ⟨lb,lo2,none⟩) rs.length rc) rs.length (rs.map aI)*(iF rs*(ag s d S*(af d D*F))))) w')):=fun B bd ps W hps hpr hW=>by
      have hpl:ps.length=cs.length:=by rw[<-hps,List.length_map]
      have hok: ∀ p ∈ ps,iq p.bq:=fun p hp=>hbok.each _ (by rw[<-hps];exact List.mem_map_of_mem hp)
      have hLl:=hmL.len;refine(sL b d s ⟨lg,L,(cM E).toNat+j,fun _=>none,0,1⟩ B bd ps (hW.ay) (fun W' hW'=>⟨hW'.cj,hpr W' (hrd _ _ hW'.bp)⟩) hok (by omega) (by show L.length<=80000;omega) (fun x hx=>⟨((hmL.each x hx).seq).1,hmL.top x hx⟩) (by show (cM E).toNat+j+1<=_;omega) (by show 0<=_;omega)).mono ?_;rintro e w' ⟨rfl,qs,h1,h2⟩;refine⟨rfl,dY qs (fP ((cM E).toNat+j) cs L),?_,?_⟩
      .rw[hmap,hsum2, <-Nat.add_assoc, <-Nat.add_assoc];exact(hmL.done hbok.each (by omega)).tidy qs
      .rw[hps] at h2;exact h2.ay.right
     have hii:(j:Int)<rs.length:=by omega
     have HJn:=ah hJn;clear hmL hsL hrow hcell hrd hcp hbok htk hsum hsum2 hfew2 hmap hlb hkk htt hqk HD1 hjb hJn;go_wp2_with (first
      | (go_at_call 66;(with_reducible refine(HUl.o _ (ao.refl No _)).mono ?_);rintro e w11 ⟨B,bd,ps,rfl,hp1,hp2,hs17⟩;have HP1:=ah hp1;have HP2:=ah hp2;have HS17:=ah hs17;clear hp1 hp2 hs17)
      | (go_at_call 65;(with_reducible refine(HDn.o _ _ _ _ HP1.o HP2.o HS17.o).mono ?_);rintro e w12 ⟨rfl,hs18⟩;have HS18:=ah hs18;clear hs18))
     go_roundw
     .exact⟨j+1,by omega,by push_cast;rfl,HS18.o.out⟩
     .simp[intOf];omega
    .have hje:j=rs.length:=by omega
     subst hje;rw[HRl.o,List.take_length] at hmL;have HML:Hid (cG L ((cM E).toNat+bs.length) (iC E bs) t):=⟨hmL.sort,hmL.each,hmL.top,Nat.le_trans hmL.len HCon.o.bP,hmL.gW,hmL.tells⟩;have HS19:Hid (Sat w0 (ag s d S*(af d D*(dG b d s ⟨lg,L,(cM E).toNat+bs.length,fun _=>none,0,1⟩*F))) wr):=by
      rw[HRl.o] at hsL;rw[<-HRl.o] at hsL ⊢;exact(hsL.of (show _=Row 41 1 (.slice RA rs.length rc) rs.length (rs.map aI)*(iF rs*(ag s d S*(af d D*(dG b d s ⟨lg,L,(cM E).toNat+rs.length,fun _=>none,0,1⟩*F)))) by ac_rfl)).right.right
     clear hmL hsL HD1 hlt;go_wp2_with (go_at_call 67;(with_reducible refine(HFi.o _ _ _ HS19.o).mono ?_);rintro e w13 ⟨LA,lc,rfl,hs20⟩;have HS20:=ah hs20;clear hs20);obtain⟨ls,hls⟩: ∃ ls,ls=S.files.map kp:=⟨_,rfl⟩;obtain⟨N,hN⟩: ∃ N,N=S.files.length:=⟨_,rfl⟩;rw[<-hls] at HS20 HNm;rw[<-hN] at HS20 HNl;rw[<-hN];have hlsN:ls.length=N:=by rw[hls,hN,List.length_map]
     have HlsN:=ah hlsN;obtain⟨S2,D2,rv,hr⟩: ∃ S2 D2 rv,S.switch [] [(i:Int)+2] D=(S2,D2,rv):=⟨_,_,_,rfl⟩;rw[hr] at HSwB;have HRe:=ah hr;have hN3:N<=3:=by rcases HNl.o with ⟨_,h1⟩ | ⟨_,h1⟩<;>omega
     have HS21:Hid (Sat w0 (dG b d s ⟨lg,L,(cM E).toNat+bs.length,fun _=>none,0,1⟩*(ag s d S*(af d D*(Row 128 3 (.slice LA N lc) N (ls.flatMap dr)*F)))) w13):=HS20.o.of (by ac_rfl);clear HS20 HS19 hls hN hr hlsN HFi;go_loopw [104] (fun iv wr=> ∃ (j:Nat),j<=N/\iv = .int .i64 (j:Int)/\Hid ((j<=2/\Sat w0 (dG b d s ⟨lg,L,(cM E).toNat+bs.length,fun _=>none,0,1⟩*(ag s d S*(af d D*(Row 128 3 (.slice LA N lc) N (ls.flatMap dr)*F)))) wr)\/(j=3/\rv=0/\y.isSome=true/\Sat w0 (dG b d s ⟨lg,L,(cM E).toNat+bs.length,fun _=>none,0,1⟩*(ag s d S2*(af d D2*(Row 128 3 (.slice LA N lc) N (ls.flatMap dr)*F)))) wr))) (fun iv _=>N - (intOf iv).toNat)
     case atStart=>exact⟨0,by omega,rfl,.inl ⟨by omega,HS21.o⟩⟩
     case round=>
      obtain⟨j,hj,rfl,HD2⟩:=hrel;by_cases hlt:j<N
      .have hs30:Sat w0 (dG b d s ⟨lg,L,(cM E).toNat+bs.length,fun _=>none,0,1⟩*(ag s d S*(af d D*(Row 128 3 (.slice LA N lc) N (ls.flatMap dr)*F)))) wr:=by
        rcases HD2.o with h1 | h1
        .exact h1.2
        .omega
       obtain⟨lb,lo2,hA,y0,y1,y2⟩:=Ac hs30.bL.gD (by rw[HlsN.o];exact hlt);subst hA;have hnm:=HNm.o j (by rw[HlsN.o];exact hlt);generalize ls[j]'(by rw[HlsN.o];exact hlt)=x at*
       obtain⟨xn,xf,xb⟩:=x;replace y0:_=some (Value.int .i64 (xn:Int)):=y0;replace y1:_=some (Value.int .i64 (xf:Int)):=y1;replace y2:_=some (Value.int .i64 (xb:Int)):=y2;replace hnm:(j<2/\(xn:Int)<=lg)\/(j=2/\(xn:Int)=(i:Int)+2/\y.isSome=true):=hnm;have cb2:wr.cell? ⟨b,2,none⟩=some (.int .i64 (lg:Int)):=by
        obtain⟨tb2,hr2,mb2,ns2,_,hs0⟩:=hs30.db;exact(hs0.of (eM ..)).cell 2
       have hii:(j:Int)<N:=by omega
       go_upto_region 23 with fail;have hs31:=hs30.ab 128 #[.int .i64 (xn:Int),.int .i64 (xf:Int),.int .i64 (xb:Int)];have cb3:=((ao.refl No wr).alloc (.cells #[.int .i64 (xn:Int),.int .i64 (xf:Int),.int .i64 (xb:Int)] 128)).cell cb2 id;obtain⟨W7,hW7⟩: ∃ W7,W7=wr.alloc (.cells #[.int .i64 (xn:Int),.int .i64 (xf:Int),.int .i64 (xb:Int)] 128):=⟨_,rfl⟩;rw[<-hW7] at hs31 cb3;rw[<-hW7];obtain⟨bx,hbx⟩: ∃ bx,bx=wr.heap.size:=⟨_,rfl⟩;rw[<-hbx] at hs31;rw[<-hbx];have x0:=hs31.cell 0;have CB3:=ah cb3;have X0:Hid (W7.cell? ⟨bx,0,none⟩=some (.int .i64 (xn:Int))):=x0;have HS31:=ah hs31;have HNx:=ah hnm;clear hs30 hs31 hW7 hbx cb2 cb3 y0 y1 y2 x0 hnm;refine wp_region_held_drew (S:=fun w'=>w'.cell? ⟨bx,0,none⟩=some (.int .i64 (xn:Int))/\w'.cell? ⟨b,2,none⟩=some (.int .i64 (lg:Int))) (by kernel_rfl) ⟨(by exact X0.o),(by exact CB3.o)⟩ ?_;intro hS0;refine an 0 1 2 3 ?_;refine cw 4 5 ?_;refine ca 6 ?_;refine wpAnyH_done (by kernel_rfl) ?_ _;have X2:W7.drew.cell? ⟨bx,0,none⟩=some (.int .i64 (xn:Int)):=X0.o;have hs35:=HS31.o.new (ao.refl No W7).drew;obtain⟨W9,hW9⟩: ∃ W9,W9=W7.drew:=⟨_,rfl⟩;rw[<-hW9] at hs35 X2;rw[<-hW9];have HX2:=ah X2;have HS32:=ah hs35;clear hW9 hs35 HS31 X0 CB3 X2;rcases HNx.o with ⟨hj2,hle⟩ | ⟨hj2,hxn,hy⟩
       .have h1:¬ (lg:Int)<xn:=by omega
        clear hle;go_wp2_with fail;go_roundw
        .exact⟨j+1,by omega,by push_cast;rfl,.inl ⟨by omega,HS32.o.right⟩⟩
        .simp[intOf];omega
       .have hlgi:=HLg.o;have h1:(lg:Int)<(i:Int)+2:=by omega
        have hlgi2:=ah hlgi;clear hlgi;have x0':W9.cell? ⟨bx,0,none⟩=some (.int .i64 ((i:Int)+2)):=by rw[<-hxn];exact HX2.o
        have hs33:=HS32.o.right.ab 3 #[.int .i64 ((i:Int)+2)];have HS33:Hid (Sat w0 (Pt W9.heap.size 3 #[.int .i64 ((i:Int)+2)]*(ag s d S*(af d D*(dG b d s ⟨lg,L,(cM E).toNat+bs.length,fun _=>none,0,1⟩*(Row 128 3 (.slice (some ⟨lb,lo2,none⟩) N lc) N (ls.flatMap dr)*F))))) (W9.alloc (.cells #[.int .i64 ((i:Int)+2)] 3))):=hs33.of (by ac_rfl);clear hs33;rw[hxn];by_cases h0:rv=0
        .subst h0;go_upto_region 25 with (go_at_call 55;(with_reducible refine(HSwB.o _ _ _ _ HS33.o).mono ?_);rintro e w15 ⟨rfl,hs34⟩;have HS34:=ah hs34;clear hs34)
         go_wp2_with fail;go_roundw
         .exact⟨3,by omega,by first | rfl | (rw[hj2];rfl),.inr ⟨rfl,by first | rfl | trivial,hy,(HS34.o.of (show _=Pt W9.heap.size 3 #[.int .i64 ((i:Int)+2)]*(dG b d s ⟨lg,L,(cM E).toNat+bs.length,fun _=>none,0,1⟩*(ag s d S2*(af d D2*(Row 128 3 (.slice (some ⟨lb,lo2,none⟩) N lc) N (ls.flatMap dr)*F)))) by ac_rfl)).right⟩⟩
         .simp[intOf];omega
        .have hb0:(rv !=0)=true:=by rw[bne_iff_ne];exact h0
         have H0:=ah h0;clear h0;go_upto_region 25 with (go_at_call 55;(with_reducible refine(HSwB.o _ _ _ _ HS33.o).mono ?_);rintro e w15 ⟨rfl,hs34⟩;have HS34:=ah hs34;clear hs34)
         go_wp2_with fail;go_ret2;unfold Jt;rw[<-HSe.o,HRe.o];refine .inr ⟨hy,H0.o,rfl,?_⟩;exact(HS34.o.of (show _=ag s d S2*(Pt W9.heap.size 3 #[.int .i64 ((i:Int)+2)]*(dG b d s ⟨lg,L,(cM E).toNat+bs.length,fun _=>none,0,1⟩*(Row 128 3 (.slice (some ⟨lb,lo2,none⟩) N lc) N (ls.flatMap dr)*(af d D2*F)))) by ac_rfl)).right.right.right.right
      .have hje:j=N:=by omega
       subst hje;have HD3:=ah HD2.o;clear HD2 hlt;go_wp2_with fail;go_ret2;unfold Jt;rw[<-HSe.o,HRe.o];refine .inl ⟨b,s,L,rfl,HML.o,?_⟩;rcases HD3.o with ⟨h1,h2⟩ | ⟨h1,h2,h3,h4⟩
       .rcases HNl.o with ⟨h5,h6⟩ | ⟨h5,h6⟩
        .refine .inl ⟨h5,?_⟩;rw[<-HLg.o];exact(h2.of (show _=Row 128 3 (.slice LA j lc) j (ls.flatMap dr)*(dG b d s ⟨lg,L,(cM E).toNat+bs.length,fun _=>none,0,1⟩*(ag s d S*(af d D*F))) by ac_rfl)).right
        .omega
       .refine .inr ⟨h3,h2,?_⟩;rw[<-HLg.o];exact(h4.of (show _=Row 128 3 (.slice LA j lc) j (ls.flatMap dr)*(dG b d s ⟨lg,L,(cM E).toNat+bs.length,fun _=>none,0,1⟩*(ag s d S2*(af d D2*F))) by ac_rfl)).right
end
section
variable {w0 w:World} {F:SP}
def Kh (w0:World) (F:SP) (b d s:Nat) (v:Sd) (n t k:Nat) (D:Dk) (M:List Kv) (olds:Int->Option (List Kv)) (x:Ending) (w':World):Prop:=
 (x = .returned (.int .i64 0)/\ ∃ S' D' v',Bq n t (k+1) D' S' v' M olds/\D'.armed<=D.armed/\D'.cells.length=n/\v'.snaps=v.snaps/\v'.next=v.next/\Sat w0 (dG b d s v'*(ag s d S'*(af d D'*F))) w')\/
 (x = .returned (.int .i64 21)/\D.armed≠0/\ ∃ D',D'.off=true/\D'.cells.length=n/\wO n t (k+1) D' [M]/\Sat w0 (af d D'*F) w')
theorem Ih (b d s:Nat) (v:Sd) (n t k:Nat) (D:Dk) (S:aK) (M:List Kv) (olds:Int->Option (List Kv))
 (hst:Bq n t k D S v M olds) (hk:k<=10000) (ht:t<=1024) (ha:D.armed<=9223372036854775807) (h:Sat w0 (dG b d s v*(ag s d S*(af d D*F))) w):
 Calls Tryz.prog 35 #[.pointer (some ⟨b,0,none⟩)] w (Kh w0 F b d s v n t k D M olds):=by
 have hmem:=hst.mem;obtain⟨sf,lim,i,E,bs,⟨slot,turn,lo,fa,fb,LF,y,e1,e2,hd⟩,hlog,hcon,hmap,hlim,hi⟩:=hst.F7;have hy:y=none:=by cases y with | none=>rfl | some z=>cases e2
 subst hy;subst e1;have c7:w.cell? ⟨b,7,none⟩=some (.bool false):=by
  obtain⟨tb,hr,mb,ns,_,hs0⟩:=h.db;exact(hs0.of (eM ..)).cell 7
 have hszM:cI M+400<=aC n*480:=by have:=hcon.siz;rw[hmap] at this;exact this
 have HSw:Hid (Calls Tryz.prog 73 #[.pointer (some ⟨b,0,none⟩)] w fun e w'=> ∃ r:Int,e = .returned (.int .i64 r)/\Hid (zP w0 F b d s v n D lim i E bs (.returned (.int .i64 r)) w')):=by
  refine(AS b d s v n slot turn D lo fa fb LF sf lim i E bs M t (20000*k+100) hd hmem ht hlog hszM (by omega) (by omega) hst.cnt (by omega) ha h).mono ?_;intro e w' hh;rcases hh with ⟨sl,tu,lo',a',b',D',sf',he,hrest⟩ | ⟨S',D',he,hrest⟩
  .exact⟨0,he,.inl ⟨sl,tu,lo',a',b',D',sf',rfl,hrest⟩⟩
  .exact⟨21,he,.inr ⟨S',D',rfl,hrest⟩⟩
 have HSt:=ah hst;have HCon:=ah hcon;have HMap:=ah hmap;have HLim:=ah hlim;have HI:=ah hi;have HSzM:=ah hszM;have HK:=ah hk;have HLog:=ah hlog;have HMem:=ah hmem;clear hst hcon hmap hlim hi hszM hk hlog hmem hd h ha ht e2;go_enter Tryz.func35, Tryz.ntmps35;go_upto_region 4 with (go_at_call 73;(with_reducible refine HSw.o.mono ?_);rintro e w7 ⟨r,rfl,hsw⟩)
 clear HSw c7;rcases hsw.o with ⟨sl,tu,lo2,a2,b2,D2,sf2,hr0,hd2,hc2,ha2,hs2⟩ | ⟨S2,D2,hr0,ha2,ho2,hcr2,hc2,hl2,hs2⟩
 .injection hr0 with hr0
  injection hr0 with _ hr0
  subst hr0;have HS2:=ah hs2;have HD2:=ah hd2;have HC2:=ah hc2;have HA2:=ah ha2;clear hs2 hd2 hc2 ha2 hsw;go_wp2_with fail;go_ret;refine .inl ⟨rfl,_,D2,{ v with log:=v.log+2 },⟨⟨sf2,lim+2,i+2,cR v.L,[],HD2.o.F7,?_,oT.fresh HMem.o HSzM.o,iP HMem.o,?_,?_⟩,HMem.o,HSt.o.snaps,(HC2.o _ HSt.o.cnt).mono (by omega),?_⟩,HA2.o,HD2.o.len,rfl,rfl,HS2.o⟩
  .show v.log+2=i+2+1;have:=HLog.o;omega
  .have:=HLim.o;omega
  .have:=HI.o;omega
  .have h1:=HSt.o.bP;show v.seq<=k+1/\v.bP<=k+1/\v.next<=k+1+1;omega
 .injection hr0 with hr0
  injection hr0 with _ hr0
  subst hr0;have HOf:Hid (Calls Tryz.prog 70 #[.pointer (some ⟨b,0,none⟩)] w7 fun x w'=>x = .returned (.int .i64 21)/\Sat w0 (af d D2*F) w'):=(tV b d s v hs2).mono fun x w' ⟨h1,h2⟩=>⟨h1,h2.right⟩
  have HCr:Hid (wO n t (k+1) D2 [M]):=hcr2.JP (M:=M) (by have:=HLim.o;omega) (by have:=HI.o;omega) (HCon.o.mono (Nat.le_refl _) (by have h1:=HSt.o.bP.1;omega)) ((oT.fresh HMem.o HSzM.o).mono (Nat.le_refl _) (by have h1:=HSt.o.bP.1;omega)) HMap.o (iP HMem.o) ((hc2 _ HSt.o.cnt).mono (by omega)) List.mem_cons_self;have HAr2:=ah ha2;clear hc2 hs2 hcr2 hsw ha2;go_wp2_with (go_at_call 70;(with_reducible refine HOf.o.mono ?_);rintro e w9 ⟨rfl,hs9⟩;have HS11:=ah hs9;clear hs9);go_ret;exact .inr ⟨rfl,HAr2.o,D2,ho2,hl2,HCr.o,HS11.o⟩
end
section
variable {n t k:Nat} {D D':Dk} {S S':aK} {v:Sd} {M:List Kv} {olds:Int->Option (List Kv)} {Ms:List (List Kv)}
theorem cG.up {L:List aq} {q t t':Nat} {M:List Kv} (h:cG L q M t) (ht:t<=t'):cG L q M t':=⟨h.sort,h.each,h.top,Nat.le_trans h.len ht,h.gW,h.tells⟩
theorem Bq.mono (h:Bq n t k D S v M olds) {t' k':Nat} (ht:t<=t') (hk:k<=k'):Bq n t' k' D S v M olds:=by
 obtain⟨sf,lim,i,E,bs,h1,h2,h3,h4,h5,h6⟩:=h.F7;have:=h.bP;exact⟨⟨sf,lim,i,E,bs,h1,h2,h3.mono ht (Nat.le_refl _),h4,by omega,by omega⟩,h.mem.up ht,h.snaps,h.cnt.mono (by omega),by omega⟩
theorem Bq.again (h:Bq n t k D S v M olds) (hk:k<=100000): ∃ S',cJ D=(some S',0)/\Cz n t (k+1) D S' [M]:=by
 obtain⟨sf,lim,i,E,bs,⟨slot,turn,lo,fa,fb,LF,y,e1,e2,hd⟩,hlog,hcon,hmap,hl,hi⟩:=h.F7;obtain⟨S',h1,h2⟩:=hd.again (by omega);exact⟨S',h1,sf,lim+1,i,E,bs,_,h2,hcon.mono (Nat.le_refl _) (by have:=h.bP.1;omega),by rw[hmap];exact List.mem_singleton_self _,by omega,by omega,h.cnt.mono (by omega)⟩
end
section
variable {w0 w:World} {F:SP}
def JV (w0:World) (F:SP) (d n t k:Nat) (D:Dk) (Ms:List (List Kv)) (x:Ending) (w':World):Prop:=
 ∃ M ∈ Ms,(∃ b s S' D' v',x = .returned (.tuple #[.pointer (some ⟨b,0,none⟩),.int .i64 0])/\Bq n t (k+1) D' S' v' M (fun _=>none)/\D'.armed<=D.armed/\v'.snaps=(fun _=>none)/\v'.next=1/\Sat w0 (dG b d s v'*(ag s d S'*(af d D'*F))) w')\/
  (x = .returned (.tuple #[.pointer none,.int .i64 21])/\D.armed≠0/\ ∃ D',D'.off=true/\D'.cells.length=n/\wO n t (k+1) D' [M]/\Sat w0 (af d D'*F) w')
theorem rN {S:aK} {Ms:List (List Kv)} (d n t k:Nat) (D:Dk) (hf:Cz n t k D S Ms) (ho:cJ D=(some S,0)) (ht:t<=1024) (hk:k<=10000) (ha:D.armed<=9223372036854775807) (h:Sat w0 (af d D*F) w):
 Calls Tryz.prog 19 #[.pointer (some ⟨d,0,none⟩)] w (JV w0 F d n t k D Ms):=by
 obtain⟨sf,lim,i,E,bs,x,⟨slot,turn,lo,fa,fb,LF,y,e1,e2,hd⟩,hcon,hmap,hl,hi,hc⟩:=hf;subst e1;refine(GB d n t k D slot turn lo fa fb LF y sf lim i E bs ho hd hcon ht hk hl hi hc ha h).mono ?_;intro e w' hh;have hq0:(((cM E).toNat:Nat):Int)=cM E:=by have:=(mR E 0).1;unfold cM;omega
 have hcon2:oT n t ((cM E).toNat+bs.length) E bs:=⟨hcon.uL,hcon.bats,hcon.bP,hcon.siz,fun x hx=>by
  have h1:x.seq<=cM E:=(mR E 0).2 x hx;omega,by omega⟩
 have hqk:(cM E).toNat+bs.length<=k:=by
  have h2:=hcon.bl;have h1:cM E<=((k - bs.length:Nat):Int):=tF E 0 (by omega) (fun x hx=>by have:=hcon.seqs x hx;omega);omega
 have hst: ∀ (L:List aq) (D':Dk) (S':aK) (sf':Nat->Nat) (lim':Nat),cG L ((cM E).toNat+bs.length) (iC E bs) t->EL n D' S' sf' lim' i E bs bs.length false->lim'<=4*(k+1)+8->dq D' (20000*(k+1)+100)->Bq n t (k+1) D' S' ⟨i+1,L,(cM E).toNat+bs.length,fun _=>none,0,1⟩ (iC E bs) (fun _=>none):=fun L D' S' sf' lim' hm hdk hl' hc'=>
  ⟨⟨sf',lim',i,E,bs,hdk,rfl,hcon2,rfl,hl',by omega⟩,hm,fun j=> .inl ⟨rfl,rfl⟩,hc',by show (cM E).toNat+bs.length<=k+1/\0<=k+1/\1<=k+1+1;omega⟩
 rcases hh with ⟨b,s,L,rfl,hm,hcase⟩ | ⟨hy,hr,rfl,hs⟩
 .refine⟨_,hmap,.inl ?_⟩;rcases hcase with ⟨hy,hs⟩ | ⟨hy,hr,hs⟩
  .have hyn:y=none:=by cases y with | none=>rfl | some z=>cases hy
   subst hyn;exact⟨b,s,_,D,_,rfl,hst L D _ sf lim hm hd.F7 (by omega) (hc.mono (by omega)),Nat.le_refl _,rfl,rfl,hs⟩
  .obtain⟨z,hz⟩: ∃ z,y=some z:=by cases y with | none=>cases hy | some z=>exact⟨z,rfl⟩
   subst hz;have hb:=hd.back (by omega)
   cases hb with
   | ok D1 sf1 e1 h1 c1 r1=>
    rw[e1] at hs;exact⟨b,s,_,D1,_,rfl,hst L D1 _ sf1 (lim+1) hm h1.F7 (by omega) ((c1 _ hc).mono (by omega)),r1,rfl,rfl,hs⟩
   | off ha1 S1 D1 e1 o1 h1 c1 l1=>rw[e1] at hr;exact absurd hr (show ¬ ((21:Int)=0) by decide)
 .obtain⟨z,hz⟩: ∃ z,y=some z:=by cases y with | none=>cases hy | some z=>exact⟨z,rfl⟩
  subst hz;have hb:=hd.back (by omega)
  cases hb with
  | ok D1 sf1 e1 h1 c1 r1=>rw[e1] at hr;exact absurd rfl hr
  | off ha1 S1 D1 e1 o1 h1 c1 l1=>
   rw[e1] at hs ⊢;refine⟨_,hmap,.inr ⟨rfl,ha1,D1,o1,l1,?_,hs⟩⟩;refine h1.JP (by omega) (by omega) (fun m h2 h3=>?_) (fun m h2 h3=>?_) ((c1 _ hc).mono (by omega))
   .rw[List.take_of_length_le (by omega)];exact hcon.mono (Nat.le_refl _) (by omega)
   .rw[List.take_of_length_le (by omega)];exact List.mem_singleton_self _
theorem wL (d n k m slot turn lim:Nat) (D D1:Dk) (sf:Nat->Nat) (hn:64<=n/\n<=65536) (ho:D.off=false) (hl:D.cells.length=n) (hf:fz D=(D1,0)) (hg:Good D1 ⟨slot,turn,[]⟩ sf lim) (hl1:D1.cells.length=n) (ha:D1.armed=0) (haD:D.armed<=9223372036854775807) (hcD:dq D m) (hc:dq D1 m) (hm:m+2<=20000*k+100) (hk:k<=10000) (hlim:lim+3<=4*k+8)
 (h:Sat w0 (af d D*F) w):
 Calls Tryz.prog 18 #[.pointer (some ⟨d,0,none⟩)] w fun x w'=>x = .returned (.int .i64 0)/\ ∃ D' S',cJ D'=(some S',0)/\Cz n 0 k D' S' [[]]/\D'.armed=0/\Sat w0 (af d D'*F) w':=by
 refine(CH d n m slot turn lim D D1 sf hn ho hl hf hg hl1 ha haD hcD hc (by omega) (by omega) h).mono ?_;rintro x w' ⟨rfl,D',sl,tu,lo,a,b,sf',h1,h2,h3,h4⟩;obtain⟨S',h5,h6⟩:=iI.again (bs:=[]) h1 (by omega);refine⟨rfl,D',S',h5,⟨sf',lim+2+1,2,[],[],_,h6,⟨GG,(fun c hc=>by cases hc),by simp,?_,(fun x hx=>by cases hx),Nat.zero_le _⟩,List.mem_singleton_self _,by omega,by omega,h2.mono (by omega)⟩,h3,h4⟩;show 0+400<=aC n*480;have:=(jA hn.2).1;omega
end
end Go.Proofs.YtmbaiglpgaoogaaGreat
