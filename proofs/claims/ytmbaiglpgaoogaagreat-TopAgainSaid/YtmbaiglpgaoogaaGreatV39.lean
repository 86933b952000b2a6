/- Joined, as they were built one by one: Sto19. -/
import Derived.Test.YtmbaiglpgaoogaaGreatV18
import Derived.Test.YtmbaiglpgaoogaaGreatV28
import Derived.Test.YtmbaiglpgaoogaaGreatV34
import Derived.Test.YtmbaiglpgaoogaaGreatV37
import Derived.Test.YtmbaiglpgaoogaaGreatV38
set_option maxHeartbeats 16000000
namespace Go.Proofs.YtmbaiglpgaoogaaGreat
open Go.RowKit
set_option linter.unusedVariables false
set_option maxRecDepth 100000
section
variable {w0 w:World} {F:SP}
theorem db_shut {b d s:Nat} {v:Sd} {tb hr mb:Nat} {ns:List Nd} {X Y R F:SP} (ht:TabG ns v.L.length) (he:entsN ns=v.L) (h:Sat w0 (X*(Y*(Pt b 113 (dbC d s v.log tb v.seq mb v.next false)*(R*(SkipT tb hr ns*(MapP Tryz.prog 3 mb v.few (snV v.snaps)*F)))))) w):
  Sat w0 (DbP b d s v*(X*(Y*(R*F)))) w:=by
 refine Sat.dbI (v:=v) (tb:=tb) (hr:=hr) (mb:=mb) (ns:=ns) ht he ?_;rw[db_d];exact h.of (by ac_rfl)
theorem Sat.sync_of {d s n k slot turn lim i safe:Nat} {D:Dk} {lo:Bool} {fa fb:Nat × Nat} {LF:List (List UInt8)} {sf:Nat->Nat} {E:List Ent} {bs:List (List Chn)} {G:SP} {W:World} (h:Sat w0 (SpaceP s d (stS slot turn n i lo fa fb (cutsB (packB E)) LF none)*(Disk d D*G)) W)
  (hd:Dsx n D slot turn lo fa fb LF none sf lim i E bs safe) (hc:Cnt D k) (hk:k<=1000000000):
  Hid (Calls Tryz.prog 56 #[.pointer (some ⟨s,0,none⟩)] W fun e w'=>e = .returned (.int .i64 0)/\Sat w0 (SpaceP s d (stS slot turn n i lo fa fb (cutsB (packB E)) LF none)*(Disk d D.flush.1*G)) w'):=by
 have h9:=sync_sp h (by have:=hc.pend;omega);rw[hd.sync.1] at h9;exact h9
theorem done_of {b d s t k lg lx sq few nx:Nat} {L:List Ent} {sn:Int->Option Nat} {M:List Kv} {P R H:SP} {A:Option Addr} {c:Nat} {ps:List Pu} {cs:List Chn} (hsh: ∀ (S':Spc) (D':Dk) W,Sat w0 (SpaceP s d S'*(Disk d D'*(P*H))) W->Sat w0 (DbP b d s ⟨lg,L,sq,sn,few,nx⟩*(SpaceP s d S'*(Disk d D'*(R*F)))) W) (hl:lg=lx)
  (hb: ∀ W,Sat w0 F W->RdV W A (ps.flatMap puC)/\PusR W ps) (hok: ∀ p ∈ ps,ChgOk p.chn) (hm:MemIs L sq M t) (hf:sq<=k/\few<=k/\nx<=k+1) (ht:t+ps.length<=1024) (hk:k<=10000) (hcs:cs=ps.map Pu.chn) (S':Spc) (D':Dk):
  Hid (∀ W,Sat w0 (SpaceP s d S'*(Disk d D'*(P*H))) W->Calls Tryz.prog 65 #[.pointer (some ⟨b,0,none⟩),.slice A ps.length c] W fun x w'=>x = .returned (.tuple #[])/\ ∃ qs,PtsOf sn few qs/\Sat w0 (DbP b d s ⟨lx,tidyE qs (doneE sq cs L),sq+1,sn,few,nx⟩*(SpaceP s d S'*(Disk d D'*F))) w'):=fun W hW=>by
 subst hl;have h9:=ddone_any b d s ⟨lg,L,sq,sn,few,nx⟩ A c ps (hsh S' D' W hW) (fun W' hW'=>hb W' hW'.right.right.right) hok (by omega) (by have:=hm.len;show L.length<=_;omega) (fun x hx=>⟨((hm.each x hx).seq).1,hm.top x hx⟩) (by show sq+1<=_;omega) (by show few<=_;omega);refine h9.mono fun x w' h=>?_
 obtain⟨h1,qs,h2,h3⟩:=h;refine⟨h1,qs,h2,?_⟩;rw[hcs];exact h3.up4.right
def WriteT (w0:World) (F:SP) (b d s:Nat) (v:Sd) (n t k:Nat) (D:Dk) (S:Spc) (M:List Kv) (olds:Int->Option (List Kv)) (cs:List Chn) (x:Ending) (w':World):Prop:=
 (chkB cs≠0/\x = .returned (.int .i64 (chkB cs:Nat))/\Sat w0 (DbP b d s v*(SpaceP s d S*(Disk d D*F))) w')\/
 (chkB cs=0/\fullB n (putsM cs M) cs=true/\x = .returned (.int .i64 103)/\Sat w0 (DbP b d s v*(SpaceP s d S*(Disk d D*F))) w')\/
 (chkB cs=0/\fullB n (putsM cs M) cs=false/\x = .returned (.int .i64 0)/\ ∃ S' D' v',StI n (t+cs.length) (k+1) D' S' v' (putsM cs M) olds/\D'.armed<=D.armed/\D'.cells.length=n/\v'.snaps=v.snaps/\v'.next=v.next/\Sat w0 (DbP b d s v'*(SpaceP s d S'*(Disk d D'*F))) w')\/
 (chkB cs=0/\fullB n (putsM cs M) cs=false/\x = .returned (.int .i64 21)/\D.armed≠0/\ ∃ D',D'.off=true/\D'.cells.length=n/\CrsI n (t+cs.length) (k+1) D' [M,putsM cs M]/\Sat w0 (Disk d D'*F) w')
theorem write_st (b d s:Nat) (v:Sd) (n t k:Nat) (D:Dk) (S:Spc) (M:List Kv) (olds:Int->Option (List Kv)) (A:Option Addr) (c:Nat) (ps:List Pu)
  (hst:StI n t k D S v M olds) (hk:k<=10000) (ht:t+ps.length<=1024) (ha:D.armed<=9223372036854775807) (h:Sat w0 (DbP b d s v*(SpaceP s d S*(Disk d D*F))) w)
  (hb: ∀ W,Sat w0 F W->RdV W A (ps.flatMap puC)/\PusR W ps) (hz: ∀ p ∈ ps,p.key.2.2.length<=1000000000/\p.value.2.2.length<=1000000000):
  Calls Tryz.prog 20 #[.pointer (some ⟨b,0,none⟩),.slice A ps.length c] w (WriteT w0 F b d s v n t k D S M olds (ps.map Pu.chn)):=by
 obtain⟨cs,hcs⟩: ∃ cs,cs=ps.map Pu.chn:=⟨_,rfl⟩;have hcl:cs.length=ps.length:=by rw[hcs,List.length_map]
 have hchk:=fun W (k:Chg No w W)=>check_any A c ps W ((hb w h.right.right.right).1.new k) (by omega) hz
 rw[<-hcs] at hchk;have HStI:=ah hst;have HT:=ah ht;have HCl:=ah hcl;have HK:=ah hk;have HAr:=ah ha;have HB:Hid (∀ W,Sat w0 F W->RdV W A (ps.flatMap puC)/\PusR W ps):=hb;have HS:=ah h;have HCs:=ah hcs;have c7:w.cell? ⟨b,7,none⟩=some (.bool false):=by
  obtain⟨tb,hr,mb,ns,_,hs0⟩:=h.db;exact(hs0.of (db_d ..)).cell 7
 rw[<-hcs];have HC7:=ah c7;clear hst hk ht ha hz hb h hcs hcl c7;by_cases hq:chkB cs≠0
 .obtain⟨z,hz⟩: ∃ z,z=chkB cs:=⟨_,rfl⟩;have hz0:((z:Int) !=0)=true:=by rw[bne_iff_ne];omega
  rw[<-hz] at hchk;have HChk:=ah hchk;have HZ:=ah hz;have HQ:=ah hq;clear hchk hz hq;go_enter Tryz.func20, Tryz.ntmps20;go_wp2_with (go_at_call 68;(with_reducible refine(HChk.o _ (Chg.refl No _)).mono ?_);rintro e w1 ⟨rfl,k1⟩;have HS1:=ah (HS.o.new k1);clear k1);go_ret;refine .inl ⟨HQ.o,by rw[<-HZ.o];rfl,HS1.o⟩
 have hq0:chkB cs=0:=Classical.not_not.1 hq;have hbat:BatOk cs:=chk_zero.1 hq0;have hokp: ∀ p ∈ ps,ChgOk p.chn:=fun p hp=>hbat.each _ (by rw[HCs.o];exact List.mem_map_of_mem hp)
 have hmem:=HStI.o.mem;have hmsz:=mem_sizes hmem;obtain⟨sf,lim,i,E,bs,⟨slot,turn,lo,fa,fb,LF,y,e1,e2,hd⟩,hlog,hcon,hmap,hlim,hi⟩:=HStI.o.dsk;have hy:y=none:=by cases y with | none=>rfl | some z=>cases e2
 subst hy;have hfull: ∀ W,Sat w0 (DbP b d s v*(Disk d D*(SpaceP s d S*F))) W->Calls Tryz.prog 69 #[.pointer (some ⟨b,0,none⟩),.slice A ps.length c] W fun x w'=>x = .returned (.bool (fullB n (putsM cs M) cs))/\Sat w0 (DbP b d s v*(SpaceP s d S*(Disk d D*F))) w':=fun W hW=>by
  have h9:=full_st n b d s v A c ps D M hW ⟨hd.big,hd.most⟩ hd.len (fun W' hW'=>HB.o W' hW'.right) hokp (by have:=HT.o;omega) (by have:=hmem.len;have:=HT.o;omega) hmem.view hmem.pairs hmsz;rw[<-HCs.o] at h9;exact h9.mono fun x w' ⟨h1,h2⟩=>⟨h1,h2.of (by ac_rfl)⟩
 rw[hq0] at hchk;have HChk:=ah hchk;have HQ:=ah hq0;have HMem:=ah hmem;clear hchk hq hmsz;by_cases hfu:fullB n (putsM cs M) cs=true
 .rw[hfu] at hfull;have HFull:=ah hfull;have HFu:=ah hfu;clear hfull hfu hbat hokp hmem e1 e2 hd hlog hcon hmap hlim hi hq0;go_enter Tryz.func20, Tryz.ntmps20;go_wp2_with (first
   | (go_at_call 68;(with_reducible refine(HChk.o _ (Chg.refl No _)).mono ?_);rintro e w1 ⟨rfl,k1⟩;have HS1:=ah ((HS.o.new k1).of (show _=DbP b d s v*(Disk d D*(SpaceP s d S*F)) by ac_rfl));have c7:=k1.cell HC7.o id;clear k1)
   | (go_at_call 69;(with_reducible refine(HFull.o _ HS1.o).mono ?_);rintro e w2 ⟨rfl,hs2⟩;have HS2:=ah hs2;clear hs2))
  go_ret;refine .inr (.inl ⟨HQ.o,HFu.o,rfl,HS2.o⟩)
 have hfu0:fullB n (putsM cs M) cs=false:=by simpa using hfu
 rw[hfu0] at hfull;have hsz:sizM (putsM cs M)+400<=imgN n*480/\needN (laiB cs).length<=logN n:=by
  unfold fullB at hfu0;rw[Bool.or_eq_false_iff,decide_eq_false_iff_not,decide_eq_false_iff_not] at hfu0;omega
 have hpo:PutOk n t k v M olds cs:=⟨hmem,HStI.o.snaps,HStI.o.few,by have:=HK.o;omega,hbat,hsz.1,hsz.2⟩;subst e1;obtain⟨lg,L,sq,sn,few,nx⟩:=v;dsimp only at hlog hcon;have hszM:sizM M+400<=imgN n*480:=by have:=hcon.siz;rw[hmap] at this;exact this
 have hlai: ∀ W (G:SP),Sat w0 (G*F) W->Calls Tryz.prog 71 #[.slice A ps.length c] W fun x w'=> ∃ B bc,x = .returned (.slice B (laiB cs).length bc)/\(laiB cs).length<=bc/\bc<=maxLen/\Sat w0 (Row 5 1 (.slice B (laiB cs).length bc) (laiB cs).length ((laiB cs).map bv)*(G*F)) w':=fun W G hW=>by
  have h9:=laid_any A c ps W (HB.o W hW.right).1 (HB.o W hW.right).2 (fun p hp=>⟨(hokp p hp).key.2,(hokp p hp).val⟩) (by have:=HT.o;omega);rw[<-HCs.o] at h9;refine h9.mono ?_;rintro x w' ⟨B,bc,rfl,hs'⟩;have h8:=(hW.join hs' (owned_star (owned_row _ _ _ _ _) owned_emp)).of (show _=Row 5 1 (.slice B (laiB cs).length bc) (laiB cs).length ((laiB cs).map bv)*(G*F) by rw[star_comm _ Emp,emp_star]);obtain⟨A',c',hsl,hc1,hc2⟩:=h8.row_sl;injection hsl with e1 e2 e3
  subst e3;exact⟨B,bc,rfl,hc1,hc2,h8⟩
 obtain⟨bl,hbl⟩: ∃ bl,bl=(laiB cs).length:=⟨_,rfl⟩;rw[<-hbl] at hlai;have hbl2:bl<=262144:=by rw[hbl];exact laiB_le hbat
 have hoff: ∀ W (G:SP),Sat w0 (Disk d D*G) W->Calls Tryz.prog 40 #[.pointer (some ⟨d,0,none⟩)] W fun e w'=>e = .returned (.bool false)/\W=w':=fun W G hW=>by
  have h9:=off_any d D w0 W G hW;rw[hd.good.fils.off] at h9;exact h9
 have HOff:=ah hoff;have HBl:=ah hbl;have HLai:=ah hlai;have HFull:=ah hfull;have HFu:=ah hfu0;have HPo:=ah hpo;have HDs:=ah hd;have HLog:=ah hlog;have HCon:=ah hcon;have HMap:=ah hmap;have HLim:=ah hlim;have HI:=ah hi;have HSzM:=ah hszM;have HOkp:=ah hokp;have HBat:=ah hbat;clear hoff hlai hfull hfu0 hfu hpo hd hlog hcon hmap hlim hi hszM hsz hbl hmem hbat hokp hq0 e2;go_enter Tryz.func20, Tryz.ntmps20;go_upto_region 6 with (go_at_call 68;(with_reducible refine(HChk.o _ (Chg.refl No _)).mono ?_);rintro e w1 ⟨rfl,k1⟩;have HS1:=ah ((HS.o.new k1).of (show _=DbP b d s ⟨lg,L,sq,sn,few,nx⟩*(Disk d D*(SpaceP s d (stS slot turn n i lo fa fb (cutsB (packB E)) LF none)*F)) by ac_rfl));have c7:=k1.cell HC7.o id;clear k1)
 go_upto_region 11 with (first
  | (go_at_call 69;(with_reducible refine(HFull.o _ HS1.o).mono ?_);rintro e w2 ⟨rfl,hs2⟩;obtain⟨tb,hr,mb,ns,hti,hs3⟩:=hs2.db;have HTi:Hid (TabG ns L.length/\entsN ns=L):=hti;have HS3:Hid (Sat w0 (Pt b 113 (dbC d s lg tb sq mb nx false)*(SkipT tb hr ns*(MapP Tryz.prog 3 mb few (snV sn)*(SpaceP s d (stS slot turn n i lo fa fb (cutsB (packB E)) LF none)*(Disk d D*F))))) w2):=hs3.of (db_d ..);have c0:w2.cell? ⟨b,0,none⟩=some (.pointer (some ⟨d,0,none⟩)):=HS3.o.cell 0;clear hs2 hti hs3)
  | (go_at_call 40;(with_reducible refine(HOff.o _ _ HS3.o.up5).mono ?_);rintro e w3 ⟨rfl,rfl⟩)
  | (go_at_call 71;(with_reducible refine(HLai.o _ (Pt b 113 (dbC d s lg tb sq mb nx false)*(SkipT tb hr ns*(MapP Tryz.prog 3 mb few (snV sn)*(SpaceP s d (stS slot turn n i lo fa fb (cutsB (packB E)) LF none)*Disk d D)))) (HS3.o.of (by ac_rfl))).mono ?_);rintro e w5 ⟨B,bc,rfl,hb1,hb2,hs5⟩;have HS5:Hid (Sat w0 (Pt b 113 (dbC d s lg tb sq mb nx false)*(SpaceP s d (stS slot turn n i lo fa fb (cutsB (packB E)) LF none)*(Disk d D*(Row 5 1 (.slice B bl bc) bl ((laiB cs).map bv)*(SkipT tb hr ns*(MapP Tryz.prog 3 mb few (snV sn)*F)))))) w5):=hs5.of (by ac_rfl);have HB1:=ah hb1;have HB2:=ah hb2;clear hs5 hb1 hb2))
 clear HS1 HS3 HFull HLai HOff HChk HC7 c7 c0 HS;obtain⟨H,hH⟩: ∃ H,H=Row 5 1 (.slice B bl bc) bl ((laiB cs).map bv)*(SkipT tb hr ns*(MapP Tryz.prog 3 mb few (snV sn)*F)):=⟨_,rfl⟩;rw[<-hH] at HS5;have hrb: ∀ W,Sat w0 H W->Rd W B (laiB cs):=fun W hW=>by rw[hH] at hW;exact hW.row_rdK
 have HHe:=ah hH;have HRb:=ah hrb;have hshut: ∀ (lgx:Nat) (S':Spc) (D':Dk) W,Sat w0 (SpaceP s d S'*(Disk d D'*(Pt b 113 (dbC d s (lgx:Nat) tb sq mb nx false)*H))) W->Sat w0 (DbP b d s ⟨lgx,L,sq,sn,few,nx⟩*(SpaceP s d S'*(Disk d D'*(Row 5 1 (.slice B bl bc) bl ((laiB cs).map bv)*F)))) W:=fun lgx S' D' W hW=>by
  rw[hH] at hW;exact db_shut (v:=⟨lgx,L,sq,sn,few,nx⟩) HTi.o.1 HTi.o.2 hW
 have HShut:=ah hshut;clear hH hrb hshut;have hw1:=HStI.o.cnt;have hap: ∀ W,Sat w0 (Pt b 113 (dbC d s lg tb sq mb nx false)*(SpaceP s d (stS slot turn n i lo fa fb (cutsB (packB E)) LF none)*(Disk d D*H))) W->Calls Tryz.prog 72 #[.pointer (some ⟨s,0,none⟩),.int .i64 (lg:Int),.slice B bl bc] W fun e w'=>e = .returned (.int .i64 (((stS slot turn n i lo fa fb (cutsB (packB E)) LF none)).wapp ((i:Int)+1) (laiB cs) D).2.2)/\Sat w0 (SpaceP s d (((stS slot turn n i lo fa fb (cutsB (packB E)) LF none)).wapp ((i:Int)+1) (laiB cs) D).1*(Disk d (((stS slot turn n i lo fa fb (cutsB (packB E)) LF none)).wapp ((i:Int)+1) (laiB cs) D).2.1*(Pt b 113 (dbC d s lg tb sq mb nx false)*H))) w':=fun W hW=>by
  have h9:=wapp_sp (w0:=w0) (w:=W) (F:=Pt b 113 (dbC d s lg tb sq mb nx false)*H) ((i:Int)+1) B bc (b:=laiB cs) HDs.o.good hw1 (by have:=HK.o;omega) HAr.o (hW.of (by ac_rfl)) (fun W' hW'=>HRb.o W' hW'.right) (by rw[<-HBl.o];exact HB1.o) (by have:=HB2.o;unfold maxLen at this;omega);rw[<-HBl.o] at h9;rw[show (lg:Int)=(i:Int)+1 by have:=HLog.o;omega];rw[show (lg:Int)=(i:Int)+1 by have:=HLog.o;omega] at h9;exact h9
 have hpr:=HDs.o.put (cs:=cs) (by have:=HLim.o;have:=HK.o;omega) HBat.o;have C1:Hid (w5.cell? ⟨b,1,none⟩=some (.pointer (some ⟨s,0,none⟩))):=HS5.o.cell 1;have C2:Hid (w5.cell? ⟨b,2,none⟩=some (.int .i64 (lg:Int))):=HS5.o.cell 2
 cases hpr with
 | ok D1 e1 h1 cn1 ar1=>
  rw[e1] at hap;dsimp only at hap;have HAp:=ah hap;have HD1:=ah h1;have HCn1:=ah ((cn1 _ hw1).mono (show 20000*k+100+548<=20000*(k+1)+100 by omega));have HAr1:=ah ar1;clear hap h1 cn1 ar1 hw1;refine wp_region_held_drew (S:=fun w'=>w'.cell? ⟨b,1,none⟩=some (.pointer (some ⟨s,0,none⟩))/\w'.cell? ⟨b,2,none⟩=some (.int .i64 (lg:Int))) (by kernel_rfl) ⟨(by exact C1.o),(by exact C2.o)⟩ ?_;intro hS0;refine rtk 0 ?_;refine rtk 1 ?_;refine rtk 2 ?_;refine rtk 3 ?_;refine rtk 4 ?_;refine rtk 5 ?_;refine rtk 6 ?_;refine rtk 7 ?_;refine rtk 8 ?_;refine rck 9 fun K hK=>?_
  go_simp;go_at_call 72;(with_reducible refine(HAp.o _ (HS5.o.new (Chg.refl No _).drew)).mono ?_);rintro e w6 ⟨rfl,hs6⟩;have HS6:=ah hs6;clear hs6
  refine hK.out _ _ ⟨HS6.o.up3.cell 1,HS6.o.up3.cell 2⟩ (fun hS0=>?_);clear hK K;refine rtk 10 ?_;refine wpAnyH_done (by kernel_rfl) ?_ _;have c1:w6.cell? ⟨b,1,none⟩=some (.pointer (some ⟨s,0,none⟩)):=HS6.o.up3.cell 1;have HSy:=HS6.o.sync_of HD1.o HCn1.o (by have:=HK.o;omega);have HDn:=done_of (HShut.o lg) HLog.o HB.o HOkp.o HMem.o HStI.o.few (by have:=HT.o;omega) (by have:=HK.o;omega) HCs.o (stS slot turn n i lo fa fb (cutsB (packB E)) (LF++split (laiB cs)) none) D1.flush.1 (A:=A) (c:=c);go_wp2_with (first
   | (go_at_call 56;(with_reducible refine HSy.o.mono ?_);rintro e w7 ⟨rfl,hs7⟩;have HS7:=ah hs7;clear hs7)
   | (go_at_call 65;(with_reducible refine(HDn.o _ HS7.o).mono ?_);rintro e w8 ⟨rfl,hs8⟩;have HS8:=ah hs8;clear hs8))
  go_ret;obtain⟨qs,hqs,hs9⟩:=HS8.o;refine .inr (.inr (.inl ⟨HQ.o,HFu.o,rfl,_,_,_,put_sti HPo.o HD1.o HCon.o HMap.o (by have:=HLim.o;omega) (by have:=HI.o;omega) HCn1.o hqs,by rw[flush_armed HD1.o.good.fils.off];exact HAr1.o,HD1.o.sync.2.len,rfl,rfl,hs9⟩))
 | off ha1 S1 D1 e1 o1 h1 cn1 l1=>
  rw[e1] at hap;dsimp only at hap;have HAp:=ah hap;have HCr:=ah h1;have HCn1:=ah ((cn1 _ hw1).mono (show 20000*k+100+548<=20000*(k+1)+100 by omega));have HAr1:=ah ha1;clear hap h1 cn1 ha1 hw1;refine wp_region_held_drew (S:=fun w'=>w'.cell? ⟨b,1,none⟩=some (.pointer (some ⟨s,0,none⟩))/\w'.cell? ⟨b,2,none⟩=some (.int .i64 (lg:Int))) (by kernel_rfl) ⟨(by exact C1.o),(by exact C2.o)⟩ ?_;intro hS0;refine rtk 0 ?_;refine rtk 1 ?_;refine rtk 2 ?_;refine rtk 3 ?_;refine rtk 4 ?_;refine rtk 5 ?_;refine rtk 6 ?_;refine rtk 7 ?_;refine rtk 8 ?_;refine rck 9 fun K hK=>?_
  go_simp;go_at_call 72;(with_reducible refine(HAp.o _ (HS5.o.new (Chg.refl No _).drew)).mono ?_);rintro e w6 ⟨rfl,hs6⟩;have HS6:=ah hs6;clear hs6
  refine hK.out _ _ ⟨HS6.o.up3.cell 1,HS6.o.up3.cell 2⟩ (fun hS0=>?_);clear hK K;refine rtk 10 ?_;refine wpAnyH_done (by kernel_rfl) ?_ _;have HOf:Hid (Calls Tryz.prog 70 #[.pointer (some ⟨b,0,none⟩)] w6 fun x w'=>x = .returned (.int .i64 21)/\Sat w0 (Disk d D1*F) w'):=(off_st b d s ⟨lg,L,sq,sn,few,nx⟩ (HShut.o lg S1 D1 w6 HS6.o)).mono fun x w' ⟨h1,h2⟩=>⟨h1,h2.right.drop2⟩
  go_wp2_with (go_at_call 70;(with_reducible refine HOf.o.mono ?_);rintro e w7 ⟨rfl,hs7⟩;have HS7:=ah hs7;clear hs7);go_ret;refine .inr (.inr (.inr ⟨HQ.o,HFu.o,rfl,HAr1.o,D1,o1,l1,put_crs HPo.o HCr.o HCon.o HMap.o HSzM.o (by have:=HLim.o;omega) (by have:=HI.o;omega) HCn1.o,HS7.o⟩))
 | no hro e1=>
  rw[e1] at hap;dsimp only at hap;have HAp:=ah hap;have HCn0:=ah hw1;clear hap hw1;refine wp_region_held_drew (S:=fun w'=>w'.cell? ⟨b,1,none⟩=some (.pointer (some ⟨s,0,none⟩))/\w'.cell? ⟨b,2,none⟩=some (.int .i64 (lg:Int))) (by kernel_rfl) ⟨(by exact C1.o),(by exact C2.o)⟩ ?_;intro hS0;refine rtk 0 ?_;refine rtk 1 ?_;refine rtk 2 ?_;refine rtk 3 ?_;refine rtk 4 ?_;refine rtk 5 ?_;refine rtk 6 ?_;refine rtk 7 ?_;refine rtk 8 ?_;refine rck 9 fun K hK=>?_
  go_simp;go_at_call 72;(with_reducible refine(HAp.o _ (HS5.o.new (Chg.refl No _).drew)).mono ?_);rintro e w6 ⟨rfl,hs6⟩;have HS6:=ah hs6;clear hs6
  refine hK.out _ _ ⟨HS6.o.up3.cell 1,HS6.o.up3.cell 2⟩ (fun hS0=>?_);clear hK K;refine rtk 10 ?_;refine wpAnyH_done (by kernel_rfl) ?_ _;have HSw:Hid (Calls Tryz.prog 73 #[.pointer (some ⟨b,0,none⟩)] w6 fun e w'=> ∃ r:Int,e = .returned (.int .i64 r)/\Hid (SwapT w0 (Row 5 1 (.slice B bl bc) bl ((laiB cs).map bv)*F) b d s ⟨lg,L,sq,sn,few,nx⟩ n D lim i E bs (.returned (.int .i64 r)) w')):=by
   refine(swap_st b d s ⟨lg,L,sq,sn,few,nx⟩ n slot turn D lo fa fb LF sf lim i E bs M t (20000*k+100) HDs.o HMem.o (by have:=HT.o;omega) HLog.o HSzM.o (by have:=HLim.o;have:=HK.o;omega) (by have:=HI.o;have:=HK.o;omega) HCn0.o (by have:=HK.o;omega) HAr.o (HShut.o lg _ _ _ HS6.o)).mono ?_;intro e w' hh;rcases hh with ⟨sl,tu,lo',a',b',D',sf',he,hrest⟩ | ⟨S',D',he,hrest⟩
   .exact⟨0,he,.inl ⟨sl,tu,lo',a',b',D',sf',rfl,hrest⟩⟩
   .exact⟨21,he,.inr ⟨S',D',rfl,hrest⟩⟩
  go_upto_region 14 with (go_at_call 73;(with_reducible refine HSw.o.mono ?_);rintro e w7 ⟨r,rfl,hsw⟩)
  clear HSw HS6 HAp;rcases hsw.o with ⟨sl,tu,lo2,a2,b2,D2,sf2,hr0,hd2,hc2,ha2,hs2⟩ | ⟨S2,D2,hr0,ha2,ho2,hcr2,hc2,hl2,hs2⟩
  .injection hr0 with hr0
   injection hr0 with _ hr0
   subst hr0;obtain⟨l2,hl2⟩: ∃ l2,l2=lg+2:=⟨_,rfl⟩;obtain⟨tb2,hr2,mb2,ns2,hti2,hs3⟩:=hs2.db;have hti3:TabG ns2 L.length/\entsN ns2=L:=hti2;have hs4:=hs3.of (db_d ..);dsimp only at hs4;rw[<-hl2] at hs4;obtain⟨H2,hH2⟩: ∃ H2,H2=Row 5 1 (.slice B bl bc) bl ((laiB cs).map bv)*(SkipT tb2 hr2 ns2*(MapP Tryz.prog 3 mb2 few (snV sn)*F)):=⟨_,rfl⟩;have HS8:Hid (Sat w0 (Pt b 113 (dbC d s l2 tb2 sq mb2 nx false)*(SpaceP s d (stS sl tu n (i+2) lo2 a2 b2 (cutsB (packB (nowE L))) [] none)*(Disk d D2*H2))) w7):=hs4.of (by rw[hH2];ac_rfl);have HRb2:Hid (∀ W,Sat w0 H2 W->Rd W B (laiB cs)):=fun W hW=>by rw[hH2] at hW;exact hW.row_rdK
   have HShut2:Hid (∀ (S':Spc) (D':Dk) W,Sat w0 (SpaceP s d S'*(Disk d D'*(Pt b 113 (dbC d s l2 tb2 sq mb2 nx false)*H2))) W->Sat w0 (DbP b d s ⟨l2,L,sq,sn,few,nx⟩*(SpaceP s d S'*(Disk d D'*(Row 5 1 (.slice B bl bc) bl ((laiB cs).map bv)*F)))) W):=fun S' D' W hW=>by
    rw[hH2] at hW;exact db_shut (v:=⟨l2,L,sq,sn,few,nx⟩) hti3.1 hti3.2 hW
   have hcn2:=(hc2 _ HCn0.o);have hl3:(l2:Int)=((i+2:Nat):Int)+1:=by have:=HLog.o;omega
   have HL3:Hid (l2=i+2+1):=by have:=HLog.o;unfold Hid;omega
   have HS9:=HS8.o;have hap: ∀ W,Sat w0 (Pt b 113 (dbC d s l2 tb2 sq mb2 nx false)*(SpaceP s d (stS sl tu n (i+2) lo2 a2 b2 (cutsB (packB (nowE L))) [] none)*(Disk d D2*H2))) W->Calls Tryz.prog 72 #[.pointer (some ⟨s,0,none⟩),.int .i64 (l2:Int),.slice B bl bc] W fun e w'=>e = .returned (.int .i64 (((stS sl tu n (i+2) lo2 a2 b2 (cutsB (packB (nowE L))) [] none)).wapp (((i+2:Nat):Int)+1) (laiB cs) D2).2.2)/\Sat w0 (SpaceP s d (((stS sl tu n (i+2) lo2 a2 b2 (cutsB (packB (nowE L))) [] none)).wapp (((i+2:Nat):Int)+1) (laiB cs) D2).1*(Disk d (((stS sl tu n (i+2) lo2 a2 b2 (cutsB (packB (nowE L))) [] none)).wapp (((i+2:Nat):Int)+1) (laiB cs) D2).2.1*(Pt b 113 (dbC d s l2 tb2 sq mb2 nx false)*H2))) w':=fun W hW=>by
    have h9:=wapp_sp (w0:=w0) (w:=W) (F:=Pt b 113 (dbC d s l2 tb2 sq mb2 nx false)*H2) (((i+2:Nat):Int)+1) B bc (b:=laiB cs) hd2.good hcn2 (by have:=HK.o;omega) (Nat.le_trans ha2 HAr.o) (hW.of (by ac_rfl)) (fun W' hW'=>HRb2.o W' hW'.right) (by rw[<-HBl.o];exact HB1.o) (by have:=HB2.o;unfold maxLen at this;omega);rw[<-HBl.o] at h9;rw[hl3];rw[hl3] at h9;exact h9
   have hpr:=hd2.put (cs:=cs) (by have:=HLim.o;have:=HK.o;omega) HBat.o;have C1b:Hid (w7.cell? ⟨b,1,none⟩=some (.pointer (some ⟨s,0,none⟩))):=HS8.o.cell 1;have C2b:Hid (w7.cell? ⟨b,2,none⟩=some (.int .i64 (l2:Int))):=HS8.o.cell 2
   cases hpr with
   | no hro e2=>have:=HPo.o.log;simp only[List.length_nil] at hro;omega
   | ok D3 e3 h3 cn3 ar3=>
    rw[e3] at hap;dsimp only at hap;have HAp:=ah hap;have HD3:=ah h3;have HCn3:=ah ((cn3 _ hcn2).mono (show 20000*k+100+9000+548<=20000*(k+1)+100 by omega));have HAr3:Hid (D3.armed<=D.armed):=Nat.le_trans ar3 ha2;clear hap h3 cn3 ar3 hd2 hc2 ha2 hs2 hs3 hs4 hti2 hti3 hsw hl2 hl3 hH2 hcn2 HS9;go_upto_region 15 with fail;refine wp_region_held_drew (S:=fun w'=>w'.cell? ⟨b,1,none⟩=some (.pointer (some ⟨s,0,none⟩))/\w'.cell? ⟨b,2,none⟩=some (.int .i64 (l2:Int))) (by kernel_rfl) ⟨(by exact C1b.o),(by exact C2b.o)⟩ ?_;intro hS0;refine rtk 0 ?_;refine rtk 1 ?_;refine rtk 2 ?_;refine rtk 3 ?_;refine rtk 4 ?_;refine rtk 5 ?_;refine rtk 6 ?_;refine rtk 7 ?_;refine rtk 8 ?_;refine rck 9 fun K hK=>?_
    go_simp;go_at_call 72;(with_reducible refine(HAp.o _ (HS8.o.new (Chg.refl No _).drew)).mono ?_);rintro e w8 ⟨rfl,hs8⟩;have HS10:=ah hs8;clear hs8
    refine hK.out _ _ ⟨HS10.o.up3.cell 1,HS10.o.up3.cell 2⟩ (fun hS0=>?_);clear hK K;refine rtk 10 ?_;refine wpAnyH_done (by kernel_rfl) ?_ _;have c1:w8.cell? ⟨b,1,none⟩=some (.pointer (some ⟨s,0,none⟩)):=HS10.o.up3.cell 1;have HSy:=HS10.o.sync_of HD3.o HCn3.o (by have:=HK.o;omega);have HDn:=done_of HShut2.o HL3.o HB.o HOkp.o HMem.o HStI.o.few (by have:=HT.o;omega) (by have:=HK.o;omega) HCs.o (stS sl tu n (i+2) lo2 a2 b2 (cutsB (packB (nowE L))) ([]++split (laiB cs)) none) D3.flush.1 (A:=A) (c:=c);go_wp2_with (first
     | (go_at_call 56;(with_reducible refine HSy.o.mono ?_);rintro e w9 ⟨rfl,hs9⟩;have HS11:=ah hs9;clear hs9)
     | (go_at_call 65;(with_reducible refine(HDn.o _ HS11.o).mono ?_);rintro e w10 ⟨rfl,hs10⟩;have HS12:=ah hs10;clear hs10))
    go_ret;obtain⟨qs,hqs,hs9⟩:=HS12.o;refine .inr (.inr (.inl ⟨HQ.o,HFu.o,rfl,_,_,_,put_sti (bs:=[]) HPo.o HD3.o (Con.fresh HMem.o HSzM.o) (map_fresh HMem.o) (by have:=HLim.o;omega) (by have:=HI.o;omega) HCn3.o hqs,by rw[flush_armed HD3.o.good.fils.off];exact HAr3.o,HD3.o.sync.2.len,rfl,rfl,hs9⟩))
   | off ha3 S3 D3 e3 o3 h3 cn3 l3=>
    rw[e3] at hap;dsimp only at hap;have HAp:=ah hap;have HCr:=ah h3;have HCn3:=ah ((cn3 _ hcn2).mono (show 20000*k+100+9000+548<=20000*(k+1)+100 by omega));have HAr3:Hid (D.armed≠0):=fun h0=>ha3 (by omega)
    clear hap h3 cn3 ha3 hd2 hc2 ha2 hs2 hs3 hs4 hti2 hti3 hsw hl2 hl3 hH2 hcn2 HS9;go_upto_region 15 with fail;refine wp_region_held_drew (S:=fun w'=>w'.cell? ⟨b,1,none⟩=some (.pointer (some ⟨s,0,none⟩))/\w'.cell? ⟨b,2,none⟩=some (.int .i64 (l2:Int))) (by kernel_rfl) ⟨(by exact C1b.o),(by exact C2b.o)⟩ ?_;intro hS0;refine rtk 0 ?_;refine rtk 1 ?_;refine rtk 2 ?_;refine rtk 3 ?_;refine rtk 4 ?_;refine rtk 5 ?_;refine rtk 6 ?_;refine rtk 7 ?_;refine rtk 8 ?_;refine rck 9 fun K hK=>?_
    go_simp;go_at_call 72;(with_reducible refine(HAp.o _ (HS8.o.new (Chg.refl No _).drew)).mono ?_);rintro e w8 ⟨rfl,hs8⟩;have HS10:=ah hs8;clear hs8
    refine hK.out _ _ ⟨HS10.o.up3.cell 1,HS10.o.up3.cell 2⟩ (fun hS0=>?_);clear hK K;refine rtk 10 ?_;refine wpAnyH_done (by kernel_rfl) ?_ _;have HOf:Hid (Calls Tryz.prog 70 #[.pointer (some ⟨b,0,none⟩)] w8 fun x w'=>x = .returned (.int .i64 21)/\Sat w0 (Disk d D3*F) w'):=(off_st b d s ⟨l2,L,sq,sn,few,nx⟩ (HShut2.o S3 D3 w8 HS10.o)).mono fun x w' ⟨h1,h2⟩=>⟨h1,h2.right.drop2⟩
    go_wp2_with (go_at_call 70;(with_reducible refine HOf.o.mono ?_);rintro e w9 ⟨rfl,hs9⟩;have HS11:=ah hs9;clear hs9);go_ret;refine .inr (.inr (.inr ⟨HQ.o,HFu.o,rfl,HAr3.o,D3,o3,l3,put_crs (bs:=[]) HPo.o HCr.o (Con.fresh HMem.o HSzM.o) (map_fresh HMem.o) HSzM.o (by have:=HLim.o;omega) (by have:=HI.o;omega) HCn3.o,HS11.o⟩))
  .injection hr0 with hr0
   injection hr0 with _ hr0
   subst hr0;have HOf:Hid (Calls Tryz.prog 70 #[.pointer (some ⟨b,0,none⟩)] w7 fun x w'=>x = .returned (.int .i64 21)/\Sat w0 (Disk d D2*F) w'):=(off_st b d s ⟨lg,L,sq,sn,few,nx⟩ hs2).mono fun x w' ⟨h1,h2⟩=>⟨h1,h2.right.drop2⟩
   have HCr:Hid (CrsI n (t+cs.length) (k+1) D2 [M,putsM cs M]):=hcr2.crs (M:=M) (by have:=HLim.o;omega) (by have:=HI.o;omega) (HCon.o.mono (Nat.le_add_right _ _) (by have h1:=HStI.o.few.1;have h2:sq<=k:=h1;omega)) ((Con.fresh HMem.o HSzM.o).mono (Nat.le_add_right _ _) (by have h1:=HStI.o.few.1;have h2:sq<=k:=h1;omega)) HMap.o (map_fresh HMem.o) ((hc2 _ HCn0.o).mono (by omega)) List.mem_cons_self;have HAr2:=ah ha2;clear hc2 hs2 hcr2 hsw ha2;go_wp2_with (go_at_call 70;(with_reducible refine HOf.o.mono ?_);rintro e w9 ⟨rfl,hs9⟩;have HS11:=ah hs9;clear hs9);go_ret;refine .inr (.inr (.inr ⟨HQ.o,HFu.o,rfl,HAr2.o,D2,ho2,hl2,HCr.o,HS11.o⟩))
end
end Go.Proofs.YtmbaiglpgaoogaaGreat
