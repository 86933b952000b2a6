/- Joined, as they were built one by one: Sto19 Sto22. -/
import Derived.Test.YtmbaiglpgaoogaaGreatS02
import Derived.Test.YtmbaiglpgaoogaaGreatS14
import Derived.Test.YtmbaiglpgaoogaaGreatS25
import Derived.Test.YtmbaiglpgaoogaaGreatS31
import Derived.Test.YtmbaiglpgaoogaaGreatS33
import Derived.Test.YtmbaiglpgaoogaaGreatS34
namespace Go.Proofs.YtmbaiglpgaoogaaGreat
open Go.RowKit
set_option linter.unusedVariables false
set_option maxRecDepth 100000
section
variable {w0 w:World} {F:SP}
theorem db_shut {b d s:Nat} {v:Sd} {tb hr mb:Nat} {ns:List Nd} {X Y R F:SP} (ht:TabG ns v.L.length) (he:entsN ns=v.L) (h:Sat w0 (X*(Y*(Pt b 113 (dbC d s v.log tb v.seq mb v.next false)*(R*(SkipT tb hr ns*(MapP Tryz.prog 3 mb v.few (snV v.snaps)*F)))))) w):
  Sat w0 (DbP b d s v*(X*(Y*(R*F)))) w:=by
 refine Sat.dbI (v:=v) (tb:=tb) (hr:=hr) (mb:=mb) (ns:=ns) ht he ?_;rw[db_d];exact h.of (by ac_rfl)
theorem Sat.sync_of {d s n k slot turn lim i safe:Nat} {D:Dk} {lo:Bool} {fa fb:Nat × Nat} {LF:List (List UInt8)} {sf:Nat→Nat} {E:List Ent} {bs:List (List Chn)} {G:SP} {W:World} (h:Sat w0 (SpaceP s d (stS slot turn n i lo fa fb (cutsB (packB E)) LF none)*(Disk d D*G)) W)
  (hd:Dsx n D slot turn lo fa fb LF none sf lim i E bs safe) (hc:Cnt D k) (hk:k≤1000000000):
  Hid (Calls Tryz.prog 56 #[.pointer (some ⟨s,0,none⟩)] W fun e w'=>e = .returned (.int .i64 0)∧Sat w0 (SpaceP s d (stS slot turn n i lo fa fb (cutsB (packB E)) LF none)*(Disk d D.flush.1*G)) w'):=by
 have h9:=sync_sp h (by have:=hc.pend;omega);rw[hd.sync.1] at h9;exact h9
theorem done_of {b d s t k lg lx sq few nx:Nat} {L:List Ent} {sn:Int→Option Nat} {M:List Kv} {P R H:SP} {A:Option Addr} {c:Nat} {ps:List Pu} {cs:List Chn} (hsh: ∀ (S':Spc) (D':Dk) W,Sat w0 (SpaceP s d S'*(Disk d D'*(P*H))) W→Sat w0 (DbP b d s ⟨lg,L,sq,sn,few,nx⟩*(SpaceP s d S'*(Disk d D'*(R*F)))) W) (hl:lg=lx)
  (hb: ∀ W,Sat w0 F W→RdV W A (ps.flatMap puC)∧PusR W ps) (hok: ∀ p ∈ ps,ChgOk p.chn) (hm:MemIs L sq M t) (hf:sq≤k∧few≤k∧nx≤k+1) (ht:t+ps.length≤1024) (hk:k≤10000) (hcs:cs=ps.map Pu.chn) (S':Spc) (D':Dk):
  Hid (∀ W,Sat w0 (SpaceP s d S'*(Disk d D'*(P*H))) W→Calls Tryz.prog 65 #[.pointer (some ⟨b,0,none⟩),.slice A ps.length c] W fun x w'=>x = .returned (.tuple #[])∧ ∃ qs,PtsOf sn few qs∧Sat w0 (DbP b d s ⟨lx,tidyE qs (doneE sq cs L),sq+1,sn,few,nx⟩*(SpaceP s d S'*(Disk d D'*F))) w'):=fun W hW=>by
 subst hl;have h9:=ddone_any b d s ⟨lg,L,sq,sn,few,nx⟩ A c ps (hsh S' D' W hW) (fun W' hW'=>hb W' hW'.right.right.right) hok (by omega) (by have:=hm.len;show L.length≤_;omega) (fun x hx=>⟨((hm.each x hx).seq).1,hm.top x hx⟩) (by show sq+1≤_;omega) (by show few≤_;omega);refine h9.mono fun x w' h=>?_
 obtain⟨h1,qs,h2,h3⟩:=h;refine⟨h1,qs,h2,?_⟩;rw[hcs];exact h3.up4.right
def WriteT (w0:World) (F:SP) (b d s:Nat) (v:Sd) (n t k:Nat) (D:Dk) (S:Spc) (M:List Kv) (olds:Int→Option (List Kv)) (cs:List Chn) (x:Ending) (w':World):Prop:=
 (chkB cs≠0∧x = .returned (.int .i64 (chkB cs:Nat))∧Sat w0 (DbP b d s v*(SpaceP s d S*(Disk d D*F))) w')∨
 (chkB cs=0∧fullB n (putsM cs M) cs=true∧x = .returned (.int .i64 103)∧Sat w0 (DbP b d s v*(SpaceP s d S*(Disk d D*F))) w')∨
 (chkB cs=0∧fullB n (putsM cs M) cs=false∧x = .returned (.int .i64 0)∧ ∃ S' D' v',StI n (t+cs.length) (k+1) D' S' v' (putsM cs M) olds∧D'.armed≤D.armed∧D'.cells.length=n∧v'.snaps=v.snaps∧v'.next=v.next∧Sat w0 (DbP b d s v'*(SpaceP s d S'*(Disk d D'*F))) w')∨
 (chkB cs=0∧fullB n (putsM cs M) cs=false∧x = .returned (.int .i64 21)∧D.armed≠0∧ ∃ D',D'.off=true∧D'.cells.length=n∧CrsI n (t+cs.length) (k+1) D' [M,putsM cs M]∧Sat w0 (Disk d D'*F) w')
set_option maxHeartbeats 16000000 in
theorem write_st (b d s:Nat) (v:Sd) (n t k:Nat) (D:Dk) (S:Spc) (M:List Kv) (olds:Int→Option (List Kv)) (A:Option Addr) (c:Nat) (ps:List Pu)
  (hst:StI n t k D S v M olds) (hk:k≤10000) (ht:t+ps.length≤1024) (ha:D.armed≤9223372036854775807) (h:Sat w0 (DbP b d s v*(SpaceP s d S*(Disk d D*F))) w)
  (hb: ∀ W,Sat w0 F W→RdV W A (ps.flatMap puC)∧PusR W ps) (hz: ∀ p ∈ ps,p.key.2.2.length≤1000000000∧p.value.2.2.length≤1000000000):
  Calls Tryz.prog 20 #[.pointer (some ⟨b,0,none⟩),.slice A ps.length c] w (WriteT w0 F b d s v n t k D S M olds (ps.map Pu.chn)):=by
 obtain⟨cs,hcs⟩: ∃ cs,cs=ps.map Pu.chn:=⟨_,rfl⟩;have hcl:cs.length=ps.length:=by rw[hcs,List.length_map]
 have hchk:=fun W (k:Chg No w W)=>check_any A c ps W ((hb w h.right.right.right).1.new k) (by omega) hz
 rw[←hcs] at hchk;have HStI:=ah hst;have HT:=ah ht;have HCl:=ah hcl;have HK:=ah hk;have HAr:=ah ha;have HB:Hid (∀ W,Sat w0 F W→RdV W A (ps.flatMap puC)∧PusR W ps):=hb;have HS:=ah h;have HCs:=ah hcs;have c7:w.cell? ⟨b,7,none⟩=some (.bool false):=by
  obtain⟨tb,hr,mb,ns,_,hs0⟩:=h.db;exact(hs0.of (db_d ..)).cell 7
 rw[←hcs];have HC7:=ah c7;clear hst hk ht ha hz hb h hcs hcl c7;by_cases hq:chkB cs≠0
 ·obtain⟨z,hz⟩: ∃ z,z=chkB cs:=⟨_,rfl⟩;have hz0:((z:Int) !=0)=true:=by rw[bne_iff_ne];omega
  rw[←hz] at hchk;have HChk:=ah hchk;have HZ:=ah hz;have HQ:=ah hq;clear hchk hz hq;go_enter Tryz.func20, Tryz.ntmps20;go_wp2_with (go_at_call 68;(with_reducible refine(HChk.out _ (Chg.refl No _)).mono ?_);rintro e w1 ⟨rfl,k1⟩;have HS1:=ah (HS.out.new k1);clear k1);go_ret;refine .inl ⟨HQ.out,by rw[←HZ.out];rfl,HS1.out⟩
 have hq0:chkB cs=0:=Classical.not_not.1 hq;have hbat:BatOk cs:=chk_zero.1 hq0;have hokp: ∀ p ∈ ps,ChgOk p.chn:=fun p hp=>hbat.each _ (by rw[HCs.out];exact List.mem_map_of_mem hp)
 have hmem:=HStI.out.mem;have hmsz:=mem_sizes hmem;obtain⟨sf,lim,i,E,bs,⟨slot,turn,lo,fa,fb,LF,y,e1,e2,hd⟩,hlog,hcon,hmap,hlim,hi⟩:=HStI.out.dsk;have hy:y=none:=by cases y with | none=>rfl | some z=>cases e2
 subst hy;have hfull: ∀ W,Sat w0 (DbP b d s v*(Disk d D*(SpaceP s d S*F))) W→Calls Tryz.prog 69 #[.pointer (some ⟨b,0,none⟩),.slice A ps.length c] W fun x w'=>x = .returned (.bool (fullB n (putsM cs M) cs))∧Sat w0 (DbP b d s v*(SpaceP s d S*(Disk d D*F))) w':=fun W hW=>by
  have h9:=full_st n b d s v A c ps D M hW ⟨hd.big,hd.most⟩ hd.len (fun W' hW'=>HB.out W' hW'.right) hokp (by have:=HT.out;omega) (by have:=hmem.len;have:=HT.out;omega) hmem.view hmem.pairs hmsz;rw[←HCs.out] at h9;exact h9.mono fun x w' ⟨h1,h2⟩=>⟨h1,h2.of (by ac_rfl)⟩
 rw[hq0] at hchk;have HChk:=ah hchk;have HQ:=ah hq0;have HMem:=ah hmem;clear hchk hq hmsz;by_cases hfu:fullB n (putsM cs M) cs=true
 ·rw[hfu] at hfull;have HFull:=ah hfull;have HFu:=ah hfu;clear hfull hfu hbat hokp hmem e1 e2 hd hlog hcon hmap hlim hi hq0;go_enter Tryz.func20, Tryz.ntmps20;go_wp2_with (first
   | (go_at_call 68;(with_reducible refine(HChk.out _ (Chg.refl No _)).mono ?_);rintro e w1 ⟨rfl,k1⟩;have HS1:=ah ((HS.out.new k1).of (show _=DbP b d s v*(Disk d D*(SpaceP s d S*F)) by ac_rfl));have c7:=k1.cell HC7.out id;clear k1)
   | (go_at_call 69;(with_reducible refine(HFull.out _ HS1.out).mono ?_);rintro e w2 ⟨rfl,hs2⟩;have HS2:=ah hs2;clear hs2))
  go_ret;refine .inr (.inl ⟨HQ.out,HFu.out,rfl,HS2.out⟩)
 have hfu0:fullB n (putsM cs M) cs=false:=by simpa using hfu
 rw[hfu0] at hfull;have hsz:sizM (putsM cs M)+400≤imgN n*480∧needN (laiB cs).length≤logN n:=by
  unfold fullB at hfu0;rw[Bool.or_eq_false_iff,decide_eq_false_iff_not,decide_eq_false_iff_not] at hfu0;omega
 have hpo:PutOk n t k v M olds cs:=⟨hmem,HStI.out.snaps,HStI.out.few,by have:=HK.out;omega,hbat,hsz.1,hsz.2⟩;subst e1;obtain⟨lg,L,sq,sn,few,nx⟩:=v;dsimp only at hlog hcon;have hszM:sizM M+400≤imgN n*480:=by have:=hcon.siz;rw[hmap] at this;exact this
 have hlai: ∀ W (G:SP),Sat w0 (G*F) W→Calls Tryz.prog 71 #[.slice A ps.length c] W fun x w'=> ∃ B bc,x = .returned (.slice B (laiB cs).length bc)∧(laiB cs).length≤bc∧bc≤maxLen∧Sat w0 (Row 5 1 (.slice B (laiB cs).length bc) (laiB cs).length ((laiB cs).map bv)*(G*F)) w':=fun W G hW=>by
  have h9:=laid_any A c ps W (HB.out W hW.right).1 (HB.out W hW.right).2 (fun p hp=>⟨(hokp p hp).key.2,(hokp p hp).val⟩) (by have:=HT.out;omega);rw[←HCs.out] at h9;refine h9.mono ?_;rintro x w' ⟨B,bc,rfl,hs'⟩;have h8:=(hW.join hs' (owned_star (owned_row _ _ _ _ _) owned_emp)).of (show _=Row 5 1 (.slice B (laiB cs).length bc) (laiB cs).length ((laiB cs).map bv)*(G*F) by rw[star_comm _ Emp,emp_star]);obtain⟨A',c',hsl,hc1,hc2⟩:=h8.row_sl;injection hsl with e1 e2 e3
  subst e3;exact⟨B,bc,rfl,hc1,hc2,h8⟩
 obtain⟨bl,hbl⟩: ∃ bl,bl=(laiB cs).length:=⟨_,rfl⟩;rw[←hbl] at hlai;have hbl2:bl≤262144:=by rw[hbl];exact laiB_le hbat
 have hoff: ∀ W (G:SP),Sat w0 (Disk d D*G) W→Calls Tryz.prog 40 #[.pointer (some ⟨d,0,none⟩)] W fun e w'=>e = .returned (.bool false)∧W=w':=fun W G hW=>by
  have h9:=off_any d D w0 W G hW;rw[hd.good.fils.off] at h9;exact h9
 have HOff:=ah hoff;have HBl:=ah hbl;have HLai:=ah hlai;have HFull:=ah hfull;have HFu:=ah hfu0;have HPo:=ah hpo;have HDs:=ah hd;have HLog:=ah hlog;have HCon:=ah hcon;have HMap:=ah hmap;have HLim:=ah hlim;have HI:=ah hi;have HSzM:=ah hszM;have HOkp:=ah hokp;have HBat:=ah hbat;clear hoff hlai hfull hfu0 hfu hpo hd hlog hcon hmap hlim hi hszM hsz hbl hmem hbat hokp hq0 e2;go_enter Tryz.func20, Tryz.ntmps20;go_upto_region 6 with (go_at_call 68;(with_reducible refine(HChk.out _ (Chg.refl No _)).mono ?_);rintro e w1 ⟨rfl,k1⟩;have HS1:=ah ((HS.out.new k1).of (show _=DbP b d s ⟨lg,L,sq,sn,few,nx⟩*(Disk d D*(SpaceP s d (stS slot turn n i lo fa fb (cutsB (packB E)) LF none)*F)) by ac_rfl));have c7:=k1.cell HC7.out id;clear k1)
 go_upto_region 11 with (first
  | (go_at_call 69;(with_reducible refine(HFull.out _ HS1.out).mono ?_);rintro e w2 ⟨rfl,hs2⟩;obtain⟨tb,hr,mb,ns,hti,hs3⟩:=hs2.db;have HTi:Hid (TabG ns L.length∧entsN ns=L):=hti;have HS3:Hid (Sat w0 (Pt b 113 (dbC d s lg tb sq mb nx false)*(SkipT tb hr ns*(MapP Tryz.prog 3 mb few (snV sn)*(SpaceP s d (stS slot turn n i lo fa fb (cutsB (packB E)) LF none)*(Disk d D*F))))) w2):=hs3.of (db_d ..);have c0:w2.cell? ⟨b,0,none⟩=some (.pointer (some ⟨d,0,none⟩)):=HS3.out.cell 0;clear hs2 hti hs3)
  | (go_at_call 40;(with_reducible refine(HOff.out _ _ HS3.out.up5).mono ?_);rintro e w3 ⟨rfl,rfl⟩)
  | (go_at_call 71;(with_reducible refine(HLai.out _ (Pt b 113 (dbC d s lg tb sq mb nx false)*(SkipT tb hr ns*(MapP Tryz.prog 3 mb few (snV sn)*(SpaceP s d (stS slot turn n i lo fa fb (cutsB (packB E)) LF none)*Disk d D)))) (HS3.out.of (by ac_rfl))).mono ?_);rintro e w5 ⟨B,bc,rfl,hb1,hb2,hs5⟩;have HS5:Hid (Sat w0 (Pt b 113 (dbC d s lg tb sq mb nx false)*(SpaceP s d (stS slot turn n i lo fa fb (cutsB (packB E)) LF none)*(Disk d D*(Row 5 1 (.slice B bl bc) bl ((laiB cs).map bv)*(SkipT tb hr ns*(MapP Tryz.prog 3 mb few (snV sn)*F)))))) w5):=hs5.of (by ac_rfl);have HB1:=ah hb1;have HB2:=ah hb2;clear hs5 hb1 hb2))
 clear HS1 HS3 HFull HLai HOff HChk HC7 c7 c0 HS;obtain⟨H,hH⟩: ∃ H,H=Row 5 1 (.slice B bl bc) bl ((laiB cs).map bv)*(SkipT tb hr ns*(MapP Tryz.prog 3 mb few (snV sn)*F)):=⟨_,rfl⟩;rw[←hH] at HS5;have hrb: ∀ W,Sat w0 H W→Rd W B (laiB cs):=fun W hW=>by rw[hH] at hW;exact hW.row_rdK
 have HHe:=ah hH;have HRb:=ah hrb;have hshut: ∀ (lgx:Nat) (S':Spc) (D':Dk) W,Sat w0 (SpaceP s d S'*(Disk d D'*(Pt b 113 (dbC d s (lgx:Nat) tb sq mb nx false)*H))) W→Sat w0 (DbP b d s ⟨lgx,L,sq,sn,few,nx⟩*(SpaceP s d S'*(Disk d D'*(Row 5 1 (.slice B bl bc) bl ((laiB cs).map bv)*F)))) W:=fun lgx S' D' W hW=>by
  rw[hH] at hW;exact db_shut (v:=⟨lgx,L,sq,sn,few,nx⟩) HTi.out.1 HTi.out.2 hW
 have HShut:=ah hshut;clear hH hrb hshut;have hw1:=HStI.out.cnt;have hap: ∀ W,Sat w0 (Pt b 113 (dbC d s lg tb sq mb nx false)*(SpaceP s d (stS slot turn n i lo fa fb (cutsB (packB E)) LF none)*(Disk d D*H))) W→Calls Tryz.prog 72 #[.pointer (some ⟨s,0,none⟩),.int .i64 (lg:Int),.slice B bl bc] W fun e w'=>e = .returned (.int .i64 (((stS slot turn n i lo fa fb (cutsB (packB E)) LF none)).wapp ((i:Int)+1) (laiB cs) D).2.2)∧Sat w0 (SpaceP s d (((stS slot turn n i lo fa fb (cutsB (packB E)) LF none)).wapp ((i:Int)+1) (laiB cs) D).1*(Disk d (((stS slot turn n i lo fa fb (cutsB (packB E)) LF none)).wapp ((i:Int)+1) (laiB cs) D).2.1*(Pt b 113 (dbC d s lg tb sq mb nx false)*H))) w':=fun W hW=>by
  have h9:=wapp_sp (w0:=w0) (w:=W) (F:=Pt b 113 (dbC d s lg tb sq mb nx false)*H) ((i:Int)+1) B bc (b:=laiB cs) HDs.out.good hw1 (by have:=HK.out;omega) HAr.out (hW.of (by ac_rfl)) (fun W' hW'=>HRb.out W' hW'.right) (by rw[←HBl.out];exact HB1.out) (by have:=HB2.out;unfold maxLen at this;omega);rw[←HBl.out] at h9;rw[show (lg:Int)=(i:Int)+1 by have:=HLog.out;omega];rw[show (lg:Int)=(i:Int)+1 by have:=HLog.out;omega] at h9;exact h9
 have hpr:=HDs.out.put (cs:=cs) (by have:=HLim.out;have:=HK.out;omega) HBat.out;have C1:Hid (w5.cell? ⟨b,1,none⟩=some (.pointer (some ⟨s,0,none⟩))):=HS5.out.cell 1;have C2:Hid (w5.cell? ⟨b,2,none⟩=some (.int .i64 (lg:Int))):=HS5.out.cell 2
 cases hpr with
 | ok D1 e1 h1 cn1 ar1=>
  rw[e1] at hap;dsimp only at hap;have HAp:=ah hap;have HD1:=ah h1;have HCn1:=ah ((cn1 _ hw1).mono (show 20000*k+100+548≤20000*(k+1)+100 by omega));have HAr1:=ah ar1;clear hap h1 cn1 ar1 hw1;refine wp_region_held_drew (S:=fun w'=>w'.cell? ⟨b,1,none⟩=some (.pointer (some ⟨s,0,none⟩))∧w'.cell? ⟨b,2,none⟩=some (.int .i64 (lg:Int))) (by kernel_rfl) ⟨(by exact C1.out),(by exact C2.out)⟩ ?_;intro hS0;refine rtk 0 ?_;refine rtk 1 ?_;refine rtk 2 ?_;refine rtk 3 ?_;refine rtk 4 ?_;refine rtk 5 ?_;refine rtk 6 ?_;refine rtk 7 ?_;refine rtk 8 ?_;refine rck 9 fun K hK=>?_
  go_simp;go_at_call 72;(with_reducible refine(HAp.out _ (HS5.out.new (Chg.refl No _).drew)).mono ?_);rintro e w6 ⟨rfl,hs6⟩;have HS6:=ah hs6;clear hs6
  refine hK.out _ _ ⟨HS6.out.up3.cell 1,HS6.out.up3.cell 2⟩ (fun hS0=>?_);clear hK K;refine rtk 10 ?_;refine wpAnyH_done (by kernel_rfl) ?_ _;have c1:w6.cell? ⟨b,1,none⟩=some (.pointer (some ⟨s,0,none⟩)):=HS6.out.up3.cell 1;have HSy:=HS6.out.sync_of HD1.out HCn1.out (by have:=HK.out;omega);have HDn:=done_of (HShut.out lg) HLog.out HB.out HOkp.out HMem.out HStI.out.few (by have:=HT.out;omega) (by have:=HK.out;omega) HCs.out (stS slot turn n i lo fa fb (cutsB (packB E)) (LF++split (laiB cs)) none) D1.flush.1 (A:=A) (c:=c);go_wp2_with (first
   | (go_at_call 56;(with_reducible refine HSy.out.mono ?_);rintro e w7 ⟨rfl,hs7⟩;have HS7:=ah hs7;clear hs7)
   | (go_at_call 65;(with_reducible refine(HDn.out _ HS7.out).mono ?_);rintro e w8 ⟨rfl,hs8⟩;have HS8:=ah hs8;clear hs8))
  go_ret;obtain⟨qs,hqs,hs9⟩:=HS8.out;refine .inr (.inr (.inl ⟨HQ.out,HFu.out,rfl,_,_,_,put_sti HPo.out HD1.out HCon.out HMap.out (by have:=HLim.out;omega) (by have:=HI.out;omega) HCn1.out hqs,by rw[flush_armed HD1.out.good.fils.off];exact HAr1.out,HD1.out.sync.2.len,rfl,rfl,hs9⟩))
 | off ha1 S1 D1 e1 o1 h1 cn1 l1=>
  rw[e1] at hap;dsimp only at hap;have HAp:=ah hap;have HCr:=ah h1;have HCn1:=ah ((cn1 _ hw1).mono (show 20000*k+100+548≤20000*(k+1)+100 by omega));have HAr1:=ah ha1;clear hap h1 cn1 ha1 hw1;refine wp_region_held_drew (S:=fun w'=>w'.cell? ⟨b,1,none⟩=some (.pointer (some ⟨s,0,none⟩))∧w'.cell? ⟨b,2,none⟩=some (.int .i64 (lg:Int))) (by kernel_rfl) ⟨(by exact C1.out),(by exact C2.out)⟩ ?_;intro hS0;refine rtk 0 ?_;refine rtk 1 ?_;refine rtk 2 ?_;refine rtk 3 ?_;refine rtk 4 ?_;refine rtk 5 ?_;refine rtk 6 ?_;refine rtk 7 ?_;refine rtk 8 ?_;refine rck 9 fun K hK=>?_
  go_simp;go_at_call 72;(with_reducible refine(HAp.out _ (HS5.out.new (Chg.refl No _).drew)).mono ?_);rintro e w6 ⟨rfl,hs6⟩;have HS6:=ah hs6;clear hs6
  refine hK.out _ _ ⟨HS6.out.up3.cell 1,HS6.out.up3.cell 2⟩ (fun hS0=>?_);clear hK K;refine rtk 10 ?_;refine wpAnyH_done (by kernel_rfl) ?_ _;have HOf:Hid (Calls Tryz.prog 70 #[.pointer (some ⟨b,0,none⟩)] w6 fun x w'=>x = .returned (.int .i64 21)∧Sat w0 (Disk d D1*F) w'):=(off_st b d s ⟨lg,L,sq,sn,few,nx⟩ (HShut.out lg S1 D1 w6 HS6.out)).mono fun x w' ⟨h1,h2⟩=>⟨h1,h2.right.drop2⟩
  go_wp2_with (go_at_call 70;(with_reducible refine HOf.out.mono ?_);rintro e w7 ⟨rfl,hs7⟩;have HS7:=ah hs7;clear hs7);go_ret;refine .inr (.inr (.inr ⟨HQ.out,HFu.out,rfl,HAr1.out,D1,o1,l1,put_crs HPo.out HCr.out HCon.out HMap.out HSzM.out (by have:=HLim.out;omega) (by have:=HI.out;omega) HCn1.out,HS7.out⟩))
 | no hro e1=>
  rw[e1] at hap;dsimp only at hap;have HAp:=ah hap;have HCn0:=ah hw1;clear hap hw1;refine wp_region_held_drew (S:=fun w'=>w'.cell? ⟨b,1,none⟩=some (.pointer (some ⟨s,0,none⟩))∧w'.cell? ⟨b,2,none⟩=some (.int .i64 (lg:Int))) (by kernel_rfl) ⟨(by exact C1.out),(by exact C2.out)⟩ ?_;intro hS0;refine rtk 0 ?_;refine rtk 1 ?_;refine rtk 2 ?_;refine rtk 3 ?_;refine rtk 4 ?_;refine rtk 5 ?_;refine rtk 6 ?_;refine rtk 7 ?_;refine rtk 8 ?_;refine rck 9 fun K hK=>?_
  go_simp;go_at_call 72;(with_reducible refine(HAp.out _ (HS5.out.new (Chg.refl No _).drew)).mono ?_);rintro e w6 ⟨rfl,hs6⟩;have HS6:=ah hs6;clear hs6
  refine hK.out _ _ ⟨HS6.out.up3.cell 1,HS6.out.up3.cell 2⟩ (fun hS0=>?_);clear hK K;refine rtk 10 ?_;refine wpAnyH_done (by kernel_rfl) ?_ _;have HSw:Hid (Calls Tryz.prog 73 #[.pointer (some ⟨b,0,none⟩)] w6 fun e w'=> ∃ r:Int,e = .returned (.int .i64 r)∧Hid (SwapT w0 (Row 5 1 (.slice B bl bc) bl ((laiB cs).map bv)*F) b d s ⟨lg,L,sq,sn,few,nx⟩ n D lim i E bs (.returned (.int .i64 r)) w')):=by
   refine(swap_st b d s ⟨lg,L,sq,sn,few,nx⟩ n slot turn D lo fa fb LF sf lim i E bs M t (20000*k+100) HDs.out HMem.out (by have:=HT.out;omega) HLog.out HSzM.out (by have:=HLim.out;have:=HK.out;omega) (by have:=HI.out;have:=HK.out;omega) HCn0.out (by have:=HK.out;omega) HAr.out (HShut.out lg _ _ _ HS6.out)).mono ?_;intro e w' hh;rcases hh with ⟨sl,tu,lo',a',b',D',sf',he,hrest⟩ | ⟨S',D',he,hrest⟩
   ·exact⟨0,he,.inl ⟨sl,tu,lo',a',b',D',sf',rfl,hrest⟩⟩
   ·exact⟨21,he,.inr ⟨S',D',rfl,hrest⟩⟩
  go_upto_region 14 with (go_at_call 73;(with_reducible refine HSw.out.mono ?_);rintro e w7 ⟨r,rfl,hsw⟩)
  clear HSw HS6 HAp;rcases hsw.out with ⟨sl,tu,lo2,a2,b2,D2,sf2,hr0,hd2,hc2,ha2,hs2⟩ | ⟨S2,D2,hr0,ha2,ho2,hcr2,hc2,hl2,hs2⟩
  ·injection hr0 with hr0
   injection hr0 with _ hr0
   subst hr0;obtain⟨l2,hl2⟩: ∃ l2,l2=lg+2:=⟨_,rfl⟩;obtain⟨tb2,hr2,mb2,ns2,hti2,hs3⟩:=hs2.db;have hti3:TabG ns2 L.length∧entsN ns2=L:=hti2;have hs4:=hs3.of (db_d ..);dsimp only at hs4;rw[←hl2] at hs4;obtain⟨H2,hH2⟩: ∃ H2,H2=Row 5 1 (.slice B bl bc) bl ((laiB cs).map bv)*(SkipT tb2 hr2 ns2*(MapP Tryz.prog 3 mb2 few (snV sn)*F)):=⟨_,rfl⟩;have HS8:Hid (Sat w0 (Pt b 113 (dbC d s l2 tb2 sq mb2 nx false)*(SpaceP s d (stS sl tu n (i+2) lo2 a2 b2 (cutsB (packB (nowE L))) [] none)*(Disk d D2*H2))) w7):=hs4.of (by rw[hH2];ac_rfl);have HRb2:Hid (∀ W,Sat w0 H2 W→Rd W B (laiB cs)):=fun W hW=>by rw[hH2] at hW;exact hW.row_rdK
   have HShut2:Hid (∀ (S':Spc) (D':Dk) W,Sat w0 (SpaceP s d S'*(Disk d D'*(Pt b 113 (dbC d s l2 tb2 sq mb2 nx false)*H2))) W→Sat w0 (DbP b d s ⟨l2,L,sq,sn,few,nx⟩*(SpaceP s d S'*(Disk d D'*(Row 5 1 (.slice B bl bc) bl ((laiB cs).map bv)*F)))) W):=fun S' D' W hW=>by
    rw[hH2] at hW;exact db_shut (v:=⟨l2,L,sq,sn,few,nx⟩) hti3.1 hti3.2 hW
   have hcn2:=(hc2 _ HCn0.out);have hl3:(l2:Int)=((i+2:Nat):Int)+1:=by have:=HLog.out;omega
   have HL3:Hid (l2=i+2+1):=by have:=HLog.out;unfold Hid;omega
   have HS9:=HS8.out;have hap: ∀ W,Sat w0 (Pt b 113 (dbC d s l2 tb2 sq mb2 nx false)*(SpaceP s d (stS sl tu n (i+2) lo2 a2 b2 (cutsB (packB (nowE L))) [] none)*(Disk d D2*H2))) W→Calls Tryz.prog 72 #[.pointer (some ⟨s,0,none⟩),.int .i64 (l2:Int),.slice B bl bc] W fun e w'=>e = .returned (.int .i64 (((stS sl tu n (i+2) lo2 a2 b2 (cutsB (packB (nowE L))) [] none)).wapp (((i+2:Nat):Int)+1) (laiB cs) D2).2.2)∧Sat w0 (SpaceP s d (((stS sl tu n (i+2) lo2 a2 b2 (cutsB (packB (nowE L))) [] none)).wapp (((i+2:Nat):Int)+1) (laiB cs) D2).1*(Disk d (((stS sl tu n (i+2) lo2 a2 b2 (cutsB (packB (nowE L))) [] none)).wapp (((i+2:Nat):Int)+1) (laiB cs) D2).2.1*(Pt b 113 (dbC d s l2 tb2 sq mb2 nx false)*H2))) w':=fun W hW=>by
    have h9:=wapp_sp (w0:=w0) (w:=W) (F:=Pt b 113 (dbC d s l2 tb2 sq mb2 nx false)*H2) (((i+2:Nat):Int)+1) B bc (b:=laiB cs) hd2.good hcn2 (by have:=HK.out;omega) (Nat.le_trans ha2 HAr.out) (hW.of (by ac_rfl)) (fun W' hW'=>HRb2.out W' hW'.right) (by rw[←HBl.out];exact HB1.out) (by have:=HB2.out;unfold maxLen at this;omega);rw[←HBl.out] at h9;rw[hl3];rw[hl3] at h9;exact h9
   have hpr:=hd2.put (cs:=cs) (by have:=HLim.out;have:=HK.out;omega) HBat.out;have C1b:Hid (w7.cell? ⟨b,1,none⟩=some (.pointer (some ⟨s,0,none⟩))):=HS8.out.cell 1;have C2b:Hid (w7.cell? ⟨b,2,none⟩=some (.int .i64 (l2:Int))):=HS8.out.cell 2
   cases hpr with
   | no hro e2=>have:=HPo.out.log;simp only[List.length_nil] at hro;omega
   | ok D3 e3 h3 cn3 ar3=>
    rw[e3] at hap;dsimp only at hap;have HAp:=ah hap;have HD3:=ah h3;have HCn3:=ah ((cn3 _ hcn2).mono (show 20000*k+100+9000+548≤20000*(k+1)+100 by omega));have HAr3:Hid (D3.armed≤D.armed):=Nat.le_trans ar3 ha2;clear hap h3 cn3 ar3 hd2 hc2 ha2 hs2 hs3 hs4 hti2 hti3 hsw hl2 hl3 hH2 hcn2 HS9;go_upto_region 15 with fail;refine wp_region_held_drew (S:=fun w'=>w'.cell? ⟨b,1,none⟩=some (.pointer (some ⟨s,0,none⟩))∧w'.cell? ⟨b,2,none⟩=some (.int .i64 (l2:Int))) (by kernel_rfl) ⟨(by exact C1b.out),(by exact C2b.out)⟩ ?_;intro hS0;refine rtk 0 ?_;refine rtk 1 ?_;refine rtk 2 ?_;refine rtk 3 ?_;refine rtk 4 ?_;refine rtk 5 ?_;refine rtk 6 ?_;refine rtk 7 ?_;refine rtk 8 ?_;refine rck 9 fun K hK=>?_
    go_simp;go_at_call 72;(with_reducible refine(HAp.out _ (HS8.out.new (Chg.refl No _).drew)).mono ?_);rintro e w8 ⟨rfl,hs8⟩;have HS10:=ah hs8;clear hs8
    refine hK.out _ _ ⟨HS10.out.up3.cell 1,HS10.out.up3.cell 2⟩ (fun hS0=>?_);clear hK K;refine rtk 10 ?_;refine wpAnyH_done (by kernel_rfl) ?_ _;have c1:w8.cell? ⟨b,1,none⟩=some (.pointer (some ⟨s,0,none⟩)):=HS10.out.up3.cell 1;have HSy:=HS10.out.sync_of HD3.out HCn3.out (by have:=HK.out;omega);have HDn:=done_of HShut2.out HL3.out HB.out HOkp.out HMem.out HStI.out.few (by have:=HT.out;omega) (by have:=HK.out;omega) HCs.out (stS sl tu n (i+2) lo2 a2 b2 (cutsB (packB (nowE L))) ([]++split (laiB cs)) none) D3.flush.1 (A:=A) (c:=c);go_wp2_with (first
     | (go_at_call 56;(with_reducible refine HSy.out.mono ?_);rintro e w9 ⟨rfl,hs9⟩;have HS11:=ah hs9;clear hs9)
     | (go_at_call 65;(with_reducible refine(HDn.out _ HS11.out).mono ?_);rintro e w10 ⟨rfl,hs10⟩;have HS12:=ah hs10;clear hs10))
    go_ret;obtain⟨qs,hqs,hs9⟩:=HS12.out;refine .inr (.inr (.inl ⟨HQ.out,HFu.out,rfl,_,_,_,put_sti (bs:=[]) HPo.out HD3.out (Con.fresh HMem.out HSzM.out) (map_fresh HMem.out) (by have:=HLim.out;omega) (by have:=HI.out;omega) HCn3.out hqs,by rw[flush_armed HD3.out.good.fils.off];exact HAr3.out,HD3.out.sync.2.len,rfl,rfl,hs9⟩))
   | off ha3 S3 D3 e3 o3 h3 cn3 l3=>
    rw[e3] at hap;dsimp only at hap;have HAp:=ah hap;have HCr:=ah h3;have HCn3:=ah ((cn3 _ hcn2).mono (show 20000*k+100+9000+548≤20000*(k+1)+100 by omega));have HAr3:Hid (D.armed≠0):=fun h0=>ha3 (by omega)
    clear hap h3 cn3 ha3 hd2 hc2 ha2 hs2 hs3 hs4 hti2 hti3 hsw hl2 hl3 hH2 hcn2 HS9;go_upto_region 15 with fail;refine wp_region_held_drew (S:=fun w'=>w'.cell? ⟨b,1,none⟩=some (.pointer (some ⟨s,0,none⟩))∧w'.cell? ⟨b,2,none⟩=some (.int .i64 (l2:Int))) (by kernel_rfl) ⟨(by exact C1b.out),(by exact C2b.out)⟩ ?_;intro hS0;refine rtk 0 ?_;refine rtk 1 ?_;refine rtk 2 ?_;refine rtk 3 ?_;refine rtk 4 ?_;refine rtk 5 ?_;refine rtk 6 ?_;refine rtk 7 ?_;refine rtk 8 ?_;refine rck 9 fun K hK=>?_
    go_simp;go_at_call 72;(with_reducible refine(HAp.out _ (HS8.out.new (Chg.refl No _).drew)).mono ?_);rintro e w8 ⟨rfl,hs8⟩;have HS10:=ah hs8;clear hs8
    refine hK.out _ _ ⟨HS10.out.up3.cell 1,HS10.out.up3.cell 2⟩ (fun hS0=>?_);clear hK K;refine rtk 10 ?_;refine wpAnyH_done (by kernel_rfl) ?_ _;have HOf:Hid (Calls Tryz.prog 70 #[.pointer (some ⟨b,0,none⟩)] w8 fun x w'=>x = .returned (.int .i64 21)∧Sat w0 (Disk d D3*F) w'):=(off_st b d s ⟨l2,L,sq,sn,few,nx⟩ (HShut2.out S3 D3 w8 HS10.out)).mono fun x w' ⟨h1,h2⟩=>⟨h1,h2.right.drop2⟩
    go_wp2_with (go_at_call 70;(with_reducible refine HOf.out.mono ?_);rintro e w9 ⟨rfl,hs9⟩;have HS11:=ah hs9;clear hs9);go_ret;refine .inr (.inr (.inr ⟨HQ.out,HFu.out,rfl,HAr3.out,D3,o3,l3,put_crs (bs:=[]) HPo.out HCr.out (Con.fresh HMem.out HSzM.out) (map_fresh HMem.out) HSzM.out (by have:=HLim.out;omega) (by have:=HI.out;omega) HCn3.out,HS11.out⟩))
  ·injection hr0 with hr0
   injection hr0 with _ hr0
   subst hr0;have HOf:Hid (Calls Tryz.prog 70 #[.pointer (some ⟨b,0,none⟩)] w7 fun x w'=>x = .returned (.int .i64 21)∧Sat w0 (Disk d D2*F) w'):=(off_st b d s ⟨lg,L,sq,sn,few,nx⟩ hs2).mono fun x w' ⟨h1,h2⟩=>⟨h1,h2.right.drop2⟩
   have HCr:Hid (CrsI n (t+cs.length) (k+1) D2 [M,putsM cs M]):=hcr2.crs (M:=M) (by have:=HLim.out;omega) (by have:=HI.out;omega) (HCon.out.mono (Nat.le_add_right _ _) (by have h1:=HStI.out.few.1;have h2:sq≤k:=h1;omega)) ((Con.fresh HMem.out HSzM.out).mono (Nat.le_add_right _ _) (by have h1:=HStI.out.few.1;have h2:sq≤k:=h1;omega)) HMap.out (map_fresh HMem.out) ((hc2 _ HCn0.out).mono (by omega)) List.mem_cons_self;have HAr2:=ah ha2;clear hc2 hs2 hcr2 hsw ha2;go_wp2_with (go_at_call 70;(with_reducible refine HOf.out.mono ?_);rintro e w9 ⟨rfl,hs9⟩;have HS11:=ah hs9;clear hs9);go_ret;refine .inr (.inr (.inr ⟨HQ.out,HFu.out,rfl,HAr2.out,D2,ho2,hl2,HCr.out,HS11.out⟩))
end
theorem newN_st {slot turn n i:Nat} {lo:Bool} {a b:Nat × Nat} {IF LF:List (List UInt8)} {y:Xf} (hi:i % 2=0):newN ((stS slot turn n i lo a b IF LF y).files.map (·.num))=i+1:=by
 have h1:¬ i % 2=1:=by omega
 have h2:(i+1) % 2=1:=by omega
 have h3:¬ (i+2) % 2=1:=by omega
 cases y with
 | none=>
  show (if (i+1) % 2=1 then max (if i % 2=1 then max 0 i else 0) (i+1) else _)=_;rw[if_pos h2,if_neg h1];omega
 | some z=>
  show (if (i+2) % 2=1 then _ else (if (i+1) % 2=1 then max (if i % 2=1 then max 0 i else 0) (i+1) else _))=_;rw[if_neg h3,if_pos h2,if_neg h1];omega
theorem ownR_caps {w0 w:World}: ∀ {ks:Rows_} {F:SP},Sat w0 (OwnR ks*F) w→ ∀ x ∈ ks,x.2.2.length≤x.2.1∧x.2.1≤maxLen
 | [],_,_=>fun x hx=>by cases hx
 | y::ks,F,h=>fun x hx=>by
  have h1:Sat w0 (Row 5 1 (slOf y) y.2.2.length (y.2.2.map bv)*(OwnR ks*F)) w:=h.of (star_assoc _ _ _);rcases List.mem_cons.1 hx with rfl | hx
  ·obtain⟨A,c,e,h2,h3⟩:=h1.row_sl;injection e with e1 e2 e3
   rw[e3];exact⟨h2,h3⟩
  ·exact ownR_caps h1.right x hx
theorem mk_mapv (w:World):(Instr.makeMap 111 none).run Tryz.prog w = .ok (.map (some w.heap.size)) (w.alloc (.map #[] 0)):=by
 simp[Instr.makeMap]
def maxS (l:List Ent):Int:=l.foldl (fun m e=>max m e.seq) 0
theorem maxS_snoc (l:List Ent) (e:Ent):maxS (l++[e])=max (maxS l) e.seq:=by unfold maxS;rw[List.foldl_append];rfl
theorem maxS_le {k:Int}: ∀ (l:List Ent) (m:Int),m≤k→(∀ x ∈ l,x.seq≤k)→l.foldl (fun m e=>max m e.seq) m≤k
 | [],m,h,_=>h
 | x::l,m,h,h2=>maxS_le l _ (by have:=h2 x List.mem_cons_self;show max m x.seq≤k;omega) fun y hy=>h2 y (List.mem_cons_of_mem _ hy)
theorem maxS_ge: ∀ (l:List Ent) (m:Int),m≤l.foldl (fun m e=>max m e.seq) m∧ ∀ x ∈ l,x.seq≤l.foldl (fun m e=>max m e.seq) m
 | [],m=>⟨Int.le_refl _,fun x h=>by cases h⟩
 | y::l,m=>by
  obtain⟨h1,h2⟩:=maxS_ge l (max m y.seq);refine⟨by show m≤l.foldl _ (max m y.seq);omega,fun x hx=>?_⟩;rcases List.mem_cons.1 hx with rfl | hx
  ·show x.seq≤l.foldl _ (max m x.seq);omega
  ·exact h2 x hx
section
variable {w0 w:World} {F:SP}
def OpnR (w0:World) (F:SP) (d:Nat) (D:Dk) (t i:Nat) (E:List Ent) (bs:List (List Chn)) (yb:Bool) (S:Spc) (x:Ending) (w':World):Prop:=
 (∃ b s L,x = .returned (.tuple #[.pointer (some ⟨b,0,none⟩),.int .i64 0])∧MemIs L ((maxS E).toNat+bs.length) (mapD E bs) t∧
  ((yb=false∧Sat w0 (DbP b d s ⟨i+1,L,(maxS E).toNat+bs.length,fun _=>none,0,1⟩*(SpaceP s d S*(Disk d D*F))) w')∨(yb=true∧(S.switch [] [(i:Int)+2] D).2.2=0∧Sat w0 (DbP b d s ⟨i+1,L,(maxS E).toNat+bs.length,fun _=>none,0,1⟩*(SpaceP s d (S.switch [] [(i:Int)+2] D).1*(Disk d (S.switch [] [(i:Int)+2] D).2.1*F))) w')))∨
 (yb=true∧(S.switch [] [(i:Int)+2] D).2.2≠0∧x = .returned (.tuple #[.pointer none,.int .i64 (S.switch [] [(i:Int)+2] D).2.2])∧Sat w0 (Disk d (S.switch [] [(i:Int)+2] D).2.1*F) w')
set_option maxHeartbeats 16000000 in
theorem open_st (d n t k:Nat) (D:Dk) (slot turn:Nat) (lo:Bool) (fa fb:Nat × Nat) (LF:List (List UInt8)) (y:Xf) (sf:Nat→Nat) (lim i:Nat) (E:List Ent) (bs:List (List Chn))
  (ho:openX D=(some (stS slot turn n i lo fa fb (cutsB (packB E)) LF y),0)) (hd:Dsx n D slot turn lo fa fb LF y sf lim i E bs bs.length) (hcon:Con n t k E bs) (ht:t≤1024) (hk:k≤10000) (hlim:lim≤4*k+8) (hi:i≤2*k+2) (hc:Cnt D (20000*k+100)) (ha:D.armed≤9223372036854775807) (h:Sat w0 (Disk d D*F) w):
  Calls Tryz.prog 19 #[.pointer (some ⟨d,0,none⟩)] w (OpnR w0 F d D t i E bs y.isSome (stS slot turn n i lo fa fb (cutsB (packB E)) LF y)):=by
 have hmost:=hd.most;have hbig:=hd.big;have hnums: ∀ f ∈ (stS slot turn n i lo fa fb (cutsB (packB E)) LF y).files,f.num≤2147483647:=fun f hf=>by
  cases y with
  | none=>
   rcases List.mem_cons.1 hf with rfl | hf
   ·show i≤_;omega
   ·rw[List.mem_singleton.1 hf];show i+1≤_;omega
  | some z=>
   rcases List.mem_cons.1 hf with rfl | hf
   ·show i≤_;omega
   rcases List.mem_cons.1 hf with rfl | hf
   ·show i+1≤_;omega
   ·rw[List.mem_singleton.1 hf];show i+2≤_;omega
 have hfew:(stS slot turn n i lo fa fb (cutsB (packB E)) LF y).files.length≤1000:=by have:=st_few slot turn n i lo fa fb (cutsB (packB E)) LF y;omega
 have HOp:=ah (open_some h (by rw[hd.len];omega) (by rw[hd.len];omega) ho);obtain⟨S,hS⟩: ∃ S,S=stS slot turn n i lo fa fb (cutsB (packB E)) LF y:=⟨_,rfl⟩;have HSe:=ah hS;obtain⟨lg,hlg⟩: ∃ lg,lg=i+1:=⟨_,rfl⟩;have HLg:=ah hlg;have hnew:newN (S.files.map (·.num))=lg:=by rw[hS,hlg];exact newN_st hd.num.2
 have hgood:Good D S sf lim:=by rw[hS];exact hd.good
 rw[←hS] at HOp hnums hfew;have HNe:Hid (∀ s W (G:SP),Sat w0 (SpaceP s d S*(Disk d D*G)) W→Calls Tryz.prog 57 #[.pointer (some ⟨s,0,none⟩)] W fun e w'=>e = .returned (.int .i64 (lg:Int))∧Sat w0 (SpaceP s d S*(Disk d D*G)) w'):=fun s W G hW=>by
  have h9:=newest_sp (files_sp hgood hW) hnums hfew;rw[hnew] at h9;exact h9
 have hlg1:((lg:Int)==0)=false:=by rw[beq_eq_false_iff_ne];omega
 have hlg2:lg≤1000000:=by omega
 have hw1:IntKind.i64.wrap ((lg:Int) - 1)=(lg:Int) - 1:=by rw[IntKind.wrap_i64];omega
 have himgf:S.find ((lg:Int) - 1)=some ⟨i,posA n lo,imgN n,fa.1,fa.2,cutsB (packB E)⟩:=by
  rw[hS,hlg,show ((i+1:Nat):Int) - 1=(i:Nat) by omega];exact st_image
 have hlogf:S.find (lg:Int)=some ⟨i+1,posA n lo+imgN n,logN n,fb.1,fb.2,LF⟩:=by
  rw[hS,hlg,show ((i+1:Nat):Int)=(i:Int)+1 by omega];exact st_log
 have HRd:Hid (∀ s W (G:SP),Sat w0 (SpaceP s d S*(Disk d D*G)) W→Calls Tryz.prog 64 #[.pointer (some ⟨s,0,none⟩),.int .i64 (lg:Int)] W fun e w'=> ∃ A c rs,e = .returned (.tuple #[.slice A rs.length c,.int .i64 0])∧txt rs=bs.map laiB∧Sat w0 (Row 41 1 (.slice A rs.length c) rs.length (rs.map slOf)*(OwnR rs*(SpaceP s d S*(Disk d D*G)))) w'):=fun s W G hW=>by
  refine(read_sp hgood hW hlogf).mono ?_;rintro e w' ⟨u,rs,rfl,h1,h3⟩;obtain⟨A,c,rfl,_⟩:=h3.row_sl;exact⟨A,c,rs,rfl,h1.trans hd.tel.whole,h3⟩
 have HFi:Hid (∀ s W (G:SP),Sat w0 (SpaceP s d S*(Disk d D*G)) W→Calls Tryz.prog 67 #[.pointer (some ⟨s,0,none⟩)] W fun e w'=> ∃ A c,e = .returned (.slice A S.files.length c)∧Sat w0 (Row 128 3 (.slice A S.files.length c) S.files.length ((S.files.map lieOf).flatMap lieV)*(SpaceP s d S*(Disk d D*G))) w'):=fun s W G hW=>by
  refine(files_sp hgood hW).mono ?_;rintro e w' ⟨u,rfl,h3⟩;obtain⟨A,c,rfl,_⟩:=h3.row_sl;exact⟨A,c,rfl,h3⟩
 have HSwB:Hid (∀ s g W (G:SP),Sat w0 (Pt g 3 #[.int .i64 ((i:Int)+2)]*(SpaceP s d S*(Disk d D*G))) W→Calls Tryz.prog 55 #[.pointer (some ⟨s,0,none⟩),.slice none 0 0,.slice (some ⟨g,0,none⟩) 1 1] W (SwX w0 (Pt g 3 #[.int .i64 ((i:Int)+2)]*G) s d (S.switch [] [(i:Int)+2] D))):=fun s g W G hW=>
  switch_sp none 0 [] (some ⟨g,0,none⟩) 1 [(i:Int)+2] hgood (by omega) (hW.of (by ac_rfl)) (fun _ _ hne=>absurd rfl hne) (fun W' hW'=>lit_part hW' (fun j hj=>by
   match j,hj with
   | 0,_=>rfl)) (by simp) (by simp) (by simp) (by simp) (fun q hq=>by
   rw[List.mem_singleton] at hq;omega) (by have:=hc.writes;omega) (by have:=hc.pend;omega) ha
 have HNm:Hid (∀ j (hj:j<(S.files.map lieOf).length),(j<2∧((S.files.map lieOf)[j].1:Int)≤lg)∨(j=2∧((S.files.map lieOf)[j].1:Int)=(i:Int)+2∧y.isSome=true)):=fun j hj=>by
  subst hS;subst hlg
  match j,hj with
  | 0,_=>exact .inl ⟨by omega,by show ((i:Nat):Int)≤((i+1:Nat):Int);omega⟩
  | 1,_=>exact .inl ⟨by omega,by show ((i+1:Nat):Int)≤((i+1:Nat):Int);omega⟩
  | 2,hj=>
   cases y with
   | none=>exact absurd hj (by simp[stS,xfs])
   | some z=>exact .inr ⟨rfl,by show ((i+2:Nat):Int)=(i:Int)+2;omega,rfl⟩
  | j+3,hj=>
   cases y with
   | none=>exact absurd hj (by simp[stS,xfs])
   | some z=>exact absurd hj (by simp[stS,xfs])
 have HNl:Hid ((y.isSome=false∧S.files.length=2)∨(y.isSome=true∧S.files.length=3)):=by
  subst hS
  cases y with
  | none=>exact .inl ⟨rfl,rfl⟩
  | some z=>exact .inr ⟨rfl,rfl⟩
 have HFr:Hid (∀ s W (G:SP),Sat w0 (SpaceP s d S*(Disk d D*G)) W→Calls Tryz.prog 59 #[.pointer (some ⟨s,0,none⟩),.int .i64 ((lg:Int) - 1)] W fun e w'=> ∃ A c ts,e = .returned (.tuple #[.slice A ts.length c,.int .i64 0])∧txt ts=cutsB (packB E)∧Sat w0 (Row 41 1 (.slice A ts.length c) ts.length (ts.map slOf)*(RoL ts*(SpaceP s d S*(Disk d D*G)))) w'):=fun s W G hW=>by
  refine(frames_spC hgood hW himgf).mono ?_;rintro e w' ⟨u,ts,rfl,h1,h2,h3⟩;obtain⟨A,c,rfl,_⟩:=h3.row_sl;exact⟨A,c,ts,rfl,h1,h3⟩
 have hpl:(packB E).length≤20000000:=by
  have h1:=packB_le E fun e he=>⟨(hcon.img.each e he).1.key.2,(hcon.img.each e he).1.val⟩
  have h2:=sumE_each E fun e he=>(hcon.img.each e he).1
  rw[sizM_ents] at h1;have h3:=hcon.few;omega
 have HJo:Hid (∀ A c (ts:Rows_) W (G:SP),txt ts=cutsB (packB E)→Sat w0 (Row 41 1 (.slice A ts.length c) ts.length (ts.map slOf)*(RoL ts*G)) W→Calls Tryz.prog 61 #[.slice A ts.length c] W fun e w'=> ∃ B bc,e = .returned (.slice B (packB E).length bc)∧(packB E).length≤bc∧bc≤maxLen∧Sat w0 (Row 5 1 (.slice B (packB E).length bc) (packB E).length ((packB E).map bv)*(Row 41 1 (.slice A ts.length c) ts.length (ts.map slOf)*(RoL ts*G))) w'):=fun A c ts W G ht hW=>by
  have hfl:(txt ts).flatten=packB E:=by rw[ht,cuts_flat]
  have htl:ts.length≤20000000:=by
   have h1:(txt ts).length=ts.length:=by unfold txt;rw[List.length_map]
   rw[←h1,ht,cuts_len];omega
  have h9:=join_any A c ts W ⟨hW.row_rdvX,fun x hx=>hW.up2.rol hx⟩ (by rw[hfl];omega) (by omega);rw[hfl] at h9;refine h9.mono ?_;rintro e w' ⟨v,rfl,h1,h2⟩;have h3:=hW.gotRow h2 h1;obtain⟨B,bc,rfl,h4,h5⟩:=h3.row_sl;exact⟨B,bc,rfl,h4,h5,h3⟩
 have HUn:Hid (∀ B bc W (G:SP),(packB E).length≤bc→bc≤maxLen→Sat w0 (Row 5 1 (.slice B (packB E).length bc) (packB E).length ((packB E).map bv)*G) W→Calls Tryz.prog 60 #[.slice B (packB E).length bc] W fun e w'=> ∃ es A c,e = .returned (.slice A es.length c)∧es.map En.ent=E∧Sat w0 (Row 120 4 (.slice A es.length c) es.length (es.flatMap enV)*(OwnE es*G)) w'):=fun B bc W G h1 h2 hW=>by
  refine(unpacked_any B bc E W hcon.img (by have:=hcon.few;omega) hW.row_rdK h1 h2).mono ?_;rintro e w' ⟨es,A,c,rfl,h3,h4⟩;have h5:=hW.join h4 (owned_star (owned_row _ _ _ _ _) (owned_ownES _));exact⟨es,A,c,rfl,h3,(h5.of (show _=Row 5 1 (.slice B (packB E).length bc) (packB E).length ((packB E).map bv)*(Row 120 4 (.slice A es.length c) es.length (es.flatMap enV)*(OwnE es*G)) by ac_rfl)).right⟩
 have HSrt:Hid (E.Pairwise LTE):=hcon.img.lte;have HEa:Hid (∀ x ∈ E,(x.key.length≤200∧x.value.length≤20000)∧0≤x.seq∧x.seq≤1000000000):=fun x hx=>by
  have h1:=(hcon.img.each x hx).1.key;have h2:=(hcon.img.each x hx).1.val;have h3:=(hcon.img.each x hx).1.seq;omega
 have hel0:E.length≤1024:=by have:=hcon.few;omega
 have HEl0:=ah hel0;obtain⟨pl,hplE⟩: ∃ pl,pl=(packB E).length:=⟨_,rfl⟩;rw[←hplE] at HJo HUn;have HPl:Hid (pl≤20000000):=by unfold Hid;omega
 have HD:=ah hd;have HCon:=ah hcon;have HT:=ah ht;have HK:=ah hk;have HLim:=ah hlim;have HI:=ah hi;have HC:=ah hc;have HA:=ah ha;have HGood:=ah hgood;have HFew:=ah hfew;have HNums:=ah hnums;clear hd hcon ht hk hlim hi hc ha h ho hS hlg hnew hgood hnums hfew hmost hbig himgf hlogf hpl hplE hel0;go_enter Tryz.func19, Tryz.ntmps19;go_upto_region 7 with (first
  | (go_at_call 53;(with_reducible refine HOp.out.mono ?_);rintro e w1 ⟨s,rfl,hs1⟩;have HS1:=ah hs1;clear hs1)
  | (go_at_call 57;(with_reducible refine(HNe.out _ _ _ HS1.out).mono ?_);rintro e w2 ⟨rfl,hs2⟩;have HS2:=ah hs2;clear hs2)
  | (go_at_call 57;(with_reducible refine(HNe.out _ _ _ HS2.out).mono ?_);rintro e w3 ⟨rfl,hs3⟩;have HS3:=ah hs3;clear hs3)
  | (go_at_call 58;(with_reducible refine(mnew_any w0 _ _ HS3.out).mono ?_);rintro e w4 ⟨tb,hr,rfl,hs4⟩;have HS4:=ah hs4;have hmk:=mk_mapv w4;clear hs4))
 have hs5:=(HS4.out.map_new (P:= Tryz.prog) (k:= 3)).allocAt (b:=w4.heap.size+1) 113 (dbC d s lg tb 0 w4.heap.size 1 false) (by simp);have hs5':Sat w0 (Pt (w4.heap.size+1) 113 (dbC d s lg tb 0 w4.heap.size 1 false)*(MapP Tryz.prog 3 w4.heap.size 0 (fun _=>none)*(SkipT tb hr []*(SpaceP s d S*(Disk d D*F))))) ((w4.alloc (.map #[] 0)).alloc (.cells (dbC d s lg tb 0 w4.heap.size 1 false) 113)):=hs5;obtain⟨W5,hW5⟩: ∃ W5,W5=(w4.alloc (.map #[] 0)).alloc (.cells (dbC d s lg tb 0 w4.heap.size 1 false) 113):=⟨_,rfl⟩;rw[←hW5] at hs5';unfold dbC at hW5;rw[←hW5];obtain⟨mb,hmb⟩: ∃ mb,mb=w4.heap.size:=⟨_,rfl⟩;obtain⟨b,hb⟩: ∃ b,b=w4.heap.size+1:=⟨_,rfl⟩;rw[←hb, ←hmb] at hs5';rw[←hb, ←hmb];have HS5:Hid (Sat w0 (SpaceP s d S*(Disk d D*(Pt b 113 (dbC d s lg tb 0 mb 1 false)*(MapP Tryz.prog 3 mb 0 (fun _=>none)*(SkipT tb hr []*F))))) W5):=hs5'.of (by ac_rfl);clear hs5 hs5' hW5 hb hmb hmk HS1 HS2 HS3 HS4 HOp HNe;have c2:W5.cell? ⟨b,2,none⟩=some (.int .i64 (lg:Int)):=HS5.out.up3.cell 2;go_upto_region 8 with (go_at_call 59;(with_reducible refine(HFr.out _ _ _ HS5.out).mono ?_);rintro e w6 ⟨FA,fc,ts,rfl,ht,hs6⟩;have HTs:=ah ht;have HS6:=ah hs6;clear hs6 ht)
 go_wp2_with (first
  | (go_at_call 61;(with_reducible refine(HJo.out _ _ _ _ _ HTs.out HS6.out).mono ?_);rintro e w7 ⟨JA,jc,rfl,hj1,hj2,hs7⟩;have HJ1:=ah hj1;have HJ2:=ah hj2;have HS7:=ah hs7;clear hj1 hj2 hs7)
  | (go_at_call 60;(with_reducible refine(HUn.out _ _ _ _ HJ1.out HJ2.out HS7.out).mono ?_);rintro e w8 ⟨es,A,c,rfl,hes,hs8⟩;have HES:=ah hes;have HS8:=ah hs8;clear hes hs8))
 have HEl:Hid (es.length=E.length):=by unfold Hid;rw[←HES.out,List.length_map]
 have hel:es.length≤1024:=by rw[HEl.out];exact HEl0.out
 have HS9:Hid (Sat w0 (SkipT tb hr []*(Pt b 113 (dbC d s lg tb 0 mb 1 false)*(Row 120 4 (.slice A es.length c) es.length (es.flatMap enV)*(OwnE es*(MapP Tryz.prog 3 mb 0 (fun _=>none)*(SpaceP s d S*(Disk d D*F))))))) w8):=(HS8.out.of (show _=Row 41 1 (.slice FA ts.length fc) ts.length (ts.map slOf)*(RoL ts*(SkipT tb hr []*(Pt b 113 (dbC d s lg tb 0 mb 1 false)*(Row 120 4 (.slice A es.length c) es.length (es.flatMap enV)*(OwnE es*(MapP Tryz.prog 3 mb 0 (fun _=>none)*(SpaceP s d S*(Disk d D*F)))))))) by ac_rfl)).right.right;clear HS8 HS7 HS6 HS5 HJo HUn HFr c2;go_loopw [57] (fun iv wr=> ∃ (j:Nat) (ms:List Nd) (q:Int),j≤es.length∧iv = .int .i64 (j:Int)∧Hid (TabG ms j∧entsN ms=E.take j∧q=maxS (E.take j)∧Sat w0 (SkipT tb hr ms*(Pt b 113 (dbC d s lg tb q mb 1 false)*(Row 120 4 (.slice A es.length c) es.length (es.flatMap enV)*(OwnE es*(MapP Tryz.prog 3 mb 0 (fun _=>none)*(SpaceP s d S*(Disk d D*F))))))) wr)) (fun iv _=>es.length - (intOf iv).toNat)
 case atStart=>exact⟨0,[],0,by omega,rfl,tabG_nil 0,rfl,rfl,HS9.out⟩
 case round=>
  obtain⟨j,ms,q,hj,rfl,HD0⟩:=hrel;by_cases hlt:j<es.length
  ·obtain⟨lb,lo2,hA,hq⟩:=ents_at HD0.out.2.2.2.up3.row_rdK (by omega);subst hA;obtain⟨y0,y1,y2,y3⟩:=hq j hlt;have HRi:=ah (ownE_r HD0.out.2.2.2.up4 _ (List.getElem_mem hlt));have hmE:es[j].ent ∈ E:=by rw[←HES.out];exact List.mem_map_of_mem (List.getElem_mem hlt)
   have HLi:=ah (HEa.out _ hmE);have HTk:Hid (E.take (j+1)=E.take j++[es[j].ent]):=by
    unfold Hid;rw[←HES.out,List.take_add_one,List.getElem?_eq_getElem (by rw[List.length_map];exact hlt),List.getElem_map];rfl
   have HNew:Hid (∀ x ∈ entsN ms,LTE x es[j].ent):=fun x hx=>by
    rw[HD0.out.2.1] at hx;have h2:=HSrt.out;rw[←List.take_append_drop (j+1) E,HTk.out] at h2;have h3:=(List.pairwise_append.1 h2).1;exact(List.pairwise_append.1 h3).2.2 x hx _ (List.mem_singleton_self _)
   have hii:(j:Int)<es.length:=by omega
   clear hq hmE;generalize es[j]=x at*
   obtain⟨⟨kA,kc,kl⟩,⟨vA,vc,vl⟩,eq,dd⟩:=x;replace y0:_=some (Value.slice kA kl.length kc):=y0;replace y1:_=some (Value.slice vA vl.length vc):=y1;replace y2:_=some (Value.int .i64 eq):=y2;replace y3:_=some (Value.bool dd):=y3;replace HLi:Hid ((kl.length≤200∧vl.length≤20000)∧0≤eq∧eq≤1000000000):=HLi;go_upto_region 11 with fail;have hs7:=HD0.out.2.2.2.allocPt 120 #[.slice kA kl.length kc,.slice vA vl.length vc,.int .i64 eq,.bool dd];obtain⟨W7,hW7⟩: ∃ W7,W7=wr.alloc (.cells #[.slice kA kl.length kc,.slice vA vl.length vc,.int .i64 eq,.bool dd] 120):=⟨_,rfl⟩;rw[←hW7] at hs7;rw[←hW7];obtain⟨bx,hbx⟩: ∃ bx,bx=wr.heap.size:=⟨_,rfl⟩;rw[←hbx] at hs7;rw[←hbx];have HR7:Hid (Rd W7 kA kl∧Rd W7 vA vl):=by rw[hW7];exact⟨RdV.alloc HRi.out.1 _,RdV.alloc HRi.out.2 _⟩
   clear hW7 hbx y0 y1 y2 y3;have c3:=hs7.up3.cell 3;have x0:=hs7.cell 0;have x1:=hs7.cell 1;have x2:=hs7.cell 2;have x3:=hs7.cell 3;have HSr:=ah hs7;clear hs7;have HPu:Hid (∀ W H,Chg No W7 W→Calls Tryz.prog 62 #[.pointer (some ⟨tb,0,none⟩),.agg #[.slice kA kl.length kc,.slice vA vl.length vc,.int .i64 eq,.bool dd],.int .i64 H] W fun x w'=> ∃ ns',x = .returned (.int .i64 0)∧TabG ns' (j+1)∧entsN ns'=E.take (j+1)∧Sat w0 (Pt bx 120 #[.slice kA kl.length kc,.slice vA vl.length vc,.int .i64 eq,.bool dd]*(SkipT tb hr ns'*(Pt b 113 (dbC d s lg tb q mb 1 false)*(Row 120 4 (.slice (some ⟨lb,lo2,none⟩) es.length c) es.length (es.flatMap enV)*(OwnE es*(MapP Tryz.prog 3 mb 0 (fun _=>none)*(SpaceP s d S*(Disk d D*F)))))))) w'):=fun W H hW=>by
    refine(putN_any tb hr ms j H ⟨(kA,kc,kl),(vA,vc,vl),eq,dd⟩ w0 W _ (HSr.out.new hW).up2 HD0.out.1 (by omega) ⟨HR7.out.1.new hW,HR7.out.2.new hW⟩ HLi.out.1.1 HLi.out.1.2 (by show eq≤topSeq;unfold topSeq;have:=HLi.out;omega) (fun x hx hs=>same1_not hs (HNew.out x hx))).mono ?_;rintro x w' ⟨ns',rfl,k1,k2,k3⟩;exact⟨ns',rfl,k1,by rw[k2,insE_last HNew.out,HTk.out,HD0.out.2.1],k3.up2⟩
   have HH:=ah (fun W=>height_any eq HLi.out.2 W);have HDrew:Hid (Chg No W7 W7.drew):=(Chg.refl No W7).drew;refine wp_region_held_drew (S:=fun w'=>w'.cell? ⟨b,3,none⟩=some (.pointer (some ⟨tb,0,none⟩))∧w'.cell? ⟨bx,0,none⟩=some (.slice kA kl.length kc)∧w'.cell? ⟨bx,1,none⟩=some (.slice vA vl.length vc)∧w'.cell? ⟨bx,2,none⟩=some (.int .i64 eq)∧w'.cell? ⟨bx,3,none⟩=some (.bool dd)) (by kernel_rfl) ⟨(by exact c3),x0,x1,x2,x3⟩ ?_;intro hS0;refine rtk 0 ?_;refine rtk 1 ?_;refine rtk 2 ?_;refine rtk 3 ?_;refine rtk 4 ?_;refine rtk 5 ?_;refine rtk 6 ?_;refine rck 7 fun K hK=>?_
   go_simp;go_at_call 63;(with_reducible refine(HH.out _).mono ?_);rintro e wx ⟨⟨hh,rfl,hh1,hh2⟩,rfl⟩
   refine hK.out _ _ ⟨(by exact c3),x0,x1,x2,x3⟩ (fun hS0=>?_);clear hK K;refine rck 8 fun K hK=>?_
   go_simp;go_at_call 62;(with_reducible refine(HPu.out _ hh HDrew.out).mono ?_);rintro e w9 ⟨ns2,rfl,n1,n2,hs8⟩;have HN1:=ah n1;have HN2:=ah n2;have HS10:=ah hs8;clear n1 n2 hs8
   refine hK.out _ _ ⟨HS10.out.up3.cell 3,HS10.out.cell 0,HS10.out.cell 1,HS10.out.cell 2,HS10.out.cell 3⟩ (fun hS0=>?_);clear hK K;refine wpAnyH_done (by kernel_rfl) ?_ _;have x2':w9.cell? ⟨bx,2,none⟩=some (.int .i64 eq):=HS10.out.cell 2;have c4':w9.cell? ⟨b,4,none⟩=some (.int .i64 q):=HS10.out.up3.cell 4;have f4':=HS10.out.up3.frozen 4;have X2:=ah x2';have C4:=ah c4';clear c3 x0 x1 x2 x3;go_upto_region 12 with fail;refine rgnz_start (z:=10) (S:=fun w'=>w'.cell? ⟨b,4,none⟩=some (.int .i64 q)∧w'.cell? ⟨bx,2,none⟩=some (.int .i64 eq)) (by kernel_rfl) ⟨(by exact C4.out),(by exact X2.out)⟩ ?_;intro hS0;refine rtkz 0 ?_;refine rtkz 1 ?_;refine rtkz 2 ?_;refine rtkz 3 ?_;refine rtkz 4 ?_;refine rtkz 5 ?_;refine rtkz 6 ?_;refine rtkz 7 ?_;refine rckz 8 fun K hK=>?_
   go_simp;refine hK.out _ _ ⟨(by exact C4.out),(by exact X2.out)⟩ (fun hS0=>?_);clear hK K;refine rtkz 9 ?_;refine rgnz_last rfl (by kernel_rfl) (by kernel_rfl) (fun K hK=>?_);go_simp;refine hK.out _ _ ?_;clear hK K;have hs11:=((HS10.out.up3).set 4 (.int .i64 (max q eq))).new (Chg.refl No _).drew;have HS11:=ah hs11;have HMx:Hid (max q eq=maxS (E.take (j+1))):=by unfold Hid;rw[HTk.out,maxS_snoc, ←HD0.out.2.2.1];rfl
   clear hs11 f4' c4' x2';go_wp2_with fail;go_roundw
   ·exact⟨j+1,ns2,max q eq,by omega,by push_cast;rfl,HN1.out,HN2.out,HMx.out,(HS11.out.of (show _=Pt bx 120 #[.slice kA kl.length kc,.slice vA vl.length vc,.int .i64 eq,.bool dd]*(SkipT tb hr ns2*(Pt b 113 (dbC d s lg tb (max q eq) mb 1 false)*(Row 120 4 (.slice (some ⟨lb,lo2,none⟩) es.length c) es.length (es.flatMap enV)*(OwnE es*(MapP Tryz.prog 3 mb 0 (fun _=>none)*(SpaceP s d S*(Disk d D*F))))))) by show Pt b 113 (dbC d s lg tb (max q eq) mb 1 false)*_=_;ac_rfl)).right⟩
   ·simp[intOf];omega
  ·have hje:j=es.length:=by omega
   subst hje;have HQ0:Hid (TabG ms E.length∧entsN ms=E∧q=maxS E):=by
    have h1:=HD0.out;rw[List.take_of_length_le (by have:=HEl.out;omega)] at h1;exact⟨by rw[←HEl.out];exact h1.1,h1.2.1,h1.2.2.1⟩
   have HS12:=ah HD0.out.2.2.2;have hq0:(((maxS E).toNat:Nat):Int)=maxS E:=by have:=(maxS_ge E 0).1;unfold maxS;omega
   have HMe:Hid (MemIs E (maxS E).toNat (E.map pairE) E.length):=ImgOk.mem HCon.out.img (fun x hx=>by rw[hq0];exact(maxS_ge E 0).2 x hx);have HS13:Hid (Sat w0 (DbP b d s ⟨lg,E,(maxS E).toNat,fun _=>none,0,1⟩*(SpaceP s d S*(Disk d D*F))) wr):=by
    refine Sat.dbI (v:=⟨lg,E,(maxS E).toNat,fun _=>none,0,1⟩) (tb:=tb) (hr:=hr) (mb:=mb) (ns:=ms) HQ0.out.1 HQ0.out.2.1 ?_;rw[db_d];dsimp only;rw[hq0, ←HQ0.out.2.2];have h1:=HS12.out.of (show _=Row 120 4 (.slice A es.length c) es.length (es.flatMap enV)*(OwnE es*(Pt b 113 (dbC d s lg tb q mb 1 false)*(SkipT tb hr ms*(MapP Tryz.prog 3 mb 0 (fun _=>none)*(SpaceP s d S*(Disk d D*F)))))) by ac_rfl);exact h1.right.right
   have c2:wr.cell? ⟨b,2,none⟩=some (.int .i64 (lg:Int)):=HS12.out.up2.cell 2;have HS14:Hid (Sat w0 (SpaceP s d S*(Disk d D*(DbP b d s ⟨lg,E,(maxS E).toNat,fun _=>none,0,1⟩*F))) wr):=HS13.out.of (by ac_rfl);clear HS12 HS13 HD0 HQ0 hlt;go_wp2_with (go_at_call 64;(with_reducible refine(HRd.out _ _ _ HS14.out).mono ?_);rintro e w10 ⟨RA,rc,rs,rfl,hrs,hs15⟩;have HRs:=ah hrs;have HS15:=ah hs15;clear hrs hs15);have HRl:Hid (rs.length=bs.length):=by have:=congrArg List.length HRs.out;unfold txt at this;rw[List.length_map,List.length_map] at this;exact this
   have hbl:rs.length≤10000:=by rw[HRl.out];have:=HCon.out.bl;have:=HK.out;omega
   have HS16:Hid (Sat w0 (DbP b d s ⟨lg,E,(maxS E).toNat,fun _=>none,0,1⟩*(Row 41 1 (.slice RA rs.length rc) rs.length (rs.map slOf)*(OwnR rs*(SpaceP s d S*(Disk d D*F))))) w10):=HS15.out.of (by ac_rfl);clear HS14 HS15 c2;go_loopw [92] (fun iv wr=> ∃ (j:Nat),j≤rs.length∧iv = .int .i64 (j:Int)∧Hid (∃ L,MemIs L ((maxS E).toNat+j) (mapD E (bs.take j)) (E.length+((bs.take j).map List.length).sum)∧Sat w0 (DbP b d s ⟨lg,L,(maxS E).toNat+j,fun _=>none,0,1⟩*(Row 41 1 (.slice RA rs.length rc) rs.length (rs.map slOf)*(OwnR rs*(SpaceP s d S*(Disk d D*F))))) wr)) (fun iv _=>rs.length - (intOf iv).toNat)
   case atStart=>exact⟨0,by omega,rfl,E,HMe.out,HS16.out⟩
   case round=>
    obtain⟨j,hj,rfl,HD1⟩:=hrel;obtain⟨L,hmL,hsL⟩:=HD1.out;by_cases hlt:j<rs.length
    ·have hrow:=hsL.up2.row_rdvX;obtain⟨lb,lo2,hA,hcell⟩:=hrow (by intro h0;have:=congrArg List.length h0;rw[List.length_map,List.length_nil] at this;omega);subst hA;have y0:=hcell j (by rw[List.length_map];exact hlt);rw[List.getElem_map] at y0;have hjb:j<bs.length:=by rw[←HRl.out];exact hlt
     have hx2:rs[j].2.2=laiB bs[j]:=by
      have h1:(txt rs)[j]'(by unfold txt;rw[List.length_map];exact hlt)=rs[j].2.2:=by unfold txt;rw[List.getElem_map]
      have h2:(bs.map laiB)[j]'(by rw[List.length_map];exact hjb)=laiB bs[j]:=by rw[List.getElem_map]
      rw[←h1, ←h2];congr 1<;>exact HRs.out
     have hrd:=fun W (G:SP) (hW:Sat w0 (OwnR rs*G) W)=>OwnR_rd hW (List.getElem_mem hlt)
     have hcp:=ownR_caps hsL.up3 _ (List.getElem_mem hlt);have hbok:BatOk bs[j]:=HCon.out.bats _ (List.getElem_mem hjb);have htk:bs.take (j+1)=bs.take j++[bs[j]]:=by rw[List.take_add_one,List.getElem?_eq_getElem hjb];rfl
     have hsum:((bs.take (j+1)).map List.length).sum≤(bs.map List.length).sum:=by
      have h1:=congrArg (fun l=>(l.map List.length).sum) (List.take_append_drop (j+1) bs);simp only[List.map_append,List.sum_append] at h1;omega
     have hsum2:((bs.take (j+1)).map List.length).sum=((bs.take j).map List.length).sum+bs[j].length:=by rw[htk,List.map_append,List.sum_append];simp
     have hfew2:=HCon.out.few;have hmap:mapD E (bs.take (j+1))=putsM bs[j] (mapD E (bs.take j)):=by rw[htk,mapD_snoc]
     generalize bs[j]=cs at*
     generalize rs[j]=x at*
     obtain⟨xa,xc,xl⟩:=x;dsimp only at hx2 hrd hcp;replace y0:_=some (Value.slice xa xl.length xc):=y0;subst hx2;have hlb:=laiB_le hbok;have hkk:=HK.out;have htt:=HT.out;have hqk:(maxS E).toNat+bs.length≤10000:=by
      have h1:=maxS_le E 0 (k:=((k - bs.length:Nat):Int)) (by omega) (fun x hx=>by have:=HCon.out.seqs x hx;omega);have h2:=HCon.out.bl;have h3:maxS E≤((k - bs.length:Nat):Int):=h1;omega
     have HUl:Hid (∀ W,Chg No wr W→Calls Tryz.prog 66 #[.slice xa (laiB cs).length xc] W fun e w'=> ∃ B bd ps,e = .returned (.slice B ps.length bd)∧ps.map Pu.chn=cs∧(∀ W,Rd W xa (laiB cs)→PusR W ps)∧Sat w0 (Row 43 3 (.slice B ps.length bd) ps.length (ps.flatMap puC)*(DbP b d s ⟨lg,L,(maxS E).toNat+j,fun _=>none,0,1⟩*(Row 41 1 (.slice (some ⟨lb,lo2,none⟩) rs.length rc) rs.length (rs.map slOf)*(OwnR rs*(SpaceP s d S*(Disk d D*F)))))) w'):=fun W hk=>by
      refine(unlaid_any xa xc cs W ((hrd _ _ hsL.up3).new hk) hcp.1 hcp.2 (fun p hp=>(hbok.each p hp).chn) (by omega)).mono ?_;rintro e w' ⟨B,bd,ps,h1,h2,rfl,h3⟩;have hpl:ps.length=cs.length:=by rw[←h1,List.length_map]
      rw[←hpl] at h3;refine⟨B,bd,ps,by rw[hpl],h1,h2,?_⟩;exact((hsL.new hk).join h3 (owned_star (owned_row _ _ _ _ _) owned_emp)).of (by rw[star_comm _ Emp,emp_star])
     have hJn:j+1≤bs.length:=by rw[←HRl.out];exact hlt
     have HDn:Hid (∀ B bd (ps:List Pu) W,ps.map Pu.chn=cs→(∀ W,Rd W xa (laiB cs)→PusR W ps)→Sat w0 (Row 43 3 (.slice B ps.length bd) ps.length (ps.flatMap puC)*(DbP b d s ⟨lg,L,(maxS E).toNat+j,fun _=>none,0,1⟩*(Row 41 1 (.slice (some ⟨lb,lo2,none⟩) rs.length rc) rs.length (rs.map slOf)*(OwnR rs*(SpaceP s d S*(Disk d D*F)))))) W→Calls Tryz.prog 65 #[.pointer (some ⟨b,0,none⟩),.slice B ps.length bd] W fun e w'=>e = .returned (.tuple #[])∧Hid (∃ L',MemIs L' ((maxS E).toNat+(j+1)) (mapD E (bs.take (j+1))) (E.length+((bs.take (j+1)).map List.length).sum)∧Sat w0 (DbP b d s ⟨lg,L',(maxS E).toNat+(j+1),fun _=>none,0,1⟩*(Row 41 1 (.slice (some ⟨lb,lo2,none⟩) rs.length rc) rs.length (rs.map slOf)*(OwnR rs*(SpaceP s d S*(Disk d D*F))))) w')):=fun B bd ps W hps hpr hW=>by
      have hpl:ps.length=cs.length:=by rw[←hps,List.length_map]
      have hok: ∀ p ∈ ps,ChgOk p.chn:=fun p hp=>hbok.each _ (by rw[←hps];exact List.mem_map_of_mem hp)
      have hLl:=hmL.len;refine(ddone_any b d s ⟨lg,L,(maxS E).toNat+j,fun _=>none,0,1⟩ B bd ps (hW.up2) (fun W' hW'=>⟨hW'.row_rdK,hpr W' (hrd _ _ hW'.up3)⟩) hok (by omega) (by show L.length≤80000;omega) (fun x hx=>⟨((hmL.each x hx).seq).1,hmL.top x hx⟩) (by show (maxS E).toNat+j+1≤_;omega) (by show 0≤_;omega)).mono ?_;rintro e w' ⟨rfl,qs,h1,h2⟩;refine⟨rfl,tidyE qs (doneE ((maxS E).toNat+j) cs L),?_,?_⟩
      ·rw[hmap,hsum2, ←Nat.add_assoc, ←Nat.add_assoc];exact(hmL.done hbok.each (by omega)).tidy qs
      ·rw[hps] at h2;exact h2.up2.right
     have hii:(j:Int)<rs.length:=by omega
     have HJn:=ah hJn;clear hmL hsL hrow hcell hrd hcp hbok htk hsum hsum2 hfew2 hmap hlb hkk htt hqk HD1 hjb hJn;go_wp2_with (first
      | (go_at_call 66;(with_reducible refine(HUl.out _ (Chg.refl No _)).mono ?_);rintro e w11 ⟨B,bd,ps,rfl,hp1,hp2,hs17⟩;have HP1:=ah hp1;have HP2:=ah hp2;have HS17:=ah hs17;clear hp1 hp2 hs17)
      | (go_at_call 65;(with_reducible refine(HDn.out _ _ _ _ HP1.out HP2.out HS17.out).mono ?_);rintro e w12 ⟨rfl,hs18⟩;have HS18:=ah hs18;clear hs18))
     go_roundw
     ·exact⟨j+1,by omega,by push_cast;rfl,HS18.out.out⟩
     ·simp[intOf];omega
    ·have hje:j=rs.length:=by omega
     subst hje;rw[HRl.out,List.take_length] at hmL;have HML:Hid (MemIs L ((maxS E).toNat+bs.length) (mapD E bs) t):=⟨hmL.sort,hmL.each,hmL.top,Nat.le_trans hmL.len HCon.out.few,hmL.pairs,hmL.tells⟩;have HS19:Hid (Sat w0 (SpaceP s d S*(Disk d D*(DbP b d s ⟨lg,L,(maxS E).toNat+bs.length,fun _=>none,0,1⟩*F))) wr):=by
      rw[HRl.out] at hsL;rw[←HRl.out] at hsL ⊢;exact(hsL.of (show _=Row 41 1 (.slice RA rs.length rc) rs.length (rs.map slOf)*(OwnR rs*(SpaceP s d S*(Disk d D*(DbP b d s ⟨lg,L,(maxS E).toNat+rs.length,fun _=>none,0,1⟩*F)))) by ac_rfl)).right.right
     clear hmL hsL HD1 hlt;go_wp2_with (go_at_call 67;(with_reducible refine(HFi.out _ _ _ HS19.out).mono ?_);rintro e w13 ⟨LA,lc,rfl,hs20⟩;have HS20:=ah hs20;clear hs20);obtain⟨ls,hls⟩: ∃ ls,ls=S.files.map lieOf:=⟨_,rfl⟩;obtain⟨N,hN⟩: ∃ N,N=S.files.length:=⟨_,rfl⟩;rw[←hls] at HS20 HNm;rw[←hN] at HS20 HNl;rw[←hN];have hlsN:ls.length=N:=by rw[hls,hN,List.length_map]
     have HlsN:=ah hlsN;obtain⟨S2,D2,rv,hr⟩: ∃ S2 D2 rv,S.switch [] [(i:Int)+2] D=(S2,D2,rv):=⟨_,_,_,rfl⟩;rw[hr] at HSwB;have HRe:=ah hr;have hN3:N≤3:=by rcases HNl.out with ⟨_,h1⟩ | ⟨_,h1⟩<;>omega
     have HS21:Hid (Sat w0 (DbP b d s ⟨lg,L,(maxS E).toNat+bs.length,fun _=>none,0,1⟩*(SpaceP s d S*(Disk d D*(Row 128 3 (.slice LA N lc) N (ls.flatMap lieV)*F)))) w13):=HS20.out.of (by ac_rfl);clear HS20 HS19 hls hN hr hlsN HFi;go_loopw [104] (fun iv wr=> ∃ (j:Nat),j≤N∧iv = .int .i64 (j:Int)∧Hid ((j≤2∧Sat w0 (DbP b d s ⟨lg,L,(maxS E).toNat+bs.length,fun _=>none,0,1⟩*(SpaceP s d S*(Disk d D*(Row 128 3 (.slice LA N lc) N (ls.flatMap lieV)*F)))) wr)∨(j=3∧rv=0∧y.isSome=true∧Sat w0 (DbP b d s ⟨lg,L,(maxS E).toNat+bs.length,fun _=>none,0,1⟩*(SpaceP s d S2*(Disk d D2*(Row 128 3 (.slice LA N lc) N (ls.flatMap lieV)*F)))) wr))) (fun iv _=>N - (intOf iv).toNat)
     case atStart=>exact⟨0,by omega,rfl,.inl ⟨by omega,HS21.out⟩⟩
     case round=>
      obtain⟨j,hj,rfl,HD2⟩:=hrel;by_cases hlt:j<N
      ·have hs30:Sat w0 (DbP b d s ⟨lg,L,(maxS E).toNat+bs.length,fun _=>none,0,1⟩*(SpaceP s d S*(Disk d D*(Row 128 3 (.slice LA N lc) N (ls.flatMap lieV)*F)))) wr:=by
        rcases HD2.out with h1 | h1
        ·exact h1.2
        ·omega
       obtain⟨lb,lo2,hA,y0,y1,y2⟩:=lie3_at hs30.up4.row_rdvX (by rw[HlsN.out];exact hlt);subst hA;have hnm:=HNm.out j (by rw[HlsN.out];exact hlt);generalize ls[j]'(by rw[HlsN.out];exact hlt)=x at*
       obtain⟨xn,xf,xb⟩:=x;replace y0:_=some (Value.int .i64 (xn:Int)):=y0;replace y1:_=some (Value.int .i64 (xf:Int)):=y1;replace y2:_=some (Value.int .i64 (xb:Int)):=y2;replace hnm:(j<2∧(xn:Int)≤lg)∨(j=2∧(xn:Int)=(i:Int)+2∧y.isSome=true):=hnm;have cb2:wr.cell? ⟨b,2,none⟩=some (.int .i64 (lg:Int)):=by
        obtain⟨tb2,hr2,mb2,ns2,_,hs0⟩:=hs30.db;exact(hs0.of (db_d ..)).cell 2
       have hii:(j:Int)<N:=by omega
       go_upto_region 23 with fail;have hs31:=hs30.allocPt 128 #[.int .i64 (xn:Int),.int .i64 (xf:Int),.int .i64 (xb:Int)];have cb3:=((Chg.refl No wr).alloc (.cells #[.int .i64 (xn:Int),.int .i64 (xf:Int),.int .i64 (xb:Int)] 128)).cell cb2 id;obtain⟨W7,hW7⟩: ∃ W7,W7=wr.alloc (.cells #[.int .i64 (xn:Int),.int .i64 (xf:Int),.int .i64 (xb:Int)] 128):=⟨_,rfl⟩;rw[←hW7] at hs31 cb3;rw[←hW7];obtain⟨bx,hbx⟩: ∃ bx,bx=wr.heap.size:=⟨_,rfl⟩;rw[←hbx] at hs31;rw[←hbx];have x0:=hs31.cell 0;have CB3:=ah cb3;have X0:Hid (W7.cell? ⟨bx,0,none⟩=some (.int .i64 (xn:Int))):=x0;have HS31:=ah hs31;have HNx:=ah hnm;clear hs30 hs31 hW7 hbx cb2 cb3 y0 y1 y2 x0 hnm;refine wp_region_held_drew (S:=fun w'=>w'.cell? ⟨bx,0,none⟩=some (.int .i64 (xn:Int))∧w'.cell? ⟨b,2,none⟩=some (.int .i64 (lg:Int))) (by kernel_rfl) ⟨(by exact X0.out),(by exact CB3.out)⟩ ?_;intro hS0;refine rtk 0 ?_;refine rtk 1 ?_;refine rtk 2 ?_;refine rtk 3 ?_;refine rtk 4 ?_;refine rtk 5 ?_;refine rtk 6 ?_;refine wpAnyH_done (by kernel_rfl) ?_ _;have X2:W7.drew.cell? ⟨bx,0,none⟩=some (.int .i64 (xn:Int)):=X0.out;have hs35:=HS31.out.new (Chg.refl No W7).drew;obtain⟨W9,hW9⟩: ∃ W9,W9=W7.drew:=⟨_,rfl⟩;rw[←hW9] at hs35 X2;rw[←hW9];have HX2:=ah X2;have HS32:=ah hs35;clear hW9 hs35 HS31 X0 CB3 X2;rcases HNx.out with ⟨hj2,hle⟩ | ⟨hj2,hxn,hy⟩
       ·have h1:¬ (lg:Int)<xn:=by omega
        clear hle;go_wp2_with fail;go_roundw
        ·exact⟨j+1,by omega,by push_cast;rfl,.inl ⟨by omega,HS32.out.right⟩⟩
        ·simp[intOf];omega
       ·have hlgi:=HLg.out;have h1:(lg:Int)<(i:Int)+2:=by omega
        have hlgi2:=ah hlgi;clear hlgi;have x0':W9.cell? ⟨bx,0,none⟩=some (.int .i64 ((i:Int)+2)):=by rw[←hxn];exact HX2.out
        have hs33:=HS32.out.right.allocPt 3 #[.int .i64 ((i:Int)+2)];have HS33:Hid (Sat w0 (Pt W9.heap.size 3 #[.int .i64 ((i:Int)+2)]*(SpaceP s d S*(Disk d D*(DbP b d s ⟨lg,L,(maxS E).toNat+bs.length,fun _=>none,0,1⟩*(Row 128 3 (.slice (some ⟨lb,lo2,none⟩) N lc) N (ls.flatMap lieV)*F))))) (W9.alloc (.cells #[.int .i64 ((i:Int)+2)] 3))):=hs33.of (by ac_rfl);clear hs33;rw[hxn];by_cases h0:rv=0
        ·subst h0;go_upto_region 25 with (go_at_call 55;(with_reducible refine(HSwB.out _ _ _ _ HS33.out).mono ?_);rintro e w15 ⟨rfl,hs34⟩;have HS34:=ah hs34;clear hs34)
         go_wp2_with fail;go_roundw
         ·exact⟨3,by omega,by first | rfl | (rw[hj2];rfl),.inr ⟨rfl,by first | rfl | trivial,hy,(HS34.out.of (show _=Pt W9.heap.size 3 #[.int .i64 ((i:Int)+2)]*(DbP b d s ⟨lg,L,(maxS E).toNat+bs.length,fun _=>none,0,1⟩*(SpaceP s d S2*(Disk d D2*(Row 128 3 (.slice (some ⟨lb,lo2,none⟩) N lc) N (ls.flatMap lieV)*F)))) by ac_rfl)).right⟩⟩
         ·simp[intOf];omega
        ·have hb0:(rv !=0)=true:=by rw[bne_iff_ne];exact h0
         have H0:=ah h0;clear h0;go_upto_region 25 with (go_at_call 55;(with_reducible refine(HSwB.out _ _ _ _ HS33.out).mono ?_);rintro e w15 ⟨rfl,hs34⟩;have HS34:=ah hs34;clear hs34)
         go_wp2_with fail;go_ret2;unfold OpnR;rw[←HSe.out,HRe.out];refine .inr ⟨hy,H0.out,rfl,?_⟩;exact(HS34.out.of (show _=SpaceP s d S2*(Pt W9.heap.size 3 #[.int .i64 ((i:Int)+2)]*(DbP b d s ⟨lg,L,(maxS E).toNat+bs.length,fun _=>none,0,1⟩*(Row 128 3 (.slice (some ⟨lb,lo2,none⟩) N lc) N (ls.flatMap lieV)*(Disk d D2*F)))) by ac_rfl)).right.right.right.right
      ·have hje:j=N:=by omega
       subst hje;have HD3:=ah HD2.out;clear HD2 hlt;go_wp2_with fail;go_ret2;unfold OpnR;rw[←HSe.out,HRe.out];refine .inl ⟨b,s,L,rfl,HML.out,?_⟩;rcases HD3.out with ⟨h1,h2⟩ | ⟨h1,h2,h3,h4⟩
       ·rcases HNl.out with ⟨h5,h6⟩ | ⟨h5,h6⟩
        ·refine .inl ⟨h5,?_⟩;rw[←HLg.out];exact(h2.of (show _=Row 128 3 (.slice LA j lc) j (ls.flatMap lieV)*(DbP b d s ⟨lg,L,(maxS E).toNat+bs.length,fun _=>none,0,1⟩*(SpaceP s d S*(Disk d D*F))) by ac_rfl)).right
        ·omega
       ·refine .inr ⟨h3,h2,?_⟩;rw[←HLg.out];exact(h4.of (show _=Row 128 3 (.slice LA j lc) j (ls.flatMap lieV)*(DbP b d s ⟨lg,L,(maxS E).toNat+bs.length,fun _=>none,0,1⟩*(SpaceP s d S2*(Disk d D2*F))) by ac_rfl)).right
end
end Go.Proofs.YtmbaiglpgaoogaaGreat
