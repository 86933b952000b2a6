/- Joined, as they were built one by one: Sto11 MemLevL Sto13. -/
import Derived.Test.YtmbaiglpgaoogaaGreatW18
import Derived.Test.YtmbaiglpgaoogaaGreatW23
set_option maxHeartbeats 16000000
set_option linter.unusedVariables false
set_option maxRecDepth 100000
namespace Go.Proofs.YtmbaiglpgaoogaaGreat
open Go.RowKit Z
theorem ur (b:Nat) (q:Int) (w:World) (hc:w.cell? ⟨b,4,none⟩=some (.int .i64 q)):Calls Tryz.prog 76 #[.pointer (some ⟨b,0,none⟩)] w fun x w'=>x = .returned (.agg #[.int .i64 q])/\ao No w w':=by
 have hs:=(Sat.start w).ab 135 #[.int .i64 0];have hc2:=hs.aL.cell hc id;have HS2:=ah ((Sat.start w).ab 135 #[.int .i64 q]);have f0:=hs.frozen 0;clear hs hc;go_enter Tryz.func76, Tryz.ntmps76;go_wp2_with fail;refine bodyPost_ret (results_cell_row (p:=2) (by kernel_rfl) _ _ w.heap.size 135 _ (0,0) _ rfl HS2.o.at Tryz.underlying135 rfl (by kernel_rfl)) rfl ?_;exact⟨rfl,HS2.o.aL⟩
def DQ (w0:World) (F:SP) (l:List Kv) (x:Ending) (w':World):Prop:= ∃ (es qs:List En) (B:Option Addr) (c:Nat),x = .returned (.slice B qs.length c)/\(∀ q ∈ qs,q ∈ es)/\qs.map (fun q=>cZ q.ak)=l/\
 Sat w0 (Row 65 2 (.slice B qs.length c) qs.length (qs.flatMap cL)*(aT es*F)) w'
section
variable {w0 w:World} {F:SP}
theorem Jn (b d s:Nat) (v:Sd) (K:du) (hk:Rd w K.1 K.2.2) (h:Sat w0 (dG b d s v*F) w) (hL:v.L.length<=90000):
 Calls Tryz.prog 32 #[.pointer (some ⟨b,0,none⟩),.slice K.1 K.2.2.length K.2.1] w (EO w0 (dG b d s v*F) (dX K.2.2 v.seq v.L)):=by
 obtain⟨lg,L,sq,sn,bP,nx⟩:=v;obtain⟨tb,hr,mb,ns,⟨ht,he⟩,hs0⟩:=h.db;dsimp only at hL ht he;have hs:=hs0.of (eM ..);dsimp only at hs;have c3:w.cell? ⟨b,3,none⟩=some (.pointer (some ⟨tb,0,none⟩)):=hs.cell 3;have HNow:Hid (∀ W,ao No w W->Calls Tryz.prog 76 #[.pointer (some ⟨b,0,none⟩)] W fun x w'=>x = .returned (.agg #[.int .i64 (sq:Int)])/\ao No W w'):=fun W k=>ur b sq W (k.cell (hs.cell 4) id)
 have HGet:Hid (∀ W,ao No w W->Calls Tryz.prog 78 #[.agg #[.int .i64 (sq:Int)],.pointer (some ⟨tb,0,none⟩),.slice K.1 K.2.2.length K.2.1] W (EO w0 (bE tb hr ns*(Pt b 113 (ef d s lg tb sq mb nx false)*(bT Tryz.prog 3 mb bP (iH sn)*F))) (dX K.2.2 sq (cn ns)))):=fun W k=>wy tb hr ns L.length sq K (hk.new k) (hs.ay.new k) ht (by omega)
 have C3:=ah c3;have HE:=ah he;have HT:=ah ht;have HDrew:Hid (ao No w w.drew):=(ao.refl No w).drew;rw[he] at HGet;clear h hs0 hs hk ht he;show Calls _ _ _ _ (EO w0 (dG b d s ⟨lg,L,sq,sn,bP,nx⟩*F) (dX K.2.2 sq L));generalize dX K.2.2 sq L=q at*
 go_enter Tryz.func32, Tryz.ntmps32;go_upto_region 1 with fail;refine wp_region_held_drew (S:=fun w'=>w'.cell? ⟨b,3,none⟩=some (.pointer (some ⟨tb,0,none⟩))) (by kernel_rfl) (by exact c3) ?_;intro hS0;refine an 0 2 3 4 ?_;refine cw 5 6 ?_;refine bC 1 fun K hK=>?_
 go_simp;go_at_call 76;(with_reducible refine(HNow.o _ HDrew.o).mono ?_);rintro e w2 ⟨rfl,k2⟩;have HK2:=ah (HDrew.o.tr k2);clear k2
 refine hK.out _ _ (HK2.o.cell C3.o id) (fun hS0=>?_);clear hK K;refine bC 7 fun K hK=>?_
 go_simp;go_at_call 78;(with_reducible refine(HGet.o _ HK2.o).mono ?_);rintro e w3 ⟨A,c,rfl,hs3⟩;have HS3:=ah hs3;clear hs3
 refine hK.out _ _ (HS3.o.bp.cell 3) (fun hS0=>?_);clear hK K;refine an 8 9 10 11 ?_;refine wpAnyH_done (by kernel_rfl) ?_ _;go_wp2_with fail;go_ret2;refine⟨A,c,rfl,?_⟩;have h1:=HS3.o.of (show _=Pt b 113 (ef d s lg tb sq mb nx false)*(bE tb hr ns*(bT Tryz.prog 3 mb bP (iH sn)*(Row 5 1 (.slice A (q.getD []).length c) (q.getD []).length ((q.getD []).map bv)*F))) by ac_rfl);exact(Sat.zX (v:=⟨lg,L,sq,sn,bP,nx⟩) HT.o HE.o (by rw[eM];exact h1)).ay
theorem C9 {tb hr:Nat} {ns:List Nd} {L:List aq} (h:Sat w0 (bE tb hr ns*F) w) (ht:dS ns L.length) (he:cn ns=L) (hL:L.length<=90000) (q aG:Int) (f t:du) (hf:Rd w f.1 f.2.2) (ht':Rd w t.1 t.2.2) {W:World} (k:ao No w W):
 Calls Tryz.prog 77 #[.agg #[.int .i64 q],.pointer (some ⟨tb,0,none⟩),.slice f.1 f.2.2.length f.2.1,.slice t.1 t.2.2.length t.2.1,.int .i64 aG] W (zl W ((cp q none (mE f.2.2 t.2.2 L)).take aG.toNat)):=by
 have kA:ao No w (W.alloc (.cells #[.int .i64 q] 135)):=k.alloc _;have h1:=CR f.1 f.2.1 f.2.2 t.1 t.2.1 t.2.2 tb hr ns _ (hf.new kA) (ht'.new kA) ((h.new kA).view ht.ok) ht.ok (ht.small (by omega));rw[ya ht,he] at h1;exact D0 q aG tb f t _ W h1 (by have:(mE f.2.2 t.2.2 L).length<=L.length:=List.length_filter_le _ _;omega)
theorem tU (b d s:Nat) (v:Sd) (f t:du) (aG:Int) (hf:Rd w f.1 f.2.2) (ht':Rd w t.1 t.2.2) (h:Sat w0 (dG b d s v*F) w) (hL:v.L.length<=90000):
 Calls Tryz.prog 24 #[.pointer (some ⟨b,0,none⟩),.slice f.1 f.2.2.length f.2.1,.slice t.1 t.2.2.length t.2.1,.int .i64 aG] w (DQ w0 (dG b d s v*F) ((oJ f.2.2 t.2.2 (eS v.seq v.L)).take aG.toNat)):=by
 obtain⟨lg,L,sq,sn,bP,nx⟩:=v;obtain⟨tb,hr,mb,ns,⟨ht,he⟩,hs0⟩:=h.db;dsimp only at hL ht he;have hs:=hs0.of (eM ..);dsimp only at hs;have c3:w.cell? ⟨b,3,none⟩=some (.pointer (some ⟨tb,0,none⟩)):=hs.cell 3;have hpw:L.Pairwise dE:=he ▸ mA ht.ok;have HNow:Hid (∀ W,ao No w W->Calls Tryz.prog 76 #[.pointer (some ⟨b,0,none⟩)] W fun x w'=>x = .returned (.agg #[.int .i64 (sq:Int)])/\ao No W w'):=fun W k=>ur b sq W (k.cell (hs.cell 4) id)
 have HSc:Hid (∀ W,ao No w W->Calls Tryz.prog 77 #[.agg #[.int .i64 (sq:Int)],.pointer (some ⟨tb,0,none⟩),.slice f.1 f.2.2.length f.2.1,.slice t.1 t.2.2.length t.2.1,.int .i64 aG] W (zl W ((cp sq none (mE f.2.2 t.2.2 L)).take aG.toNat))):=fun W k=>C9 hs.ay ht he hL sq aG f t hf ht' k
 have C3:=ah c3;have HE:=ah he;have HT:=ah ht;have HS:=ah hs;have HPw:=ah hpw;have HDrew:Hid (ao No w w.drew):=(ao.refl No w).drew;clear h hs0 hs hf ht' ht he hpw;go_enter Tryz.func24, Tryz.ntmps24;go_upto_region 1 with fail;refine wp_region_held_drew (S:=fun w'=>w'.cell? ⟨b,3,none⟩=some (.pointer (some ⟨tb,0,none⟩))) (by kernel_rfl) (by exact c3) ?_;intro hS0;refine an 0 2 3 4 ?_;refine an 5 6 7 8 ?_;refine bC 1 fun K hK=>?_
 go_simp;go_at_call 76;(with_reducible refine(HNow.o _ HDrew.o).mono ?_);rintro e w2 ⟨rfl,k2⟩;have HK2:=ah (HDrew.o.tr k2);clear k2
 refine hK.out _ _ (HK2.o.cell C3.o id) (fun hS0=>?_);clear hK K;refine bC 9 fun K hK=>?_
 go_simp;go_at_call 77;(with_reducible refine(HSc.o _ HK2.o).mono ?_);rintro e w3 ⟨es,qs,B,c,rfl,hin,hqs,hs3⟩;have HIn:=ah hin;have HQs:=ah hqs;have HS3:=ah ((HS.o.new HK2.o).join hs3 (ba (bH _ _ _ _ _) (cN _)));clear hin hqs hs3
 refine hK.out _ _ (HS3.o.ay.cell 3) (fun hS0=>?_);clear hK K;refine ca 10 ?_;refine wpAnyH_done (by kernel_rfl) ?_ _;go_wp2_with fail;go_ret;refine⟨es,qs,B,c,rfl,HIn.o,?_,?_⟩
 .have h2:=congrArg (List.map cZ) HQs.o;rw[List.map_map] at h2;rw[show (fun q:En=>cZ q.ak)=cZ ∘ En.ak from rfl,h2,List.map_take];show (eS sq (mE f.2.2 t.2.2 L)).take _=_;rw[DR HPw.o]
 .have h1:=HS3.o.of (show _=Pt b 113 (ef d s lg tb sq mb nx false)*(bE tb hr ns*(bT Tryz.prog 3 mb bP (iH sn)*(Row 65 2 (.slice B qs.length c) qs.length (qs.flatMap cL)*(aT es*F)))) by ac_rfl);exact(Sat.zX (v:=⟨lg,L,sq,sn,bP,nx⟩) HT.o HE.o (by rw[eM];exact h1)).of (by ac_rfl)
theorem Dq (b d s:Nat) (v:Sd) (h:Sat w0 (dG b d s v*F) w) (hL:v.L.length<=90000):
 Calls Tryz.prog 31 #[.pointer (some ⟨b,0,none⟩)] w fun x w'=>x = .returned (.int .i64 ((eS v.seq v.L).length:Nat))/\Sat w0 (dG b d s v*F) w':=by
 have hsc:=tU (w0:=w0) (F:=F) b d s v (none,0,[]) (none,0,[]) 4611686018427387904 (Rd.nil _ _) (Rd.nil _ _) h hL;rw[zQ] at hsc;have hvl:(eS v.seq v.L).length<=v.L.length:=by
  unfold eS;rw[List.length_map];exact(km _ _ _).length_le
 rw[List.take_of_length_le (by show _<=4611686018427387904;omega)] at hsc;have HSc:Hid (Calls Tryz.prog 24 #[.pointer (some ⟨b,0,none⟩),.slice none 0 0,.slice none 0 0,.int .i64 4611686018427387904] w (DQ w0 (dG b d s v*F) (eS v.seq v.L))):=hsc;generalize eS v.seq v.L=l at*
 clear h hsc;go_enter Tryz.func31, Tryz.ntmps31;go_wp2_with (go_at_call 24;(with_reducible refine HSc.o.mono ?_);rintro e w2 ⟨es,qs,B,c,rfl,hin,hqs,hs2⟩;have HQs:=ah hqs;have HS2:=ah hs2;clear hin hqs hs2);go_ret;refine⟨?_,HS2.o.right.right⟩;rw[<-HQs.o,List.length_map];rfl
theorem tV (b d s:Nat) (v:Sd) (h:Sat w0 (dG b d s v*F) w):Calls Tryz.prog 70 #[.pointer (some ⟨b,0,none⟩)] w fun x w'=>x = .returned (.int .i64 21)/\Sat w0 F w':=by
 obtain⟨tb,hr,mb,ns,_,hs0⟩:=h.db;have hs:=hs0.of (eM ..);have f7:=hs.frozen 7;have c7:=hs.cell 7;have HS:=ah (hs.set 7 (.bool true));clear h hs0 hs;go_enter Tryz.func70, Tryz.ntmps70;go_wp2_with fail;go_ret;exact⟨rfl,HS.o.right.right.right⟩
theorem GR (f:Int->Option Nat) (i:Int) (q:Nat):F5 (iH f) i (.agg #[.int .i64 (q:Int)])=iH (fun j=>if j=i then some q else f j):=by
 funext j
 unfold F5 iH;dsimp only;split<;>rfl
theorem CJ (w:World):(zeroValue 135).run Tryz.prog w = .ok (.agg #[.int .i64 0]) w:=by kernel_rfl
theorem Ct {mb n:Nat} {f:Int->Option Nat} {G:SP} (h:Sat w0 (bT Tryz.prog 3 mb n (iH f)*G) w) (i:Int) (hi: -9223372036854775808<=i/\i<=9223372036854775807):
 (Instr.lookup 111 (.map (some mb)) (.int .i64 i) true).run Tryz.prog w = .ok (.tuple #[.agg #[.int .i64 (((f i).getD 0:Nat):Int)],.bool (f i).isSome]) w:=by
 rw[h.qv (t:= 111) Tryz.underlying3 Tryz.underlying111 (CJ w) i hi];unfold iH
 cases f i<;>rfl
end
theorem tz (i:Int) (b hr:Nat) (ns:List Nd) (w:World) (hv:View w b hr ns) (hok:wk ns) (hsm:Small ns):
 Calls Tryz.prog 122 #[.pointer (some ⟨b,0,none⟩),.int .i64 i] w (lO w (zz i ns)):=by
 have HV:=ah hv;have HO:=ah hok;have HS:=ah hsm;have q0:=hv.head;clear hv hok hsm;by_cases h:0<=i/\i<8
 .obtain⟨h0,h8⟩:=h;have HL:Hid (zz i ns=nn [] i.toNat ns):=by unfold Hid zz;rw[if_pos ⟨h0,h8⟩]
  obtain⟨j,rfl⟩: ∃ j:Nat,i=j:=⟨i.toNat,by omega⟩;have hj:j<8:=by omega
  have q1:=HV.o.links j hj;have h1:¬ (j:Int)<0:=by omega
  have h2:¬ (8:Int)<=j:=by omega
  have h3:(j:Int)<8:=by omega
  obtain⟨PP,hPP⟩: ∃ PP,dM (cS de ns j) = .pointer PP:=⟨_,rfl⟩;rw[hPP] at q1;have HP:=ah hPP;clear hPP;go_enter Tryz.func122, Tryz.ntmps122;go_wp2_with (go_at_call 154;rw[<-HP.o];refine(pD none 0 [] b hr ns [] ns j w (Rd.nil _ _) HV.o HO.o HS.o rfl hj).mono ?_;rintro x w1 ⟨es,A,c,rfl,he,hs⟩;have HE:=ah he;have HS1:=ah hs;clear he hs);go_ret;rw[HL.o];exact⟨es,A,c,rfl,HE.o,HS1.o⟩
 .have HL:Hid (zz i ns=[]):=by unfold Hid zz;rw[if_neg h]
  have h1:i<0\/(0<=i/\8<=i):=by omega
  rw[HL.o];clear h;rcases h1 with h1 | ⟨h1,h2⟩
  .go_enter Tryz.func122, Tryz.ntmps122;go_wp2_with fail;go_ret;exact sG w
  .have h3:¬ i<0:=by omega
   go_enter Tryz.func122, Tryz.ntmps122;go_wp2_with fail;go_ret;exact sG w
section
variable {w0 w:World} {F:SP}
theorem Hm (b d s:Nat) (v:Sd) (h:Sat w0 (dG b d s v*F) w) (hx:v.next<=1000000000) (hf:v.bP<=1000000):
 Calls Tryz.prog 41 #[.pointer (some ⟨b,0,none⟩)] w fun x w'=>x = .returned (.int .i64 (v.next:Nat))/\Sat w0 (dG b d s { v with snaps:=fun j=>if j=((v.next:Nat):Int) then some v.seq else v.snaps j,bP:=v.bP+1,next:=v.next+1 }*F) w':=by
 obtain⟨lg,L,sq,sn,bP,nx⟩:=v;obtain⟨tb,hr,mb,ns,⟨ht,he⟩,hs0⟩:=h.db;dsimp only at ht he hx hf;have hs:=hs0.of (eM ..);dsimp only at hs;have c5:w.cell? ⟨b,5,none⟩=some (.map (some mb)):=hs.cell 5;have c6:w.cell? ⟨b,6,none⟩=some (.int .i64 (nx:Int)):=hs.cell 6;have HNow:Hid (∀ W,ao No w W->Calls Tryz.prog 76 #[.pointer (some ⟨b,0,none⟩)] W fun x w'=>x = .returned (.agg #[.int .i64 (sq:Int)])/\ao No W w'):=fun W k=>ur b sq W (k.cell (hs.cell 4) id)
 have HT:=ah ht;have HE:=ah he;have HS:=ah hs;have C5:=ah c5;have C6:=ah c6;have HDrew:Hid (ao No w w.drew):=(ao.refl No w).drew;have HMs:Hid (∀ W,ao No w W-> ∃ w3,(Instr.mapUpdate 111 (.map (some mb)) (.int .i64 (nx:Int)) (.agg #[.int .i64 (sq:Int)])).run Tryz.prog W = .ok () w3/\Sat w0 (Pt b 113 (ef d s lg tb sq mb nx false)*(bE tb hr ns*(bT Tryz.prog 3 mb (bP+1) (iH (fun j=>if j=((nx:Nat):Int) then some sq else sn j))*F))) w3):=fun W k=>by
  obtain⟨w3,hrun,hs3,_⟩:=((HS.o.new k).bp).nj (t:= 111) Tryz.underlying3 Tryz.underlying111 (nx:Int) (by omega) (.agg #[.int .i64 (sq:Int)]) (by unfold maxLen;omega);rw[GR] at hs3;exact⟨w3,hrun,hs3.K9⟩
 clear h hs0 hs ht he;go_enter Tryz.func41, Tryz.ntmps41;go_upto_region 1 with fail;refine wp_region_held_drew (S:=fun w'=>w'.cell? ⟨b,5,none⟩=some (.map (some mb))/\w'.cell? ⟨b,6,none⟩=some (.int .i64 (nx:Int))) (by kernel_rfl) ⟨(by exact c5),(by exact c6)⟩ ?_;intro hS0;refine an 0 1 2 3 ?_;refine an 4 5 6 7 ?_;refine ca 8 ?_;refine bC 9 fun K hK=>?_
 go_simp;go_at_call 76;(with_reducible refine(HNow.o _ HDrew.o).mono ?_);rintro e w2 ⟨rfl,k2⟩;have HK2:=ah (HDrew.o.tr k2);clear k2
 refine hK.out _ _ ⟨HK2.o.cell C5.o id,HK2.o.cell C6.o id⟩ (fun hS0=>?_);clear hK K;refine bC 10 fun K hK=>?_
 go_simp;obtain⟨w3,hrun,hs3⟩:=HMs.o _ HK2.o;have HS3:=ah hs3;clear hs3;simp only[hrun,Result.andThen_ok];clear hrun;refine hK.out _ _ ⟨HS3.o.cell 5,HS3.o.cell 6⟩ (fun hS0=>?_);clear hK K;refine wpAnyH_done (by kernel_rfl) ?_ _;have c6':=HS3.o.cell 6;have f6':=HS3.o.frozen 6;have HS4:=ah (HS3.o.set 6 (.int .i64 ((nx:Int)+1)));have c6'':(w3.setCell ⟨b,6,none⟩ (.int .i64 ((nx:Int)+1))).cell? ⟨b,6,none⟩=some (.int .i64 ((nx:Int)+1)):=HS4.o.cell 6;clear c5 c6;go_wp2_with fail;go_ret;refine⟨by first | rfl | (rw[show (nx:Int)+1 - 1=nx by omega];rfl),Sat.zX (tb:=tb) (hr:=hr) (mb:=mb) (ns:=ns) (v:=⟨lg,L,sq,fun j=>if j=((nx:Nat):Int) then some sq else sn j,bP+1,nx+1⟩) HT.o HE.o ?_⟩;rw[eM];dsimp only;rw[show ((nx+1:Nat):Int)=(nx:Int)+1 by omega];exact HS4.o
theorem FM (b d s:Nat) (v:Sd) (i:Int) (K:du) (hi: -9223372036854775808<=i/\i<=9223372036854775807) (hk:Rd w K.1 K.2.2) (h:Sat w0 (dG b d s v*F) w) (hL:v.L.length<=90000) (q:Option (List UInt8)) (er:Int) (hq:(v.snaps i=none/\q=none/\er=104)\/ ∃ sq,v.snaps i=some sq/\q=dX K.2.2 sq v.L/\er=0):
 Calls Tryz.prog 42 #[.pointer (some ⟨b,0,none⟩),.int .i64 i,.slice K.1 K.2.2.length K.2.1] w fun x w'=> ∃ A c,x = .returned (.tuple #[.slice A (q.getD []).length c,.bool q.isSome,.int .i64 er])/\Sat w0 (Row 5 1 (.slice A (q.getD []).length c) (q.getD []).length ((q.getD []).map bv)*(dG b d s v*F)) w':=by
 obtain⟨lg,L,sq,sn,bP,nx⟩:=v;obtain⟨tb,hr,mb,ns,⟨ht,he⟩,hs0⟩:=h.db;dsimp only at ht he hL hq;have hs:=hs0.of (eM ..);dsimp only at hs;have c5:w.cell? ⟨b,5,none⟩=some (.map (some mb)):=hs.cell 5;have hlk:=Ct hs.bp i hi;have HT:=ah ht;have HE:=ah he;rcases hq with ⟨h1,rfl,rfl⟩ | ⟨sx,h1,h2,rfl⟩
 .rw[h1] at hlk;replace hlk:(Instr.lookup 111 (.map (some mb)) (.int .i64 i) true).run Tryz.prog w = .ok (.tuple #[.agg #[.int .i64 0],.bool false]) w:=hlk;have HS:=ah (hs.aD (.cells #[.int .i64 0] 135));clear h hs0 hs ht he h1 hk;go_enter Tryz.func42, Tryz.ntmps42;go_wp2_with fail;go_ret3
  exact⟨none,0,rfl,(Sat.zX (v:=⟨lg,L,sq,sn,bP,nx⟩) HT.o HE.o (by rw[eM];exact HS.o)).aN 5 1⟩
 .rw[h1] at hlk;replace hlk:(Instr.lookup 111 (.map (some mb)) (.int .i64 i) true).run Tryz.prog w = .ok (.tuple #[.agg #[.int .i64 (sx:Int)],.bool true]) w:=hlk;have hs1:=hs.ab 135 #[.int .i64 (sx:Int)];obtain⟨W1,hW1⟩: ∃ W1,W1=w.alloc (.cells #[.int .i64 (sx:Int)] 135):=⟨_,rfl⟩;rw[<-hW1] at hs1;obtain⟨vb,hvb⟩: ∃ vb,vb=w.heap.size:=⟨_,rfl⟩;rw[<-hvb] at hs1;have HW:=ah hW1;have HVb:=ah hvb;have x0:W1.cell? ⟨vb,0,none⟩=some (.int .i64 (sx:Int)):=hs1.cell 0;have c3:W1.cell? ⟨b,3,none⟩=some (.pointer (some ⟨tb,0,none⟩)):=hs1.ay.cell 3;have HGet:Hid (∀ W,ao No W1 W->Calls Tryz.prog 78 #[.agg #[.int .i64 (sx:Int)],.pointer (some ⟨tb,0,none⟩),.slice K.1 K.2.2.length K.2.1] W (EO w0 (bE tb hr ns*(Pt vb 135 #[.int .i64 (sx:Int)]*(Pt b 113 (ef d s lg tb sq mb nx false)*(bT Tryz.prog 3 mb bP (iH sn)*F)))) q)):=fun W k=>by
   have h9:=wy tb hr ns L.length sx K ((show Rd W1 K.1 K.2.2 by rw[hW1];exact hk.alloc _).new k) ((hs1.new k).bp) ht (by omega);rw[he, <-h2] at h9;exact h9
  have HDrew:Hid (ao No W1 W1.drew):=(ao.refl No W1).drew;clear h hs0 hs ht he h1 h2 hk hs1 hW1 hvb;go_enter Tryz.func42, Tryz.ntmps42;go_upto_region 4 with fail;rw[<-HW.o, <-HVb.o];clear hlk c5 HW HVb;refine wp_region_held_drew (S:=fun w'=>w'.cell? ⟨b,3,none⟩=some (.pointer (some ⟨tb,0,none⟩))/\w'.cell? ⟨vb,0,none⟩=some (.int .i64 (sx:Int))) (by kernel_rfl) ⟨(by exact c3),(by exact x0)⟩ ?_;intro hS0;refine an 0 1 2 3 ?_;refine cw 4 5 ?_;refine bC 6 fun K hK=>?_
  go_simp;go_at_call 78;(with_reducible refine(HGet.o _ HDrew.o).mono ?_);rintro e w3 ⟨A,c,rfl,hs3⟩;have HS3:=ah hs3;clear hs3
  refine hK.out _ _ ⟨HS3.o.bL.cell 3,HS3.o.bp.cell 0⟩ (fun hS0=>?_);clear hK K;refine an 7 8 9 10 ?_;refine ca 11 ?_;refine wpAnyH_done (by kernel_rfl) ?_ _;go_wp2_with fail;go_ret3
  refine⟨A,c,rfl,?_⟩;have h1:=HS3.o.of (show _=Pt vb 135 #[.int .i64 (sx:Int)]*(Pt b 113 (ef d s lg tb sq mb nx false)*(bE tb hr ns*(bT Tryz.prog 3 mb bP (iH sn)*(Row 5 1 (.slice A (q.getD []).length c) (q.getD []).length ((q.getD []).map bv)*F)))) by ac_rfl);exact(Sat.zX (v:=⟨lg,L,sq,sn,bP,nx⟩) HT.o HE.o (by rw[eM];exact h1.right)).ay
end
end Go.Proofs.YtmbaiglpgaoogaaGreat
