/- Joined, as they were built one by one: Ext3 Ext4 Ext5 Ext6 Ext7 Ext8 Ext9 Ext10 Ext11. -/
import Derived.Lib.SlBytesConst
import Derived.Test.YtmbaiglpgaoogaaGreatC01
import Derived.Test.YtmbaiglpgaoogaaGreatC06
set_option maxHeartbeats 16000000
set_option linter.unusedVariables false
set_option maxRecDepth 100000
namespace Go.Proofs.YtmbaiglpgaoogaaGreat
open Go.RowKit Z
section
variable {w0 w:World} {F:SP} {v:Value} {f:Fl}
theorem lA (x n:Nat) (z:Int) (hz:z=n) (hx:x<18446744073709551616) (h0:1<=n) (hn:n<=8) (w0 w:World) (F:SP) (h:Sat w0 F w) (P:List UInt8) (hP:ai x n=P):
 Calls Tryz.prog 117 #[.int .u64 (x:Int),.int .i64 z] w fun e w'=> ∃ A c,e = .returned (.slice A P.length c)/\Sat w0 (Row 5 1 (.slice A P.length c) P.length (P.map bv)*F) w':=by
 subst hz;subst hP;exact(ch x n hx h0 hn w0 w F h).mono fun _ _ ⟨A,c,e,_,_,hs⟩=>⟨A,c,e,hs⟩
theorem xh (A:Option Addr) (n c:Nat) (ks:bP) (hn:ks.length=n) (w0 w:World) (F:SP) (h:Sat w0 F w) (hr:sQ w A ks) (l:List UInt8) (hl:(bT ks).flatten=l) (htot:l.length<=140737488355328) (hks:n<=1000000):
 Calls Tryz.prog 61 #[.slice A n c] w fun e w'=> ∃ B d,e = .returned (.slice B l.length d)/\Sat w0 (Row 5 1 (.slice B l.length d) l.length (l.map bv)*F) w':=by
 subst hn;subst hl;refine(eY A c ks w hr htot (by omega)).mono ?_;rintro e w' ⟨v2,rfl,h2,k2⟩;have hs:=h.dP k2 h2;obtain⟨B,d,rfl,_⟩:=hs.aT;exact⟨B,d,rfl,hs⟩
theorem Ch (l:List UInt8):(yN l).map bv=l.map bv++eF (512 - l.length):=by
 unfold yN eF;rw[List.map_append,List.map_replicate];rfl
theorem E6 (q:Nat) (A:Option Addr) (c:Nat) (p:List UInt8) (h:Sat w0 (Pt q 163 (pO f v)*F) w) (hp: ∀ W,Sat w0 F W->Rd W A p) (hl:p.length<=480) (hb:f.birth<18446744073709551616) (hli:f.life<18446744073709551616):
 Calls Tryz.prog 150 #[.pointer (some ⟨q,0,none⟩),.slice A p.length c] w fun e w'=> ∃ B d,e = .returned (.slice B 512 d)/\Sat w0 (Row 5 1 (.slice B 512 d) 512 ((bL f.birth f.life p).map bv)*(Pt q 163 (pO f v)*F)) w':=by
 obtain⟨P1,hP1⟩: ∃ P,ai f.birth 8=P:=⟨_,rfl⟩;obtain⟨P2,hP2⟩: ∃ P,ai f.life 8=P:=⟨_,rfl⟩;obtain⟨P3,hP3⟩: ∃ P,ai p.length 2=P:=⟨_,rfl⟩;have l1:P1.length=8:=by rw[<-hP1,aB]
 have l2:P2.length=8:=by rw[<-hP2,aB]
 have l3:P3.length=2:=by rw[<-hP3,aB]
 obtain⟨H,hH⟩: ∃ H,H=P1++(P2++(P3++p)):=⟨_,rfl⟩;have hHl:H.length=18+p.length:=by rw[hH];simp only[List.length_append,l1,l2,l3];omega
 have HFr:Hid ((bL f.birth f.life p).map bv=H.map bv++eF (512 - H.length)):=by
  unfold Hid bL;rw[hP1,hP2,hP3, <-hH,Ch]
 have hb0:Hid (f.birth<18446744073709551616):=hb;have hli0:Hid (f.life<18446744073709551616):=hli;have hwp:IntKind.u64.wrap (p.length:Int)=p.length:=by rw[IntKind.wrap_u64];omega
 have hH512:H.length<=498:=by omega
 have hsub:(512:Int) - (H.length:Int)=((512 - H.length:Nat):Int):=by omega
 have hH0:0<H.length:=by omega
 have HH:=ah hH;have HP1:=ah hP1;have HP2:=ah hP2;have HP3:=ah hP3;have HS:=ah h.drew;have HR:=ah hp;have HC:Hid (aq No w w.drew):=(aq.refl No w).drew;clear h hP1 hP2 hP3 l1 l2 l3 hH hHl hp hb hli;go_enter Tryz.func150, Tryz.ntmps150;go_upto_region 1 with fail;refine wp_region_held_drew (S:=fun w'=>w'.cell? ⟨q,3,none⟩=some (.int .u64 (f.birth:Int))/\w'.cell? ⟨q,4,none⟩=some (.int .u64 (f.life:Int))) (by kernel_rfl) ⟨HS.o.cell 3,HS.o.cell 4⟩ ?_;intro hS0;refine an 0 1 2 3 ?_;refine an 5 6 7 8 ?_;refine an 10 11 12 14 ?_;refine bR 4 fun K hK=>?_
 go_simp;go_at_call 117;refine(lA f.birth 8 8 rfl hb0.o (by omega) (by omega) w0 w.drew _ HS.o P1 HP1.o).mono ?_;rintro y w4 ⟨A4,c4,rfl,hs⟩;replace HS:=ah hs;clear hs
 refine hK.out _ _ ⟨HS.o.av.cell 3,HS.o.av.cell 4⟩ (fun hS0=>?_);clear hK K;refine bR 9 fun K hK=>?_
 go_simp;go_at_call 117;refine(lA f.life 8 8 rfl hli0.o (by omega) (by omega) w0 w4 _ HS.o P2 HP2.o).mono ?_;rintro y w9 ⟨A9,c9,rfl,hs⟩;replace HS:=ah hs;clear hs
 refine hK.out _ _ ⟨HS.o.bD.cell 3,HS.o.bD.cell 4⟩ (fun hS0=>?_);clear hK K;refine bR 13 fun K hK=>?_
 go_simp;go_at_call 117;refine(lA p.length 2 2 rfl (by omega) (by omega) (by omega) w0 w9 _ HS.o P3 HP3.o).mono ?_;rintro y w13 ⟨A13,c13,rfl,hs⟩;replace HS:=ah hs;clear hs
 refine hK.out _ _ ⟨HS.o.bW.cell 3,HS.o.bW.cell 4⟩ (fun hS0=>?_);clear hK K;refine bR 15 fun K hK=>?_
 go_simp;have hs:=HS.o.af 41 #[.slice A4 P1.length c4,.slice A9 P2.length c9,.slice A13 P3.length c13,.slice A p.length c];revert hs;generalize World.alloc w13 _=w15;generalize w13.heap.size=B15;intro hs;replace HS:=ah hs;clear hs;refine hK.out _ _ ⟨HS.o.gw.cell 3,HS.o.gw.cell 4⟩ (fun hS0=>?_);clear hK K;refine bR 16 fun K hK=>?_
 go_simp;go_at_call 61;refine(xh (some ⟨B15,0,none⟩) 4 4 [(A4,c4,P1),(A9,c9,P2),(A13,c13,P3),(A,c,p)] rfl w0 w15 _ HS.o ⟨aH.jC HS.o.at (fun j hj=>by simp at hj;have:j=0\/j=1\/j=2\/j=3:=(by omega);rcases this with rfl | rfl | rfl | rfl<;>rfl),fun k hk=>by simp at hk;rcases hk with rfl | rfl | rfl | rfl;exact aH.bO HS.o.bW.aS;exact aH.bO HS.o.bD.aS;exact aH.bO HS.o.av.aS;exact HR.o _ HS.o.right.right.right.right.right⟩ H (by rw[HH.o];simp[bT]) (by omega) (by omega)).mono ?_;rintro y w16 ⟨A16,c16,rfl,hs⟩;replace HS:=ah hs;clear hs
 refine hK.out _ _ ⟨HS.o.CQ.cell 3,HS.o.CQ.cell 4⟩ (fun hS0=>?_);clear hK K;refine cH 17 ?_;refine wpAnyH_done (by kernel_rfl) ?_ _;go_upto_region 2 with fail;obtain⟨g,rfl,_⟩:=HS.o.nY hH0;obtain⟨j0,hj,hy0,hy1,hy2⟩:=info_parts nU;go_wp2_with (at_builtin;refine pI rfl (.tmp 23) (.tmp 26) 41 3 5 j0 rfl Tryz.underlying41 Tryz.underlying3 hj hy0 hy1 hy2 g H.length c16 (512 - H.length) (H.map bv) rfl rfl w0 _ HS.o (by omega) (by omega) ?_;intro A5 c5 w5 hs;replace HS:=ah hs;clear hs);go_ret;have e5:H.length+(512 - H.length)=512:=by omega
 have h9:=HS.o;rw[e5, <-HFr.o] at h9;exact⟨A5,c5,by rw[e5];rfl,h9.bF.bF.bF.bF⟩
end
section
variable {w0 w:World} {F:SP} {s d slot turn:Nat} {v:Value} {ps:List (Nat × Fl)} {D:Dk}
theorem uJ {i:Nat} (h:i<ps.length) (x:Nat × Fl) (hx:x.1=ps[i].1):aU s d slot turn v (ps.set i x)*F=ni x.1 x.2*(Pt s 153 #[aZ d,.int .i64 (slot:Int),.int .u64 (turn:Int),v]*(Row 155 1 v ps.length (ps.map fun x=>aZ x.1)*(br (ps.eraseIdx i)*F))):=by
 have e:(ps.set i x).map (fun y=>aZ y.1)=ps.map fun y=>aZ y.1:=by
  apply List.ext_getElem?;intro j;rw[List.getElem?_map,List.getElem?_map,List.getElem?_set];by_cases ej:i=j
  .subst ej;rw[if_pos rfl,if_pos h,List.getElem?_eq_getElem h,Option.map_some,Option.map_some,hx]
  .rw[if_neg ej]
 rw[dy,Jb h,List.length_set,e]
 ac_rfl
theorem xT (n:Int) (A:Option Addr) (c m:Nat) (h:Sat w0 (aU s d slot turn v ps*F) w) (hl:ps.length<=1000000) (hi:fq ps n=ps.length):
 Calls Tryz.prog 120 #[.pointer (some ⟨s,0,none⟩),.int .i64 n,.slice A m c] w fun e w'=>e = .returned (.int .i64 34)/\w=w':=by
 have HF:=eD n h hl;rw[hi,List.getElem?_eq_none (Nat.le_refl _)] at HF;have HF:=ah HF;clear h hi;go_enter Tryz.func120, Tryz.ntmps120;go_wp2_with (go_at_call 103;(with_reducible refine HF.o.mono ?_);rintro x wx ⟨rfl,rfl⟩;unfold np;dsimp only);go_ret;exact⟨rfl,rfl⟩
theorem yY (n:Int) (A:Option Addr) (c m:Nat) (h:Sat w0 (aU s d slot turn v ps*F) w) (hl:ps.length<=1000000) {i:Nat} (hi:i<ps.length) (he:fq ps n=i) (hm:480<m):
 Calls Tryz.prog 120 #[.pointer (some ⟨s,0,none⟩),.int .i64 n,.slice A m c] w fun e w'=>e = .returned (.int .i64 35)/\w=w':=by
 have HF:=eD n h hl;rw[he,List.getElem?_eq_getElem hi] at HF;have HF:=ah HF;have hm2:(480:Int)<m:=by omega
 clear h he hm;go_enter Tryz.func120, Tryz.ntmps120;go_wp2_with (go_at_call 103;(with_reducible refine HF.o.mono ?_);rintro x wx ⟨rfl,rfl⟩;unfold np aZ;dsimp only);go_ret;exact⟨rfl,rfl⟩
theorem AV (n:Int) (A:Option Addr) (c m:Nat) (h:Sat w0 (aU s d slot turn v ps*F) w) (hl:ps.length<=1000000) {i:Nat} (hi:i<ps.length) (he:fq ps n=i) (hm:m<=480) (hf:ps[i].2.aa.length=ps[i].2.blocks):
 Calls Tryz.prog 120 #[.pointer (some ⟨s,0,none⟩),.int .i64 n,.slice A m c] w fun e w'=>e = .returned (.int .i64 36)/\Sat w0 (aU s d slot turn v ps*F) w':=by
 have HF:=eD n h hl;rw[he,List.getElem?_eq_getElem hi] at HF;have HF:=ah HF;have HS:=ah h;obtain⟨u,ks,hks,hg,B,c2,rfl,hu⟩:=h.rS hi;have g2:=hg.2.2.1;have g5:=hg.2.2.2.2.2;have hkl:ks.length=ps[i].2.aa.length:=by rw[<-hks,bT,List.length_map]
 rw[hkl,hf] at g5;have hm2:¬ (480:Int)<m:=by omega
 clear h hg hu hks he hkl hf hm;generalize ps[i].2.blocks=b at*
 go_enter Tryz.func120, Tryz.ntmps120;go_upto_region 6 with (go_at_call 103;(with_reducible refine HF.o.mono ?_);rintro x wx ⟨rfl,rfl⟩;unfold np aZ;dsimp only)
 go_region
 all_goals
  go_wp2_with fail;go_ret;exact⟨rfl,by first | exact HS.o | exact HS.o.drew⟩
theorem Sat.NK {A B C D' E G H I:SP} (h:Sat w0 (A*(B*(C*(D'*(E*(G*(H*(I*F)))))))) w):Sat w0 (I*(A*(B*(C*(D'*(E*(G*(H*F)))))))) w:=h.of (by ac_rfl)
theorem Sat.NG {A B C D' E G H I:SP} (h:Sat w0 (I*(A*(B*(C*(D'*(E*(G*(H*F)))))))) w):Sat w0 (A*(B*(C*(D'*(E*(G*(H*(I*F)))))))) w:=h.of (by ac_rfl)
def Ns (w0:World) (F:SP) (s d slot turn:Nat) (v:Value) (ps:List (Nat × Fl)) (i:Nat) (hi:i<ps.length) (p:List UInt8) (r:Dk × Int) (e:Ending) (w':World):Prop:=
 e = .returned (.int .i64 r.2)/\Sat w0 (aU s d slot turn v (if r.2=0 then ps.set i (ps[i].1,{ ps[i].2 with aa:=ps[i].2.aa++[p] }) else ps)*(ae d r.1*F)) w'
theorem uZ (n:Int) (A:Option Addr) (c:Nat) (p:List UInt8) (h:Sat w0 (aU s d slot turn v ps*(ae d D*F)) w) (hp: ∀ W,Sat w0 F W->Rd W A p) (hl:ps.length<=1000000) {i:Nat} (hi:i<ps.length) (he:fq ps n=i) (hm:p.length<=480) (hf:ps[i].2.aa.length<ps[i].2.blocks) (hfb:ps[i].2.first+ps[i].2.blocks<=65536)
 (hb:ps[i].2.birth<18446744073709551616) (hli:ps[i].2.life<18446744073709551616) (hw1:D.writes<=1000000000) (hw2:D.pend.length<=1000000000) (hw3:D.armed<=9223372036854775807):
 Calls Tryz.prog 120 #[.pointer (some ⟨s,0,none⟩),.int .i64 n,.slice A p.length c] w (Ns w0 F s d slot turn v ps i hi p (D.write ((ps[i].2.first+ps[i].2.aa.length:Nat):Int) (bL ps[i].2.birth ps[i].2.life p))):=by
 obtain⟨i0,hi0',hz0',hz1',hz2'⟩:=info_parts BS;have hi0:=ah hi0';have hz0:=ah hz0';have hz1:=ah hz1';have hz2:=ah hz2';obtain⟨q,hq0⟩: ∃ q,q=ps[i].1:=⟨_,rfl⟩;have HF:Hid (Calls Tryz.prog 103 #[.pointer (some ⟨s,0,none⟩),.int .i64 n] w fun e w'=>e = .returned (.pointer (some ⟨q,0,none⟩))/\w=w'):=(eD n h hl).mono fun e w' ⟨h1,h2⟩=>⟨by rw[h1,he,List.getElem?_eq_getElem hi,hq0];rfl,h2⟩
 obtain⟨v5,ks,hks,hfl⟩:=(h.of (fY hi)).fl;obtain⟨B,bc,rfl,hu1,hu2⟩:=hfl.av.aT;have hkl:ks.length=ps[i].2.aa.length:=by rw[<-hks,bT,List.length_map]
 obtain⟨N,hN⟩: ∃ N,N=ps[i].2.aa.length:=⟨_,rfl⟩;have hkN:ks.length=N:=hkl.trans hN.symm;obtain⟨f,hf0⟩: ∃ f,f=ps[i].2:=⟨_,rfl⟩;obtain⟨bl,hbl⟩: ∃ b,b=bL f.birth f.life p:=⟨_,rfl⟩;have hbl5:bl.length=512:=by rw[hbl];exact oy hm
 obtain⟨J,hJ⟩: ∃ J,J=ps[i].2.first+ps[i].2.aa.length:=⟨_,rfl⟩;have hJn:(ps[i].2.first:Int)+(ks.length:Int)=(J:Int):=by omega
 have hwJ:IntKind.i64.wrap (J:Int)=J:=by rw[IntKind.wrap_i64];omega
 have hJs:J<=65536:=by omega
 have hk16:ks.length<=65536:=by omega
 obtain⟨R,hR⟩: ∃ R,R=D.write (J:Int) bl:=⟨_,rfl⟩;rw[<-hJ, <-hf0, <-hbl, <-hR];rw[<-hf0] at hb hli hJn hf;rw[<-hf0, <-hq0] at hfl;obtain⟨G,hG⟩: ∃ G,G=Pt s 153 #[aZ d,.int .i64 (slot:Int),.int .u64 (turn:Int),v]*(Row 155 1 v ps.length (ps.map fun x=>aZ x.1)*br (ps.eraseIdx i)):=⟨_,rfl⟩;have HS:Hid (Sat w0 (Pt q 163 (pO f (.slice B ks.length bc))*(Row 41 1 (.slice B ks.length bc) ks.length (ks.map aE)*(ca ks*(Pt s 153 #[aZ d,.int .i64 (slot:Int),.int .u64 (turn:Int),v]*(Row 155 1 v ps.length (ps.map fun x=>aZ x.1)*(br (ps.eraseIdx i)*(ae d D*F))))))) w):=hfl;have HHp:=ah hp;have HKs:=ah hks;have Hf0:=ah hf0;have Hq0:=ah hq0;have HBl:=ah hbl;have HR:=ah hR;have HG:=ah hG;have hb0:Hid (f.birth<18446744073709551616):=hb;have hli0:Hid (f.life<18446744073709551616):=hli;have HW:Hid (∀ (X:SP) (W:World) (A:Option Addr) (c:Nat),Sat w0 (ae d D*X) W->Rd W A bl->Calls Tryz.prog 131 #[.pointer (some ⟨d,0,none⟩),.int .i64 (J:Int),.slice A 512 c] W fun e w'=>e = .returned (.int .i64 R.2)/\Sat w0 (ae d R.1*X) w'):=fun X W A c hX hA=>by
  have h9:=tI d D (J:Int) A c bl w0 W X hX hA (by omega) hw1 hw2 hw3;unfold AP at h9;rw[hbl5, <-hR] at h9;exact h9
 have hnf:¬ ((ks.length:Nat):Int)=(f.blocks:Int):=by rw[<-hf0] at hkl;omega
 have hm2:¬ (480:Int)<p.length:=by omega
 clear h hfl hks hf0 hq0 hbl hR hG hb hli hp hkl hi0' hz0' hz1' hz2' he hw1 hw2 hw3 hN hkN hJ hf hfb hbl5;have y0:w.cell? ⟨s,0,none⟩=some (.pointer (some ⟨d,0,none⟩)):=HS.o.bW.cell 0;have y1:w.cell? ⟨q,1,none⟩=some (.int .i64 (f.first:Int)):=HS.o.cell 1;have y2:w.cell? ⟨q,2,none⟩=some (.int .i64 (f.blocks:Int)):=HS.o.cell 2;have y5:w.cell? ⟨q,5,none⟩=some (.slice B ks.length bc):=HS.o.cell 5;go_enter Tryz.func120, Tryz.ntmps120;go_upto_region 6 with (go_at_call 103;(with_reducible refine HF.o.mono ?_);rintro x wx ⟨rfl,rfl⟩)
 go_region
 go_upto_region 8 with fail;replace HS:=ah HS.o.drew.drew;clear y0 y1 y2 y5;refine wp_region_held_drew (S:=fun w'=>w'.cell? ⟨s,0,none⟩=some (.pointer (some ⟨d,0,none⟩))/\w'.cell? ⟨q,1,none⟩=some (.int .i64 (f.first:Int))/\w'.cell? ⟨q,5,none⟩=some (.slice B ks.length bc)) (by kernel_rfl) ⟨HS.o.bW.cell 0,HS.o.cell 1,HS.o.cell 5⟩ ?_;intro hS0;refine an 0 1 2 3 ?_;refine an 4 5 6 7 ?_;refine an 8 9 10 11 ?_;refine an 12 13 14 15 ?_;refine cH 16 ?_;refine bR 17 fun K hK=>?_
 go_simp;go_at_call 150;refine(E6 q A c p HS.o (fun W hW=>HHp.o W hW.right.right.right.right.right.right) hm hb0.o hli0.o).mono ?_;rintro y w17 ⟨B17,d17,rfl,hs⟩;rw[<-HBl.o] at hs;replace HS:=ah hs;clear hs
 refine hK.out _ _ ⟨HS.o.gw.cell 0,HS.o.av.cell 1,HS.o.av.cell 5⟩ (fun hS0=>?_);clear hK K;refine bR 18 fun K hK=>?_
 go_simp;go_at_call 131;refine(HW.o _ w17 B17 d17 HS.o.NK (aH.bO HS.o.aS)).mono ?_;rintro y w18 ⟨rfl,hs⟩;replace HS:=ah (hs.NG);clear hs
 refine hK.out _ _ ⟨HS.o.gw.cell 0,HS.o.av.cell 1,HS.o.av.cell 5⟩ (fun hS0=>?_);clear hK K;refine cH 19 ?_;refine wpAnyH_done (by kernel_rfl) ?_ _;replace HS:=ah HS.o.right;have HCl:Hid (∀ (W:World) (V:Value) (rs:bP) (D3:Dk),bT rs=f.aa->Sat w0 (Pt q 163 (pO f V)*(Row 41 1 V rs.length (rs.map aE)*(ca rs*(Pt s 153 #[aZ d,.int .i64 (slot:Int),.int .u64 (turn:Int),v]*(Row 155 1 v ps.length (ps.map fun x=>aZ x.1)*(br (ps.eraseIdx i)*(ae d D3*F))))))) W->Sat w0 (aU s d slot turn v ps*(ae d D3*F)) W):=fun W V rs D3 ht hW=>by
  refine(Sat.Kw ht hW).of ?_;rw[fY hi,Hf0.o,Hq0.o]
 by_cases hr:R.2=0
 .have hr2:¬ R.2≠0:=by omega
  go_upto_region 11 with fail;have y5:w18.cell? ⟨q,5,none⟩=some (.slice B ks.length bc):=HS.o.cell 5;have HC:=ah (eT A c p w18.drew (HHp.o _ HS.o.drew.right.right.right.right.right.right.right) (by omega));go_region_law (first
   | (go_simp;go_at_call 104;(with_reducible refine HC.o.mono ?_);rintro e w6 ⟨v6,rfl,h6,_,k6⟩;have hs:=HS.o.drew.dP k6 h6;obtain⟨A6,c6,hv6,_⟩:=hs.aT;subst hv6;have HS6:=ah (hs.eI (l:=p));have z5:w6.cell? ⟨q,5,none⟩=some (.slice B ks.length bc):=HS6.o.av.cell 5;have z6: ∀ o,(w6.alloc o).cell? ⟨q,5,none⟩=some (.slice B ks.length bc):=(fun o=>(HS6.o.aC o).av.cell 5);clear hs h6 k6)
   | (refine aQ rfl (.tmp 57) (.tmp 60) 87 rfl 41 i0 _ 1 24 Tryz.underlying87 hi0.o hz0.o hz1.o hz2.o rfl (by decide) (.slice B ks.length bc) ks.length (ks.map aE) rfl w0 _ (by exact(HS6.o.aC _).bD) (some ⟨w6.heap.size,0,none⟩) 1 1 [aE (A6,c6,p)] rfl (aL _ _ _) rfl (ju _) (by unfold maxLen;omega) (by omega) ?_;intro A8 c8 w8 hs;have HS8:=ah hs.bD;have c1:w8.cell? ⟨q,5,none⟩=some (.slice B ks.length bc):=hs.bD.cell 5;have f1:=hs.bD.frozen 5;clear hs))
  all_goals
   have h5:=HS8.o.set 5 (.slice A8 (ks.length+1) c8);clear c1 f1;revert h5;generalize World.setCell _ _ _=w9;intro h5;have HS9:Hid (Sat w0 (Pt q 163 (pO { f with aa:=f.aa++[p] } (.slice A8 (ks.length+1) c8))*(Row 41 1 (.slice A8 (ks.length+1) c8) (ks.length+1) (ks.map aE++[aE (A6,c6,p)])*(ca [(A6,c6,p)]*(ca ks*(Pt s 153 #[aZ d,.int .i64 (slot:Int),.int .u64 (turn:Int),v]*(Row 155 1 v ps.length (ps.map fun x=>aZ x.1)*(br (ps.eraseIdx i)*(ae d R.1*F)))))))) w9):=h5;clear h5;go_wp2_with fail;go_ret;refine⟨by rw[hr];rfl,?_⟩;rw[if_pos hr,uJ hi (ps[i].1,{ ps[i].2 with aa:=ps[i].2.aa++[p] }) rfl];have ht:bT (ks++[(A6,c6,p)])=({ f with aa:=f.aa++[p] }:Fl).aa:=by
    unfold bT;rw[List.map_append];show bT ks++[p]=f.aa++[p];rw[HKs.o,Hf0.o]
   have h9:=Sat.Kw (ks:=ks++[(A6,c6,p)]) (v:= .slice A8 (ks.length+1) c8) ht (HS9.o.of (by
    show _=_*(Row _ 1 _ (ks++[(A6,c6,p)]).length _*(ca (ks++[(A6,c6,p)])*(Pt s 153 #[aZ d,.int .i64 (slot:Int),.int .u64 (turn:Int),v]*(Row 155 1 v ps.length (ps.map fun x=>aZ x.1)*(br (ps.eraseIdx i)*(ae d R.1*F))))));rw[List.length_append,List.map_append, <-iM];show _=_*(Row _ 1 _ (ks.length+1) (ks.map aE++[aE (A6,c6,p)])*_)
    ac_rfl))
   rw[Hf0.o,Hq0.o] at h9;exact h9
 .go_wp2_with fail;go_ret;refine⟨rfl,?_⟩;rw[if_neg hr];exact HCl.o _ _ ks _ (HKs.o.trans (by rw[Hf0.o])) HS.o
end
section
variable {w0 w:World} {F:SP}
theorem nG {b:Nat} {t:TypeId} {fr:Nat × Nat} {l:List UInt8} (h:Sat w0 (Ow b (.cells (l.map bv).toArray t fr)*F) w):Rd w (some ⟨b,0,none⟩) l:=fun _=>
 ⟨b,0,rfl,fun j hj=>by
  rw[cell_of_row w b (0+j) _ t fr h.block,Nat.zero_add,List.getElem?_toArray,List.getElem?_eq_getElem hj]⟩
def kL (turn n:Nat) (hs:List Hd) (k:Nat):List UInt8:=mG++(ai turn 8++(ai n 1++((hs.take k).map Gj).flatten))
theorem Bn {turn n:Nat} {hs:List Hd} {k:Nat} (h:k<hs.length):kL turn n hs (k+1)=kL turn n hs k++Gj hs[k]:=by
 unfold kL;rw[List.take_succ_eq_append_getElem h,List.map_append,List.flatten_append];simp
theorem nX {turn n:Nat} {hs:List Hd} {k:Nat} (h:k<=hs.length):(kL turn n hs k).length=13+20*k:=by
 unfold kL;simp only[List.length_append,aB,oQ,List.length_take,Nat.min_eq_left h];show 4+_=_;omega
theorem DL (turn:Nat) (hs:List Hd):kL turn hs.length hs hs.length=pa turn hs:=by
 unfold kL pa;rw[List.take_length]
theorem FG (A:Option Addr) (c:Nat) (gs:List (Nat × Fl)) (turn:Nat) (h:Sat w0 (br gs*F) w) (hA: ∀ W,Sat w0 (br gs*F) W->aH W A (gs.map fun x=>aZ x.1)) (hn:gs.length<=24) (ht:turn<18446744073709551616) (ho: ∀ x ∈ gs,qa x.2.hd):
 Calls Tryz.prog 132 #[.int .u64 (turn:Int),.slice A gs.length c] w fun e w'=> ∃ B d,e = .returned (.slice B 512 d)/\Sat w0 (Row 5 1 (.slice B 512 d) 512 ((bZ turn (gs.map fun x=>x.2.hd)).map bv)*(br gs*F)) w':=by
 have hcv:=fun (W:World) (C:Array Value) (n c:Nat)=>Lib.run_convert_bytes_const (P:= Tryz.prog) W 41 5 C n c Tryz.underlying41 Tryz.underlying5
 obtain⟨P8,hP8⟩: ∃ P,ai turn 8=P:=⟨_,rfl⟩;obtain⟨P1,hP1⟩: ∃ P,ai gs.length 1=P:=⟨_,rfl⟩;have l8:P8.length=8:=by rw[<-hP8,aB]
 have l1:P1.length=1:=by rw[<-hP1,aB]
 obtain⟨hs,hhs⟩: ∃ hs,hs=gs.map fun x=>x.2.hd:=⟨_,rfl⟩;have hsl:hs.length=gs.length:=by rw[hhs,List.length_map]
 obtain⟨H0,hH0⟩: ∃ H0,H0=kL turn gs.length hs 0:=⟨_,rfl⟩;have hH0l:H0.length=13:=by rw[hH0,nX (Nat.zero_le _)]
 have HH0:Hid (H0=mG++(P8++P1)):=by unfold Hid;rw[hH0];unfold kL;rw[hP8,hP1];simp
 have HH0e:=ah hH0;have HHs:=ah hhs;have HSl:=ah hsl;have HP8:=ah hP8;have HP1:=ah hP1;have HA:=ah hA;have HO:=ah ho;have ht0:Hid (turn<18446744073709551616):=ht;have hwn:IntKind.u64.wrap (gs.length:Int)=gs.length:=by rw[IntKind.wrap_u64];omega
 have HS0:Hid (Sat w0 (Ow w.heap.size (.cells #[.int .u8 84,.int .u8 68,.int .u8 88,.int .u8 49] 5 (4,5))*(br gs*F)) (w.alloc (.cells #[.int .u8 84,.int .u8 68,.int .u8 88,.int .u8 49] 5 (4,5)))):=h.alloc _;have hH0m:H0.length<=140737488355328:=by omega
 have HC8:Hid (∀ (X:SP) (W:World),Sat w0 X W->Calls Tryz.prog 117 #[.int .u64 (turn:Int),.int .i64 8] W fun e w'=> ∃ A c,e = .returned (.slice A P8.length c)/\Sat w0 (Row 5 1 (.slice A P8.length c) P8.length (P8.map bv)*X) w'):=fun X W hX=>lA turn 8 8 rfl ht (by omega) (by omega) w0 W X hX P8 hP8
 have HC1:Hid (∀ (X:SP) (W:World),Sat w0 X W->Calls Tryz.prog 117 #[.int .u64 (gs.length:Int),.int .i64 1] W fun e w'=> ∃ A c,e = .returned (.slice A P1.length c)/\Sat w0 (Row 5 1 (.slice A P1.length c) P1.length (P1.map bv)*X) w'):=fun X W hX=>lA gs.length 1 1 rfl (by omega) (by omega) (by omega) w0 W X hX P1 hP1
 clear hH0l h hA ho hP8 hP1 l8 l1 hhs hsl hH0 ht;go_enter Tryz.func132, Tryz.ntmps132;go_upto_region 2 with (first
  | (go_at_call 117;(with_reducible refine(HC8.o _ _ HS0.o).mono ?_);rintro y w1 ⟨A1,c1,rfl,hs1⟩;have HS1:=ah hs1;clear hs1)
  | (go_at_call 117;(with_reducible refine(HC1.o _ _ HS1.o).mono ?_);rintro y w2 ⟨A2,c2,rfl,hs2⟩;have HS2:=ah (hs2.af 41 #[.slice (some ⟨w.heap.size,0,none⟩) 4 4,.slice A1 P8.length c1,.slice A2 P1.length c2]);clear hs2;have HJ:=ah (xh (some ⟨w2.heap.size,0,none⟩) 3 3 [(some ⟨w.heap.size,0,none⟩,4,mG),(A1,c1,P8),(A2,c2,P1)] rfl w0 _ _ HS2.o ⟨aH.jC HS2.o.at (fun j hj=>by simp at hj;have:j=0\/j=1\/j=2:=(by omega);rcases this with rfl | rfl | rfl<;>rfl),fun k hk=>by simp at hk;rcases hk with rfl | rfl | rfl;exact nG (l:=mG) HS2.o.bW;exact aH.bO HS2.o.bD.aS;exact aH.bO HS2.o.av.aS⟩ H0 (by rw[HH0.o];simp[bT]) hH0m (by omega)))
  | (go_at_call 61;(with_reducible refine HJ.o.mono ?_);rintro y w3 ⟨A3,c3,rfl,hs3⟩;have HS3:=ah hs3.bF.bF.bF.bF;clear hs3))
 go_wp2_with fail;go_loopw [5,7,20] (fun bw _ iv wr=> ∃ (k:Nat) (B:Option Addr) (d:Nat) (X:List UInt8),k<=gs.length/\bw = .slice B X.length d/\iv = .int .i64 (k:Int)/\Hid (X=kL turn gs.length hs k/\Sat w0 (Row 5 1 (.slice B X.length d) X.length (X.map bv)*(br gs*F)) wr)) (fun _ _ iv _=>gs.length - (intOf iv).toNat)
 case atStart=>exact⟨0,A3,c3,H0,by omega,rfl,rfl,HH0e.o,HS3.o⟩
 case round=>
  obtain⟨k,B,d,X,hk,rfl,rfl,HD⟩:=hrel;by_cases hlt:k<gs.length
  .obtain⟨b,o,rfl,hc⟩:=lZ (HA.o wr HD.o.2.right) hlt;have hk2:(k:Int)<gs.length:=by omega
   have hXl:X.length=13+20*k:=by rw[HD.o.1,nX (by rw[HSl.o];exact hk)]
   obtain⟨o1,o2,o3,o4⟩:=HO.o gs[k] (List.getElem_mem hlt);obtain⟨f,hf0⟩: ∃ f,f=gs[k].2:=⟨_,rfl⟩;obtain⟨q,hq0⟩: ∃ q,q=gs[k].1:=⟨_,rfl⟩;have hsk:hs[k]'(by rw[HSl.o];exact hlt)=f.hd:=by simp only[HHs.o,List.getElem_map,hf0]
   rw[<-hq0] at hc;rw[<-hf0] at o1 o2 o3 o4;obtain⟨v5,ks,hks,hfl⟩:=Sat.fl (p:=q) (f:=f) ((HD.o.2.av.of (show _=ni q f*(Row 5 1 (.slice B X.length d) X.length (X.map bv)*(br (gs.eraseIdx k)*F)) by rw[nb hlt, <-hf0, <-hq0];ac_rfl)));obtain⟨Pa,hPa⟩: ∃ P,ai f.num 4=P:=⟨_,rfl⟩;obtain⟨Pb,hPb⟩: ∃ P,ai f.first 4=P:=⟨_,rfl⟩;obtain⟨Pc,hPc⟩: ∃ P,ai f.blocks 4=P:=⟨_,rfl⟩;obtain⟨Pd,hPd⟩: ∃ P,ai f.birth 8=P:=⟨_,rfl⟩;obtain⟨Y,hY⟩: ∃ Y,Y=X++(Pa++(Pb++(Pc++Pd))):=⟨_,rfl⟩;have hYl:Y.length<=140737488355328:=by rw[hY, <-hPa, <-hPb, <-hPc, <-hPd];simp only[List.length_append,aB];omega
   have HYk:Hid (Y=kL turn gs.length hs (k+1)):=by
    unfold Hid;rw[Bn (by rw[HSl.o];exact hlt),hsk,hY, <-HD.o.1];unfold Gj Fl.hd;simp only[hPa,hPb,hPc,hPd]
   have n1:f.num<4294967296:=o1;have n2:f.first<4294967296:=o2;have n3:f.blocks<4294967296:=o3;have n4:Hid (f.birth<18446744073709551616):=o4;have w1':IntKind.u64.wrap (f.num:Int)=f.num:=by rw[IntKind.wrap_u64];omega
   have w2':IntKind.u64.wrap (f.first:Int)=f.first:=by rw[IntKind.wrap_u64];omega
   have w3':IntKind.u64.wrap (f.blocks:Int)=f.blocks:=by rw[IntKind.wrap_u64];omega
   have HCa:Hid (∀ (X:SP) (W:World),Sat w0 X W->Calls Tryz.prog 117 #[.int .u64 (f.num:Int),.int .i64 4] W fun e w'=> ∃ A c,e = .returned (.slice A Pa.length c)/\Sat w0 (Row 5 1 (.slice A Pa.length c) Pa.length (Pa.map bv)*X) w'):=fun X W hX=>lA f.num 4 4 rfl (by omega) (by omega) (by omega) w0 W X hX Pa hPa
   have HCb:Hid (∀ (X:SP) (W:World),Sat w0 X W->Calls Tryz.prog 117 #[.int .u64 (f.first:Int),.int .i64 4] W fun e w'=> ∃ A c,e = .returned (.slice A Pb.length c)/\Sat w0 (Row 5 1 (.slice A Pb.length c) Pb.length (Pb.map bv)*X) w'):=fun X W hX=>lA f.first 4 4 rfl (by omega) (by omega) (by omega) w0 W X hX Pb hPb
   have HCc:Hid (∀ (X:SP) (W:World),Sat w0 X W->Calls Tryz.prog 117 #[.int .u64 (f.blocks:Int),.int .i64 4] W fun e w'=> ∃ A c,e = .returned (.slice A Pc.length c)/\Sat w0 (Row 5 1 (.slice A Pc.length c) Pc.length (Pc.map bv)*X) w'):=fun X W hX=>lA f.blocks 4 4 rfl (by omega) (by omega) (by omega) w0 W X hX Pc hPc
   have HCd:Hid (∀ (X:SP) (W:World),Sat w0 X W->Calls Tryz.prog 117 #[.int .u64 (f.birth:Int),.int .i64 8] W fun e w'=> ∃ A c,e = .returned (.slice A Pd.length c)/\Sat w0 (Row 5 1 (.slice A Pd.length c) Pd.length (Pd.map bv)*X) w'):=fun X W hX=>lA f.birth 8 8 rfl o4 (by omega) (by omega) w0 W X hX Pd hPd
   have HS:=ah hfl.drew;have HKs:=ah hks;have Hf0:=ah hf0;have Hq0:=ah hq0;have HY:=ah hY;clear hfl hks hf0 hq0 hY hPa hPb hPc hPd hsk hXl o1 o2 o3 o4 n1 n2 n3;go_upto_region 5 with fail;refine wp_region_held_drew (S:=fun w'=>w'.cell? ⟨q,0,none⟩=some (.int .i64 (f.num:Int))/\w'.cell? ⟨q,1,none⟩=some (.int .i64 (f.first:Int))/\w'.cell? ⟨q,2,none⟩=some (.int .i64 (f.blocks:Int))/\w'.cell? ⟨q,3,none⟩=some (.int .u64 (f.birth:Int))) (by kernel_rfl) ⟨HS.o.cell 0,HS.o.cell 1,HS.o.cell 2,HS.o.cell 3⟩ ?_;intro hS0;refine an 0 1 2 3 ?_;refine an 4 5 6 8 ?_;refine an 9 10 11 12 ?_;refine an 13 15 16 17 ?_;refine an 18 19 20 22 ?_;refine cm 23 24 ?_;refine cH 25 ?_;refine bR 7 fun K hK=>?_
   go_simp;go_at_call 117;(with_reducible refine(HCa.o _ _ HS.o).mono ?_);rintro y w7 ⟨A7,c7,rfl,hs⟩;replace HS:=ah hs;clear hs
   refine hK.out _ _ ⟨HS.o.av.cell 0,HS.o.av.cell 1,HS.o.av.cell 2,HS.o.av.cell 3⟩ (fun hS0=>?_);clear hK K;refine bR 14 fun K hK=>?_
   go_simp;go_at_call 117;(with_reducible refine(HCb.o _ _ HS.o).mono ?_);rintro y w14 ⟨A14,c14,rfl,hs⟩;replace HS:=ah hs;clear hs
   refine hK.out _ _ ⟨HS.o.bD.cell 0,HS.o.bD.cell 1,HS.o.bD.cell 2,HS.o.bD.cell 3⟩ (fun hS0=>?_);clear hK K;refine bR 21 fun K hK=>?_
   go_simp;go_at_call 117;(with_reducible refine(HCc.o _ _ HS.o).mono ?_);rintro y w21 ⟨A21,c21,rfl,hs⟩;replace HS:=ah hs;clear hs
   refine hK.out _ _ ⟨HS.o.bW.cell 0,HS.o.bW.cell 1,HS.o.bW.cell 2,HS.o.bW.cell 3⟩ (fun hS0=>?_);clear hK K;refine bR 26 fun K hK=>?_
   go_simp;go_at_call 117;(with_reducible refine(HCd.o _ _ HS.o).mono ?_);rintro y w26 ⟨A26,c26,rfl,hs⟩;replace HS:=ah hs;clear hs
   refine hK.out _ _ ⟨HS.o.gw.cell 0,HS.o.gw.cell 1,HS.o.gw.cell 2,HS.o.gw.cell 3⟩ (fun hS0=>?_);clear hK K;refine bR 27 fun K hK=>?_
   go_simp;have hs:=HS.o.af 41 #[.slice B X.length d,.slice A7 Pa.length c7,.slice A14 Pb.length c14,.slice A21 Pc.length c21,.slice A26 Pd.length c26];revert hs;generalize World.alloc w26 _=w27;generalize w26.heap.size=B27;intro hs;replace HS:=ah hs;clear hs;refine hK.out _ _ ⟨HS.o.CQ.cell 0,HS.o.CQ.cell 1,HS.o.CQ.cell 2,HS.o.CQ.cell 3⟩ (fun hS0=>?_);clear hK K;refine bR 28 fun K hK=>?_
   go_simp;have HJ9:=ah (xh (some ⟨B27,0,none⟩) 5 5 [(B,d,X),(A7,c7,Pa),(A14,c14,Pb),(A21,c21,Pc),(A26,c26,Pd)] rfl w0 w27 _ HS.o ⟨aH.jC HS.o.at (fun j hj=>by simp at hj;have:j=0\/j=1\/j=2\/j=3\/j=4:=(by omega);rcases this with rfl | rfl | rfl | rfl | rfl<;>rfl),fun k hk=>by simp at hk;rcases hk with rfl | rfl | rfl | rfl | rfl;exact aH.bO HS.o.right.right.right.CQ.aS;exact aH.bO HS.o.gw.aS;exact aH.bO HS.o.bW.aS;exact aH.bO HS.o.bD.aS;exact aH.bO HS.o.av.aS⟩ Y (by rw[HY.o];simp[bT]) hYl (by omega));go_at_call 61;(with_reducible refine HJ9.o.mono ?_);rintro y w28 ⟨A28,c28,rfl,hs⟩;replace HS:=ah hs;clear hs HJ9;refine hK.out _ _ ⟨HS.o.right.CQ.cell 0,HS.o.right.CQ.cell 1,HS.o.right.CQ.cell 2,HS.o.right.CQ.cell 3⟩ (fun hS0=>?_);clear hK K;refine cH 29 ?_;refine wpAnyH_done (by kernel_rfl) ?_ _;go_wp2_with fail;go_roundw
   .refine⟨k+1,A28,c28,Y,by omega,rfl,by push_cast;rfl,HYk.o,?_⟩;have h9:=HS.o.bF.bF.bF.bF.bF;have h8:=Sat.Kw HKs.o (h9.of (show _=Pt q 163 (pO f v5)*(Row 41 1 v5 ks.length (ks.map aE)*(ca ks*(Row 5 1 (.slice A28 Y.length c28) Y.length (Y.map bv)*(Row 5 1 (.slice B X.length d) X.length (X.map bv)*(br (gs.eraseIdx k)*F))))) by ac_rfl));have h7:=(h8.bD.right).av;refine h7.of ?_;rw[nb hlt,Hf0.o,Hq0.o]
    ac_rfl
   .simp[intOf];omega
  .obtain rfl:k=gs.length:=by omega
   have hk2:¬ ((gs.length:Nat):Int)<gs.length:=by omega
   have HX:Hid (X=pa turn hs):=by unfold Hid;rw[HD.o.1, <-DL,HSl.o]
   have hXl:X.length=13+20*gs.length:=by rw[HD.o.1,nX (by rw[HSl.o];exact Nat.le_refl _)]
   have hX0:0<X.length:=by omega
   have hXm:X.length<=493:=by omega
   have hsub:(512:Int) - (X.length:Int)=((512 - X.length:Nat):Int):=by omega
   have HFr:Hid ((bZ turn hs).map bv=X.map bv++eF (512 - X.length)):=by unfold Hid bZ;rw[Ch,HX.o]
   have HS:=ah HD.o.2;clear hXl HD;go_upto_region 7 with fail;obtain⟨g,rfl,_⟩:=HS.o.nY hX0;obtain⟨j0,hj,hy0,hy1,hy2⟩:=info_parts nU;go_wp2_with (at_builtin;refine pI rfl (.tmp 54) (.tmp 57) 41 3 5 j0 rfl Tryz.underlying41 Tryz.underlying3 hj hy0 hy1 hy2 g X.length d (512 - X.length) (X.map bv) rfl rfl w0 _ HS.o (by omega) (by omega) ?_;intro A5 c5 w5 hs;replace HS:=ah hs;clear hs);go_ret;have e5:X.length+(512 - X.length)=512:=by omega
   have h9:=HS.o;rw[e5, <-HFr.o] at h9;exact⟨A5,c5,by rw[e5];rfl,by rw[<-HHs.o];exact h9⟩
end
section
variable {w0 w:World} {F:SP} {s d slot turn:Nat} {v V:Value} {gs:List (Nat × Fl)} {D:Dk}
theorem AS (D:Dk) (i:Int) (b:List UInt8):(D.write i b).1.pend.length<=D.pend.length+1:=by
 unfold Dk.write;split
 .split
  .show (D.pend++[_]).length<=_;rw[List.length_append];exact Nat.le_refl _
  .exact Nat.le_succ _
 .exact Nat.le_succ _
def ix (slot:Nat):Nat:=(slot+1) % 2
def ij (turn:Nat):Nat:=(turn+1) % 18446744073709551616
def Dd (d slot turn:Nat) (v V:Value) (ok:Bool):Array Value:=if ok then #[aZ d,.int .i64 (ix slot:Int),.int .u64 (ij turn:Int),V] else #[aZ d,.int .i64 (slot:Int),.int .u64 (turn:Int),v]
def Mf (w0:World) (F:SP) (s d slot turn:Nat) (v V:Value) (gs:List (Nat × Fl)) (R1 R2:Dk × Int) (e:Ending) (w':World):Prop:=
 (R1.2≠0/\e = .returned (.int .i64 R1.2)/\Sat w0 (Pt s 153 (Dd d slot turn v V false)*(Row 155 1 V gs.length (gs.map fun x=>aZ x.1)*(br gs*(ae d R1.1*F)))) w')\/
 (R1.2=0/\R2.2≠0/\e = .returned (.int .i64 R2.2)/\Sat w0 (Pt s 153 (Dd d slot turn v V false)*(Row 155 1 V gs.length (gs.map fun x=>aZ x.1)*(br gs*(ae d R2.1*F)))) w')\/
 (R1.2=0/\R2.2=0/\e = .returned (.int .i64 0)/\Sat w0 (Pt s 153 (Dd d slot turn v V true)*(Row 155 1 V gs.length (gs.map fun x=>aZ x.1)*(br gs*(ae d R2.1*F)))) w')
theorem Cw (h:Sat w0 (Pt s 153 #[aZ d,.int .i64 (slot:Int),.int .u64 (turn:Int),v]*(Row 155 1 V gs.length (gs.map fun x=>aZ x.1)*(br gs*(ae d D*F)))) w) (hn:gs.length<=24) (hsl:slot<2) (htu:turn<18446744073709551616) (ho: ∀ x ∈ gs,qa x.2.hd) (hw1:D.writes<=1000000000) (hw2:D.pend.length<=999999999) (hw3:D.armed<=9223372036854775807):
 Calls Tryz.prog 91 #[.pointer (some ⟨s,0,none⟩),V] w (Mf w0 F s d slot turn v V gs (D.write (ix slot:Int) (bZ (ij turn) (gs.map fun x=>x.2.hd))) (D.write (ix slot:Int) (bZ (ij turn) (gs.map fun x=>x.2.hd))).1.flush):=by
 obtain⟨A,c,rfl,hc1,hc2⟩:=h.av.aT;obtain⟨b,hb⟩: ∃ b,b=bZ (ij turn) (gs.map fun x=>x.2.hd):=⟨_,rfl⟩;have hbl:b.length=512:=by rw[hb];exact fH (by rw[List.length_map];exact hn)
 obtain⟨R1,hR1⟩: ∃ R,R=D.write (ix slot:Int) b:=⟨_,rfl⟩;obtain⟨R2,hR2⟩: ∃ R,R=R1.1.flush:=⟨_,rfl⟩;rw[<-hb, <-hR1, <-hR2];have hp1:R1.1.pend.length<=1000000000:=by have:=AS D (ix slot:Int) b;rw[<-hR1] at this;omega
 have HW:Hid (∀ (X:SP) (W:World) (A:Option Addr) (c:Nat),Sat w0 (ae d D*X) W->Rd W A b->Calls Tryz.prog 131 #[.pointer (some ⟨d,0,none⟩),.int .i64 (ix slot:Int),.slice A 512 c] W fun e w'=>e = .returned (.int .i64 R1.2)/\Sat w0 (ae d R1.1*X) w'):=fun X W A c hX hA=>by
  have h9:=tI d D (ix slot:Int) A c b w0 W X hX hA (by omega) hw1 (by omega) hw3;unfold AP at h9;rw[hbl, <-hR1] at h9;exact h9
 have HFl:Hid (∀ (X:SP) (W:World),Sat w0 (ae d R1.1*X) W->Calls Tryz.prog 102 #[.pointer (some ⟨d,0,none⟩)] W fun e w'=>e = .returned (.int .i64 R2.2)/\Sat w0 (ae d R2.1*X) w'):=fun X W hX=>by
  have h9:=tz d R1.1 w0 W X hX hp1;rw[<-hR2] at h9;exact h9
 have htn:ij turn<18446744073709551616:=Nat.mod_lt _ (by omega);have HSe:Hid (∀ (W:World),Sat w0 (br gs*(Row 155 1 (.slice A gs.length c) gs.length (gs.map fun x=>aZ x.1)*(Pt s 153 #[aZ d,.int .i64 (slot:Int),.int .u64 (turn:Int),v]*(ae d D*F)))) W->
  Calls Tryz.prog 132 #[.int .u64 (ij turn:Int),.slice A gs.length c] W fun e w'=> ∃ B d',e = .returned (.slice B 512 d')/\Sat w0 (Row 5 1 (.slice B 512 d') 512 (b.map bv)*(br gs*(Row 155 1 (.slice A gs.length c) gs.length (gs.map fun x=>aZ x.1)*(Pt s 153 #[aZ d,.int .i64 (slot:Int),.int .u64 (turn:Int),v]*(ae d D*F))))) w'):=fun W hW=>by
  rw[hb];exact FG A c gs (ij turn) hW (fun W2 hW2=>aH.bO hW2.right.aS) hn htn ho
 have e1:((slot:Int)+1).tmod 2=(ix slot:Int):=by
  rw[Int.tmod_eq_emod_of_nonneg (by omega)];unfold ix;omega
 have e1':IntKind.i64.wrap ((slot:Int)+1)=(slot:Int)+1:=by rw[IntKind.wrap_i64];omega
 have e2:IntKind.u64.wrap ((turn:Int)+1)=(ij turn:Int):=by
  rw[IntKind.wrap_u64];unfold ij;omega
 have HS:=ah h;have y0:w.cell? ⟨s,0,none⟩=some (.pointer (some ⟨d,0,none⟩)):=h.cell 0;have y1:w.cell? ⟨s,1,none⟩=some (.int .i64 (slot:Int)):=h.cell 1;clear h ho hb hbl hR1 hR2 hp1 htn hw1 hw2 hw3;generalize hsl9:ix slot=sl at*
 generalize htu9:ij turn=tu at*
 have HSl:=ah hsl9;have HTu:=ah htu9;clear hsl9 htu9;go_enter Tryz.func91, Tryz.ntmps91;go_upto_region 2 with fail;replace HS:=ah ((HS.o.drew).of (show _=br gs*(Row 155 1 (.slice A gs.length c) gs.length (gs.map fun x=>aZ x.1)*(Pt s 153 #[aZ d,.int .i64 (slot:Int),.int .u64 (turn:Int),v]*(ae d D*F))) by ac_rfl));clear y0 y1;refine wp_region_held_drew (S:=fun w'=>w'.cell? ⟨s,0,none⟩=some (.pointer (some ⟨d,0,none⟩))/\w'.cell? ⟨s,2,none⟩=some (.int .u64 (turn:Int))) (by kernel_rfl) ⟨HS.o.bD.cell 0,HS.o.bD.cell 2⟩ ?_;intro hS0;refine an 0 1 2 3 ?_;refine an 4 5 6 7 ?_;refine cm 8 9 ?_;refine cH 10 ?_;refine bR 11 fun K hK=>?_
 go_simp;go_at_call 132;(with_reducible refine(HSe.o _ HS.o).mono ?_);rintro y w11 ⟨B11,d11,rfl,hs⟩;replace HS:=ah hs;clear hs
 refine hK.out _ _ ⟨HS.o.bW.cell 0,HS.o.bW.cell 2⟩ (fun hS0=>?_);clear hK K;refine bR 12 fun K hK=>?_
 go_simp;go_at_call 131;refine(HW.o _ w11 B11 d11 HS.o.gw (aH.bO HS.o.aS)).mono ?_;rintro y w12 ⟨rfl,hs⟩;replace HS:=ah hs.NA;clear hs
 refine hK.out _ _ ⟨HS.o.bW.cell 0,HS.o.bW.cell 2⟩ (fun hS0=>?_);clear hK K;refine cH 13 ?_;refine wpAnyH_done (by kernel_rfl) ?_ _;replace HS:=ah HS.o.right;by_cases hr1:R1.2=0
 .go_upto_region 5 with fail;have y0:w12.cell? ⟨s,0,none⟩=some (.pointer (some ⟨d,0,none⟩)):=HS.o.bD.cell 0;go_upto_region 6 with (go_at_call 102;(with_reducible refine(HFl.o _ w12 HS.o.bW).mono ?_);rintro y w13 ⟨rfl,hs⟩;replace HS:=ah hs.Nv;clear hs)
  clear y0;by_cases hr2:R2.2=0
  .have y1:w13.cell? ⟨s,1,none⟩=some (.int .i64 (slot:Int)):=HS.o.bD.cell 1;have y2:w13.cell? ⟨s,2,none⟩=some (.int .u64 (turn:Int)):=HS.o.bD.cell 2;have y3:w13.cell? ⟨s,3,none⟩=some v:=HS.o.bD.cell 3;have f1:=HS.o.bD.frozen 1;have f2:=HS.o.bD.frozen 2;have f3:=HS.o.bD.frozen 3;go_wp2_with fail;go_ret;refine .inr (.inr ⟨hr1,hr2,rfl,?_⟩);have h9:=((HS.o.bD.set 1 (.int .i64 (sl:Int))).set 3 (.slice A gs.length c)).set 2 (.int .u64 (tu:Int));unfold Dd;rw[if_pos rfl,HSl.o,HTu.o];exact h9.of (by
    show Pt s 153 #[aZ d,.int .i64 (sl:Int),.int .u64 (tu:Int),.slice A gs.length c]*_=_
    ac_rfl)
  .go_wp2_with fail;go_ret;refine .inr (.inl ⟨hr1,hr2,rfl,?_⟩);exact HS.o.of (by unfold Dd;rw[if_neg (by simp)];ac_rfl)
 .go_wp2_with fail;go_ret;refine .inl ⟨hr1,rfl,?_⟩;exact HS.o.of (by unfold Dd;rw[if_neg (by simp)];ac_rfl)
end
def dC (x:Nat × Nat × Nat):List Value:=[.int .i64 (x.1:Int),.int .i64 (x.2.1:Int),.int .i64 (x.2.2:Int)]
section
variable {w0 w:World} {F:SP} {s d:Nat} {a1 a2 a3:Value} {D:Dk} {dz:List (Nat × Nat × Nat)}
theorem rU: ∀ l:List (Nat × Nat × Nat),(l.flatMap dC).length=l.length*3
 | []=>rfl
 | x::l=>by rw[List.flatMap_cons,List.length_append,rU l,List.length_cons];show 3+_=_;omega
theorem vD: ∀ (l:List (Nat × Nat × Nat)) (k j:Nat) (hk:k<l.length) (hj:j<3),(l.flatMap dC)[k*3+j]?=(dC l[k])[j]?
 | x::l,0,j,hk,hj=>by
  rw[List.flatMap_cons,List.getElem?_append_left (by show 0*3+j<3;omega)];simp
 | x::l,k+1,j,hk,hj=>by
  rw[List.flatMap_cons,List.getElem?_append_right (by show 3<=_;omega)];show (l.flatMap dC)[(k+1)*3+j - 3]?=_;rw[show (k+1)*3+j - 3=k*3+j by omega];exact vD l k j (by simpa using hk) hj
theorem KM {A:Option Addr} (h:aH w A (dz.flatMap dC)) {k:Nat} (hk:k<dz.length): ∃ b o,A=some ⟨b,o,none⟩/\w.cell? ⟨b,o+k*3,none⟩=some (.int .i64 (dz[k].1:Int))/\w.cell? ⟨b,o+k*3+1,none⟩=some (.int .i64 (dz[k].2.1:Int))/\w.cell? ⟨b,o+k*3+2,none⟩=some (.int .i64 (dz[k].2.2:Int)):=by
 have hl:=rU dz;obtain⟨b,o,e,hc⟩:=h (by intro e;have h9:dz.length*3=0:=(by rw[<-hl,e];rfl);omega);have key: ∀ j,j<3->w.cell? ⟨b,o+k*3+j,none⟩=(dC dz[k])[j]?:=fun j hj=>by
  have hij:k*3+j<(dz.flatMap dC).length:=by rw[hl];omega
  have:=hc (k*3+j) hij;rw[Nat.add_assoc,this, <-List.getElem?_eq_getElem hij,vD dz k j hk hj]
 exact⟨b,o,e,key 0 (by omega),key 1 (by omega),key 2 (by omega)⟩
theorem Er (A:Option Addr) (c:Nat) (bl:Int) (h:Sat w0 (Pt s 153 #[aZ d,a1,a2,a3]*(ae d D*F)) w) (hr:aH w A (dz.flatMap dC)) (hl:dz.length<=1000000) (hb: ∀ x ∈ dz,x.2.1<=65536/\x.2.2<=65536) (hbl: -9223372036854775808<=bl/\bl<=9223372036854775807) (hn:D.cells.length<=65536):
 Calls Tryz.prog 99 #[.pointer (some ⟨s,0,none⟩),.slice A dz.length c,.int .i64 bl] w fun e w'=>e = .returned (.tuple #[.int .i64 ((bh D.cells.length bl 2 (dz.map (·.2))).1:Int),.bool (bh D.cells.length bl 2 (dz.map (·.2))).2])/\aq No w w':=by
 have HB:=ah fun (W:World) (k:aq No w W)=>il d D w0 W _ (h.av.new k)
 have y0:w.cell? ⟨s,0,none⟩=some (.pointer (some ⟨d,0,none⟩)):=h.cell 0;have HY:Hid (∀ W,aq No w W->W.cell? ⟨s,0,none⟩=some (.pointer (some ⟨d,0,none⟩))):=fun W k=>k.cell y0 id
 have HR:=ah hr;have HBd:=ah hb;clear h hr hb y0;go_enter Tryz.func99, Tryz.ntmps99;go_wp2_with fail;go_loopw [8,10,13] (fun fv _ iv wr=> ∃ (k f:Nat),k<=dz.length/\f<=131072/\fv = .int .i64 (f:Int)/\iv = .int .i64 (k:Int)/\Hid (aq No w wr/\bh D.cells.length bl 2 (dz.map (·.2))=bh D.cells.length bl f ((dz.drop k).map (·.2)))) (fun _ _ iv _=>dz.length - (intOf iv).toNat)
 case atStart=>exact⟨0,2,by omega,by omega,rfl,rfl,aq.refl _ _,rfl⟩
 case round=>
  obtain⟨k,f,hk,hf,rfl,rfl,HD⟩:=hrel;by_cases hlt:k<dz.length
  .obtain⟨b,o,rfl,z0,z1,z2⟩:=KM (HR.o.new HD.o.1) hlt;have hk2:(k:Int)<dz.length:=by omega
   obtain⟨hx1,hx2⟩:=HBd.o dz[k] (List.getElem_mem hlt);have hdr:dz.drop k=dz[k]::dz.drop (k+1):=List.drop_eq_getElem_cons hlt;have HP:Hid (bh D.cells.length bl 2 (dz.map (·.2))=if bl<=(dz[k].2.1:Int) - f then (f,true) else bh D.cells.length bl (dz[k].2.1+dz[k].2.2) ((dz.drop (k+1)).map (·.2))):=by
    unfold Hid;rw[HD.o.2,hdr,List.map_cons]
    conv=>lhs;unfold bh
   have HC:=ah HD.o.1;clear hdr HD;generalize dz[k].1=x0 at*
   generalize dz[k].2.1=x1 at*
   generalize dz[k].2.2=x2 at*
   have hw:IntKind.i64.wrap ((x1:Int) - (f:Int))=(x1:Int) - f:=by rw[IntKind.wrap_i64];omega
   by_cases hfit:bl<=(x1:Int) - f
   .go_wp2_with fail;go_ret2;rw[HP.o,if_pos hfit];exact⟨rfl,HC.o.alloc _⟩
   .have hw2:IntKind.i64.wrap ((x1:Int)+(x2:Int))=((x1+x2:Nat):Int):=by rw[IntKind.wrap_i64];omega
    have hfit2:¬ bl<=(x1:Int) - f:=hfit;have HP2:Hid (bh D.cells.length bl 2 (dz.map (·.2))=bh D.cells.length bl (x1+x2) ((dz.drop (k+1)).map (·.2))):=by unfold Hid;rw[HP.o,if_neg hfit]
    clear HP hfit;go_wp2_with fail;go_roundw
    .exact⟨k+1,x1+x2,by omega,by omega,by push_cast;rfl,by push_cast;rfl,HC.o.alloc _,HP2.o⟩
    .simp[intOf];omega
  .obtain rfl:k=dz.length:=by omega
   have hk2:¬ ((dz.length:Nat):Int)<dz.length:=by omega
   have HP:Hid (bh D.cells.length bl 2 (dz.map (·.2))=(f,decide (bl<=(D.cells.length:Int) - f))):=by
    unfold Hid;rw[HD.o.2,List.drop_length];rfl
   have y0:=HY.o wr HD.o.1;have HB2:=ah (HB.o wr HD.o.1);have hw:IntKind.i64.wrap ((D.cells.length:Int) - (f:Int))=(D.cells.length:Int) - f:=by rw[IntKind.wrap_i64];omega
   have HC:=ah HD.o.1;go_wp2_with (go_at_call 51;(with_reducible refine HB2.o.mono ?_);rintro x wx ⟨rfl,rfl⟩);go_ret2;rw[HP.o];exact⟨rfl,HC.o⟩
end
section
variable {w0 w:World} {F:SP} {d:Nat} {gs:List (Nat × Fl)} {D:Dk}
def vS (n:Nat) (f:Fl):Bool:=decide (2<=f.first/\1<=f.blocks/\(f.blocks:Int)<=(n:Int) - f.first)
theorem Dj (n:Nat) (gs:List (Nat × Fl)):kW n (gs.map fun x=>x.2.hd)=gs.all fun x=>vS n x.2:=by
 unfold kW;rw[List.all_map];rfl
theorem FC (A:Option Addr) (c:Nat) (h:Sat w0 (br gs*(ae d D*F)) w) (hA: ∀ W,Sat w0 (br gs*(ae d D*F)) W->aH W A (gs.map fun x=>aZ x.1)) (hn:gs.length<=1000) (hb: ∀ x ∈ gs,x.2.first<4294967296/\x.2.blocks<4294967296) (hN:D.cells.length<=65536):
 Calls Tryz.prog 130 #[.pointer (some ⟨d,0,none⟩),.slice A gs.length c] w fun e w'=>e = .returned (.bool (kW D.cells.length (gs.map fun x=>x.2.hd)))/\Sat w0 (br gs*(ae d D*F)) w':=by
 rw[Dj];obtain⟨N,hNN⟩: ∃ N,N=D.cells.length:=⟨_,rfl⟩;have HB:Hid (∀ W X,Sat w0 (ae d D*X) W->Calls Tryz.prog 51 #[.pointer (some ⟨d,0,none⟩)] W fun e w'=>e = .returned (.int .i64 (N:Int))/\W=w'):=fun W X k=>by rw[hNN];exact il d D w0 W X k
 rw[<-hNN] at hN ⊢;have HS:=ah h;have HA:=ah hA;have HBd:=ah hb;clear h hA hb hNN;go_enter Tryz.func130, Tryz.ntmps130;go_wp2_with fail;go_loopw [6,9] (fun _ iv wr=> ∃ k:Nat,k<=gs.length/\iv = .int .i64 (k:Int)/\Hid (Sat w0 (br gs*(ae d D*F)) wr/\ ∀ j (hj:j<k) (hl:j<gs.length),vS N gs[j].2=true)) (fun _ iv _=>gs.length - (intOf iv).toNat)
 case atStart=>exact⟨0,by omega,rfl,HS.o,fun j hj=>by omega⟩
 case round=>
  obtain⟨k,hk,rfl,HD⟩:=hrel;by_cases hlt:k<gs.length
  .obtain⟨b,o,rfl,hc⟩:=lZ (HA.o wr HD.o.1) hlt;have hk2:(k:Int)<gs.length:=by omega
   obtain⟨hx1,hx2⟩:=HBd.o gs[k] (List.getElem_mem hlt);obtain⟨v5,ks,hks,hfl⟩:=Sat.fl (p:=gs[k].1) (f:=gs[k].2) (HD.o.1.of (show _=ni gs[k].1 gs[k].2*(br (gs.eraseIdx k)*(ae d D*F)) by rw[nb hlt];ac_rfl));have y1:wr.drew.cell? ⟨gs[k].1,1,none⟩=some (.int .i64 (gs[k].2.first:Int)):=hfl.drew.cell 1;have y2:wr.drew.cell? ⟨gs[k].1,2,none⟩=some (.int .i64 (gs[k].2.blocks:Int)):=hfl.drew.cell 2;have HNo:Hid (vS N gs[k].2=false->(gs.all fun x=>vS N x.2)=false):=fun h9=>by
    rw[List.all_eq_false];exact⟨gs[k],List.getElem_mem hlt,by rw[h9];simp⟩
   have HL:Hid (vS N gs[k].2=decide (2<=gs[k].2.first/\1<=gs[k].2.blocks/\(gs[k].2.blocks:Int)<=(N:Int) - gs[k].2.first)):=rfl;have HY:Hid (∀ j (hj:j<k+1) (hl:j<gs.length),vS N gs[k].2=true->vS N gs[j].2=true):=fun j hj hl h9=>by
    by_cases ej:j=k
    .subst ej;exact h9
    .exact HD.o.2 j (by omega) hl
   have HBl:=ah (HB.o wr.drew _ (HD.o.1.drew.av));clear hks hfl;generalize vS N gs[k].2=LB at*
   generalize gs[k].2.first=m1 at*
   generalize gs[k].2.blocks=m2 at*
   generalize gs[k].1=q at*
   have hw:IntKind.i64.wrap ((N:Int) - (m1:Int))=(N:Int) - m1:=by rw[IntKind.wrap_i64];omega
   go_upto_region 4 with fail;by_cases h1:(m1:Int)<2
   .have HF:Hid (LB=false):=by unfold Hid;rw[HL.o];exact decide_eq_false (by omega)
    refine wp_region_held_drew (S:=fun w'=>w'.cell? ⟨q,1,none⟩=some (.int .i64 (m1:Int))/\w'.cell? ⟨q,2,none⟩=some (.int .i64 (m2:Int))) (by kernel_rfl) ⟨y1,y2⟩ ?_;intro hS0;refine an 0 1 2 3 ?_;refine cm 4 5 ?_;refine cH 6 ?_;refine cD 7 ?_;refine cD 8 ?_;refine cD 9 ?_;refine cD 10 ?_;refine cD 11 ?_;refine cD 12 ?_;refine cm 13 14 ?_;refine cD 15 ?_;refine cD 16 ?_;refine cD 17 ?_;refine cD 18 ?_;refine cD 19 ?_;refine cD 20 ?_;refine cD 21 ?_;refine cD 22 ?_;refine cD 23 ?_;refine cD 24 ?_;refine cD 25 ?_;refine cD 26 ?_;refine cD 27 ?_;refine cD 28 ?_;refine cH 29 ?_;refine wpAnyH_done (by kernel_rfl) ?_ _;go_wp2_with fail;go_ret;rw[HNo.o HF.o];exact⟨rfl,HD.o.1.drew⟩
   .by_cases h2:(m2:Int)<1
    .have HF:Hid (LB=false):=by unfold Hid;rw[HL.o];exact decide_eq_false (by omega)
     refine wp_region_held_drew (S:=fun w'=>w'.cell? ⟨q,1,none⟩=some (.int .i64 (m1:Int))/\w'.cell? ⟨q,2,none⟩=some (.int .i64 (m2:Int))) (by kernel_rfl) ⟨y1,y2⟩ ?_;intro hS0;refine an 0 1 2 3 ?_;refine an 4 5 6 7 ?_;refine an 8 9 10 11 ?_;refine cm 12 13 ?_;refine cH 14 ?_;refine cD 15 ?_;refine cD 16 ?_;refine cD 17 ?_;refine cD 18 ?_;refine cD 19 ?_;refine cD 20 ?_;refine cD 21 ?_;refine cD 22 ?_;refine cD 23 ?_;refine cD 24 ?_;refine cD 25 ?_;refine cD 26 ?_;refine cD 27 ?_;refine cD 28 ?_;refine cH 29 ?_;refine wpAnyH_done (by kernel_rfl) ?_ _;go_wp2_with fail;go_ret;rw[HNo.o HF.o];exact⟨rfl,HD.o.1.drew⟩
    .by_cases h3:(N:Int) - m1<m2
     .have HF:Hid (LB=false):=by unfold Hid;rw[HL.o];exact decide_eq_false (by omega)
      refine wp_region_held_drew (S:=fun w'=>w'.cell? ⟨q,1,none⟩=some (.int .i64 (m1:Int))/\w'.cell? ⟨q,2,none⟩=some (.int .i64 (m2:Int))) (by kernel_rfl) ⟨y1,y2⟩ ?_;intro hS0;refine an 0 1 2 3 ?_;refine an 4 5 6 7 ?_;refine an 8 9 10 11 ?_;refine an 12 13 14 15 ?_;refine an 16 17 18 19 ?_;refine an 20 22 23 24 ?_;refine cm 25 26 ?_;refine bR 21 fun K hK=>?_
      go_simp;go_at_call 51;(with_reducible refine HBl.o.mono ?_);rintro y wx ⟨rfl,rfl⟩
      refine hK.out _ _ ⟨y1,y2⟩ (fun hS0=>?_);clear hK K;refine cm 27 28 ?_;refine cH 29 ?_;refine wpAnyH_done (by kernel_rfl) ?_ _;go_wp2_with fail;go_ret;rw[HNo.o HF.o];exact⟨rfl,HD.o.1.drew⟩
     .have HF:Hid (LB=true):=by unfold Hid;rw[HL.o];exact decide_eq_true (by omega)
      refine wp_region_held_drew (S:=fun w'=>w'.cell? ⟨q,1,none⟩=some (.int .i64 (m1:Int))/\w'.cell? ⟨q,2,none⟩=some (.int .i64 (m2:Int))) (by kernel_rfl) ⟨y1,y2⟩ ?_;intro hS0;refine an 0 1 2 3 ?_;refine an 4 5 6 7 ?_;refine an 8 9 10 11 ?_;refine an 12 13 14 15 ?_;refine an 16 17 18 19 ?_;refine an 20 22 23 24 ?_;refine cm 25 26 ?_;refine bR 21 fun K hK=>?_
      go_simp;go_at_call 51;(with_reducible refine HBl.o.mono ?_);rintro y wx ⟨rfl,rfl⟩
      refine hK.out _ _ ⟨y1,y2⟩ (fun hS0=>?_);clear hK K;refine cm 27 28 ?_;refine cH 29 ?_;refine wpAnyH_done (by kernel_rfl) ?_ _;go_wp2_with fail;go_roundw
      .exact⟨k+1,by omega,by push_cast;rfl,HD.o.1.drew,fun j hj hl=>HY.o j hj hl HF.o⟩
      .simp[intOf];omega
  .have hk2:¬ (k:Int)<gs.length:=by omega
   have HT:Hid ((gs.all fun x=>vS N x.2)=true):=by
    unfold Hid;rw[List.all_eq_true];intro x hx;obtain⟨j,hj,rfl⟩:=List.getElem_of_mem hx;exact HD.o.2 j (by omega) hj
   go_wp2_with fail;go_ret;rw[HT.o];exact⟨rfl,HD.o.1⟩
end
section
variable {w0 w:World} {F:SP}
theorem iW (A:Option Addr) (c:Nat) (l:List UInt8) (n:Nat) (hn:n=l.length) (z:Nat) (hz:bI l=z) (w:World) (h:Rd w A l) (hl:n<=8):
 Calls Tryz.prog 105 #[.slice A n c] w fun e w'=>e = .returned (.int .u64 (z:Int))/\w=w':=by
 subst hn;subst hz;exact(yq A c l w h hl).mono fun e w' ⟨h1,h2⟩=>⟨h1,h2.symm⟩
def Nk (w0:World) (F:SP) (o:Option (Nat × List Hd)) (e:Ending) (w':World):Prop:=
 (o=none/\e = .returned (.tuple #[.int .u64 0,.slice none 0 0,.bool false])/\Sat w0 F w')\/
 ∃ turn hs V gs,o=some (turn,hs)/\e = .returned (.tuple #[.int .u64 (turn:Int),V,.bool true])/\gs.map (fun x=>x.2)=hs.map Hd.fl/\Sat w0 (Row 155 1 V gs.length (gs.map fun x=>aZ x.1)*(br gs*F)) w'
theorem L8:(Tryz.prog.info? 155).map (fun i=>(i.zero,i.size,i.bytes))=some (some (.pointer none),1,8):=by kernel_rfl
theorem sz: ∀ (n:Nat) (r:List UInt8),ft (n+1) r=ft n r++[qD (r.drop (20*n))]
 | 0,r=>by simp[ft]
 | n+1,r=>by
  have ih:=sz n (r.drop 20);rw[List.drop_drop] at ih;show qD r::ft (n+1) (r.drop 20)=(qD r::ft n (r.drop 20))++[qD (r.drop (20*(n+1)))];rw[ih,List.cons_append,show 20*(n+1)=20+20*n by omega]
theorem rD (r:List UInt8):qa (qD r):=by
 have h4: ∀ l:List UInt8,l.length<=4->bI l<4294967296:=fun l hl=>Nat.lt_of_lt_of_le (iO l) (Nat.le_trans (Nat.pow_le_pow_right (by decide) hl) (by decide))
 exact⟨h4 _ (by simp;omega),h4 _ (by simp;omega),h4 _ (by simp;omega),me _ (by simp;omega)⟩
theorem zW (A:Option Addr) (c:Nat) (b:List UInt8) (h:Sat w0 F w) (hb: ∀ W,Sat w0 F W->Rd W A b) (hl:b.length=512) (hc:512<=c) (hm:c<=9223372036854775807):
 Calls Tryz.prog 129 #[.slice A 512 c] w (Nk w0 F (dm b)):=by
 obtain⟨i0,hi0',hz0',hz1',hz2'⟩:=info_parts L8;have hi0:=ah hi0';have hz0:=ah hz0';have hz1:=ah hz1';have hz2:=ah hz2';have HR:=ah hb;have HS:=ah h;have HL:=ah hl;have hr0:=hb w h;obtain⟨g,o,rfl,hcell⟩:=hr0 (by intro e;have:=congrArg List.length e;simp[hl] at this);have hc1:(4:Int)<=c:=by omega
 have hc2:(12:Int)<=c:=by omega
 have hc3:(512:Int)<=c:=by omega
 have hc13:¬ c=13:=by omega
 have hc4:¬ c=4:=by omega
 obtain⟨B,hB⟩: ∃ B,decide (b.take 4=mG)=B:=⟨_,rfl⟩;obtain⟨SA,hSA⟩: ∃ SA,SA=ByteArray.mk (b.take 4).toArray:=⟨_,rfl⟩;have hST:SA.toList=b.take 4:=by rw[hSA];simp
 have hcmp:(SA.toList==[84,68,88,49])=B:=by
  rw[hST, <-hB];show (b.take 4==mG)=_;by_cases e:b.take 4=mG
  .rw[e];simp
  .rw[decide_eq_false e];exact beq_eq_false_iff_ne.2 e
 clear hST;have ht4:(b.take 4).length=4:=by rw[List.length_take];omega
 have s1:(convert 41 9 (.slice (some ⟨g,o,none⟩) 4 c)).run Tryz.prog w = .ok (.string SA) w:=by
  have h9:=Rd.str (P:= Tryz.prog) (Rd.take (hb w h) 4) 41 9 5 Tryz.underlying41 Tryz.underlying5 Tryz.underlying9 c;rw[ht4] at h9;rw[hSA];exact h9
 obtain⟨x,hx⟩: ∃ x,x=b.getD 12 0:=⟨_,rfl⟩;have z12:w.cell? ⟨g,o+12,none⟩=some (.int .u8 (x.toNat:Int)):=by
  have h9:=hcell 12 (by simp[hl]);rw[h9,hx,List.getElem_map,List.getD_eq_getElem?_getD,List.getElem?_eq_getElem (by omega)];rfl
 have hx8:=x.toNat_lt;have hwx:IntKind.i64.wrap (x.toNat:Int)=x.toNat:=by rw[IntKind.wrap_i64];omega
 have HX:=ah hx;have HB:=ah hB;clear h hb hl hi0' hz0' hz1' hz2' hcell hSA ht4 hx hB;go_enter Tryz.func129, Tryz.ntmps129
 cases B
 .have HU:Hid (dm b=none):=by unfold Hid dm;rw[if_neg];rintro ⟨h9,_⟩;exact of_decide_eq_false HB.o h9
  go_wp2_with fail;go_ret3
  exact .inl ⟨HU.o,rfl,HS.o⟩
 .by_cases hx24:x.toNat<=24
  .have hx25:¬ (24:Int)<x.toNat:=by omega
   obtain⟨turn,htu⟩: ∃ t,bI ((b.drop 4).take 8)=t:=⟨_,rfl⟩;obtain⟨n,hn⟩: ∃ n,n=x.toNat:=⟨_,rfl⟩;have HU:Hid (dm b=some (turn,ft n (b.drop 13))):=by unfold Hid dm;rw[if_pos ⟨of_decide_eq_true HB.o,by rw[<-HX.o];exact hx24⟩,htu, <-HX.o,hn]
   have l8:8=((b.drop 4).take 8).length:=by rw[List.length_take,List.length_drop,HL.o];rfl
   have HT:Hid (Rd w (some ⟨g,o+4,none⟩) ((b.drop 4).take 8)):=by
    have h9:=Rd.drop (k:=4) (cap:=c) hr0 (by rw[HL.o];omega) (by rw[HL.o];omega);rw[if_neg hc4,Option.map_some,Addr.add_lit] at h9;exact h9.take 8
   have HG:=ah (iW (some ⟨g,o+4,none⟩) (c - 4) ((b.drop 4).take 8) 8 l8 turn htu w HT.o (by omega));rw[<-hn] at z12 hwx hx25;have hn24:n<=24:=by omega
   clear htu l8 hr0 hn hx24;go_upto_region 6 with (go_at_call 105;(with_reducible refine HG.o.mono ?_);rintro y wx ⟨rfl,rfl⟩)
   go_loopw [3,5,6,26] (fun fv rv _ iv wr=> ∃ (k:Nat) (C:Option Addr) (cc:Nat) (gs:List (Nat × Fl)),k<=n/\fv = .slice C k cc/\rv = .slice (some ⟨g,o+13+20*k,none⟩) (499 - 20*k) (c - 13 - 20*k)/\iv = .int .u8 (k:Int)/\Hid (gs.length=k/\gs.map (fun x=>x.2)=(ft k (b.drop 13)).map Hd.fl/\Sat w0 (Row 155 1 (.slice C k cc) k (gs.map fun x=>aZ x.1)*(br gs*F)) wr)) (fun _ _ _ iv _=>n - (intOf iv).toNat)
   case atStart=>exact⟨0,none,0,[],by omega,rfl,rfl,rfl,rfl,rfl,(HS.o.of (aX F).symm).aI _ 1⟩
   case round=>
    obtain⟨k,C,cc,gs,hk,rfl,rfl,rfl,HD⟩:=hrel;by_cases hlt:k<n
    .have hk2:(k:Int)<n:=by omega
     obtain⟨ro,hro⟩: ∃ r,r=o+13+20*k:=⟨_,rfl⟩;obtain⟨rl,hrl⟩: ∃ r,r=499 - 20*k:=⟨_,rfl⟩;obtain⟨rc,hrc⟩: ∃ r,r=c - 13 - 20*k:=⟨_,rfl⟩;obtain⟨q,hq⟩: ∃ q,q=(b.drop 13).drop (20*k):=⟨_,rfl⟩;have hql:q.length=rl:=by rw[hq,List.length_drop,List.length_drop,HL.o];omega
     have m1:(20:Int)<=rl:=by omega
     have m2:(20:Int)<=rc:=by omega
     have m3:(12:Int)<=rc:=by omega
     have m4:(8:Int)<=rc:=by omega
     have m5:(4:Int)<=rc:=by omega
     have m7:(rl:Int)<=rc:=by omega
     have m6:¬ rc=20:=by omega
     have m8:¬ rc=4:=by omega
     have m9:¬ rc=8:=by omega
     have m10:¬ rc=12:=by omega
     have HQ:Hid (∀ W,Sat w0 F W->Rd W (some ⟨g,ro,none⟩) q):=fun W hW=>by
      have h9:=Rd.drop (k:=13+20*k) (cap:=c) (HR.o W hW) (by rw[HL.o];omega) (by rw[HL.o];omega);rw[if_neg (by omega),Option.map_some,Addr.add_lit] at h9;rw[hq,List.drop_drop,hro,Nat.add_assoc];exact h9
     have HQ4:Hid (∀ W j,j<=12->0<j->Sat w0 F W->Rd W (some ⟨g,ro+j,none⟩) (q.drop j)):=fun W j hj hj0 hW=>by
      have h9:=Rd.drop (k:=j) (cap:=rc) (HQ.o W hW) (by omega) (by omega);rw[if_neg (by omega),Option.map_some,Addr.add_lit] at h9;exact h9
     obtain⟨n1,hn1⟩: ∃ z,bI (q.take 4)=z:=⟨_,rfl⟩;obtain⟨n2,hn2⟩: ∃ z,bI ((q.drop 4).take 4)=z:=⟨_,rfl⟩;obtain⟨n3,hn3⟩: ∃ z,bI ((q.drop 8).take 4)=z:=⟨_,rfl⟩;obtain⟨n4,hn4⟩: ∃ z,bI ((q.drop 12).take 8)=z:=⟨_,rfl⟩;have hok:=rD q;have HH:Hid (qD q=⟨n1,n2,n3,n4⟩):=by unfold Hid qD;rw[hn1,hn2,hn3,hn4]
     rw[HH.o] at hok;have b1:n1<4294967296:=hok.1;have b2:n2<4294967296:=hok.2.1;have b3:n3<4294967296:=hok.2.2.1;have v1:IntKind.i64.wrap (n1:Int)=n1:=by rw[IntKind.wrap_i64];omega
     have v2:IntKind.i64.wrap (n2:Int)=n2:=by rw[IntKind.wrap_i64];omega
     have v3:IntKind.i64.wrap (n3:Int)=n3:=by rw[IntKind.wrap_i64];omega
     have q4:4=(q.take 4).length:=by rw[List.length_take];omega
     have q44:4=((q.drop 4).take 4).length:=by rw[List.length_take,List.length_drop];omega
     have q84:4=((q.drop 8).take 4).length:=by rw[List.length_take,List.length_drop];omega
     have q12:8=((q.drop 12).take 8).length:=by rw[List.length_take,List.length_drop];omega
     have HG1:=ah fun (W:World) (hW:Sat w0 F W)=>iW (some ⟨g,ro,none⟩) rc (q.take 4) 4 q4 n1 hn1 W ((HQ.o W hW).take 4) (by omega)
     have HG2:=ah fun (W:World) (hW:Sat w0 F W)=>iW (some ⟨g,ro+4,none⟩) (rc - 4) ((q.drop 4).take 4) 4 q44 n2 hn2 W ((HQ4.o W 4 (by omega) (by omega) hW).take 4) (by omega)
     have HG3:=ah fun (W:World) (hW:Sat w0 F W)=>iW (some ⟨g,ro+8,none⟩) (rc - 8) ((q.drop 8).take 4) 4 q84 n3 hn3 W ((HQ4.o W 8 (by omega) (by omega) hW).take 4) (by omega)
     have HG4:=ah fun (W:World) (hW:Sat w0 F W)=>iW (some ⟨g,ro+12,none⟩) (rc - 12) ((q.drop 12).take 8) 8 q12 n4 hn4 W ((HQ4.o W 12 (by omega) (by omega) hW).take 8) (by omega)
     have HRw:Hid (ft (k+1) (b.drop 13)=ft k (b.drop 13)++[⟨n1,n2,n3,n4⟩]):=by unfold Hid;rw[sz, <-hq,HH.o]
     have HN1:Hid (ro+20=o+13+20*(k+1)/\rl - 20=499 - 20*(k+1)/\rc - 20=c - 13 - 20*(k+1)):=by unfold Hid;omega
     have hk8:IntKind.u8.wrap ((k:Int)+1)=(k:Int)+1:=by rw[IntKind.wrap_u8];omega
     have hkn:k+1<=n:=hlt;have HS7:=ah HD.o.2.2.drew;obtain⟨B14,hB14⟩: ∃ B,wr.heap.size=B:=⟨_,rfl⟩;have HBd:Hid (wr.drew.heap.size=B14):=hB14;have HBe:Hid (wr.heap.size=B14):=hB14;clear hB14;rw[<-hro, <-hrl, <-hrc];clear hro hrl hrc hq hql hn1 hn2 hn3 hn4 hok b1 b2 b3 q4 q44 q84 q12 hlt;go_upto_region 7 with fail;refine wp_region_held_drew (S:=fun _=>True) (by kernel_rfl) trivial ?_;intro hS0;refine an 0 1 4 5 ?_;refine cm 8 9 ?_;refine bR 2 fun K hK=>?_
     go_simp;go_at_call 105;(with_reducible refine(HG1.o _ HS7.o.right.right).mono ?_);rintro y wx ⟨rfl,rfl⟩
     refine hK.out _ _ trivial (fun hS0=>?_);clear hK K;refine cH 3 ?_;refine bR 6 fun K hK=>?_
     go_simp;go_at_call 105;(with_reducible refine(HG2.o _ HS7.o.right.right).mono ?_);rintro y wx ⟨rfl,rfl⟩
     refine hK.out _ _ trivial (fun hS0=>?_);clear hK K;refine cH 7 ?_;refine bR 10 fun K hK=>?_
     go_simp;go_at_call 105;(with_reducible refine(HG3.o _ HS7.o.right.right).mono ?_);rintro y wx ⟨rfl,rfl⟩
     refine hK.out _ _ trivial (fun hS0=>?_);clear hK K;refine cm 11 12 ?_;refine cH 13 ?_;refine bR 14 fun K hK=>?_
     go_simp
     (try rw[HBd.o]);(try rw[HBe.o])
     refine hK.out _ _ trivial (fun hS0=>?_);clear hK K;refine cH 15 ?_;refine wpAnyH_done (by kernel_rfl) ?_ _;go_upto_region 8 with fail;have hs:=HD.o.2.2.af 163 #[.int .i64 (n1:Int),.int .i64 (n2:Int),.int .i64 (n3:Int),.int .u64 0,.int .u64 0,.slice none 0 0];rw[HBe.o] at hs;revert hs;generalize World.alloc wr _=w14;intro hs;have hs:Sat w0 (Pt B14 163 (pO ⟨n1,n2,n3,0,0,[]⟩ (.slice none 0 0))*(Row 155 1 (.slice C k cc) k (gs.map fun x=>aZ x.1)*(br gs*F))) w14:=hs;replace hs:=hs.drew;revert hs;generalize World.drew w14=w8;intro hs;have HS8:=ah hs;clear hs;have c3:=HS8.o.cell 3;have f3:=HS8.o.frozen 3;go_upto_region 9 with (go_at_call 105;(with_reducible refine(HG4.o _ HS8.o.right.right.right).mono ?_);rintro y wx ⟨rfl,rfl⟩)
     have hs:=HS8.o.set 3 (.int .u64 (n4:Int));clear c3 f3;revert hs;generalize World.setCell _ _ _=w15;intro hs;have HS15:Hid (Sat w0 (Pt B14 163 (pO ⟨n1,n2,n3,n4,0,[]⟩ (.slice none 0 0))*(Row 155 1 (.slice C k cc) k (gs.map fun x=>aZ x.1)*(br gs*F))) w15):=ah hs;clear hs;go_wp2_with (at_builtin;refine au rfl (.tmp 49) (.tmp 51) 151 rfl 155 i0 _ 1 8 Tryz.underlying151 hi0.o hz0.o hz1.o hz2.o rfl (by decide) (.slice C k cc) k (gs.map fun x=>aZ x.1) rfl w0 _ (by exact(HS15.o.aC _).av) (some ⟨w15.heap.size,0,none⟩) 1 1 [aZ B14] rfl (aL _ _ _) rfl (fun u hu=>by rw[List.mem_singleton.1 hu];rfl) (by unfold maxLen;omega) (by omega) ?_;intro A16 c16 w16 hs;have HS16:=ah hs;clear hs);refine⟨⟨k+1,A16,c16,gs++[(B14,⟨n1,n2,n3,n4,0,[]⟩)],hkn,rfl,by rw[HN1.o.1,HN1.o.2.1,HN1.o.2.2],by push_cast;rfl,?_⟩,by simp[intOf];omega⟩;refine⟨by rw[List.length_append,HD.o.1];rfl,by rw[List.map_append,HRw.o,List.map_append,HD.o.2.1];rfl,?_⟩;have h8:=(HS16.o.av.lE [] (by simp)).aI 41 1;have h9:=Sat.Kw (ks:=[]) (f:=⟨n1,n2,n3,n4,0,[]⟩) (v:= .slice none 0 0) (p:=B14) rfl (h8.of (show _=Pt B14 163 (pO ⟨n1,n2,n3,n4,0,[]⟩ (.slice none 0 0))*(Row 41 1 (.slice none 0 0) 0 []*(ca []*(Row 155 1 (.slice A16 (k+1) c16) (k+1) ((gs.map fun x=>aZ x.1)++[aZ B14])*(br gs*F)))) by ac_rfl));rw[List.map_append,kg,BK];exact h9.of (by show _=Row _ 1 _ _ (_++[aZ B14])*((br gs*ni B14 ⟨n1,n2,n3,n4,0,[]⟩)*F);ac_rfl)
    .obtain rfl:k=n:=by omega
     have hk2:¬ (k:Int)<k:=by omega
     go_wp2_with fail;go_ret3
     refine .inr ⟨turn,_,_,gs,HU.o,rfl,HD.o.2.1,?_⟩;rw[HD.o.1];exact HD.o.2.2
  .have HU:Hid (dm b=none):=by unfold Hid dm;rw[if_neg];rintro ⟨_,h9⟩;rw[<-HX.o] at h9;exact hx24 h9
   have hx25:(24:Int)<x.toNat:=by omega
   go_wp2_with fail;go_ret3
   exact .inl ⟨HU.o,rfl,HS.o⟩
end
section
variable {w0 w:World} {F:SP} {d:Nat} {D:Dk}
def gB (D:Dk):Nat->Option aN
 | 0=>none
 | k+1=>fe D (gB D k) k
def pW:Option Nat->Value
 | some s=> .pointer (some ⟨s,0,none⟩)
 | none=> .pointer none
def NB:SP:=fun _=>False
def wa (d:Nat):Option Nat->Option aN->SP
 | some s,some S=>ag s d S
 | none,none=>aV
 | _,_=>NB
theorem Sat.uW {n:Nat} {A:Option Addr} {c:Nat} {l:List UInt8} (h:Sat w0 (Row 5 1 (.slice A n c) n (l.map bv)*F) w):Sat w0 (Rb A l*F) w:=by
 have h2:=h.eI;rw[sw (A,c,l)];exact h2
theorem Sat.no (h:Sat w0 (NB*F) w):False:=by
 obtain⟨c,x,h1,a,g,h2,h3,h4,h5⟩:=h;exact h4
theorem lK {p:Option Nat} (h:Sat w0 (wa d p none*F) w):p=none:=by
 cases p with
 | none=>rfl
 | some s=>exact h.no.elim
theorem nw {p:Option Nat} {S:aN} (h:Sat w0 (wa d p (some S)*F) w): ∃ s,p=some s:=by
 cases p with
 | none=>exact h.no.elim
 | some s=>exact⟨s,rfl⟩
theorem Sat.yg (h:Sat w0 (ae d D*F) w) (i:Int) (h0:(D.read i).2=0) (ho:D.off=false) (hi:0<=i/\i<D.cells.length):(D.read i).1.length=512:=by
 obtain⟨C,cc,M,nm,vp,cs,ps,hr,hn,hs⟩:=h.nS;have ha:D.ask i=0:=Dk.GB ho hi.1 hi.2;unfold Dk.read at h0 ⊢;rw[if_pos ha] at h0 ⊢
 cases hl:D.last i with
 | some b=>
  simp only;unfold Dk.last at hl;obtain⟨x,h1,h2⟩:=Option.map_eq_some_iff.1 hl;have h3:=List.mem_reverse.1 (List.mem_of_find?_eq_some h1);rw[hr.pend] at h3;obtain⟨y,hy,rfl⟩:=List.mem_map.1 h3;rw[<-h2];exact(hr.fitp y hy).2.1
 | none=>
  rw[hl] at h0;simp only at h0 ⊢;obtain⟨j,rfl⟩: ∃ j:Nat,i=j:=⟨i.toNat,by omega⟩;rw[Int.toNat_natCast,List.getElem?_eq_getElem (by omega)] at h0 ⊢;have hm:D.cells[j] ∈ cs.map fun x=>(x.1.2.2,x.2):=by rw[<-hr.cells];exact List.getElem_mem _
  obtain⟨y,hy,e⟩:=List.mem_map.1 hm;rw[<-e] at h0 ⊢;simp only at h0 ⊢
  cases ht:y.2 with
  | true=>rw[ht] at h0;simp at h0
  | false=>
   simp only[Bool.false_eq_true,if_false];rcases(hr.fitc y hy).2 with e1 | e1
   .rw[if_pos e1];simp
   .rw[if_neg (by intro e2;rw[e2] at e1;simp at e1)];exact e1
theorem qE (D:Dk) (i:Int) (ho:D.off=false) (hi:0<=i/\i<D.cells.length):(D.read i).2=0\/(D.read i).2=24:=by
 have ha:D.ask i=0:=Dk.GB ho hi.1 hi.2;unfold Dk.read;rw[if_pos ha]
 cases D.last i with
 | some b=>exact .inl rfl
 | none=>
  simp only;split
  .rename_i b t _
   cases t
   .left;simp only[Bool.false_eq_true,if_false];split<;>rfl
   .right;rfl
  .exact .inl rfl
theorem mH {b:List UInt8} {turn:Nat} {hs:List Hd} (h:dm b=some (turn,hs)):hs.length<=24/\turn<18446744073709551616/\ ∀ x ∈ hs,qa x:=by
 have hrow: ∀ (n:Nat) (r:List UInt8),(ft n r).length=n/\ ∀ x ∈ ft n r,qa x:=fun n=>by
  induction n with
  | zero=>intro r;exact⟨rfl,by simp[ft]⟩
  | succ n ih=>
   intro r;obtain⟨h1,h2⟩:=ih (r.drop 20);refine⟨by show (ft n (r.drop 20)).length+1=_;rw[h1],fun x hx=>?_⟩;rcases List.mem_cons.1 (show x ∈ qD r::ft n (r.drop 20) from hx) with rfl | hx
   .exact rD r
   .exact h2 x hx
 unfold dm at h;split at h
 .rename_i h1;injection h with h
  injection h with h2 h3
  obtain⟨h4,h5⟩:=hrow (b.getD 12 0).toNat (b.drop 13);rw[<-h3];exact⟨by rw[h4];exact h1.2,by rw[<-h2];exact me _ (by simp;omega),h5⟩
 .cases h
def MU (w0:World) (F:SP) (d:Nat) (D:Dk) (e:Ending) (w':World):Prop:=
 ∃ p,e = .returned (.tuple #[pW p,.int .i64 (cL D).2])/\Sat w0 (wa d p (cL D).1*(ae d D*F)) w'
theorem uM (h:Sat w0 (ae d D*F) w) (h2:2<=D.cells.length) (hN:D.cells.length<=65536):
 Calls Tryz.prog 90 #[.pointer (some ⟨d,0,none⟩)] w (MU w0 F d D):=by
 have HS:=ah h;have HN:=ah hN;by_cases ho:D.off=true
 .have HRd:=ah (rk d D 0 w0 w F h);have HR:Hid (D.read ((0:Nat):Int)=([],21)):=FB D _ ho;have HX:Hid (cL D=(none,21)):=by unfold Hid cL;rw[if_pos ho]
  clear h ho;go_enter Tryz.func90, Tryz.ntmps90;go_wp2_with fail;go_loopw [4,11] (fun sv iv wr=>sv = .pointer none/\iv = .int .i64 0/\wr=w) (fun _ iv _=>0)
  case atStart=>exact⟨rfl,rfl,rfl⟩
  case round=>
   obtain⟨rfl,rfl,rfl⟩:=hrel;go_wp2_with (go_at_call 128;(with_reducible refine HRd.o.mono ?_);rintro e w2 ⟨v,rfl,hs⟩;rw[show (D.read 0).2=21 from congrArg Prod.snd HR.o];have HS2:=ah hs;clear hs);go_ret2;refine⟨none,?_,?_⟩
   .rw[HX.o];rfl
   .rw[HX.o];exact HS2.o.right.of (aX _).symm
 .have ho':D.off=false:=by simpa using ho
  have HX:Hid (cL D=(gB D 2,0)):=by unfold Hid cL;rw[if_neg ho];rfl
  have HO:=ah ho';have HC:=ah h2;clear h ho ho' h2 hN;go_enter Tryz.func90, Tryz.ntmps90;go_wp2_with fail;go_loopw [4,11] (fun sv iv wr=> ∃ (k:Nat) (p:Option Nat),k<=2/\iv = .int .i64 (k:Int)/\sv=pW p/\Hid (Sat w0 (wa d p (gB D k)*(ae d D*F)) wr)) (fun _ iv _=>2 - (intOf iv).toNat)
  case atStart=>exact⟨0,none,by omega,rfl,rfl,HS.o.of (aX _).symm⟩
  case round=>
   obtain⟨k,p,hk,rfl,rfl,HD⟩:=hrel;by_cases hlt:k<2
   .have hk2:(k:Int)<2:=by omega
    have hkl:k<D.cells.length:=by have:=HC.o;omega
    have HRd:=ah (rk d D k w0 wr _ HD.o.av);have HB:Hid (gB D (k+1)=fe D (gB D k) k):=rfl;obtain⟨r,hr⟩: ∃ r,r=D.read k:=⟨_,rfl⟩;have HRe:=ah hr;have HL:Hid (r.2=0->r.1.length=512):=fun h9=>by rw[hr] at h9 ⊢;exact HD.o.av.yg k h9 HO.o ⟨by omega,by omega⟩
    have hcode:r.2=0\/r.2=24:=by rw[hr];exact qE D k HO.o ⟨by omega,by omega⟩
    unfold Hk at HRd;rw[<-hr] at HRd;clear hr hkl hlt;obtain⟨b,e⟩:=r;have hm:k+1<=2:=by omega
    rcases hcode with h9 | h9
    .obtain rfl:e=0:=h9;have HU:Hid (gB D (k+1)=match dm b with | none=>gB D k | some (turn,hs)=>if kW D.cells.length hs=true/\Fv (gB D k) turn=true then some ⟨k,turn,hs.map Hd.fl⟩ else gB D k):=by
      unfold Hid;rw[HB.o];unfold fe;rw[<-HRe.o];rfl
     have hl:b.length=512:=HL.o rfl;have HRd2:Hid (Calls Tryz.prog 128 #[.pointer (some ⟨d,0,none⟩),.int .i64 (k:Int)] wr fun e w'=> ∃ A c,e = .returned (.tuple #[.slice A 512 c,.int .i64 0])/\512<=c/\c<=9223372036854775807/\Sat w0 (Rb A b*(ae d D*(wa d p (gB D k)*F))) w'):=HRd.o.mono fun e w' ⟨v,he,hs⟩=>by
      rw[hl] at hs;obtain⟨A,c,rfl,hc1,hc2⟩:=hs.aT;exact⟨A,c,he,hc1,by unfold maxLen at hc2;omega,hs.uW⟩
     clear HB HRe HL HRd;go_upto_region 9 with (go_at_call 128;(with_reducible refine HRd2.o.mono ?_);rintro e w2 ⟨A,c,rfl,hc1,hc2,hs⟩;have HS2:=ah hs;clear hs)
     have HUn:=ah (zW A c b HS2.o (fun W hW=>hW.rd) hl hc1 hc2);have HBx:Hid (∀ turn hs,dm b=some (turn,hs)->hs.length<=24/\turn<18446744073709551616/\ ∀ x ∈ hs,qa x):=fun _ _ h=>mH h
     obtain⟨o,hob⟩: ∃ o,o=dm b:=⟨_,rfl⟩;rw[<-hob] at HUn HU HBx;clear hob hl hc1 hc2;go_upto_region 10 with (go_at_call 129;(with_reducible refine HUn.o.mono ?_);rintro e w3 hu;rcases hu with ⟨rfl,rfl,hs⟩ | ⟨turn,hds,V,gs,rfl,rfl,hg,hs⟩)
     .have HS3:=ah hs;clear hs;go_wp2_with fail;go_roundw
      .exact⟨k+1,p,hm,by push_cast;rfl,rfl,by rw[HU.o];exact(HS3.o.right).av⟩
      .simp[intOf];omega
     .obtain⟨A2,c2,rfl,hd1,hd2⟩:=hs.aT;obtain⟨bx1,bx2,bx3⟩:=HBx.o turn hds rfl;have hgl:gs.length=hds.length:=by have:=congrArg List.length hg;simpa using this
      have hgh:gs.map (fun x=>x.2.hd)=hds:=by
       have h9:=congrArg (List.map Fl.hd) hg;rw[List.map_map,List.map_map] at h9;have h10:hds.map (Fl.hd ∘ Hd.fl)=hds:=by
        have:(Fl.hd ∘ Hd.fl)=id:=funext fun x=>rfl
        rw[this,List.map_id]
       rw[h10] at h9;exact h9
      have hs2:=hs.av;have HLi:=FC (gs:=gs) (D:=D) (d:=d) (w0:=w0) (w:=w3) (F:=Row 155 1 (.slice A2 gs.length c2) gs.length (gs.map fun x=>aZ x.1)*(Rb A b*(wa d p (gB D k)*F))) A2 c2 (hs.of (by ac_rfl)) (fun W hW=>aH.bO (hW.bD.aS)) (by omega) (fun x hx=>by
       have h9:x.2.hd ∈ gs.map (fun x=>x.2.hd):=List.mem_map_of_mem hx;rw[hgh] at h9;have h10:=bx3 _ h9;exact⟨h10.2.1,h10.2.2.1⟩) HN.o
      rw[hgh] at HLi;have HLi:=ah HLi;have HG:=ah hg;obtain⟨LB,hLB⟩: ∃ LB,LB=kW D.cells.length hds:=⟨_,rfl⟩;rw[<-hLB] at HLi HU;have HT:=ah bx2;clear hs hs2 hg hgh hd1 hd2 hLB bx1 bx2 bx3 hgl HBx HUn HRd2
      cases LB
      .go_wp2_with (go_at_call 130;(with_reducible refine HLi.o.mono ?_);rintro e w4 ⟨rfl,hs⟩;have HS4:=ah hs;clear hs);go_roundw
       .refine⟨k+1,p,hm,by push_cast;rfl,rfl,?_⟩;rw[HU.o,if_neg (by simp)];exact HS4.o.right.av.right.av.right.av
       .simp[intOf];omega
      .have HNew:Hid (∀ W s,Sat w0 (Pt s 153 #[aZ d,.int .i64 (k:Int),.int .u64 (turn:Int),.slice A2 gs.length c2]*(br gs*(ae d D*(Row 155 1 (.slice A2 gs.length c2) gs.length (gs.map fun x=>aZ x.1)*(Rb A b*(wa d p (gB D k)*F)))))) W->Sat w0 (ag s d ⟨k,turn,hds.map Hd.fl⟩*(ae d D*F)) W):=fun W s hW=>by
        refine Sat.eM (S:=⟨k,turn,hds.map Hd.fl⟩) (ps:=gs) (v:= .slice A2 gs.length c2) HG.o ?_;refine(hW.gw.right.gw.right).of ?_;unfold aU
        ac_rfl
       obtain⟨o,ho⟩: ∃ o,o=gB D k:=⟨_,rfl⟩;rw[<-ho] at HU HD HLi HNew;clear ho
       cases o with
       | none=>
        obtain rfl:=lK HD.o;go_wp2_with (go_at_call 130;(with_reducible refine HLi.o.mono ?_);rintro e w4 ⟨rfl,hs⟩;have HS4:=ah hs;clear hs;unfold pW);go_roundw
        .refine⟨k+1,some w4.heap.size,hm,by push_cast;rfl,rfl,?_⟩;rw[HU.o,if_pos (by first | exact⟨rfl,rfl⟩ | exact⟨trivial,rfl⟩)];exact HNew.o _ _ (HS4.o.af _ _)
        .simp[intOf];omega
       | some S0=>
        obtain⟨s0,rfl⟩:=nw HD.o;by_cases ht:(S0.turn:Int)<turn
        .go_wp2_with (go_at_call 130;(with_reducible refine HLi.o.mono ?_);rintro e w4 ⟨rfl,hs⟩;have HS4:=ah hs;clear hs;unfold pW;have g2:w4.cell? ⟨s0,2,none⟩=some (.int .u64 (S0.turn:Int)):=by (obtain⟨v,ps,_,h9⟩:=(HS4.o.gw).space;exact(h9.of dy).cell 2));go_roundw
         .refine⟨k+1,some w4.heap.size,hm,by push_cast;rfl,rfl,?_⟩;rw[HU.o,if_pos (by first | exact⟨rfl,decide_eq_true (by omega)⟩ | exact⟨trivial,decide_eq_true (by omega)⟩)];exact HNew.o _ _ (HS4.o.af _ _)
         .simp[intOf];omega
        .go_wp2_with (go_at_call 130;(with_reducible refine HLi.o.mono ?_);rintro e w4 ⟨rfl,hs⟩;have HS4:=ah hs;clear hs;unfold pW;have g2:w4.cell? ⟨s0,2,none⟩=some (.int .u64 (S0.turn:Int)):=by (obtain⟨v,ps,_,h9⟩:=(HS4.o.gw).space;exact(h9.of dy).cell 2));go_roundw
         .refine⟨k+1,some s0,hm,by push_cast;rfl,rfl,?_⟩;rw[HU.o,if_neg (by rintro ⟨_,h9⟩;exact absurd (of_decide_eq_true h9) (by omega))];exact HS4.o.right.av.right.av.right.av
         .simp[intOf];omega
    .obtain rfl:e=24:=h9;have HU:Hid (gB D (k+1)=gB D k):=by
      unfold Hid;rw[HB.o];unfold fe;rw[<-HRe.o];rfl
     have HRd2:Hid (Calls Tryz.prog 128 #[.pointer (some ⟨d,0,none⟩),.int .i64 (k:Int)] wr fun e w'=> ∃ v,e = .returned (.tuple #[v,.int .i64 24])/\Sat w0 (ae d D*(wa d p (gB D k)*F)) w'):=HRd.o.mono fun e w' ⟨v,he,hs⟩=>⟨v,he,hs.right⟩
     clear HB HRe HL HRd;go_wp2_with (go_at_call 128;(with_reducible refine HRd2.o.mono ?_);rintro e w2 ⟨v,rfl,hs⟩;have HS2:=ah hs;clear hs);go_roundw
     .exact⟨k+1,p,hm,by push_cast;rfl,rfl,by rw[HU.o];exact HS2.o.av⟩
     .simp[intOf];omega
   .have HK:Hid (k=2):=by unfold Hid;omega
    have hk2:¬ (k:Int)<2:=by omega
    go_wp2_with fail;go_ret2;refine⟨p,?_,?_⟩
    .rw[HX.o];rfl
    .rw[HX.o];have h9:=HD.o;rw[HK.o] at h9;exact h9
end
section
variable {w0 w:World} {F:SP} {d:Nat} {D:Dk}
structure zj (n:Nat) (S:aN):Prop where
 slot:S.slot<2
 turn:S.turn<18446744073709551616
 count:S.files.length<=24
 bare: ∀ f ∈ S.files,f.aa=[]/\f.life=0
 each: ∀ f ∈ S.files,qa f.hd/\2<=f.first/\1<=f.blocks/\(f.first+f.blocks<=n)
theorem xq {o:Option aN} {k:Nat} (hk:k<2) (ho: ∀ S,o=some S->zj D.cells.length S): ∀ S,fe D o k=some S->zj D.cells.length S:=fun S h=>by
 unfold fe at h;split at h
 .exact ho S h
 .split at h
  .exact ho S h
  .rename_i turn hs e;split at h
   .rename_i e2;injection h with h
    obtain⟨h1,h2,h3⟩:=mH e;have hl:=e2.1;unfold kW at hl;rw[List.all_eq_true] at hl;subst h;refine⟨hk,h2,by rw[List.length_map];exact h1,fun f hf=>?_,fun f hf=>?_⟩
    .obtain⟨x,hx,rfl⟩:=List.mem_map.1 hf;exact⟨rfl,rfl⟩
    .obtain⟨x,hx,rfl⟩:=List.mem_map.1 hf;have h5:=of_decide_eq_true (hl x hx);have:x.fl.hd=x:=rfl;refine⟨by rw[this];exact h3 x hx,h5.1,h5.2.1,?_⟩;show x.first+x.blocks<=_;omega
   .exact ho S h
theorem yV {S:aN} (h:(cL D).1=some S):zj D.cells.length S:=by
 unfold cL at h;split at h
 .cases h
 .exact xq (by omega) (xq (by omega) (fun S h=>by cases h)) S h
theorem pH (D:Dk):(cL D).2=0\/(cL D).2=21:=by
 unfold cL;split
 .exact .inr rfl
 .exact .inl rfl
theorem tW (h:(cL D).2=21):(cL D).1=none:=by
 unfold cL at h ⊢;split
 .rfl
 .rename_i h1;rw[if_neg h1] at h
  cases h
theorem tR (S:aN) (D:Dk) (fs:List Fl) (R1 R2:Dk × Int) (h1:R1=D.write (ix S.slot:Int) (bZ (ij S.turn) (fs.map Fl.hd))) (h2:R2=R1.1.flush):
 (R1.2≠0->S.put fs D=(S,R1.1,R1.2))/\(R1.2=0->R2.2≠0->S.put fs D=(S,R2.1,R2.2))/\(R1.2=0->R2.2=0->S.put fs D=(⟨ix S.slot,ij S.turn,fs⟩,R2.1,0)):=by
 have e:S.put fs D=if R1.2≠0 then (S,R1.1,R1.2) else if R2.2≠0 then (S,R2.1,R2.2) else (⟨ix S.slot,ij S.turn,fs⟩,R2.1,0):=by
  subst h2;subst h1;rfl
 rw[e];exact⟨fun h=>if_pos h,fun h h'=>by rw[if_neg (by simpa using h),if_pos h'],fun h h'=>by rw[if_neg (by simpa using h),if_neg (by simpa using h')]⟩
def M3 (w0:World) (F:SP) (s d:Nat) (S:aN) (v V:Value) (gs:List (Nat × Fl)) (r:aN × Dk × Int) (e:Ending) (w':World):Prop:=
 e = .returned (.int .i64 r.2.2)/\(r.2.2≠0->r.1=S/\Sat w0 (Pt s 153 #[aZ d,.int .i64 (S.slot:Int),.int .u64 (S.turn:Int),v]*(Row 155 1 V gs.length (gs.map fun x=>aZ x.1)*(br gs*(ae d r.2.1*F)))) w')/\
  (r.2.2=0->r.1.files=gs.map (·.2)/\Sat w0 (aU s d r.1.slot r.1.turn V gs*(ae d r.2.1*F)) w')
theorem xX {S:aN} {s:Nat} {v V:Value} {gs:List (Nat × Fl)} {e:Ending} {w':World} (h:Mf w0 F s d S.slot S.turn v V gs (D.write (ix S.slot:Int) (bZ (ij S.turn) (gs.map fun x=>x.2.hd))) (D.write (ix S.slot:Int) (bZ (ij S.turn) (gs.map fun x=>x.2.hd))).1.flush e w'):
 M3 w0 F s d S v V gs (S.put (gs.map (·.2)) D) e w':=by
 have em:gs.map (fun x=>x.2.hd)=(gs.map (·.2)).map Fl.hd:=by rw[List.map_map];rfl
 obtain⟨c1,c2,c3⟩:=tR S D (gs.map (·.2)) _ _ rfl rfl;rw[em] at h;rcases h with ⟨h1,h2,h3⟩ | ⟨h1,h2,h3,h4⟩ | ⟨h1,h2,h3,h4⟩
 .rw[c1 h1];exact⟨h2,fun _=>⟨rfl,h3⟩,fun h9=>absurd h9 h1⟩
 .rw[c2 h1 h2];exact⟨h3,fun _=>⟨rfl,h4⟩,fun h9=>absurd h9 h2⟩
 .rw[c3 h1 h2];refine⟨h3,fun h9=>absurd rfl h9,fun _=>⟨rfl,h4.of ?_⟩⟩;rw[dy];rfl
theorem Ao (h:Sat w0 (ae d D*F) w) (h2:2<=D.cells.length) (hN:D.cells.length<=65536) (hw1:D.writes<=1000000000) (hw2:D.pend.length<=999999999) (hw3:D.armed<=9223372036854775807):
 Calls Tryz.prog 52 #[.pointer (some ⟨d,0,none⟩)] w fun e w'=>e = .returned (.int .i64 (fQ D).2)/\Sat w0 (ae d (fQ D).1*F) w':=by
 have HRd:=ah (uM h h2 hN);have HN:=ah (And.intro hN (And.intro hw1 (And.intro hw2 hw3)));clear h h2 hN hw1 hw2 hw3;rcases pH D with hc | hc
 .have HF:Hid (fQ D=(((((cL D).1).getD ⟨0,0,[]⟩).put [] D).2.1,((((cL D).1).getD ⟨0,0,[]⟩).put [] D).2.2)):=by
   unfold Hid fQ;rw[if_neg (by rw[hc];simp)]
  have HOk:Hid (∀ S,(cL D).1=some S->zj D.cells.length S):=fun S h=>yV h
  unfold MU at HRd;rw[hc] at HRd;clear hc;obtain⟨o,ho⟩: ∃ o,o=(cL D).1:=⟨_,rfl⟩;rw[<-ho] at HRd HF HOk;clear ho;have HPut:Hid (∀ (S:aN) (s:Nat) (v:Value) W,S.slot<2->S.turn<18446744073709551616->Sat w0 (Pt s 153 #[aZ d,.int .i64 (S.slot:Int),.int .u64 (S.turn:Int),v]*(ae d D*F)) W->
   Calls Tryz.prog 91 #[.pointer (some ⟨s,0,none⟩),.slice none 0 0] W fun e w'=>e = .returned (.int .i64 (S.put [] D).2.2)/\Sat w0 (ae d (S.put [] D).2.1*F) w'):=fun S s v W h1 h2 hW=>by
   have h3:=((hW.av.of (show _=aV*(ae d D*(Pt s 153 #[aZ d,.int .i64 (S.slot:Int),.int .u64 (S.turn:Int),v]*F)) by rw[aX])).aI 155 1);have h4:=Cw (s:=s) (d:=d) (w0:=w0) (w:=W) (slot:=S.slot) (turn:=S.turn) (v:=v) (V:= .slice none 0 0) (gs:=[]) (F:=F) (D:=D) (h3.of (by show _=Pt _ _ _*(Row _ _ _ 0 []*(aV*_));ac_rfl)) (by simp) h1 h2 (by simp) HN.o.2.1 HN.o.2.2.1 HN.o.2.2.2;refine h4.mono fun e w' h5=>?_
   obtain⟨k1,k2,k3⟩:=xX h5;refine⟨k1,?_⟩;by_cases h9:(S.put ((List.map (fun x=>x.2) ([]:List (Nat × Fl)))) D).2.2=0
   .exact(k3 h9).2.right
   .exact(k2 h9).2.right.right.right
  cases o with
  | none=>
   go_enter Tryz.func52, Tryz.ntmps52;go_upto_region 2 with (go_at_call 90;(with_reducible refine HRd.o.mono ?_);rintro e w2 ⟨p,rfl,hs⟩;obtain rfl:=lK hs;unfold pW;have HS2:=ah hs;clear hs)
   go_upto_region 6 with fail;have hs:=HS2.o.right.af 153 #[.pointer (some ⟨d,0,none⟩),.int .i64 0,.int .u64 0,.slice none 0 0];have HP:=ah (HPut.o ⟨0,0,[]⟩ _ _ _ (by show 0<2;omega) (by show 0<_;omega) hs);clear hs;go_wp2_with (go_at_call 91;(with_reducible refine HP.o.mono ?_);rintro e w3 ⟨rfl,hs⟩;have HS3:=ah hs;clear hs);go_ret;rw[HF.o];exact⟨rfl,HS3.o⟩
  | some S=>
   have hok:=HOk.o S rfl;have HSl:=ah hok.slot;have HTu:=ah hok.turn;clear hok;go_enter Tryz.func52, Tryz.ntmps52;go_upto_region 2 with (go_at_call 90;(with_reducible refine HRd.o.mono ?_);rintro e w2 ⟨p,rfl,hs⟩;obtain⟨s,rfl⟩:=nw hs;unfold pW;obtain⟨v,ps,_,h9⟩:=hs.space;have HP:=ah (HPut.o S s v w2 HSl.o HTu.o ((h9.of dy).bD.right.av.right));clear hs h9)
   go_wp2_with (go_at_call 91;(with_reducible refine HP.o.mono ?_);rintro e w3 ⟨rfl,hs⟩;have HS3:=ah hs;clear hs);go_ret;rw[HF.o];exact⟨rfl,HS3.o⟩
 .have HF:Hid (fQ D=(D,21)):=by unfold Hid fQ;rw[if_pos hc]
  have hn:=tW hc;unfold MU at HRd;rw[hc,hn] at HRd;clear hc hn;go_enter Tryz.func52, Tryz.ntmps52;go_wp2_with (go_at_call 90;(with_reducible refine HRd.o.mono ?_);rintro e w2 ⟨p,rfl,hs⟩;obtain rfl:=lK hs;unfold pW;have HS2:=ah hs;clear hs);go_ret;rw[HF.o];exact⟨rfl,HS2.o.right⟩
end
end Go.Proofs.YtmbaiglpgaoogaaGreat
