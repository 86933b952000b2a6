/- Joined, as they were built one by one: StAsk StPlL. -/
import Derived.Test.YtmbaiglpgaoogaaGreatW02
import Derived.Test.YtmbaiglpgaoogaaGreatW33
import Derived.Test.YtmbaiglpgaoogaaGreatP01
import Derived.Test.YtmbaiglpgaoogaaGreatP02
import Derived.Test.YtmbaiglpgaoogaaGreatP03
import Derived.Test.YtmbaiglpgaoogaaGreatP04
import Derived.Test.YtmbaiglpgaoogaaGreatP05
import Derived.Test.YtmbaiglpgaoogaaGreatP06
import Derived.Test.YtmbaiglpgaoogaaGreatP07
import Derived.Test.YtmbaiglpgaoogaaGreatP08
import Derived.Test.YtmbaiglpgaoogaaGreatP09
import Derived.Test.YtmbaiglpgaoogaaGreatP10
set_option maxHeartbeats 16000000
namespace Go.Proofs.YtmbaiglpgaoogaaGreat
open Go.RowKit
set_option linter.unusedVariables false
set_option maxRecDepth 100000
def Lo (w0:World) (F:SP) (b d n t k a g kb m q:Nat) (M:List Kv) (w:World):Prop:=
 ∃ Ms gs,Ms.length<=q/\(∀ N ∈ Ms,N.length<=2000)/\cU w0 (eL g M Ms gs*(gp kb m*F)) b d n t k a (Ms.length+1) M (ga Ms gs) w
section
variable {w0 w w':World} {F F' A B:SP} {b d n t k a nx g kb m q:Nat} {M N:List Kv} {olds:Int->Option (List Kv)} {Ms:List (List Kv)} {gs:List Bool} {v:Value}
theorem cU.G5 {m':Nat} (h:cU w0 (A*(gp kb m*F)) b d n t k a nx M olds w) (hm:m<=m'):cU w0 (A*(gp kb m'*F)) b d n t k a nx M olds w:=h.map fun G hG=>by
 obtain⟨es,he,h1⟩:=(hG.of (show _=gp kb m*(G*(A*F)) by ac_rfl)).MN;exact(h1.MA (m:=m') (by omega)).of (by ac_rfl)
theorem Lv {i:Int} (h: ∀ N ∈ Ms,N.length<=2000):((ga Ms gs i).getD []).length<=2000:=by
 unfold ga;split
 .cases h1:Ms[(i - 1).toNat]? with
  | none=>exact Nat.zero_le _
  | some N=>exact h N (List.mem_of_getElem? h1)
 .exact Nat.zero_le _
theorem Mg (x:JX) (h:Lo w0 F b d n t k a g kb m q M w) (hk:k<=9000) (ht:t<=1024) (hm:m<400) (hq:q<=1000) (hxn: -9223372036854775808<=x.n/\x.n<=9223372036854775807)
 (hr: ∀ W,Sat w0 F W->Rd W x.key.1 x.key.2.2/\Rd W x.too.1 x.too.2.2) (h7:wi x.op 10=7->a=0):
 Calls Tryz.prog 48 #[.pointer (some ⟨b,0,none⟩),.pointer (some ⟨g,0,none⟩),.agg (LV x),.pointer (some ⟨kb,0,none⟩)] w fun e w'=>e = .returned (.bool true)/\Lo w0 F b d n t (k+1) a g kb (m+1) (q+1) M w':=by
 obtain⟨Ms,gs,hM1,hM2,h0⟩:=h;obtain⟨op,xn,bA,bc,ps,⟨kA,kc,kl⟩,⟨tA,tc,tl⟩,eA,ec,kp,torn,cut⟩:=x;have hpr:=h0.gR;have hgl:=h0.Mq;obtain⟨CS,hCS⟩: ∃ CS:Array Value,CS = #[.int .i64 op,.int .i64 xn,.slice bA ps.length bc,.slice kA kl.length kc,.slice tA tl.length tc,.slice eA kp.length ec,.int .i64 torn,.int .i64 cut]:=⟨_,rfl⟩;have HFin:Hid (∀ W Ms' gs' k',Ms'.length<=q+1->(∀ N ∈ Ms',N.length<=2000)->k'<=k+1->cU w0 (eL g M Ms' gs'*(gp kb (m+1)*F)) b d n t k' a (Ms'.length+1) M (ga Ms' gs') W->Lo w0 F b d n t (k+1) a g kb (m+1) (q+1) M W):=ah fun W Ms' gs' k' h1 h2 h3 h4=>⟨Ms',gs',h1,h2,h4.mono (Nat.le_refl _) h3⟩
 have HFi:Hid (∀ W,cU w0 (eL g M Ms gs*(gp kb m*F)) b d n t k a (Ms.length+1) M (ga Ms gs) W->Lo w0 F b d n t (k+1) a g kb (m+1) (q+1) M W):=ah fun W h4=>HFin.o W Ms gs k (by omega) hM2 (by omega) (cU.G5 h4 (by omega))
 have h1:cU w0 (Pt w.heap.size 80 CS*(eL g M Ms gs*(gp kb m*F))) b d n t k a (Ms.length+1) M (ga Ms gs) (w.alloc (.cells CS 80)):=h0.al (.cells CS 80);have HMs:=ah hM2;have HPr:=ah hpr;have HGl:=ah hgl;have HRd:Hid (∀ W,Sat w0 F W->Rd W kA kl/\Rd W tA tl):=ah hr;have HMl:Hid (M.length<=1024):=ah (by have:=hpr.2.1;omega);have HC0:Hid (∀ E W,Sat w0 (Pt E 80 CS*(eL g M Ms gs*(gp kb m*F))) W->W.cell? ⟨E,0,none⟩=some (.int .i64 op)):=ah fun E W hW=>by rw[hW.cell 0,hCS];rfl
 have HCl:Hid (∀ E X W,Sat w0 (Pt E 80 CS*X) W->W.cell? ⟨E,1,none⟩=some (.int .i64 xn)/\W.cell? ⟨E,3,none⟩=some (.slice kA kl.length kc)/\W.cell? ⟨E,4,none⟩=some (.slice tA tl.length tc)):=ah fun E X W hW=>⟨by rw[hW.cell 1,hCS];rfl,by rw[hW.cell 3,hCS];rfl,by rw[hW.cell 4,hCS];rfl⟩
 replace hxn: -9223372036854775808<=xn/\xn<=9223372036854775807:=hxn;have H7:Hid (wi op 10=7->a=0):=ah h7;have HWi:=ah (Jc op 10 (by omega));clear h0 hpr hr h7 hgl;show Calls Tryz.prog 48 #[.pointer (some ⟨b,0,none⟩),.pointer (some ⟨g,0,none⟩),.agg #[.int .i64 op,.int .i64 xn,.slice bA ps.length bc,.slice kA kl.length kc,.slice tA tl.length tc,.slice eA kp.length ec,.int .i64 torn,.int .i64 cut],.pointer (some ⟨kb,0,none⟩)] w _;go_enter Tryz.func48, Tryz.ntmps48;go_upto_region 1 with fail;rw[<-hCS];revert h1;generalize w.alloc _=W;intro h1;generalize w.heap.size=E at*
 have x0:=HC0.o _ _ h1.sat;have HS:=ah h1;clear h1 hCS HC0;go_upto_region 2 with (go_at_call 27;(with_reducible refine(Gy _ 10 _ (by omega) (by omega)).mono ?_);rintro e wx ⟨rfl,rfl⟩)
 have hwi:=HWi.o;generalize wi op 10=dd at*
 clear x0 HWi;by_cases h1:dd=1
 .subst h1;have hs1:=HS.o;have c3:=(HCl.o _ _ _ hs1.sat).2.1;obtain⟨L,hL⟩: ∃ L,L=(bH kl M).getD []:=⟨_,rfl⟩;obtain⟨bo,hbo⟩: ∃ bo,bo=(bH kl M).isSome:=⟨_,rfl⟩;have hLl:L.length<=20000:=by
   rw[hL]
   cases hg:bH kl M with
   | none=>exact Nat.zero_le _
   | some z=>exact(HPr.o.2.2 _ (Lm hg)).2
  have HGe:Hid (Calls Tryz.prog 32 #[.pointer (some ⟨b,0,none⟩),.slice kA kl.length kc] W fun e w'=> ∃ A c,e = .returned (.tuple #[.slice A L.length c,.bool bo])/\cU w0 (Row 5 1 (.slice A L.length c) L.length (L.map bv)*(Pt E 80 CS*(eL g M Ms gs*(gp kb m*F)))) b d n t k a (Ms.length+1) M (ga Ms gs) w'):=ah (by
   have h9:=I3 (kA,kc,kl) (HRd.o _ hs1.sat.right.right.right).1 ht hs1;rw[<-hL, <-hbo] at h9;exact h9)
  have HL:=ah hL;have HBo:=ah hbo;clear hs1 hL hbo;go_upto_region 4 with (go_at_call 32;(with_reducible refine HGe.o.mono ?_);rintro e w3 ⟨A3,c3',rfl,hs⟩;have HS3:=ah hs;clear hs)
  clear c3 HGe HS;have hs3:=HS3.o.map fun G hG=>hG.drew
  obtain⟨LA,lc,R,hc,hs4⟩:=(hs3.of (show _=eL g M Ms gs*(Pt E 80 CS*(Row 5 1 (.slice A3 L.length c3') L.length (L.map bv)*(gp kb m*F))) by ac_rfl)).now;have HK:Hid (∀ W,cU w0 (R*(Pt E 80 CS*(Row 5 1 (.slice A3 L.length c3') L.length (L.map bv)*(gp kb m*F)))) b d n t k a (Ms.length+1) M (ga Ms gs) W->W.cell? ⟨g,0,none⟩=some (.slice LA M.length lc)/\W.cell? ⟨E,3,none⟩=some (.slice kA kl.length kc)):=ah fun W hW=>⟨(hc _ _ hW).1,(HCl.o _ _ _ hW.sat.right).2.1⟩
  have HK2:=ah hc;have HMg:Hid (Calls Tryz.prog 81 #[.agg #[.slice LA M.length lc],.slice kA kl.length kc] w3.drew fun e w'=> ∃ A c,e = .returned (.tuple #[.slice A L.length c,.bool bo])/\cU w0 (bZ [(A,c,L)]*(R*(Pt E 80 CS*(Row 5 1 (.slice A3 L.length c3') L.length (L.map bv)*(gp kb m*F))))) b d n t k a (Ms.length+1) M (ga Ms gs) w'):=ah ((Mv (kA,kc,kl) (fun W hW=>(HRd.o _ hW.right.right.right.right).1) hs4 (by have:=HMl.o;omega)).mono (by
   rintro e w' ⟨A,c,rfl,h8,h9⟩;refine⟨A,c,?_,?_⟩
   .rw[HL.o,HBo.o]
   .have h10:=(h9.of (show _=qb (.slice LA M.length lc) M*(bZ [(A,c,(bH kl M).getD [])]*_) from aX _ _ _)).drop;rw[<-HL.o] at h10;exact h10))
  have HS4:=ah hs4.drop;clear hs3 hc hs4 HS3;refine wp_region_held_drew (S:=fun w'=>w'.cell? ⟨g,0,none⟩=some (.slice LA M.length lc)/\w'.cell? ⟨E,3,none⟩=some (.slice kA kl.length kc)) (by kernel_rfl) (HK.o _ HS4.o) ?_;intro hS0;refine an 0 1 2 3 ?_;refine ct 4 5 ?_;refine bB 6 fun K hK=>?_
  go_simp;go_at_call 81;(with_reducible refine HMg.o.mono ?_);rintro e w6 ⟨A6,c6,rfl,hs⟩;have HS6:=ah hs;clear hs
  refine hK.out _ _ (HK.o _ HS6.o.drop) (fun hS0=>?_);clear hK K;refine an 7 8 9 10 ?_;refine b8 11 ?_;refine wpAnyH_done (by kernel_rfl) ?_ _;have hs6:=HS6.o.of (show _=Row 5 1 (.slice A3 L.length c3') L.length (L.map bv)*(gp kb m*(bZ [(A6,c6,L)]*(R*(Pt E 80 CS*F)))) by ac_rfl);have HBy:Hid (Calls Tryz.prog 82 #[.pointer (some ⟨kb,0,none⟩),.slice A3 L.length c3'] w6 fun e w'=>e = .returned (.tuple #[])/\Rd w' A3 L/\cU w0 (gp kb (m+1)*(bZ [(A6,c6,L)]*(R*(Pt E 80 CS*F)))) b d n t k a (Ms.length+1) M (ga Ms gs) w'):=Ln (A3,c3',L) hs6 hm (by show L.length<=_;omega);clear hs6 HS4 HMg HS6;go_upto_region 6 with (go_at_call 82;(with_reducible refine HBy.o.mono ?_);rintro e w7 ⟨rfl,hrd,hs⟩;have HR7:=ah hrd;have HS7:=ah hs;clear hrd hs)
  clear HBy;have HSa:Hid (Calls Tryz.prog 36 #[.slice A3 L.length c3',.slice A6 L.length c6] w7 fun x w'=>x = .returned (.bool true)/\w7=w'):=ah (by
   have h9:=KZ A3 A6 c3' c6 L L w7 HR7.o (HS7.o.sat.right.Fk (List.mem_singleton_self _));rw[decide_eq_true rfl] at h9;exact h9)
  have HS8:Hid (Lo w0 F b d n t (k+1) a g kb (m+1) (q+1) M w7):=ah (by
   have h9:=(HK2.o _ _ (HS7.o.of (show _=R*(bZ [(A6,c6,L)]*(Pt E 80 CS*(gp kb (m+1)*F))) by ac_rfl))).2;exact HFin.o _ Ms gs k (by omega) HMs.o (by omega) (h9.of (show _=bZ [(A6,c6,L)]*(Pt E 80 CS*(eL g M Ms gs*(gp kb (m+1)*F))) by ac_rfl)).drop.drop)
  clear HS7 HR7;go_wp2_with (go_at_call 36;(with_reducible refine HSa.o.mono ?_);rintro e wx ⟨rfl,rfl⟩);go_ret;exact⟨rfl,HS8.o⟩
 .by_cases h2:dd=2
  .subst h2;have hs3:=HS.o.map fun G hG=>hG.drew
   obtain⟨LA,lc,R,hc,hs4⟩:=(hs3.of (show _=eL g M Ms gs*(Pt E 80 CS*(gp kb m*F)) by ac_rfl)).now;have HK:Hid (∀ W,cU w0 (R*(Pt E 80 CS*(gp kb m*F))) b d n t k a (Ms.length+1) M (ga Ms gs) W->W.cell? ⟨g,0,none⟩=some (.slice LA M.length lc)/\W.cell? ⟨E,1,none⟩=some (.int .i64 xn)/\W.cell? ⟨E,3,none⟩=some (.slice kA kl.length kc)/\W.cell? ⟨E,4,none⟩=some (.slice tA tl.length tc)):=ah fun W hW=>⟨(hc _ _ hW).1,HCl.o _ _ _ hW.sat.right⟩
   have HB:Hid (∀ W,cU w0 (R*(Pt E 80 CS*(gp kb m*F))) b d n t k a (Ms.length+1) M (ga Ms gs) W->Lo w0 F b d n t (k+1) a g kb (m+1) (q+1) M W):=ah fun W hW=>HFi.o _ ((hc _ _ hW).2.of (show _=Pt E 80 CS*(eL g M Ms gs*(gp kb m*F)) by ac_rfl)).drop
   have HS4:=ah hs4;obtain⟨MS,hMS⟩: ∃ MS,MS=(oz kl tl M).take xn.toNat:=⟨_,rfl⟩;have hMl2:MS.length<=1024:=by
    rw[hMS,List.length_take];have h9:(oz kl tl M).length<=M.length:=List.length_filter_le _ _;have:=HMl.o;omega
   have HSc:Hid (Calls Tryz.prog 24 #[.pointer (some ⟨b,0,none⟩),.slice kA kl.length kc,.slice tA tl.length tc,.int .i64 xn] W.drew fun x w'=> ∃ (B:Option Addr) (c:Nat) (qs es:List En),x = .returned (.slice B qs.length c)/\aY qs=MS/\(∀ z ∈ qs,z ∈ es)/\qs.length<=c/\cU w0 (BW B c qs es*(qb (.slice LA M.length lc) M*(R*(Pt E 80 CS*(gp kb m*F))))) b d n t k a (Ms.length+1) M (ga Ms gs) w'):=Ik (kA,kc,kl) (tA,tc,tl) xn MS hMS.symm (HRd.o _ hs4.sat.right.right.right.right).1 (HRd.o _ hs4.sat.right.right.right.right).2 ht hs4;have HSm:Hid (∀ B c qs es W,cU w0 (BW B c qs es*(qb (.slice LA M.length lc) M*(R*(Pt E 80 CS*(gp kb m*F))))) b d n t k a (Ms.length+1) M (ga Ms gs) W->Calls Tryz.prog 83 #[.agg #[.slice LA M.length lc],.slice kA kl.length kc,.slice tA tl.length tc,.int .i64 xn] W fun x w'=> ∃ (C:Option Addr) (c2:Nat) (fs:List En),x = .returned (.slice C fs.length c2)/\aY fs=MS/\cU w0 (fh (.slice C fs.length c2) fs*(qb (.slice LA M.length lc) M*(BW B c qs es*(R*(Pt E 80 CS*(gp kb m*F)))))) b d n t k a (Ms.length+1) M (ga Ms gs) w'):=ah fun B c qs es W hW=>by
    rw[hMS];exact L9 (kA,kc,kl) (tA,tc,tl) xn (fun W hW=>HRd.o _ hW.right.right.right.right) (hW.of (aX _ _ _)) (by have:=HMl.o;omega)
   have HPa:Hid (∀ B c qs es C c2 fs W,aY qs=MS->aY fs=MS->(∀ z ∈ qs,z ∈ es)->cU w0 (fh (.slice C fs.length c2) fs*(qb (.slice LA M.length lc) M*(BW B c qs es*(R*(Pt E 80 CS*(gp kb m*F)))))) b d n t k a (Ms.length+1) M (ga Ms gs) W->Calls Tryz.prog 23 #[.slice B qs.length c,.slice C fs.length c2] W fun x w'=>x = .returned (.bool true)/\cU w0 (fh (.slice C fs.length c2) fs*(qb (.slice LA M.length lc) M*(BW B c qs es*(R*(Pt E 80 CS*(gp kb m*F)))))) b d n t k a (Ms.length+1) M (ga Ms gs) w'):=ah fun B c qs es C c2 fs W e1 e2 e3 hW=>xe (Io e3).left.left Fx (e1.trans e2.symm) (by have h4:=congrArg List.length e1;rw[bX] at h4;omega) hW
   clear hs3 hc hs4 HS hMS;go_upto_region 8 with fail;refine wp_region_held_drew (S:=fun w'=>w'.cell? ⟨g,0,none⟩=some (.slice LA M.length lc)/\w'.cell? ⟨E,1,none⟩=some (.int .i64 xn)/\w'.cell? ⟨E,3,none⟩=some (.slice kA kl.length kc)/\w'.cell? ⟨E,4,none⟩=some (.slice tA tl.length tc)) (by kernel_rfl) (HK.o _ HS4.o.drop) ?_;intro hS0;refine an 0 1 2 3 ?_;refine an 4 5 6 8 ?_;refine an 9 10 11 12 ?_;refine an 13 14 15 16 ?_;refine b8 17 ?_;refine bB 7 fun K hK=>?_
   go_simp;go_at_call 24;(with_reducible refine HSc.o.mono ?_);rintro e w7 ⟨B7,c7,qs,es7,rfl,hq1,hq2,_,hs⟩;have HQ1:=ah hq1;have HQ2:=ah hq2;have HS7:=ah hs;clear hq1 hq2 hs
   refine hK.out _ _ (HK.o _ HS7.o.drop.drop) (fun hS0=>?_);clear hK K;refine bB 18 fun K hK=>?_
   go_simp;go_at_call 83;(with_reducible refine(HSm.o _ _ _ _ _ HS7.o).mono ?_);rintro e w18 ⟨C8,c8,fs,rfl,hf1,hs⟩;have HF1:=ah hf1;have HS18:=ah hs;clear hf1 hs
   refine hK.out _ _ (HK.o _ HS18.o.drop.drop.drop) (fun hS0=>?_);clear hK K;refine bB 19 fun K hK=>?_
   go_simp;go_at_call 23;(with_reducible refine(HPa.o _ _ _ _ _ _ _ _ HQ1.o HF1.o HQ2.o HS18.o).mono ?_);rintro e w19 ⟨rfl,hs⟩;have HS19:=ah hs;clear hs
   refine hK.out _ _ (HK.o _ HS19.o.drop.drop.drop) (fun hS0=>?_);clear hK K;refine b8 20 ?_;refine wpAnyH_done (by kernel_rfl) ?_ _;go_wp2_with fail;go_ret;exact⟨rfl,HB.o _ HS19.o.drop.drop.drop⟩
  .by_cases h3:dd=3
   .subst h3;have HSn:Hid (Calls Tryz.prog 41 #[.pointer (some ⟨b,0,none⟩)] W fun x w'=>x = .returned (.int .i64 (Ms.length+1:Nat))/\cU w0 (Pt E 80 CS*(eL g M Ms gs*(gp kb m*F))) b d n t (k+1) a (Ms.length+1+1) M (ga (Ms++[M]) (gs++[false])) w'):=ah (by
     have h9:=Jm (by omega) HS.o;rw[LJ M HGl.o] at h9;exact h9)
    have HSr:Hid (∀ W,cU w0 (Pt E 80 CS*(eL g M Ms gs*(gp kb m*F))) b d n t (k+1) a (Ms.length+1+1) M (ga (Ms++[M]) (gs++[false])) W->Calls Tryz.prog 84 #[.pointer (some ⟨g,0,none⟩)] W fun x w'=>x = .returned (.int .i64 (Ms.length+1:Nat))/\cU w0 (eL g M (Ms++[M]) (gs++[false])*(Pt E 80 CS*(gp kb m*F))) b d n t (k+1) a (Ms.length+1+1) M (ga (Ms++[M]) (gs++[false])) w'):=ah fun W hW=>MB (hW.of (aX _ _ _)) (by have:=HMl.o;omega) (by omega)
    clear HS;go_wp2_with (first
     | (go_at_call 41;(with_reducible refine HSn.o.mono ?_);rintro e w3 ⟨rfl,hs⟩;have HS3:=ah hs;clear hs)
     | (go_at_call 84;(with_reducible refine(HSr.o _ HS3.o).mono ?_);rintro e w4 ⟨rfl,hs⟩;have HS4:=ah hs;clear hs))
    go_ret;refine⟨rfl,HFin.o _ (Ms++[M]) (gs++[false]) (k+1) (by rw[List.length_append,List.length_singleton];omega) (fun N hN=>?_) (Nat.le_refl _) ?_⟩
    .rcases List.mem_append.1 hN with hN | hN
     .exact HMs.o N hN
     .rw[List.mem_singleton.1 hN];have:=HMl.o;omega
    .rw[List.length_append,List.length_singleton];exact(cU.G5 (HS4.o.of (show _=Pt E 80 CS*(eL g M (Ms++[M]) (gs++[false])*(gp kb m*F)) by ac_rfl)).drop (by omega))
   .by_cases h4:dd=4
    .subst h4;obtain⟨er,her⟩: ∃ er:Int,(if (ga Ms gs xn).isSome=true then (0:Int) else 104)=er:=⟨_,rfl⟩;obtain⟨gs',hgs'⟩: ∃ gs',gs'=(if (ga Ms gs xn).isSome=true then gs.set (xn - 1).toNat true else gs):=⟨_,rfl⟩;have hsd:=HS.o.map fun G hG=>hG.drew
     have HDs:Hid (Calls Tryz.prog 43 #[.pointer (some ⟨b,0,none⟩),.int .i64 xn] W.drew fun x w'=>x = .returned (.int .i64 er)/\cU w0 (Pt E 80 CS*(eL g M Ms gs*(gp kb m*F))) b d n t k a (Ms.length+1) M (ga Ms gs') w'):=ah (by
      have h9:=MH xn hxn hsd;rw[LD xn HGl.o,her, <-hgs'] at h9;exact h9)
     have HDr:Hid (∀ W,cU w0 (Pt E 80 CS*(eL g M Ms gs*(gp kb m*F))) b d n t k a (Ms.length+1) M (ga Ms gs') W->Calls Tryz.prog 85 #[.pointer (some ⟨g,0,none⟩),.int .i64 xn] W fun x w'=>x = .returned (.int .i64 er)/\cU w0 (eL g M Ms gs'*(Pt E 80 CS*(gp kb m*F))) b d n t k a (Ms.length+1) M (ga Ms gs') w'):=ah fun W hW=>by
      have h9:=Mz xn hxn (hW.of (aX _ _ _)) (by omega);rw[her, <-hgs'] at h9;exact h9
     have HSd:=ah hsd;clear hsd her hgs' HS;go_upto_region 12 with fail;refine wp_region_held_drew (S:=fun w'=>w'.cell? ⟨E,1,none⟩=some (.int .i64 xn)) (by kernel_rfl) ((HCl.o _ _ _ HSd.o.sat).1) ?_;intro hS0;refine an 0 1 2 5 ?_;refine ct 6 7 ?_;refine bB 3 fun K hK=>?_
     go_simp;go_at_call 43;(with_reducible refine HDs.o.mono ?_);rintro e w3 ⟨rfl,hs⟩;have HS3:=ah hs;clear hs
     refine hK.out _ _ ((HCl.o _ _ _ HS3.o.sat).1) (fun hS0=>?_);clear hK K;refine bB 4 fun K hK=>?_
     go_simp;go_at_call 29;(with_reducible refine(lk _ _).mono ?_);rintro e wx ⟨rfl,rfl⟩
     refine hK.out _ _ ((HCl.o _ _ _ HS3.o.sat).1) (fun hS0=>?_);clear hK K;refine bB 8 fun K hK=>?_
     go_simp;go_at_call 85;(with_reducible refine(HDr.o _ HS3.o).mono ?_);rintro e w8 ⟨rfl,hs⟩;have HS8:=ah hs;clear hs
     refine hK.out _ _ ((HCl.o _ _ _ HS8.o.sat.right).1) (fun hS0=>?_);clear hK K;refine ct 9 10 ?_;refine wpAnyH_done (by kernel_rfl) ?_ _;go_wp2_with fail;go_ret;exact⟨rfl,HFin.o _ Ms gs' k (by omega) HMs.o (by omega) (cU.G5 (HS8.o.of (show _=Pt E 80 CS*(eL g M Ms gs'*(gp kb m*F)) by ac_rfl)).drop (by omega))⟩
    .by_cases h5:dd=5
     .subst h5;have hs1:=HS.o;have c3:=(HCl.o _ _ _ hs1.sat).2.1;have c1:=(HCl.o _ _ _ hs1.sat).1;obtain⟨er,her⟩: ∃ er:Int,(if (ga Ms gs xn).isSome=true then (0:Int) else 104)=er:=⟨_,rfl⟩;obtain⟨z,hz⟩: ∃ z,z=(ga Ms gs xn).bind (bH kl):=⟨_,rfl⟩;obtain⟨L,hL⟩: ∃ L,L=z.getD []:=⟨_,rfl⟩;obtain⟨bo,hbo⟩: ∃ bo,bo=z.isSome:=⟨_,rfl⟩;have HGe:Hid (Calls Tryz.prog 42 #[.pointer (some ⟨b,0,none⟩),.int .i64 xn,.slice kA kl.length kc] W fun e w'=> ∃ A c,e = .returned (.tuple #[.slice A L.length c,.bool bo,.int .i64 er])/\cU w0 (Row 5 1 (.slice A L.length c) L.length (L.map bv)*(Pt E 80 CS*(eL g M Ms gs*(gp kb m*F)))) b d n t k a (Ms.length+1) M (ga Ms gs) w'):=ah (by
       have h9:=Is xn (kA,kc,kl) hxn (HRd.o _ hs1.sat.right.right.right).1 ht hs1 z er (by
        rw[hz, <-her]
        cases ga Ms gs xn with
        | none=>exact .inl ⟨rfl,rfl,rfl⟩
        | some Mo=>exact .inr ⟨Mo,rfl,rfl,rfl⟩)
       rw[<-hL, <-hbo] at h9;exact h9)
      have HAt:Hid (∀ A c W,cU w0 (Row 5 1 (.slice A L.length c) L.length (L.map bv)*(Pt E 80 CS*(eL g M Ms gs*(gp kb m*F)))) b d n t k a (Ms.length+1) M (ga Ms gs) W->Calls Tryz.prog 86 #[.pointer (some ⟨g,0,none⟩),.int .i64 xn] W fun x w'=> ∃ va vn vc,x = .returned (.tuple #[.agg #[.slice va vn vc],.int .i64 er])/\cU w0 (qb (.slice va vn vc) ((ga Ms gs xn).getD [])*(eL g M Ms gs*(Row 5 1 (.slice A L.length c) L.length (L.map bv)*(Pt E 80 CS*(gp kb m*F))))) b d n t k a (Ms.length+1) M (ga Ms gs) w'):=ah fun A c W hW=>by
       have h9:=MK xn hxn (hW.of (show _=eL g M Ms gs*(Row 5 1 (.slice A L.length c) L.length (L.map bv)*(Pt E 80 CS*(gp kb m*F))) by ac_rfl)) (by omega);rw[her] at h9;exact h9
      have HMg:Hid (∀ A c va vn vc o W,cU w0 (Ow o (.cells #[.slice va vn vc] 32)*(qb (.slice va vn vc) ((ga Ms gs xn).getD [])*(eL g M Ms gs*(Row 5 1 (.slice A L.length c) L.length (L.map bv)*(Pt E 80 CS*(gp kb m*F)))))) b d n t k a (Ms.length+1) M (ga Ms gs) W->Calls Tryz.prog 81 #[.agg #[.slice va vn vc],.slice kA kl.length kc] W fun x w'=> ∃ A2 c2,x = .returned (.tuple #[.slice A2 L.length c2,.bool bo])/\Rd w' A2 L/\cU w0 (Row 5 1 (.slice A L.length c) L.length (L.map bv)*(Pt E 80 CS*(eL g M Ms gs*(gp kb m*F)))) b d n t k a (Ms.length+1) M (ga Ms gs) w'):=ah fun A c va vn vc o W hW=>by
       refine(Mv (kA,kc,kl) (fun W hW=>(HRd.o _ hW.right.right.right.right).1) hW.drop (by have:=Lv (Ms:=Ms) (gs:=gs) (i:=xn) HMs.o;omega)).mono ?_;rintro e w' ⟨A2,c2,rfl,h8,h9⟩;have e1:bH kl ((ga Ms gs xn).getD [])=z:=by rw[L7,hz]
       rw[show (kA,kc,kl).2.2=kl from rfl,e1, <-hL] at h8;refine⟨A2,c2,?_,h8,?_⟩
       .rw[show (kA,kc,kl).2.2=kl from rfl,e1, <-hL, <-hbo]
       .exact h9.drop.drop.of (by ac_rfl)
      clear hs1 hL hbo hz her;go_upto_region 15 with (go_at_call 42;(with_reducible refine HGe.o.mono ?_);rintro e w3 ⟨A3,c3',rfl,hs⟩;have HS3:=ah hs;clear hs)
      clear c3 c1 HGe HS;have c1:=(HCl.o _ _ _ HS3.o.sat.right).1;go_upto_region 16 with (go_at_call 86;(with_reducible refine(HAt.o _ _ _ HS3.o).mono ?_);rintro e w4 ⟨va,vn,vc,rfl,hs⟩;have HS4:=ah hs;clear hs)
      clear c1 HAt HS3;have hs5:=HS4.o.al (.cells #[.slice va vn vc] 32);revert hs5;generalize w4.alloc _=W5;intro hs5;generalize w4.heap.size=O5 at*
      have c3:=(HCl.o _ _ _ hs5.sat.right.right.right.right).2.1;have o0:W5.cell? ⟨O5,0,none⟩=some (.slice va vn vc):=Sat.cell hs5.sat 0;have HS5:=ah hs5;clear hs5 HS4;go_upto_region 17 with (go_at_call 81;(with_reducible refine(HMg.o _ _ _ _ _ _ _ HS5.o).mono ?_);rintro e w6 ⟨A6,c6,rfl,hrd,hs⟩;have HR6:=ah hrd;have HS6:=ah hs;clear hrd hs)
      clear c3 o0 HMg HS5;have HSa:Hid (Calls Tryz.prog 36 #[.slice A3 L.length c3',.slice A6 L.length c6] w6 fun x w'=>x = .returned (.bool true)/\w6=w'):=ah (by
       have h9:=KZ A3 A6 c3' c6 L L w6 HS6.o.sat.cm HR6.o;rw[decide_eq_true rfl] at h9;exact h9)
      go_wp2_with (first
       | (go_at_call 36;(with_reducible refine HSa.o.mono ?_);rintro e wx ⟨rfl,rfl⟩)
       | (go_at_call 29;(with_reducible refine(lk _ _).mono ?_);rintro e wx ⟨rfl,rfl⟩))
      go_ret;exact⟨rfl,HFi.o _ HS6.o.drop.drop⟩
     .by_cases h6:dd=6
      .subst h6;have hs1:=HS.o;have c1:=(HCl.o _ _ _ hs1.sat).1;have c3:=(HCl.o _ _ _ hs1.sat).2.1;have c4:=(HCl.o _ _ _ hs1.sat).2.2;obtain⟨er,her⟩: ∃ er:Int,(if (ga Ms gs xn).isSome=true then (0:Int) else 104)=er:=⟨_,rfl⟩;obtain⟨MS,hMS⟩: ∃ MS,MS=(oz kl tl ((ga Ms gs xn).getD [])).take (9:Int).toNat:=⟨_,rfl⟩;have hMl2:MS.length<=9:=by rw[hMS,List.length_take];show min 9 _<=9;omega
       have HSc:Hid (Calls Tryz.prog 45 #[.pointer (some ⟨b,0,none⟩),.int .i64 xn,.slice kA kl.length kc,.slice tA tl.length tc,.int .i64 9] W fun x w'=> ∃ (B:Option Addr) (c:Nat) (qs es:List En),x = .returned (.tuple #[.slice B qs.length c,.int .i64 er])/\aY qs=MS/\(∀ z ∈ qs,z ∈ es)/\cU w0 (BW B c qs es*(Pt E 80 CS*(eL g M Ms gs*(gp kb m*F)))) b d n t k a (Ms.length+1) M (ga Ms gs) w'):=LZ xn (kA,kc,kl) (tA,tc,tl) 9 hxn (HRd.o _ hs1.sat.right.right.right).1 (HRd.o _ hs1.sat.right.right.right).2 ht hs1 MS er (by
        rw[hMS, <-her]
        cases ga Ms gs xn with
        | none=>exact .inl ⟨rfl,rfl,rfl⟩
        | some Mo=>exact .inr ⟨Mo,rfl,rfl,rfl⟩)
       have HAt:Hid (∀ B c qs es W,cU w0 (BW B c qs es*(Pt E 80 CS*(eL g M Ms gs*(gp kb m*F)))) b d n t k a (Ms.length+1) M (ga Ms gs) W->Calls Tryz.prog 86 #[.pointer (some ⟨g,0,none⟩),.int .i64 xn] W fun x w'=> ∃ va vn vc,x = .returned (.tuple #[.agg #[.slice va vn vc],.int .i64 er])/\cU w0 (qb (.slice va vn vc) ((ga Ms gs xn).getD [])*(eL g M Ms gs*(BW B c qs es*(Pt E 80 CS*(gp kb m*F))))) b d n t k a (Ms.length+1) M (ga Ms gs) w'):=ah fun B c qs es W hW=>by
        have h9:=MK xn hxn (hW.of (show _=eL g M Ms gs*(BW B c qs es*(Pt E 80 CS*(gp kb m*F))) by ac_rfl)) (by omega);rw[her] at h9;exact h9
       have HMs2:Hid (∀ B c qs es va vn vc o W,cU w0 (Ow o (.cells #[.slice va vn vc] 32)*(qb (.slice va vn vc) ((ga Ms gs xn).getD [])*(eL g M Ms gs*(BW B c qs es*(Pt E 80 CS*(gp kb m*F)))))) b d n t k a (Ms.length+1) M (ga Ms gs) W->Calls Tryz.prog 83 #[.agg #[.slice va vn vc],.slice kA kl.length kc,.slice tA tl.length tc,.int .i64 9] W fun x w'=> ∃ (C:Option Addr) (c2:Nat) (fs:List En),x = .returned (.slice C fs.length c2)/\aY fs=MS/\cU w0 (Ow o (.cells #[.slice va vn vc] 32)*(fh (.slice C fs.length c2) fs*(BW B c qs es*(Pt E 80 CS*(eL g M Ms gs*(gp kb m*F)))))) b d n t k a (Ms.length+1) M (ga Ms gs) w'):=ah fun B c qs es va vn vc o W hW=>by
        rw[hMS];refine(L9 (kA,kc,kl) (tA,tc,tl) 9 (F:=Ow o (.cells #[.slice va vn vc] 32)*(eL g M Ms gs*(BW B c qs es*(Pt E 80 CS*(gp kb m*F))))) (fun W hW=>HRd.o _ hW.right.right.right.right.right) (hW.of (aX _ _ _)) (by have:=Lv (Ms:=Ms) (gs:=gs) (i:=xn) HMs.o;omega)).mono ?_;rintro e w' ⟨C,c2,fs,rfl,h8,h9⟩;refine⟨C,c2,fs,rfl,h8,?_⟩;exact((h9.of (aX _ _ _)).drop).of (by ac_rfl)
       have HPa:Hid (∀ B c qs es C c2 fs va vn vc o W,aY qs=MS->aY fs=MS->(∀ z ∈ qs,z ∈ es)->cU w0 (Ow o (.cells #[.slice va vn vc] 32)*(fh (.slice C fs.length c2) fs*(BW B c qs es*(Pt E 80 CS*(eL g M Ms gs*(gp kb m*F)))))) b d n t k a (Ms.length+1) M (ga Ms gs) W->Calls Tryz.prog 23 #[.slice B qs.length c,.slice C fs.length c2] W fun x w'=>x = .returned (.bool true)/\cU w0 (Ow o (.cells #[.slice va vn vc] 32)*(fh (.slice C fs.length c2) fs*(BW B c qs es*(Pt E 80 CS*(eL g M Ms gs*(gp kb m*F)))))) b d n t k a (Ms.length+1) M (ga Ms gs) w'):=ah fun B c qs es C c2 fs va vn vc o W e1 e2 e3 hW=>xe (Io e3).left.left Fx.left (e1.trans e2.symm) (by have h4:=congrArg List.length e1;rw[bX] at h4;omega) hW
       clear hs1 hMS her;go_upto_region 20 with (go_at_call 45;(with_reducible refine HSc.o.mono ?_);rintro e w3 ⟨B3,c3',qs,es3,rfl,hq1,hq2,hs⟩;have HQ1:=ah hq1;have HQ2:=ah hq2;have HS3:=ah hs;clear hq1 hq2 hs)
       clear c3 c1 c4 HSc HS;have c1:=(HCl.o _ _ _ HS3.o.sat.right).1;go_upto_region 21 with (go_at_call 86;(with_reducible refine(HAt.o _ _ _ _ _ HS3.o).mono ?_);rintro e w4 ⟨va,vn,vc,rfl,hs⟩;have HS4:=ah hs;clear hs)
       clear c1 HAt HS3;have hs5:=HS4.o.al (.cells #[.slice va vn vc] 32);revert hs5;generalize w4.alloc _=W5;intro hs5;generalize w4.heap.size=O5 at*
       have c3:=(HCl.o _ _ _ hs5.sat.right.right.right.right).2.1;have c4:=(HCl.o _ _ _ hs5.sat.right.right.right.right).2.2;have o0:W5.cell? ⟨O5,0,none⟩=some (.slice va vn vc):=Sat.cell hs5.sat 0;have HS5:=ah hs5;clear hs5 HS4;go_wp2_with (first
        | (go_at_call 29;(with_reducible refine(lk _ _).mono ?_);rintro e wx ⟨rfl,rfl⟩)
        | (go_at_call 83;(with_reducible refine(HMs2.o _ _ _ _ _ _ _ _ _ HS5.o).mono ?_);rintro e w6 ⟨C6,c6,fs,rfl,hf1,hs⟩;have HF1:=ah hf1;have HS6:=ah hs;clear hf1 hs)
        | (go_at_call 23;(with_reducible refine(HPa.o _ _ _ _ _ _ _ _ _ _ _ _ HQ1.o HF1.o HQ2.o HS6.o).mono ?_);rintro e w7 ⟨rfl,hs⟩;have HS7:=ah hs;clear hs))
       go_ret;exact⟨rfl,HFi.o _ HS7.o.drop.drop.drop.drop⟩
      .by_cases h7:dd=7
       .subst h7;have ha:=H7.o rfl;subst ha;have HTi:Hid (Calls Tryz.prog 35 #[.pointer (some ⟨b,0,none⟩)] W fun x w'=>x = .returned (.int .i64 0)/\cU w0 (Pt E 80 CS*(eL g M Ms gs*(gp kb m*F))) b d n t (k+1) 0 (Ms.length+1) M (ga Ms gs) w'):=Ks (by omega) ht HS.o;clear HS;go_wp2_with (first
         | (go_at_call 35;(with_reducible refine HTi.o.mono ?_);rintro e w3 ⟨rfl,hs⟩;have HS3:=ah hs;clear hs)
         | (go_at_call 29;(with_reducible refine(lk _ _).mono ?_);rintro e wx ⟨rfl,rfl⟩))
        go_ret;exact⟨rfl,HFin.o _ Ms gs (k+1) (by omega) HMs.o (Nat.le_refl _) (cU.G5 HS3.o.drop (by omega))⟩
       .have g1:((dd:Int)==1)=false:=by rw[beq_eq_false_iff_ne];omega
        have g2:((dd:Int)==2)=false:=by rw[beq_eq_false_iff_ne];omega
        have g3:((dd:Int)==3)=false:=by rw[beq_eq_false_iff_ne];omega
        have g4:((dd:Int)==4)=false:=by rw[beq_eq_false_iff_ne];omega
        have g5:((dd:Int)==5)=false:=by rw[beq_eq_false_iff_ne];omega
        have g6:((dd:Int)==6)=false:=by rw[beq_eq_false_iff_ne];omega
        have g7:((dd:Int)==7)=false:=by rw[beq_eq_false_iff_ne];omega
        clear h1 h2 h3 h4 h5 h6 h7;have hs3:=HS.o.map fun G hG=>hG.drew
        obtain⟨LA,lc,R,hc,hs4⟩:=(hs3.of (show _=eL g M Ms gs*(Pt E 80 CS*(gp kb m*F)) by ac_rfl)).now;have HK:Hid (∀ W,cU w0 (R*(Pt E 80 CS*(gp kb m*F))) b d n t k a (Ms.length+1) M (ga Ms gs) W->W.cell? ⟨g,0,none⟩=some (.slice LA M.length lc)/\W.cell? ⟨E,1,none⟩=some (.int .i64 xn)/\W.cell? ⟨E,3,none⟩=some (.slice kA kl.length kc)/\W.cell? ⟨E,4,none⟩=some (.slice tA tl.length tc)):=ah fun W hW=>⟨(hc _ _ hW).1,HCl.o _ _ _ hW.sat.right⟩
        have HB:Hid (∀ W,cU w0 (R*(Pt E 80 CS*(gp kb m*F))) b d n t k a (Ms.length+1) M (ga Ms gs) W->Lo w0 F b d n t (k+1) a g kb (m+1) (q+1) M W):=ah fun W hW=>HFi.o _ ((hc _ _ hW).2.of (show _=Pt E 80 CS*(eL g M Ms gs*(gp kb m*F)) by ac_rfl)).drop
        have HS4:=ah hs4;clear hs3 hc hs4 HS;go_upto_region 24 with fail;refine wp_region_held_drew (S:=fun w'=>w'.cell? ⟨g,0,none⟩=some (.slice LA M.length lc)/\w'.cell? ⟨E,1,none⟩=some (.int .i64 xn)/\w'.cell? ⟨E,3,none⟩=some (.slice kA kl.length kc)/\w'.cell? ⟨E,4,none⟩=some (.slice tA tl.length tc)) (by kernel_rfl) (HK.o _ HS4.o.drop) ?_;intro hS0;refine an 0 2 3 4 ?_;refine ct 5 6 ?_;refine b8 7 ?_;refine bB 1 fun K hK=>?_
        go_simp;go_at_call 31;refine(CX ht HS4.o).mono ?_;rintro e w1 ⟨rfl,hs⟩;have HS1:=ah hs;clear hs
        refine hK.out _ _ (HK.o _ HS1.o.drop) (fun hS0=>?_);clear hK K;refine ct 8 9 ?_;refine b8 10 ?_;refine bB 11 fun K hK=>?_
        go_simp;go_at_call 87;refine(MJ HS1.o).mono ?_;rintro e wx ⟨rfl,rfl⟩
        refine hK.out _ _ (HK.o _ HS1.o.drop) (fun hS0=>?_);clear hK K;refine ct 12 13 ?_;refine b8 14 ?_;refine wpAnyH_done (by kernel_rfl) ?_ _;go_wp2_with fail;go_ret;exact⟨rfl,HB.o _ HS1.o.drop⟩
end
def KX (M:List Kv):Prop:= ∀ p ∈ M,p.1.length<=128/\p.2.length<=200
theorem L4 {c:cw} {M:List Kv} (h:KX M) (hc:c.key.length<=128/\c.value.length<=200):KX (dH c M):=fun p hp=>by
 rcases CM hp with hp | rfl
 .exact h p hp
 .exact hc
theorem KQ: ∀ {cs:List cw} {M:List Kv},(∀ c ∈ cs,c.key.length<=128/\c.value.length<=200)->KX M->KX (aZ cs M)
 | [],M,_,h=>h
 | c::cs,M,hc,h=>KQ (cs:=cs) (M:=dH c M) (fun x hx=>hc x (List.mem_cons_of_mem _ hx)) (L4 h (hc c List.mem_cons_self))
theorem Ld: ∀ {M:List Kv},KX M->cF M<=M.length*368
 | [],_=>Nat.le_refl _
 | p::M,h=>by
  have h1:=Ld (M:=M) fun q hq=>h q (List.mem_cons_of_mem _ hq)
  have h2:=h p List.mem_cons_self;rw[LC,List.length_cons];omega
theorem La: ∀ {cs:List cw},(∀ c ∈ cs,c.key.length<=128/\c.value.length<=200)->(aE cs).length<=cs.length*332
 | [],_=>by decide
 | c::cs,h=>by
  have h1:=La (cs:=cs) fun x hx=>h x (List.mem_cons_of_mem _ hx)
  have h2:=h c List.mem_cons_self;rw[fY,List.length_append,fD,List.length_cons];omega
theorem Lr {n:Nat} {M:List Kv} {cs:List cw} (hM:KX M) (hc: ∀ c ∈ cs,c.key.length<=128/\c.value.length<=200) (hl:cs.length<=12) (hn:(n=8192/\M.length+cs.length<=960)\/(n=4096/\M.length+cs.length<=600)):eu n (aZ cs M) cs=false:=by
 have h1:=Ld (KQ hc hM);have h2:=r4 cs M;have h3:=La hc;have h4:ba (aE cs).length<=9:=by
  unfold ba;split
  .omega
  .omega
 unfold eu;rw[Bool.or_eq_false_iff,decide_eq_false_iff_not,decide_eq_false_iff_not];rcases hn with ⟨rfl,hn⟩ | ⟨rfl,hn⟩
 .have e1:aC 8192=1026:=by decide
  have e2:9<=bh 8192:=by decide
  rw[e1];have h5:(aZ cs M).length*368<=960*368:=Nat.mul_le_mul_right _ (by omega);omega
 .have e1:aC 4096=480:=by decide
  have e2:9<=bh 4096:=by decide
  rw[e1];have h5:(aZ cs M).length*368<=600*368:=Nat.mul_le_mul_right _ (by omega);omega
def ML (cs:List cw):Int:=(dm cs:Nat)
def MD (cs:List cw) (M:List Kv):List Kv:=if dm cs=0 then aZ cs M else M
theorem JS.of {n:Nat} {cs:List cw} {M M':List Kv} {er:Int} (h:JS n cs M er M') (hf:dm cs=0->eu n (aZ cs M) cs=false):er=ML cs/\M'=MD cs M:=by
 unfold ML MD;rcases h with ⟨h1,rfl,rfl⟩ | ⟨h1,h2,_⟩ | ⟨h1,_,rfl,rfl⟩
 .exact⟨rfl,by rw[if_neg h1]⟩
 .rw[hf h1] at h2;cases h2
 .exact⟨by rw[h1];rfl,by rw[if_pos h1]⟩
theorem Lu {ps:List Pu} (hk:dm ((pv ps).map Pu.bo)=0): ∀ c ∈ (pv ps).map Pu.bo,c.key.length<=128/\c.value.length<=200:=fun c hc=>by
 refine⟨((vu.1 hk).each c hc).key.2,?_⟩;obtain⟨p,hp,rfl⟩:=List.mem_map.1 hc;exact(K8 p hp).2
theorem Mt {ps:List Pu} {M:List Kv} (h:KX M):KX (MD ((pv ps).map Pu.bo) M):=by
 unfold MD;split
 .rename_i hk;exact KQ (Lu hk) h
 .exact h
def KM (s:dq):SP:=fun h=> ∃ l:List UInt8,l.length=s.2.2.length/\Row 5 1 (aJ s) s.2.2.length (l.map bv) h
def F6:List Pu->SP
 | []=>bE
 | p::ps=>Row 5 1 (aJ p.key) p.key.2.2.length (p.key.2.2.map bv)*(Row 5 1 (aJ p.value) p.value.2.2.length (p.value.2.2.map bv)*F6 ps)
def KG:List Pu->SP
 | []=>bE
 | p::ps=>KM p.key*(KM p.value*KG ps)
theorem KY (p:Pu): ∀ ps:List Pu,F6 (ps++[p])=Row 5 1 (aJ p.key) p.key.2.2.length (p.key.2.2.map bv)*(Row 5 1 (aJ p.value) p.value.2.2.length (p.value.2.2.map bv)*F6 ps)
 | []=>rfl
 | q::ps=>by
  show _*(_*F6 (ps++[p]))=_*(_*(_*(_*F6 ps)));rw[KY p ps]
  ac_rfl
theorem Lb (p:Pu): ∀ (cs bs:List Pu),KG (cs++p::bs)=KM p.key*(KM p.value*(KG cs*KG bs))
 | [],bs=>by show _=_*(_*(bE*KG bs));rw[bf];rfl
 | q::cs,bs=>by
  show _*(_*KG (cs++p::bs))=_*(_*((_*(_*KG cs))*KG bs));rw[Lb p cs bs]
  ac_rfl
section
variable {w0 w w':World} {F F' A B:SP} {b d n t k a nx g kb m q:Nat} {M N:List Kv} {olds:Int->Option (List Kv)} {Ms:List (List Kv)} {gs:List Bool} {v:Value} {ps:List Pu} {s:dq}
theorem Sat.Lt: ∀ {ps:List Pu} {F:SP},Sat w0 (F6 ps*F) w->gP w ps
 | [],F,_=>fun p hp=>by cases hp
 | p::ps,F,h=>fun x hx=>by
  have h1:=h.of (show _=Row 5 1 (aJ p.key) p.key.2.2.length (p.key.2.2.map bv)*(Row 5 1 (aJ p.value) p.value.2.2.length (p.value.2.2.map bv)*(F6 ps*F)) by show (_*(_*F6 ps))*F=_;ac_rfl);rcases List.mem_cons.1 hx with rfl | hx
  .exact⟨h1.cm,h1.right.cm⟩
  .exact Sat.Lt h1.right.right x hx
theorem Sat.MI (h:Sat w0 (Row 5 1 (aJ s) s.2.2.length (s.2.2.map bv)*F) w):Sat w0 (KM s*F) w:=h.mono fun y ⟨a,f,h2,h3,h5,h6⟩=>⟨a,f,h2,h3,⟨s.2.2,rfl,h5⟩,h6⟩
theorem Sat.MG: ∀ {ps:List Pu} {F:SP},Sat w0 (F6 ps*F) w->Sat w0 (KG ps*F) w
 | [],F,h=>h
 | p::ps,F,h=>by
  have h1:=h.of (show _=Row 5 1 (aJ p.key) p.key.2.2.length (p.key.2.2.map bv)*(Row 5 1 (aJ p.value) p.value.2.2.length (p.value.2.2.map bv)*(F6 ps*F)) by show (_*(_*F6 ps))*F=_;ac_rfl);have h2:=h1.MI.ay.MI;have h3:=(h2.of (show _=F6 ps*(KM p.value*(KM p.key*F)) by ac_rfl)).MG;exact h3.of (by show _=(_*(_*KG ps))*F;ac_rfl)
theorem Sat.Mi {i:Nat} (h:Sat w0 (KM s*F) w) (hi:i<s.2.2.length): ∃ (gb:Nat) (x:UInt8),s.1=some ⟨gb,0,none⟩/\s.2.2.length<=s.2.1/\w.cell? ⟨gb,i,none⟩=some (bv x)/\w.frozen? ⟨gb,i,none⟩=false/\ ∀ y:UInt8,Sat w0 (KM s*F) (w.setCell ⟨gb,i,none⟩ (bv y)):=by
 obtain⟨c,z,h1,a,f,h2,h3,⟨l,hl,h5⟩,h6⟩:=h;have h7:Sat w0 (Row 5 1 (aJ s) s.2.2.length (l.map bv)*F) w:=⟨c,z,h1,a,f,h2,h3,h5,h6⟩;obtain⟨sA,sc,sl⟩:=s;replace hl:l.length=sl.length:=hl;replace h7:Sat w0 (Row 5 1 (.slice sA sl.length sc) sl.length (l.map bv)*F) w:=h7;replace hi:i<sl.length:=hi;obtain⟨gb,rfl,_⟩:=h7.KV (by omega);obtain⟨_,_,e1,e2,_⟩:=h7.bm;injection e1 with _ _ e1
 have h8:=h7.jW (j:=i) (by rw[List.length_map];omega);rw[List.getElem_map] at h8;refine⟨gb,l[i]'(by omega),rfl,by show sl.length<=sc;omega,h8,h7.j6 i,fun y=>?_⟩;have h9:=h7.oP (j:=i) (bv y);have e:(l.map bv).set i (bv y)=(l.set i y).map bv:=by rw[List.map_set]
 rw[e] at h9;exact h9.mono fun y' ⟨a,f,h2,h3,h5,h6⟩=>⟨a,f,h2,h3,⟨l.set i y,by rw[List.length_set];exact hl,h5⟩,h6⟩
theorem Mx (x:UInt8):Value.int .u8 (IntKind.u8.wrap ((x.toNat:Int)+1))=bv (x+1):=by
 unfold bv;rw[IntKind.wrap_u8,UInt8.toNat_add];congr 1
theorem Mu (A:Option Addr) (c:Nat) (l:List UInt8) (hr:Rd w A l) (hl:l.length<=140737488355328) (h:cU w0 F b d n t k a nx M olds w):
 Calls Tryz.prog 46 #[.slice A l.length c] w fun e w'=> ∃ A2 c2,e = .returned (.slice A2 l.length c2)/\cU w0 (Row 5 1 (.slice A2 l.length c2) l.length (l.map bv)*F) b d n t k a nx M olds w':=by
 obtain⟨G,hG,hR⟩:=h.JY;refine(twin_any A c l w hr hl).mono ?_;rintro e w' ⟨v,rfl,h1,h2⟩;have h3:=hG.dN h2 h1;obtain⟨A2,c2,rfl,_⟩:=h3.bm;exact⟨A2,c2,rfl,hR _ _ (h3.of (by ac_rfl))⟩
theorem MM (x:JX) (h:cU w0 F b d n t k a nx M olds w) (hb: ∀ W,Sat w0 F W->aG W x.bA (x.ps.flatMap fE)) (hbc:x.ps.length<=x.bc/\x.bc<=9223372036854775807) (hsz: ∀ p ∈ x.ps,p.key.2.2.length<=p.key.2.1/\p.value.2.2.length<=p.value.2.1):
 Calls Tryz.prog 44 #[.agg (LV x)] w fun e w'=> ∃ B c,e = .returned (.agg (LV { x with bA:=B,bc:=c,ps:=pv x.ps }))/\cU w0 (Row 43 3 (.slice B (pv x.ps).length c) (pv x.ps).length ((pv x.ps).flatMap fE)*F) b d n t k a nx M olds w':=by
 obtain⟨G,hG,hR⟩:=h.JY;refine(K9 x hG (fun W hW=>hb W hW.JP) hbc hsz).mono ?_;rintro e w' ⟨B,c,rfl,hs⟩;exact⟨B,c,rfl,hR _ _ (hs.of (by ac_rfl))⟩
theorem Me (Ad:Option Addr) (c:Nat) (ps:List Pu) (h:cU w0 (eL g N Ms gs*F) b d n t k a nx M olds w) (hb: ∀ W,Sat w0 F W->aG W Ad (ps.flatMap fE)/\gP W ps) (hl:N.length+ps.length<=10000) (hz: ∀ p ∈ ps,p.key.2.2.length<=1000000/\p.value.2.2.length<=1000000):
 Calls Tryz.prog 22 #[.pointer (some ⟨g,0,none⟩),.slice Ad ps.length c] w fun x w'=>x = .returned (.int .i64 (ML (ps.map Pu.bo)))/\cU w0 (eL g (MD (ps.map Pu.bo) N) Ms gs*F) b d n t k a nx M olds w':=by
 obtain⟨G,hG,hR⟩:=h.JY;refine(yE Ad c ps (F:=F*G) (hG.of (aB _ _ _)) (fun W hW=>hb W hW.JP) hl hz).mono ?_;rintro x w' ⟨rfl,hs⟩;exact⟨rfl,hR _ _ (hs.of (by unfold MD;ac_rfl))⟩
theorem L5 (h:cU w0 (eL g N Ms gs*F) b d n t k a nx M olds w):
 Calls Tryz.prog 47 #[.pointer (some ⟨g,0,none⟩)] w fun x w'=>x = .returned (.tuple #[])/\cU w0 (eL g N [] []*F) b d n t k a nx M olds w':=by
 obtain⟨G,hG,hR⟩:=h.JY;refine(Lf (hG.of (aB _ _ _))).mono ?_;rintro x w' ⟨rfl,hs⟩;exact⟨rfl,hR _ _ (hs.of (by ac_rfl))⟩
theorem Ly {B:Option Addr} {c:Nat} {ps:List Pu} (hs:Sat w0 (Row 43 3 (.slice B ps.length c) ps.length (ps.flatMap fE)*F) w) (h0:0<ps.length): ∃ b o,B=some ⟨b,o,none⟩/\ ∀ (X:SP) (W:World),Sat w0 (Row 43 3 (.slice B ps.length c) ps.length (ps.flatMap fE)*X) W-> ∀ i (hi:i<ps.length),W.cell? ⟨b,o+i*3,none⟩=some (aJ ps[i].key)/\W.cell? ⟨b,o+i*3+1,none⟩=some (aJ ps[i].value)/\W.cell? ⟨b,o+i*3+2,none⟩=some (.bool ps[i].dead):=by
 obtain⟨b,o,rfl,_⟩:=gy hs.cm h0;refine⟨b,o,rfl,fun X W hW i hi=>?_⟩;obtain⟨b',o',e,h1⟩:=gy hW.cm h0;injection e with e
 injection e with e1 e2
 subst e1;subst e2;exact h1 i hi
theorem LP {cp cs:List Pu} {j:Nat} (hj:j<cp.length) (h:cs.map Pu.bo=(cp.take j).map Pu.bo) {p:Pu} (hp:p.bo=cp[j].bo):(cs++[p]).map Pu.bo=(cp.take (j+1)).map Pu.bo:=by
 rw[List.map_append,h,List.take_add_one,List.getElem?_eq_getElem hj,List.map_append];show _++[p.bo]=_++[cp[j].bo];rw[hp]
theorem Mf {A:Option Addr} {l:List JX} (h:aG w A (l.flatMap KR)) {i:Nat} (hi:i<l.length): ∃ b o,A=some ⟨b,o,none⟩/\w.cell? ⟨b,o+i*8,none⟩=some (.int .i64 l[i].op)/\w.cell? ⟨b,o+i*8+1,none⟩=some (.int .i64 l[i].n)/\w.cell? ⟨b,o+i*8+2,none⟩=some (.slice l[i].bA l[i].ps.length l[i].bc)/\w.cell? ⟨b,o+i*8+3,none⟩=some (aJ l[i].key)/\w.cell? ⟨b,o+i*8+4,none⟩=some (aJ l[i].too)/\w.cell? ⟨b,o+i*8+5,none⟩=some (.slice l[i].kA l[i].keep.length l[i].kc)/\w.cell? ⟨b,o+i*8+6,none⟩=some (.int .i64 l[i].torn)/\w.cell? ⟨b,o+i*8+7,none⟩=some (.int .i64 l[i].cut):=by
 obtain⟨b,o,rfl,hc⟩:=aG.elem (f:=KR) (k:=8) (fun _=>rfl) (by decide) h hi;refine⟨b,o,rfl,by simpa [KR] using hc 0 (by decide),?_,?_,?_,?_,?_,?_,?_⟩
 .have:=hc 1 (by decide);rw[<-Nat.add_assoc] at this;simpa [KR] using this
 .have:=hc 2 (by decide);rw[<-Nat.add_assoc] at this;simpa [KR] using this
 .have:=hc 3 (by decide);rw[<-Nat.add_assoc] at this;simpa [KR] using this
 .have:=hc 4 (by decide);rw[<-Nat.add_assoc] at this;simpa [KR] using this
 .have:=hc 5 (by decide);rw[<-Nat.add_assoc] at this;simpa [KR] using this
 .have:=hc 6 (by decide);rw[<-Nat.add_assoc] at this;simpa [KR] using this
 .have:=hc 7 (by decide);rw[<-Nat.add_assoc] at this;simpa [KR] using this
theorem Lk {ps:List Pu} {j:Nat} (hj:j<ps.length):KG ps=KM ps[j].key*(KM ps[j].value*(KG (ps.take j)*KG (ps.drop (j+1)))):=by
 have e:ps=ps.take j++ps[j]::ps.drop (j+1):=by rw[<-List.drop_eq_getElem_cons hj,List.take_append_drop]
 have h1:=Lb ps[j] (ps.take j) (ps.drop (j+1));rw[<-e] at h1;exact h1
theorem Ll {RL Y X:SP} (h:cU w0 (RL*(KG ps*Y)) b d n t k a nx M olds w) (s:dq) (hX:KG ps=KM s*X) {i:Nat} (hi:i<s.2.2.length): ∃ (gb:Nat) (x:UInt8),s.1=some ⟨gb,0,none⟩/\w.cell? ⟨gb,i,none⟩=some (.int .u8 (x.toNat:Int))/\w.frozen? ⟨gb,i,none⟩=false/\cU w0 (RL*(KG ps*Y)) b d n t k a nx M olds (w.setCell ⟨gb,i,none⟩ (.int .u8 (IntKind.u8.wrap ((x.toNat:Int)+1)))):=by
 obtain⟨G,hG,hR⟩:=h.JY;obtain⟨gb,x,h1,h2,h3,h4,h5⟩:=(hG.of (show _=KM s*(X*(RL*(Y*G))) by rw[hX];ac_rfl)).Mi hi;exact⟨gb,x,h1,h3,h4,by rw[Mx];exact hR _ _ ((h5 (x+1)).of (by rw[hX];ac_rfl))⟩
theorem Lo.emp {g kb m q:Nat} (h:Lo w0 F b d n t k a g kb m q M w):Lo w0 bE b d n t k a g kb m q M w:=by
 obtain⟨Ms,gs,h1,h2,h3⟩:=h;exact⟨Ms,gs,h1,h2,((h3.of (show _=F*(eL g M Ms gs*gp kb m) by ac_rfl)).drop).of (by rw[iU])⟩
theorem Lo.mono {g kb m q t' k' m' q':Nat} (h:Lo w0 F b d n t k a g kb m q M w) (ht:t<=t') (hk:k<=k') (hm:m<=m') (hq:q<=q'):Lo w0 F b d n t' k' a g kb m' q' M w:=by
 obtain⟨Ms,gs,h1,h2,h3⟩:=h;exact⟨Ms,gs,by omega,h2,cU.G5 (h3.mono ht hk) hm⟩
theorem Lj:ga [] []=fun _=>none:=by
 funext j
 unfold ga;rw[if_neg];rintro ⟨_,h⟩
 cases h
end
end Go.Proofs.YtmbaiglpgaoogaaGreat
