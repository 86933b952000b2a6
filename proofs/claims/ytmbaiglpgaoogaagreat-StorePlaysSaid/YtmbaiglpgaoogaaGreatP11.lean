/- Joined, as they were built one by one: StAsk StPlL. -/
import Derived.Test.YtmbaiglpgaoogaaGreatW02
import Derived.Test.YtmbaiglpgaoogaaGreatW33
import Derived.Test.YtmbaiglpgaoogaaGreatP01
import Derived.Test.YtmbaiglpgaoogaaGreatP02
import Derived.Test.YtmbaiglpgaoogaaGreatP03
import Derived.Test.YtmbaiglpgaoogaaGreatP04
import Derived.Test.YtmbaiglpgaoogaaGreatP05
import Derived.Test.YtmbaiglpgaoogaaGreatP06
import Derived.Test.YtmbaiglpgaoogaaGreatP07
import Derived.Test.YtmbaiglpgaoogaaGreatP08
import Derived.Test.YtmbaiglpgaoogaaGreatP09
import Derived.Test.YtmbaiglpgaoogaaGreatP10
set_option maxHeartbeats 16000000
set_option linter.unusedVariables false
set_option maxRecDepth 100000
namespace Go.Proofs.YtmbaiglpgaoogaaGreat
open Go.RowKit Z
def Mt (w0:World) (F:SP) (b d n t k a g kb m q:Nat) (M:List Kv) (w:World):Prop:=
 ∃ Ms gs,Ms.length<=q/\(∀ N ∈ Ms,N.length<=2000)/\cX w0 (eN g M Ms gs*(Lv kb m*F)) b d n t k a (Ms.length+1) M (Lu Ms gs) w
section
variable {w0 w w':World} {F F' A B:SP} {b d n t k a nx g kb m q:Nat} {M N:List Kv} {olds:Int->Option (List Kv)} {Ms:List (List Kv)} {gs:List Bool} {v:Value}
theorem cX.Lz {m':Nat} (h:cX w0 (A*(Lv kb m*F)) b d n t k a nx M olds w) (hm:m<=m'):cX w0 (A*(Lv kb m'*F)) b d n t k a nx M olds w:=h.map fun G hG=>by
 obtain⟨es,he,h1⟩:=(hG.of (show _=Lv kb m*(G*(A*F)) by ac_rfl)).NM;exact(h1.Nx (m:=m') (by omega)).of (by ac_rfl)
theorem MB {i:Int} (h: ∀ N ∈ Ms,N.length<=2000):((Lu Ms gs i).getD []).length<=2000:=by
 unfold Lu;split
 .cases h1:Ms[(i - 1).toNat]? with
  | none=>exact Nat.zero_le _
  | some N=>exact h N (List.mem_of_getElem? h1)
 .exact Nat.zero_le _
theorem Ni (x:K5) (h:Mt w0 F b d n t k a g kb m q M w) (hk:k<=9000) (ht:t<=1024) (hm:m<400) (hq:q<=1000) (hxn: -9223372036854775808<=x.n/\x.n<=9223372036854775807)
 (hr: ∀ W,Sat w0 F W->Rd W x.key.1 x.key.2.2/\Rd W x.too.1 x.too.2.2) (h7:wi x.op 10=7->a=0):
 Calls Tryz.prog 48 #[.pointer (some ⟨b,0,none⟩),.pointer (some ⟨g,0,none⟩),.agg (M3 x),.pointer (some ⟨kb,0,none⟩)] w fun e w'=>e = .returned (.bool true)/\Mt w0 F b d n t (k+1) a g kb (m+1) (q+1) M w':=by
 obtain⟨Ms,gs,hM1,hM2,h0⟩:=h;obtain⟨op,xn,bA,bc,ps,⟨kA,kc,kl⟩,⟨tA,tc,tl⟩,Lt,ec,kp,torn,cut⟩:=x;have hpr:=h0.gW;have hgl:=h0.Nk;obtain⟨CS,hCS⟩: ∃ CS:Array Value,CS = #[.int .i64 op,.int .i64 xn,.slice bA ps.length bc,.slice kA kl.length kc,.slice tA tl.length tc,.slice Lt kp.length ec,.int .i64 torn,.int .i64 cut]:=⟨_,rfl⟩;have HFin:Hid (∀ W Ms' gs' k',Ms'.length<=q+1->(∀ N ∈ Ms',N.length<=2000)->k'<=k+1->cX w0 (eN g M Ms' gs'*(Lv kb (m+1)*F)) b d n t k' a (Ms'.length+1) M (Lu Ms' gs') W->Mt w0 F b d n t (k+1) a g kb (m+1) (q+1) M W):=ah fun W Ms' gs' k' h1 h2 h3 h4=>⟨Ms',gs',h1,h2,h4.mono (Nat.le_refl _) h3⟩
 have HFi:Hid (∀ W,cX w0 (eN g M Ms gs*(Lv kb m*F)) b d n t k a (Ms.length+1) M (Lu Ms gs) W->Mt w0 F b d n t (k+1) a g kb (m+1) (q+1) M W):=ah fun W h4=>HFin.o W Ms gs k (by omega) hM2 (by omega) (cX.Lz h4 (by omega))
 have h1:cX w0 (Pt w.heap.size 80 CS*(eN g M Ms gs*(Lv kb m*F))) b d n t k a (Ms.length+1) M (Lu Ms gs) (w.alloc (.cells CS 80)):=h0.Ls (.cells CS 80);have HMs:=ah hM2;have HPr:=ah hpr;have HGl:=ah hgl;have HRd:Hid (∀ W,Sat w0 F W->Rd W kA kl/\Rd W tA tl):=ah hr;have HMl:Hid (M.length<=1024):=ah (by have:=hpr.2.1;omega);have HC0:Hid (∀ E W,Sat w0 (Pt E 80 CS*(eN g M Ms gs*(Lv kb m*F))) W->W.cell? ⟨E,0,none⟩=some (.int .i64 op)):=ah fun E W hW=>by rw[hW.cell 0,hCS];rfl
 have HCl:Hid (∀ E X W,Sat w0 (Pt E 80 CS*X) W->W.cell? ⟨E,1,none⟩=some (.int .i64 xn)/\W.cell? ⟨E,3,none⟩=some (.slice kA kl.length kc)/\W.cell? ⟨E,4,none⟩=some (.slice tA tl.length tc)):=ah fun E X W hW=>⟨by rw[hW.cell 1,hCS];rfl,by rw[hW.cell 3,hCS];rfl,by rw[hW.cell 4,hCS];rfl⟩
 replace hxn: -9223372036854775808<=xn/\xn<=9223372036854775807:=hxn;have H7:Hid (wi op 10=7->a=0):=ah h7;have HWi:=ah (JL op 10 (by omega));clear h0 hpr hr h7 hgl;show Calls Tryz.prog 48 #[.pointer (some ⟨b,0,none⟩),.pointer (some ⟨g,0,none⟩),.agg #[.int .i64 op,.int .i64 xn,.slice bA ps.length bc,.slice kA kl.length kc,.slice tA tl.length tc,.slice Lt kp.length ec,.int .i64 torn,.int .i64 cut],.pointer (some ⟨kb,0,none⟩)] w _;go_enter Tryz.func48, Tryz.ntmps48;go_upto_region 1 with fail;rw[<-hCS];revert h1;generalize w.alloc _=W;intro h1;generalize w.heap.size=E at*
 have x0:=HC0.o _ _ h1.sat;have HS:=ah h1;clear h1 hCS HC0;go_upto_region 2 with (go_at_call 27;(with_reducible refine(H8 _ 10 _ (by omega) (by omega)).mono ?_);rintro e wx ⟨rfl,rfl⟩)
 have hwi:=HWi.o;generalize wi op 10=dd at*
 clear x0 HWi;by_cases h1:dd=1
 .subst h1;have hs1:=HS.o;have c3:=(HCl.o _ _ _ hs1.sat).2.1;obtain⟨L,hL⟩: ∃ L,L=(bI kl M).getD []:=⟨_,rfl⟩;obtain⟨bo,hbo⟩: ∃ bo,bo=(bI kl M).isSome:=⟨_,rfl⟩;have hLl:L.length<=20000:=by
   rw[hL]
   cases hg:bI kl M with
   | none=>exact Nat.zero_le _
   | some z=>exact(HPr.o.2.2 _ (L6 hg)).2
  have HGe:Hid (Calls Tryz.prog 32 #[.pointer (some ⟨b,0,none⟩),.slice kA kl.length kc] W fun e w'=> ∃ A c,e = .returned (.tuple #[.slice A L.length c,.bool bo])/\cX w0 (Row 5 1 (.slice A L.length c) L.length (L.map bv)*(Pt E 80 CS*(eN g M Ms gs*(Lv kb m*F)))) b d n t k a (Ms.length+1) M (Lu Ms gs) w'):=ah (by
   have h9:=JG (kA,kc,kl) (HRd.o _ hs1.sat.right.right.right).1 ht hs1;rw[<-hL, <-hbo] at h9;exact h9)
  have HL:=ah hL;have HBo:=ah hbo;clear hs1 hL hbo;go_upto_region 4 with (go_at_call 32;(with_reducible refine HGe.o.mono ?_);rintro e w3 ⟨A3,c3',rfl,hs⟩;have HS3:=ah hs;clear hs)
  clear c3 HGe HS;have hs3:=HS3.o.map fun G hG=>hG.drew
  obtain⟨LA,lc,R,hc,hs4⟩:=(hs3.of (show _=eN g M Ms gs*(Pt E 80 CS*(Row 5 1 (.slice A3 L.length c3') L.length (L.map bv)*(Lv kb m*F))) by ac_rfl)).now;have HK:Hid (∀ W,cX w0 (R*(Pt E 80 CS*(Row 5 1 (.slice A3 L.length c3') L.length (L.map bv)*(Lv kb m*F)))) b d n t k a (Ms.length+1) M (Lu Ms gs) W->W.cell? ⟨g,0,none⟩=some (.slice LA M.length lc)/\W.cell? ⟨E,3,none⟩=some (.slice kA kl.length kc)):=ah fun W hW=>⟨(hc _ _ hW).1,(HCl.o _ _ _ hW.sat.right).2.1⟩
  have HK2:=ah hc;have HMg:Hid (Calls Tryz.prog 81 #[.agg #[.slice LA M.length lc],.slice kA kl.length kc] w3.drew fun e w'=> ∃ A c,e = .returned (.tuple #[.slice A L.length c,.bool bo])/\cX w0 (cd [(A,c,L)]*(R*(Pt E 80 CS*(Row 5 1 (.slice A3 L.length c3') L.length (L.map bv)*(Lv kb m*F))))) b d n t k a (Ms.length+1) M (Lu Ms gs) w'):=ah ((Nt (kA,kc,kl) (fun W hW=>(HRd.o _ hW.right.right.right.right).1) hs4 (by have:=HMl.o;omega)).mono (by
   rintro e w' ⟨A,c,rfl,h8,h9⟩;refine⟨A,c,?_,?_⟩
   .rw[HL.o,HBo.o]
   .have h10:=(h9.of (show _=qB (.slice LA M.length lc) M*(cd [(A,c,(bI kl M).getD [])]*_) from aX _ _ _)).drop;rw[<-HL.o] at h10;exact h10))
  have HS4:=ah hs4.drop;clear hs3 hc hs4 HS3;refine wp_region_held_drew (S:=fun w'=>w'.cell? ⟨g,0,none⟩=some (.slice LA M.length lc)/\w'.cell? ⟨E,3,none⟩=some (.slice kA kl.length kc)) (by kernel_rfl) (HK.o _ HS4.o) ?_;intro hS0;refine an 0 1 2 3 ?_;refine cw 4 5 ?_;refine bC 6 fun K hK=>?_
  go_simp;go_at_call 81;(with_reducible refine HMg.o.mono ?_);rintro e w6 ⟨A6,c6,rfl,hs⟩;have HS6:=ah hs;clear hs
  refine hK.out _ _ (HK.o _ HS6.o.drop) (fun hS0=>?_);clear hK K;refine an 7 8 9 10 ?_;refine ca 11 ?_;refine wpAnyH_done (by kernel_rfl) ?_ _;have hs6:=HS6.o.of (show _=Row 5 1 (.slice A3 L.length c3') L.length (L.map bv)*(Lv kb m*(cd [(A6,c6,L)]*(R*(Pt E 80 CS*F)))) by ac_rfl);have HBy:Hid (Calls Tryz.prog 82 #[.pointer (some ⟨kb,0,none⟩),.slice A3 L.length c3'] w6 fun e w'=>e = .returned (.tuple #[])/\Rd w' A3 L/\cX w0 (Lv kb (m+1)*(cd [(A6,c6,L)]*(R*(Pt E 80 CS*F)))) b d n t k a (Ms.length+1) M (Lu Ms gs) w'):=Mm (A3,c3',L) hs6 hm (by show L.length<=_;omega);clear hs6 HS4 HMg HS6;go_upto_region 6 with (go_at_call 82;(with_reducible refine HBy.o.mono ?_);rintro e w7 ⟨rfl,hrd,hs⟩;have HR7:=ah hrd;have HS7:=ah hs;clear hrd hs)
  clear HBy;have HSa:Hid (Calls Tryz.prog 36 #[.slice A3 L.length c3',.slice A6 L.length c6] w7 fun x w'=>x = .returned (.bool true)/\w7=w'):=ah (by
   have h9:=LZ A3 A6 c3' c6 L L w7 HR7.o (HS7.o.sat.right.F4 (List.mem_singleton_self _));rw[decide_eq_true rfl] at h9;exact h9)
  have HS8:Hid (Mt w0 F b d n t (k+1) a g kb (m+1) (q+1) M w7):=ah (by
   have h9:=(HK2.o _ _ (HS7.o.of (show _=R*(cd [(A6,c6,L)]*(Pt E 80 CS*(Lv kb (m+1)*F))) by ac_rfl))).2;exact HFin.o _ Ms gs k (by omega) HMs.o (by omega) (h9.of (show _=cd [(A6,c6,L)]*(Pt E 80 CS*(eN g M Ms gs*(Lv kb (m+1)*F))) by ac_rfl)).drop.drop)
  clear HS7 HR7;go_wp2_with (go_at_call 36;(with_reducible refine HSa.o.mono ?_);rintro e wx ⟨rfl,rfl⟩);go_ret;exact⟨rfl,HS8.o⟩
 .by_cases h2:dd=2
  .subst h2;have hs3:=HS.o.map fun G hG=>hG.drew
   obtain⟨LA,lc,R,hc,hs4⟩:=(hs3.of (show _=eN g M Ms gs*(Pt E 80 CS*(Lv kb m*F)) by ac_rfl)).now;have HK:Hid (∀ W,cX w0 (R*(Pt E 80 CS*(Lv kb m*F))) b d n t k a (Ms.length+1) M (Lu Ms gs) W->W.cell? ⟨g,0,none⟩=some (.slice LA M.length lc)/\W.cell? ⟨E,1,none⟩=some (.int .i64 xn)/\W.cell? ⟨E,3,none⟩=some (.slice kA kl.length kc)/\W.cell? ⟨E,4,none⟩=some (.slice tA tl.length tc)):=ah fun W hW=>⟨(hc _ _ hW).1,HCl.o _ _ _ hW.sat.right⟩
   have HB:Hid (∀ W,cX w0 (R*(Pt E 80 CS*(Lv kb m*F))) b d n t k a (Ms.length+1) M (Lu Ms gs) W->Mt w0 F b d n t (k+1) a g kb (m+1) (q+1) M W):=ah fun W hW=>HFi.o _ ((hc _ _ hW).2.of (show _=Pt E 80 CS*(eN g M Ms gs*(Lv kb m*F)) by ac_rfl)).drop
   have HS4:=ah hs4;obtain⟨MS,hMS⟩: ∃ MS,MS=(oJ kl tl M).take xn.toNat:=⟨_,rfl⟩;have hMl2:MS.length<=1024:=by
    rw[hMS,List.length_take];have h9:(oJ kl tl M).length<=M.length:=List.length_filter_le _ _;have:=HMl.o;omega
   have HSc:Hid (Calls Tryz.prog 24 #[.pointer (some ⟨b,0,none⟩),.slice kA kl.length kc,.slice tA tl.length tc,.int .i64 xn] W.drew fun x w'=> ∃ (B:Option Addr) (c:Nat) (qs es:List En),x = .returned (.slice B qs.length c)/\aY qs=MS/\(∀ z ∈ qs,z ∈ es)/\qs.length<=c/\cX w0 (CL B c qs es*(qB (.slice LA M.length lc) M*(R*(Pt E 80 CS*(Lv kb m*F))))) b d n t k a (Ms.length+1) M (Lu Ms gs) w'):=IK (kA,kc,kl) (tA,tc,tl) xn MS hMS.symm (HRd.o _ hs4.sat.right.right.right.right).1 (HRd.o _ hs4.sat.right.right.right.right).2 ht hs4;have HSm:Hid (∀ B c qs es W,cX w0 (CL B c qs es*(qB (.slice LA M.length lc) M*(R*(Pt E 80 CS*(Lv kb m*F))))) b d n t k a (Ms.length+1) M (Lu Ms gs) W->Calls Tryz.prog 83 #[.agg #[.slice LA M.length lc],.slice kA kl.length kc,.slice tA tl.length tc,.int .i64 xn] W fun x w'=> ∃ (C:Option Addr) (c2:Nat) (fs:List En),x = .returned (.slice C fs.length c2)/\aY fs=MS/\cX w0 (fw (.slice C fs.length c2) fs*(qB (.slice LA M.length lc) M*(CL B c qs es*(R*(Pt E 80 CS*(Lv kb m*F)))))) b d n t k a (Ms.length+1) M (Lu Ms gs) w'):=ah fun B c qs es W hW=>by
    rw[hMS];exact MV (kA,kc,kl) (tA,tc,tl) xn (fun W hW=>HRd.o _ hW.right.right.right.right) (hW.of (aX _ _ _)) (by have:=HMl.o;omega)
   have HPa:Hid (∀ B c qs es C c2 fs W,aY qs=MS->aY fs=MS->(∀ z ∈ qs,z ∈ es)->cX w0 (fw (.slice C fs.length c2) fs*(qB (.slice LA M.length lc) M*(CL B c qs es*(R*(Pt E 80 CS*(Lv kb m*F)))))) b d n t k a (Ms.length+1) M (Lu Ms gs) W->Calls Tryz.prog 23 #[.slice B qs.length c,.slice C fs.length c2] W fun x w'=>x = .returned (.bool true)/\cX w0 (fw (.slice C fs.length c2) fs*(qB (.slice LA M.length lc) M*(CL B c qs es*(R*(Pt E 80 CS*(Lv kb m*F)))))) b d n t k a (Ms.length+1) M (Lu Ms gs) w'):=ah fun B c qs es C c2 fs W e1 e2 e3 hW=>xZ (IZ e3).left.left Hk (e1.trans e2.symm) (by have h4:=congrArg List.length e1;rw[bX] at h4;omega) hW
   clear hs3 hc hs4 HS hMS;go_upto_region 8 with fail;refine wp_region_held_drew (S:=fun w'=>w'.cell? ⟨g,0,none⟩=some (.slice LA M.length lc)/\w'.cell? ⟨E,1,none⟩=some (.int .i64 xn)/\w'.cell? ⟨E,3,none⟩=some (.slice kA kl.length kc)/\w'.cell? ⟨E,4,none⟩=some (.slice tA tl.length tc)) (by kernel_rfl) (HK.o _ HS4.o.drop) ?_;intro hS0;refine an 0 1 2 3 ?_;refine an 4 5 6 8 ?_;refine an 9 10 11 12 ?_;refine an 13 14 15 16 ?_;refine ca 17 ?_;refine bC 7 fun K hK=>?_
   go_simp;go_at_call 24;(with_reducible refine HSc.o.mono ?_);rintro e w7 ⟨B7,c7,qs,es7,rfl,hq1,hq2,_,hs⟩;have HQ1:=ah hq1;have HQ2:=ah hq2;have HS7:=ah hs;clear hq1 hq2 hs
   refine hK.out _ _ (HK.o _ HS7.o.drop.drop) (fun hS0=>?_);clear hK K;refine bC 18 fun K hK=>?_
   go_simp;go_at_call 83;(with_reducible refine(HSm.o _ _ _ _ _ HS7.o).mono ?_);rintro e w18 ⟨C8,c8,fs,rfl,hf1,hs⟩;have HF1:=ah hf1;have HS18:=ah hs;clear hf1 hs
   refine hK.out _ _ (HK.o _ HS18.o.drop.drop.drop) (fun hS0=>?_);clear hK K;refine bC 19 fun K hK=>?_
   go_simp;go_at_call 23;(with_reducible refine(HPa.o _ _ _ _ _ _ _ _ HQ1.o HF1.o HQ2.o HS18.o).mono ?_);rintro e w19 ⟨rfl,hs⟩;have HS19:=ah hs;clear hs
   refine hK.out _ _ (HK.o _ HS19.o.drop.drop.drop) (fun hS0=>?_);clear hK K;refine ca 20 ?_;refine wpAnyH_done (by kernel_rfl) ?_ _;go_wp2_with fail;go_ret;exact⟨rfl,HB.o _ HS19.o.drop.drop.drop⟩
  .by_cases h3:dd=3
   .subst h3;have HSn:Hid (Calls Tryz.prog 41 #[.pointer (some ⟨b,0,none⟩)] W fun x w'=>x = .returned (.int .i64 (Ms.length+1:Nat))/\cX w0 (Pt E 80 CS*(eN g M Ms gs*(Lv kb m*F))) b d n t (k+1) a (Ms.length+1+1) M (Lu (Ms++[M]) (gs++[false])) w'):=ah (by
     have h9:=JE (by omega) HS.o;rw[MR M HGl.o] at h9;exact h9)
    have HSr:Hid (∀ W,cX w0 (Pt E 80 CS*(eN g M Ms gs*(Lv kb m*F))) b d n t (k+1) a (Ms.length+1+1) M (Lu (Ms++[M]) (gs++[false])) W->Calls Tryz.prog 84 #[.pointer (some ⟨g,0,none⟩)] W fun x w'=>x = .returned (.int .i64 (Ms.length+1:Nat))/\cX w0 (eN g M (Ms++[M]) (gs++[false])*(Pt E 80 CS*(Lv kb m*F))) b d n t (k+1) a (Ms.length+1+1) M (Lu (Ms++[M]) (gs++[false])) w'):=ah fun W hW=>NB (hW.of (aX _ _ _)) (by have:=HMl.o;omega) (by omega)
    clear HS;go_wp2_with (first
     | (go_at_call 41;(with_reducible refine HSn.o.mono ?_);rintro e w3 ⟨rfl,hs⟩;have HS3:=ah hs;clear hs)
     | (go_at_call 84;(with_reducible refine(HSr.o _ HS3.o).mono ?_);rintro e w4 ⟨rfl,hs⟩;have HS4:=ah hs;clear hs))
    go_ret;refine⟨rfl,HFin.o _ (Ms++[M]) (gs++[false]) (k+1) (by rw[List.length_append,List.length_singleton];omega) (fun N hN=>?_) (Nat.le_refl _) ?_⟩
    .rcases List.mem_append.1 hN with hN | hN
     .exact HMs.o N hN
     .rw[List.mem_singleton.1 hN];have:=HMl.o;omega
    .rw[List.length_append,List.length_singleton];exact(cX.Lz (HS4.o.of (show _=Pt E 80 CS*(eN g M (Ms++[M]) (gs++[false])*(Lv kb m*F)) by ac_rfl)).drop (by omega))
   .by_cases h4:dd=4
    .subst h4;obtain⟨er,her⟩: ∃ er:Int,(if (Lu Ms gs xn).isSome=true then (0:Int) else 104)=er:=⟨_,rfl⟩;obtain⟨gs',hgs'⟩: ∃ gs',gs'=(if (Lu Ms gs xn).isSome=true then gs.set (xn - 1).toNat true else gs):=⟨_,rfl⟩;have hsd:=HS.o.map fun G hG=>hG.drew
     have HDs:Hid (Calls Tryz.prog 43 #[.pointer (some ⟨b,0,none⟩),.int .i64 xn] W.drew fun x w'=>x = .returned (.int .i64 er)/\cX w0 (Pt E 80 CS*(eN g M Ms gs*(Lv kb m*F))) b d n t k a (Ms.length+1) M (Lu Ms gs') w'):=ah (by
      have h9:=NH xn hxn hsd;rw[MH xn HGl.o,her, <-hgs'] at h9;exact h9)
     have HDr:Hid (∀ W,cX w0 (Pt E 80 CS*(eN g M Ms gs*(Lv kb m*F))) b d n t k a (Ms.length+1) M (Lu Ms gs') W->Calls Tryz.prog 85 #[.pointer (some ⟨g,0,none⟩),.int .i64 xn] W fun x w'=>x = .returned (.int .i64 er)/\cX w0 (eN g M Ms gs'*(Pt E 80 CS*(Lv kb m*F))) b d n t k a (Ms.length+1) M (Lu Ms gs') w'):=ah fun W hW=>by
      have h9:=Nz xn hxn (hW.of (aX _ _ _)) (by omega);rw[her, <-hgs'] at h9;exact h9
     have HSd:=ah hsd;clear hsd her hgs' HS;go_upto_region 12 with fail;refine wp_region_held_drew (S:=fun w'=>w'.cell? ⟨E,1,none⟩=some (.int .i64 xn)) (by kernel_rfl) ((HCl.o _ _ _ HSd.o.sat).1) ?_;intro hS0;refine an 0 1 2 5 ?_;refine cw 6 7 ?_;refine bC 3 fun K hK=>?_
     go_simp;go_at_call 43;(with_reducible refine HDs.o.mono ?_);rintro e w3 ⟨rfl,hs⟩;have HS3:=ah hs;clear hs
     refine hK.out _ _ ((HCl.o _ _ _ HS3.o.sat).1) (fun hS0=>?_);clear hK K;refine bC 4 fun K hK=>?_
     go_simp;go_at_call 29;(with_reducible refine(kY _ _).mono ?_);rintro e wx ⟨rfl,rfl⟩
     refine hK.out _ _ ((HCl.o _ _ _ HS3.o.sat).1) (fun hS0=>?_);clear hK K;refine bC 8 fun K hK=>?_
     go_simp;go_at_call 85;(with_reducible refine(HDr.o _ HS3.o).mono ?_);rintro e w8 ⟨rfl,hs⟩;have HS8:=ah hs;clear hs
     refine hK.out _ _ ((HCl.o _ _ _ HS8.o.sat.right).1) (fun hS0=>?_);clear hK K;refine cw 9 10 ?_;refine wpAnyH_done (by kernel_rfl) ?_ _;go_wp2_with fail;go_ret;exact⟨rfl,HFin.o _ Ms gs' k (by omega) HMs.o (by omega) (cX.Lz (HS8.o.of (show _=Pt E 80 CS*(eN g M Ms gs'*(Lv kb m*F)) by ac_rfl)).drop (by omega))⟩
    .by_cases h5:dd=5
     .subst h5;have hs1:=HS.o;have c3:=(HCl.o _ _ _ hs1.sat).2.1;have c1:=(HCl.o _ _ _ hs1.sat).1;obtain⟨er,her⟩: ∃ er:Int,(if (Lu Ms gs xn).isSome=true then (0:Int) else 104)=er:=⟨_,rfl⟩;obtain⟨z,hz⟩: ∃ z,z=(Lu Ms gs xn).bind (bI kl):=⟨_,rfl⟩;obtain⟨L,hL⟩: ∃ L,L=z.getD []:=⟨_,rfl⟩;obtain⟨bo,hbo⟩: ∃ bo,bo=z.isSome:=⟨_,rfl⟩;have HGe:Hid (Calls Tryz.prog 42 #[.pointer (some ⟨b,0,none⟩),.int .i64 xn,.slice kA kl.length kc] W fun e w'=> ∃ A c,e = .returned (.tuple #[.slice A L.length c,.bool bo,.int .i64 er])/\cX w0 (Row 5 1 (.slice A L.length c) L.length (L.map bv)*(Pt E 80 CS*(eN g M Ms gs*(Lv kb m*F)))) b d n t k a (Ms.length+1) M (Lu Ms gs) w'):=ah (by
       have h9:=I3 xn (kA,kc,kl) hxn (HRd.o _ hs1.sat.right.right.right).1 ht hs1 z er (by
        rw[hz, <-her]
        cases Lu Ms gs xn with
        | none=>exact .inl ⟨rfl,rfl,rfl⟩
        | some Mo=>exact .inr ⟨Mo,rfl,rfl,rfl⟩)
       rw[<-hL, <-hbo] at h9;exact h9)
      have HAt:Hid (∀ A c W,cX w0 (Row 5 1 (.slice A L.length c) L.length (L.map bv)*(Pt E 80 CS*(eN g M Ms gs*(Lv kb m*F)))) b d n t k a (Ms.length+1) M (Lu Ms gs) W->Calls Tryz.prog 86 #[.pointer (some ⟨g,0,none⟩),.int .i64 xn] W fun x w'=> ∃ va vn vc,x = .returned (.tuple #[.agg #[.slice va vn vc],.int .i64 er])/\cX w0 (qB (.slice va vn vc) ((Lu Ms gs xn).getD [])*(eN g M Ms gs*(Row 5 1 (.slice A L.length c) L.length (L.map bv)*(Pt E 80 CS*(Lv kb m*F))))) b d n t k a (Ms.length+1) M (Lu Ms gs) w'):=ah fun A c W hW=>by
       have h9:=NG xn hxn (hW.of (show _=eN g M Ms gs*(Row 5 1 (.slice A L.length c) L.length (L.map bv)*(Pt E 80 CS*(Lv kb m*F))) by ac_rfl)) (by omega);rw[her] at h9;exact h9
      have HMg:Hid (∀ A c va vn vc o W,cX w0 (Ow o (.cells #[.slice va vn vc] 32)*(qB (.slice va vn vc) ((Lu Ms gs xn).getD [])*(eN g M Ms gs*(Row 5 1 (.slice A L.length c) L.length (L.map bv)*(Pt E 80 CS*(Lv kb m*F)))))) b d n t k a (Ms.length+1) M (Lu Ms gs) W->Calls Tryz.prog 81 #[.agg #[.slice va vn vc],.slice kA kl.length kc] W fun x w'=> ∃ A2 c2,x = .returned (.tuple #[.slice A2 L.length c2,.bool bo])/\Rd w' A2 L/\cX w0 (Row 5 1 (.slice A L.length c) L.length (L.map bv)*(Pt E 80 CS*(eN g M Ms gs*(Lv kb m*F)))) b d n t k a (Ms.length+1) M (Lu Ms gs) w'):=ah fun A c va vn vc o W hW=>by
       refine(Nt (kA,kc,kl) (fun W hW=>(HRd.o _ hW.right.right.right.right).1) hW.drop (by have:=MB (Ms:=Ms) (gs:=gs) (i:=xn) HMs.o;omega)).mono ?_;rintro e w' ⟨A2,c2,rfl,h8,h9⟩;have e1:bI kl ((Lu Ms gs xn).getD [])=z:=by rw[MZ,hz]
       rw[show (kA,kc,kl).2.2=kl from rfl,e1, <-hL] at h8;refine⟨A2,c2,?_,h8,?_⟩
       .rw[show (kA,kc,kl).2.2=kl from rfl,e1, <-hL, <-hbo]
       .exact h9.drop.drop.of (by ac_rfl)
      clear hs1 hL hbo hz her;go_upto_region 15 with (go_at_call 42;(with_reducible refine HGe.o.mono ?_);rintro e w3 ⟨A3,c3',rfl,hs⟩;have HS3:=ah hs;clear hs)
      clear c3 c1 HGe HS;have c1:=(HCl.o _ _ _ HS3.o.sat.right).1;go_upto_region 16 with (go_at_call 86;(with_reducible refine(HAt.o _ _ _ HS3.o).mono ?_);rintro e w4 ⟨va,vn,vc,rfl,hs⟩;have HS4:=ah hs;clear hs)
      clear c1 HAt HS3;have hs5:=HS4.o.Ls (.cells #[.slice va vn vc] 32);revert hs5;generalize w4.alloc _=W5;intro hs5;generalize w4.heap.size=O5 at*
      have c3:=(HCl.o _ _ _ hs5.sat.right.right.right.right).2.1;have o0:W5.cell? ⟨O5,0,none⟩=some (.slice va vn vc):=Sat.cell hs5.sat 0;have HS5:=ah hs5;clear hs5 HS4;go_upto_region 17 with (go_at_call 81;(with_reducible refine(HMg.o _ _ _ _ _ _ _ HS5.o).mono ?_);rintro e w6 ⟨A6,c6,rfl,hrd,hs⟩;have HR6:=ah hrd;have HS6:=ah hs;clear hrd hs)
      clear c3 o0 HMg HS5;have HSa:Hid (Calls Tryz.prog 36 #[.slice A3 L.length c3',.slice A6 L.length c6] w6 fun x w'=>x = .returned (.bool true)/\w6=w'):=ah (by
       have h9:=LZ A3 A6 c3' c6 L L w6 HS6.o.sat.cj HR6.o;rw[decide_eq_true rfl] at h9;exact h9)
      go_wp2_with (first
       | (go_at_call 36;(with_reducible refine HSa.o.mono ?_);rintro e wx ⟨rfl,rfl⟩)
       | (go_at_call 29;(with_reducible refine(kY _ _).mono ?_);rintro e wx ⟨rfl,rfl⟩))
      go_ret;exact⟨rfl,HFi.o _ HS6.o.drop.drop⟩
     .by_cases h6:dd=6
      .subst h6;have hs1:=HS.o;have c1:=(HCl.o _ _ _ hs1.sat).1;have c3:=(HCl.o _ _ _ hs1.sat).2.1;have c4:=(HCl.o _ _ _ hs1.sat).2.2;obtain⟨er,her⟩: ∃ er:Int,(if (Lu Ms gs xn).isSome=true then (0:Int) else 104)=er:=⟨_,rfl⟩;obtain⟨MS,hMS⟩: ∃ MS,MS=(oJ kl tl ((Lu Ms gs xn).getD [])).take (9:Int).toNat:=⟨_,rfl⟩;have hMl2:MS.length<=9:=by rw[hMS,List.length_take];show min 9 _<=9;omega
       have HSc:Hid (Calls Tryz.prog 45 #[.pointer (some ⟨b,0,none⟩),.int .i64 xn,.slice kA kl.length kc,.slice tA tl.length tc,.int .i64 9] W fun x w'=> ∃ (B:Option Addr) (c:Nat) (qs es:List En),x = .returned (.tuple #[.slice B qs.length c,.int .i64 er])/\aY qs=MS/\(∀ z ∈ qs,z ∈ es)/\cX w0 (CL B c qs es*(Pt E 80 CS*(eN g M Ms gs*(Lv kb m*F)))) b d n t k a (Ms.length+1) M (Lu Ms gs) w'):=M6 xn (kA,kc,kl) (tA,tc,tl) 9 hxn (HRd.o _ hs1.sat.right.right.right).1 (HRd.o _ hs1.sat.right.right.right).2 ht hs1 MS er (by
        rw[hMS, <-her]
        cases Lu Ms gs xn with
        | none=>exact .inl ⟨rfl,rfl,rfl⟩
        | some Mo=>exact .inr ⟨Mo,rfl,rfl,rfl⟩)
       have HAt:Hid (∀ B c qs es W,cX w0 (CL B c qs es*(Pt E 80 CS*(eN g M Ms gs*(Lv kb m*F)))) b d n t k a (Ms.length+1) M (Lu Ms gs) W->Calls Tryz.prog 86 #[.pointer (some ⟨g,0,none⟩),.int .i64 xn] W fun x w'=> ∃ va vn vc,x = .returned (.tuple #[.agg #[.slice va vn vc],.int .i64 er])/\cX w0 (qB (.slice va vn vc) ((Lu Ms gs xn).getD [])*(eN g M Ms gs*(CL B c qs es*(Pt E 80 CS*(Lv kb m*F))))) b d n t k a (Ms.length+1) M (Lu Ms gs) w'):=ah fun B c qs es W hW=>by
        have h9:=NG xn hxn (hW.of (show _=eN g M Ms gs*(CL B c qs es*(Pt E 80 CS*(Lv kb m*F))) by ac_rfl)) (by omega);rw[her] at h9;exact h9
       have HMs2:Hid (∀ B c qs es va vn vc o W,cX w0 (Ow o (.cells #[.slice va vn vc] 32)*(qB (.slice va vn vc) ((Lu Ms gs xn).getD [])*(eN g M Ms gs*(CL B c qs es*(Pt E 80 CS*(Lv kb m*F)))))) b d n t k a (Ms.length+1) M (Lu Ms gs) W->Calls Tryz.prog 83 #[.agg #[.slice va vn vc],.slice kA kl.length kc,.slice tA tl.length tc,.int .i64 9] W fun x w'=> ∃ (C:Option Addr) (c2:Nat) (fs:List En),x = .returned (.slice C fs.length c2)/\aY fs=MS/\cX w0 (Ow o (.cells #[.slice va vn vc] 32)*(fw (.slice C fs.length c2) fs*(CL B c qs es*(Pt E 80 CS*(eN g M Ms gs*(Lv kb m*F)))))) b d n t k a (Ms.length+1) M (Lu Ms gs) w'):=ah fun B c qs es va vn vc o W hW=>by
        rw[hMS];refine(MV (kA,kc,kl) (tA,tc,tl) 9 (F:=Ow o (.cells #[.slice va vn vc] 32)*(eN g M Ms gs*(CL B c qs es*(Pt E 80 CS*(Lv kb m*F))))) (fun W hW=>HRd.o _ hW.right.right.right.right.right) (hW.of (aX _ _ _)) (by have:=MB (Ms:=Ms) (gs:=gs) (i:=xn) HMs.o;omega)).mono ?_;rintro e w' ⟨C,c2,fs,rfl,h8,h9⟩;refine⟨C,c2,fs,rfl,h8,?_⟩;exact((h9.of (aX _ _ _)).drop).of (by ac_rfl)
       have HPa:Hid (∀ B c qs es C c2 fs va vn vc o W,aY qs=MS->aY fs=MS->(∀ z ∈ qs,z ∈ es)->cX w0 (Ow o (.cells #[.slice va vn vc] 32)*(fw (.slice C fs.length c2) fs*(CL B c qs es*(Pt E 80 CS*(eN g M Ms gs*(Lv kb m*F)))))) b d n t k a (Ms.length+1) M (Lu Ms gs) W->Calls Tryz.prog 23 #[.slice B qs.length c,.slice C fs.length c2] W fun x w'=>x = .returned (.bool true)/\cX w0 (Ow o (.cells #[.slice va vn vc] 32)*(fw (.slice C fs.length c2) fs*(CL B c qs es*(Pt E 80 CS*(eN g M Ms gs*(Lv kb m*F)))))) b d n t k a (Ms.length+1) M (Lu Ms gs) w'):=ah fun B c qs es C c2 fs va vn vc o W e1 e2 e3 hW=>xZ (IZ e3).left.left Hk.left (e1.trans e2.symm) (by have h4:=congrArg List.length e1;rw[bX] at h4;omega) hW
       clear hs1 hMS her;go_upto_region 20 with (go_at_call 45;(with_reducible refine HSc.o.mono ?_);rintro e w3 ⟨B3,c3',qs,es3,rfl,hq1,hq2,hs⟩;have HQ1:=ah hq1;have HQ2:=ah hq2;have HS3:=ah hs;clear hq1 hq2 hs)
       clear c3 c1 c4 HSc HS;have c1:=(HCl.o _ _ _ HS3.o.sat.right).1;go_upto_region 21 with (go_at_call 86;(with_reducible refine(HAt.o _ _ _ _ _ HS3.o).mono ?_);rintro e w4 ⟨va,vn,vc,rfl,hs⟩;have HS4:=ah hs;clear hs)
       clear c1 HAt HS3;have hs5:=HS4.o.Ls (.cells #[.slice va vn vc] 32);revert hs5;generalize w4.alloc _=W5;intro hs5;generalize w4.heap.size=O5 at*
       have c3:=(HCl.o _ _ _ hs5.sat.right.right.right.right).2.1;have c4:=(HCl.o _ _ _ hs5.sat.right.right.right.right).2.2;have o0:W5.cell? ⟨O5,0,none⟩=some (.slice va vn vc):=Sat.cell hs5.sat 0;have HS5:=ah hs5;clear hs5 HS4;go_wp2_with (first
        | (go_at_call 29;(with_reducible refine(kY _ _).mono ?_);rintro e wx ⟨rfl,rfl⟩)
        | (go_at_call 83;(with_reducible refine(HMs2.o _ _ _ _ _ _ _ _ _ HS5.o).mono ?_);rintro e w6 ⟨C6,c6,fs,rfl,hf1,hs⟩;have HF1:=ah hf1;have HS6:=ah hs;clear hf1 hs)
        | (go_at_call 23;(with_reducible refine(HPa.o _ _ _ _ _ _ _ _ _ _ _ _ HQ1.o HF1.o HQ2.o HS6.o).mono ?_);rintro e w7 ⟨rfl,hs⟩;have HS7:=ah hs;clear hs))
       go_ret;exact⟨rfl,HFi.o _ HS7.o.drop.drop.drop.drop⟩
      .by_cases h7:dd=7
       .subst h7;have ha:=H7.o rfl;subst ha;have HTi:Hid (Calls Tryz.prog 35 #[.pointer (some ⟨b,0,none⟩)] W fun x w'=>x = .returned (.int .i64 0)/\cX w0 (Pt E 80 CS*(eN g M Ms gs*(Lv kb m*F))) b d n t (k+1) 0 (Ms.length+1) M (Lu Ms gs) w'):=Ld (by omega) ht HS.o;clear HS;go_wp2_with (first
         | (go_at_call 35;(with_reducible refine HTi.o.mono ?_);rintro e w3 ⟨rfl,hs⟩;have HS3:=ah hs;clear hs)
         | (go_at_call 29;(with_reducible refine(kY _ _).mono ?_);rintro e wx ⟨rfl,rfl⟩))
        go_ret;exact⟨rfl,HFin.o _ Ms gs (k+1) (by omega) HMs.o (Nat.le_refl _) (cX.Lz HS3.o.drop (by omega))⟩
       .have g1:((dd:Int)==1)=false:=by rw[beq_eq_false_iff_ne];omega
        have g2:((dd:Int)==2)=false:=by rw[beq_eq_false_iff_ne];omega
        have g3:((dd:Int)==3)=false:=by rw[beq_eq_false_iff_ne];omega
        have g4:((dd:Int)==4)=false:=by rw[beq_eq_false_iff_ne];omega
        have g5:((dd:Int)==5)=false:=by rw[beq_eq_false_iff_ne];omega
        have g6:((dd:Int)==6)=false:=by rw[beq_eq_false_iff_ne];omega
        have g7:((dd:Int)==7)=false:=by rw[beq_eq_false_iff_ne];omega
        clear h1 h2 h3 h4 h5 h6 h7;have hs3:=HS.o.map fun G hG=>hG.drew
        obtain⟨LA,lc,R,hc,hs4⟩:=(hs3.of (show _=eN g M Ms gs*(Pt E 80 CS*(Lv kb m*F)) by ac_rfl)).now;have HK:Hid (∀ W,cX w0 (R*(Pt E 80 CS*(Lv kb m*F))) b d n t k a (Ms.length+1) M (Lu Ms gs) W->W.cell? ⟨g,0,none⟩=some (.slice LA M.length lc)/\W.cell? ⟨E,1,none⟩=some (.int .i64 xn)/\W.cell? ⟨E,3,none⟩=some (.slice kA kl.length kc)/\W.cell? ⟨E,4,none⟩=some (.slice tA tl.length tc)):=ah fun W hW=>⟨(hc _ _ hW).1,HCl.o _ _ _ hW.sat.right⟩
        have HB:Hid (∀ W,cX w0 (R*(Pt E 80 CS*(Lv kb m*F))) b d n t k a (Ms.length+1) M (Lu Ms gs) W->Mt w0 F b d n t (k+1) a g kb (m+1) (q+1) M W):=ah fun W hW=>HFi.o _ ((hc _ _ hW).2.of (show _=Pt E 80 CS*(eN g M Ms gs*(Lv kb m*F)) by ac_rfl)).drop
        have HS4:=ah hs4;clear hs3 hc hs4 HS;go_upto_region 24 with fail;refine wp_region_held_drew (S:=fun w'=>w'.cell? ⟨g,0,none⟩=some (.slice LA M.length lc)/\w'.cell? ⟨E,1,none⟩=some (.int .i64 xn)/\w'.cell? ⟨E,3,none⟩=some (.slice kA kl.length kc)/\w'.cell? ⟨E,4,none⟩=some (.slice tA tl.length tc)) (by kernel_rfl) (HK.o _ HS4.o.drop) ?_;intro hS0;refine an 0 2 3 4 ?_;refine cw 5 6 ?_;refine ca 7 ?_;refine bC 1 fun K hK=>?_
        go_simp;go_at_call 31;refine(Fq ht HS4.o).mono ?_;rintro e w1 ⟨rfl,hs⟩;have HS1:=ah hs;clear hs
        refine hK.out _ _ (HK.o _ HS1.o.drop) (fun hS0=>?_);clear hK K;refine cw 8 9 ?_;refine ca 10 ?_;refine bC 11 fun K hK=>?_
        go_simp;go_at_call 87;refine(NF HS1.o).mono ?_;rintro e wx ⟨rfl,rfl⟩
        refine hK.out _ _ (HK.o _ HS1.o.drop) (fun hS0=>?_);clear hK K;refine cw 12 13 ?_;refine ca 14 ?_;refine wpAnyH_done (by kernel_rfl) ?_ _;go_wp2_with fail;go_ret;exact⟨rfl,HB.o _ HS1.o.drop⟩
end
def LV (M:List Kv):Prop:= ∀ p ∈ M,p.1.length<=128/\p.2.length<=200
theorem MU {c:cE} {M:List Kv} (h:LV M) (hc:c.key.length<=128/\c.value.length<=200):LV (dK c M):=fun p hp=>by
 rcases Di hp with hp | rfl
 .exact h p hp
 .exact hc
theorem LN: ∀ {cs:List cE} {M:List Kv},(∀ c ∈ cs,c.key.length<=128/\c.value.length<=200)->LV M->LV (aZ cs M)
 | [],M,_,h=>h
 | c::cs,M,hc,h=>LN (cs:=cs) (M:=dK c M) (fun x hx=>hc x (List.mem_cons_of_mem _ hx)) (MU h (hc c List.mem_cons_self))
theorem Mb: ∀ {M:List Kv},LV M->cI M<=M.length*368
 | [],_=>Nat.le_refl _
 | p::M,h=>by
  have h1:=Mb (M:=M) fun q hq=>h q (List.mem_cons_of_mem _ hq)
  have h2:=h p List.mem_cons_self;rw[MI,List.length_cons];omega
theorem Mf: ∀ {cs:List cE},(∀ c ∈ cs,c.key.length<=128/\c.value.length<=200)->(aE cs).length<=cs.length*332
 | [],_=>by decide
 | c::cs,h=>by
  have h1:=Mf (cs:=cs) fun x hx=>h x (List.mem_cons_of_mem _ hx)
  have h2:=h c List.mem_cons_self;rw[gj,List.length_append,fL,List.length_cons];omega
theorem Mr {n:Nat} {M:List Kv} {cs:List cE} (hM:LV M) (hc: ∀ c ∈ cs,c.key.length<=128/\c.value.length<=200) (hl:cs.length<=12) (hn:(n=8192/\M.length+cs.length<=960)\/(n=4096/\M.length+cs.length<=600)):ev n (aZ cs M) cs=false:=by
 have h1:=Mb (LN hc hM);have h2:=rY cs M;have h3:=Mf hc;have h4:bh (aE cs).length<=9:=by
  unfold bh;split
  .omega
  .omega
 unfold ev;rw[Bool.or_eq_false_iff,decide_eq_false_iff_not,decide_eq_false_iff_not];rcases hn with ⟨rfl,hn⟩ | ⟨rfl,hn⟩
 .have e1:aC 8192=1026:=by decide
  have e2:9<=bj 8192:=by decide
  rw[e1];have h5:(aZ cs M).length*368<=960*368:=Nat.mul_le_mul_right _ (by omega);omega
 .have e1:aC 4096=480:=by decide
  have e2:9<=bj 4096:=by decide
  rw[e1];have h5:(aZ cs M).length*368<=600*368:=Nat.mul_le_mul_right _ (by omega);omega
def NK (cs:List cE):Int:=(dt cs:Nat)
def NA (cs:List cE) (M:List Kv):List Kv:=if dt cs=0 then aZ cs M else M
theorem KT.of {n:Nat} {cs:List cE} {M M':List Kv} {er:Int} (h:KT n cs M er M') (hf:dt cs=0->ev n (aZ cs M) cs=false):er=NK cs/\M'=NA cs M:=by
 unfold NK NA;rcases h with ⟨h1,rfl,rfl⟩ | ⟨h1,h2,_⟩ | ⟨h1,_,rfl,rfl⟩
 .exact⟨rfl,by rw[if_neg h1]⟩
 .rw[hf h1] at h2;cases h2
 .exact⟨by rw[h1];rfl,by rw[if_pos h1]⟩
theorem Mz {ps:List Pu} (hk:dt ((Lx ps).map Pu.bq)=0): ∀ c ∈ (Lx ps).map Pu.bq,c.key.length<=128/\c.value.length<=200:=fun c hc=>by
 refine⟨((xD.1 hk).each c hc).key.2,?_⟩;obtain⟨p,hp,rfl⟩:=List.mem_map.1 hc;exact(Md p hp).2
theorem Nc {ps:List Pu} {M:List Kv} (h:LV M):LV (NA ((Lx ps).map Pu.bq) M):=by
 unfold NA;split
 .rename_i hk;exact LN (Mz hk) h
 .exact h
def LK (s:du):SP:=fun h=> ∃ l:List UInt8,l.length=s.2.2.length/\Row 5 1 (aJ s) s.2.2.length (l.map bv) h
def Ly:List Pu->SP
 | []=>bF
 | p::ps=>Row 5 1 (aJ p.key) p.key.2.2.length (p.key.2.2.map bv)*(Row 5 1 (aJ p.value) p.value.2.2.length (p.value.2.2.map bv)*Ly ps)
def LC:List Pu->SP
 | []=>bF
 | p::ps=>LK p.key*(LK p.value*LC ps)
theorem LW (p:Pu): ∀ ps:List Pu,Ly (ps++[p])=Row 5 1 (aJ p.key) p.key.2.2.length (p.key.2.2.map bv)*(Row 5 1 (aJ p.value) p.value.2.2.length (p.value.2.2.map bv)*Ly ps)
 | []=>rfl
 | q::ps=>by
  show _*(_*Ly (ps++[p]))=_*(_*(_*(_*Ly ps)));rw[LW p ps]
  ac_rfl
theorem L8 (p:Pu): ∀ (cs bs:List Pu),LC (cs++p::bs)=LK p.key*(LK p.value*(LC cs*LC bs))
 | [],bs=>by show _=_*(_*(bF*LC bs));rw[bf];rfl
 | q::cs,bs=>by
  show _*(_*LC (cs++p::bs))=_*(_*((_*(_*LC cs))*LC bs));rw[L8 p cs bs]
  ac_rfl
section
variable {w0 w w':World} {F F' A B:SP} {b d n t k a nx g kb m q:Nat} {M N:List Kv} {olds:Int->Option (List Kv)} {Ms:List (List Kv)} {gs:List Bool} {v:Value} {ps:List Pu} {s:du}
theorem Sat.Mu: ∀ {ps:List Pu} {F:SP},Sat w0 (Ly ps*F) w->gZ w ps
 | [],F,_=>fun p hp=>by cases hp
 | p::ps,F,h=>fun x hx=>by
  have h1:=h.of (show _=Row 5 1 (aJ p.key) p.key.2.2.length (p.key.2.2.map bv)*(Row 5 1 (aJ p.value) p.value.2.2.length (p.value.2.2.map bv)*(Ly ps*F)) by show (_*(_*Ly ps))*F=_;ac_rfl);rcases List.mem_cons.1 hx with rfl | hx
  .exact⟨h1.cj,h1.right.cj⟩
  .exact Sat.Mu h1.right.right x hx
theorem Sat.NI (h:Sat w0 (Row 5 1 (aJ s) s.2.2.length (s.2.2.map bv)*F) w):Sat w0 (LK s*F) w:=h.mono fun y ⟨a,f,h2,h3,h5,h6⟩=>⟨a,f,h2,h3,⟨s.2.2,rfl,h5⟩,h6⟩
theorem Sat.NJ: ∀ {ps:List Pu} {F:SP},Sat w0 (Ly ps*F) w->Sat w0 (LC ps*F) w
 | [],F,h=>h
 | p::ps,F,h=>by
  have h1:=h.of (show _=Row 5 1 (aJ p.key) p.key.2.2.length (p.key.2.2.map bv)*(Row 5 1 (aJ p.value) p.value.2.2.length (p.value.2.2.map bv)*(Ly ps*F)) by show (_*(_*Ly ps))*F=_;ac_rfl);have h2:=h1.NI.ay.NI;have h3:=(h2.of (show _=Ly ps*(LK p.value*(LK p.key*F)) by ac_rfl)).NJ;exact h3.of (by show _=(_*(_*LC ps))*F;ac_rfl)
theorem Sat.Na {i:Nat} (h:Sat w0 (LK s*F) w) (hi:i<s.2.2.length): ∃ (gb:Nat) (x:UInt8),s.1=some ⟨gb,0,none⟩/\s.2.2.length<=s.2.1/\w.cell? ⟨gb,i,none⟩=some (bv x)/\w.frozen? ⟨gb,i,none⟩=false/\ ∀ y:UInt8,Sat w0 (LK s*F) (w.setCell ⟨gb,i,none⟩ (bv y)):=by
 obtain⟨c,z,h1,a,f,h2,h3,⟨l,hl,h5⟩,h6⟩:=h;have h7:Sat w0 (Row 5 1 (aJ s) s.2.2.length (l.map bv)*F) w:=⟨c,z,h1,a,f,h2,h3,h5,h6⟩;obtain⟨sA,sc,sl⟩:=s;replace hl:l.length=sl.length:=hl;replace h7:Sat w0 (Row 5 1 (.slice sA sl.length sc) sl.length (l.map bv)*F) w:=h7;replace hi:i<sl.length:=hi;obtain⟨gb,rfl,_⟩:=h7.LS (by omega);obtain⟨_,_,e1,e2,_⟩:=h7.bm;injection e1 with _ _ e1
 have h8:=h7.kx (j:=i) (by rw[List.length_map];omega);rw[List.getElem_map] at h8;refine⟨gb,l[i]'(by omega),rfl,by show sl.length<=sc;omega,h8,h7.kF i,fun y=>?_⟩;have h9:=h7.pC (j:=i) (bv y);have e:(l.map bv).set i (bv y)=(l.set i y).map bv:=by rw[List.map_set]
 rw[e] at h9;exact h9.mono fun y' ⟨a,f,h2,h3,h5,h6⟩=>⟨a,f,h2,h3,⟨l.set i y,by rw[List.length_set];exact hl,h5⟩,h6⟩
theorem Nv (x:UInt8):Value.int .u8 (IntKind.u8.wrap ((x.toNat:Int)+1))=bv (x+1):=by
 unfold bv;rw[IntKind.wrap_u8,UInt8.toNat_add];congr 1
theorem Nu (A:Option Addr) (c:Nat) (l:List UInt8) (hr:Rd w A l) (hl:l.length<=140737488355328) (h:cX w0 F b d n t k a nx M olds w):
 Calls Tryz.prog 46 #[.slice A l.length c] w fun e w'=> ∃ A2 c2,e = .returned (.slice A2 l.length c2)/\cX w0 (Row 5 1 (.slice A2 l.length c2) l.length (l.map bv)*F) b d n t k a nx M olds w':=by
 obtain⟨G,hG,hR⟩:=h.KW;refine(twin_any A c l w hr hl).mono ?_;rintro e w' ⟨v,rfl,h1,h2⟩;have h3:=hG.dP h2 h1;obtain⟨A2,c2,rfl,_⟩:=h3.bm;exact⟨A2,c2,rfl,hR _ _ (h3.of (by ac_rfl))⟩
theorem NL (x:K5) (h:cX w0 F b d n t k a nx M olds w) (hb: ∀ W,Sat w0 F W->aF W x.bA (x.ps.flatMap fI)) (hbc:x.ps.length<=x.bc/\x.bc<=9223372036854775807) (hsz: ∀ p ∈ x.ps,p.key.2.2.length<=p.key.2.1/\p.value.2.2.length<=p.value.2.1):
 Calls Tryz.prog 44 #[.agg (M3 x)] w fun e w'=> ∃ B c,e = .returned (.agg (M3 { x with bA:=B,bc:=c,ps:=Lx x.ps }))/\cX w0 (Row 43 3 (.slice B (Lx x.ps).length c) (Lx x.ps).length ((Lx x.ps).flatMap fI)*F) b d n t k a nx M olds w':=by
 obtain⟨G,hG,hR⟩:=h.KW;refine(Ma x hG (fun W hW=>hb W hW.Ku) hbc hsz).mono ?_;rintro e w' ⟨B,c,rfl,hs⟩;exact⟨B,c,rfl,hR _ _ (hs.of (by ac_rfl))⟩
theorem Nq (Ad:Option Addr) (c:Nat) (ps:List Pu) (h:cX w0 (eN g N Ms gs*F) b d n t k a nx M olds w) (hb: ∀ W,Sat w0 F W->aF W Ad (ps.flatMap fI)/\gZ W ps) (hl:N.length+ps.length<=10000) (hz: ∀ p ∈ ps,p.key.2.2.length<=1000000/\p.value.2.2.length<=1000000):
 Calls Tryz.prog 22 #[.pointer (some ⟨g,0,none⟩),.slice Ad ps.length c] w fun x w'=>x = .returned (.int .i64 (NK (ps.map Pu.bq)))/\cX w0 (eN g (NA (ps.map Pu.bq) N) Ms gs*F) b d n t k a nx M olds w':=by
 obtain⟨G,hG,hR⟩:=h.KW;refine(yX Ad c ps (F:=F*G) (hG.of (aB _ _ _)) (fun W hW=>hb W hW.Ku) hl hz).mono ?_;rintro x w' ⟨rfl,hs⟩;exact⟨rfl,hR _ _ (hs.of (by unfold NA;ac_rfl))⟩
theorem M7 (h:cX w0 (eN g N Ms gs*F) b d n t k a nx M olds w):
 Calls Tryz.prog 47 #[.pointer (some ⟨g,0,none⟩)] w fun x w'=>x = .returned (.tuple #[])/\cX w0 (eN g N [] []*F) b d n t k a nx M olds w':=by
 obtain⟨G,hG,hR⟩:=h.KW;refine(Mk (hG.of (aB _ _ _))).mono ?_;rintro x w' ⟨rfl,hs⟩;exact⟨rfl,hR _ _ (hs.of (by ac_rfl))⟩
theorem My {B:Option Addr} {c:Nat} {ps:List Pu} (hs:Sat w0 (Row 43 3 (.slice B ps.length c) ps.length (ps.flatMap fI)*F) w) (h0:0<ps.length): ∃ b o,B=some ⟨b,o,none⟩/\ ∀ (X:SP) (W:World),Sat w0 (Row 43 3 (.slice B ps.length c) ps.length (ps.flatMap fI)*X) W-> ∀ i (hi:i<ps.length),W.cell? ⟨b,o+i*3,none⟩=some (aJ ps[i].key)/\W.cell? ⟨b,o+i*3+1,none⟩=some (aJ ps[i].value)/\W.cell? ⟨b,o+i*3+2,none⟩=some (.bool ps[i].dead):=by
 obtain⟨b,o,rfl,_⟩:=gI hs.cj h0;refine⟨b,o,rfl,fun X W hW i hi=>?_⟩;obtain⟨b',o',e,h1⟩:=gI hW.cj h0;injection e with e
 injection e with e1 e2
 subst e1;subst e2;exact h1 i hi
theorem MK {cp cs:List Pu} {j:Nat} (hj:j<cp.length) (h:cs.map Pu.bq=(cp.take j).map Pu.bq) {p:Pu} (hp:p.bq=cp[j].bq):(cs++[p]).map Pu.bq=(cp.take (j+1)).map Pu.bq:=by
 rw[List.map_append,h,List.take_add_one,List.getElem?_eq_getElem hj,List.map_append];show _++[p.bq]=_++[cp[j].bq];rw[hp]
theorem Nf {A:Option Addr} {l:List K5} (h:aF w A (l.flatMap LL)) {i:Nat} (hi:i<l.length): ∃ b o,A=some ⟨b,o,none⟩/\w.cell? ⟨b,o+i*8,none⟩=some (.int .i64 l[i].op)/\w.cell? ⟨b,o+i*8+1,none⟩=some (.int .i64 l[i].n)/\w.cell? ⟨b,o+i*8+2,none⟩=some (.slice l[i].bA l[i].ps.length l[i].bc)/\w.cell? ⟨b,o+i*8+3,none⟩=some (aJ l[i].key)/\w.cell? ⟨b,o+i*8+4,none⟩=some (aJ l[i].too)/\w.cell? ⟨b,o+i*8+5,none⟩=some (.slice l[i].kA l[i].keep.length l[i].kc)/\w.cell? ⟨b,o+i*8+6,none⟩=some (.int .i64 l[i].torn)/\w.cell? ⟨b,o+i*8+7,none⟩=some (.int .i64 l[i].cut):=by
 obtain⟨b,o,rfl,hc⟩:=aF.elem (f:=LL) (k:=8) (fun _=>rfl) (by decide) h hi;refine⟨b,o,rfl,by simpa [LL] using hc 0 (by decide),?_,?_,?_,?_,?_,?_,?_⟩
 .have:=hc 1 (by decide);rw[<-Nat.add_assoc] at this;simpa [LL] using this
 .have:=hc 2 (by decide);rw[<-Nat.add_assoc] at this;simpa [LL] using this
 .have:=hc 3 (by decide);rw[<-Nat.add_assoc] at this;simpa [LL] using this
 .have:=hc 4 (by decide);rw[<-Nat.add_assoc] at this;simpa [LL] using this
 .have:=hc 5 (by decide);rw[<-Nat.add_assoc] at this;simpa [LL] using this
 .have:=hc 6 (by decide);rw[<-Nat.add_assoc] at this;simpa [LL] using this
 .have:=hc 7 (by decide);rw[<-Nat.add_assoc] at this;simpa [LL] using this
theorem Mh {ps:List Pu} {j:Nat} (hj:j<ps.length):LC ps=LK ps[j].key*(LK ps[j].value*(LC (ps.take j)*LC (ps.drop (j+1)))):=by
 have e:ps=ps.take j++ps[j]::ps.drop (j+1):=by rw[<-List.drop_eq_getElem_cons hj,List.take_append_drop]
 have h1:=L8 ps[j] (ps.take j) (ps.drop (j+1));rw[<-e] at h1;exact h1
theorem L7 {RL Y X:SP} (h:cX w0 (RL*(LC ps*Y)) b d n t k a nx M olds w) (s:du) (hX:LC ps=LK s*X) {i:Nat} (hi:i<s.2.2.length): ∃ (gb:Nat) (x:UInt8),s.1=some ⟨gb,0,none⟩/\w.cell? ⟨gb,i,none⟩=some (.int .u8 (x.toNat:Int))/\w.frozen? ⟨gb,i,none⟩=false/\cX w0 (RL*(LC ps*Y)) b d n t k a nx M olds (w.setCell ⟨gb,i,none⟩ (.int .u8 (IntKind.u8.wrap ((x.toNat:Int)+1)))):=by
 obtain⟨G,hG,hR⟩:=h.KW;obtain⟨gb,x,h1,h2,h3,h4,h5⟩:=(hG.of (show _=LK s*(X*(RL*(Y*G))) by rw[hX];ac_rfl)).Na hi;exact⟨gb,x,h1,h3,h4,by rw[Nv];exact hR _ _ ((h5 (x+1)).of (by rw[hX];ac_rfl))⟩
theorem Mt.emp {g kb m q:Nat} (h:Mt w0 F b d n t k a g kb m q M w):Mt w0 bF b d n t k a g kb m q M w:=by
 obtain⟨Ms,gs,h1,h2,h3⟩:=h;exact⟨Ms,gs,h1,h2,((h3.of (show _=F*(eN g M Ms gs*Lv kb m) by ac_rfl)).drop).of (by rw[iU])⟩
theorem Mt.mono {g kb m q t' k' m' q':Nat} (h:Mt w0 F b d n t k a g kb m q M w) (ht:t<=t') (hk:k<=k') (hm:m<=m') (hq:q<=q'):Mt w0 F b d n t' k' a g kb m' q' M w:=by
 obtain⟨Ms,gs,h1,h2,h3⟩:=h;exact⟨Ms,gs,by omega,h2,cX.Lz (h3.mono ht hk) hm⟩
theorem Me:Lu [] []=fun _=>none:=by
 funext j
 unfold Lu;rw[if_neg];rintro ⟨_,h⟩
 cases h
end
end Go.Proofs.YtmbaiglpgaoogaaGreat
