/- Joined, as they were built one by one: Sto2 Sto3 Sto4 Sto5 Sto6 StpA StpB StpC. -/
import Derived.Test.YtmbaiglpgaoogaaGreatC02
import Derived.Test.YtmbaiglpgaoogaaGreatC03
import Derived.Test.YtmbaiglpgaoogaaGreatC05
import Derived.Test.YtmbaiglpgaoogaaGreatC06
import Derived.Test.YtmbaiglpgaoogaaGreatC07
import Derived.Test.YtmbaiglpgaoogaaGreatC11
import Derived.Test.YtmbaiglpgaoogaaGreatC13
import Derived.Test.YtmbaiglpgaoogaaGreatC14
import Derived.Test.YtmbaiglpgaoogaaGreatC15
import Derived.Test.YtmbaiglpgaoogaaGreatC21
set_option maxHeartbeats 16000000
set_option linter.unusedVariables false
set_option maxRecDepth 100000
namespace Go.Proofs.YtmbaiglpgaoogaaGreat
open Go.RowKit Z
structure Pu where
 key:cW
 value:cW
 dead:Bool
def dQ (p:Pu):List Value:=[aO p.key,aO p.value,.bool p.dead]
def Pu.bE (p:Pu):cJ:=⟨p.key.2.2,p.value.2.2,p.dead⟩
def MX (w:World) (p:Pu):Prop:=Rd w p.key.1 p.key.2.2/\Rd w p.value.1 p.value.2.2
def eJ (w:World) (ps:List Pu):Prop:= ∀ p ∈ ps,MX w p
theorem eJ.new {w w':World} {ps:List Pu} (h:eJ w ps) (k:aq No w w'):eJ w' ps:=fun p hp=>⟨(h p hp).1.new k,(h p hp).2.new k⟩
theorem gx {w:World} {A:Option Addr} {ps:List Pu} (h:aH w A (ps.flatMap dQ)) (hn:0<ps.length): ∃ b o,A=some ⟨b,o,none⟩/\ ∀ i (hi:i<ps.length),
 w.cell? ⟨b,o+i*3,none⟩=some (aO ps[i].key)/\w.cell? ⟨b,o+i*3+1,none⟩=some (aO ps[i].value)/\w.cell? ⟨b,o+i*3+2,none⟩=some (.bool ps[i].dead):=by
 obtain⟨b,o,rfl,_⟩:=aH.elem (f:=dQ) (k:=3) (fun _=>rfl) (by decide) h hn;refine⟨b,o,rfl,fun i hi=>?_⟩;obtain⟨b',o',e,hc⟩:=aH.elem (f:=dQ) (k:=3) (fun _=>rfl) (by decide) h hi;injection e with e
 injection e with e1 e2
 subst e1;subst e2;refine⟨by simpa [dQ] using hc 0 (by decide),?_,?_⟩
 .have:=hc 1 (by decide);rw[<-Nat.add_assoc] at this;simpa [dQ] using this
 .have:=hc 2 (by decide);rw[<-Nat.add_assoc] at this;simpa [dQ] using this
theorem Cx {w0 w:World} {F:SP} {g:Nat} (z:Int) (u:UInt8) (hz:z=u.toNat) (n:Nat) (hn:n<=255) (h:Sat w0 (Pt g 5 #[.int .u8 z,.int .u8 (n:Int)]*F) w):Rd w (some ⟨g,0,none⟩) [u,UInt8.ofNat n]:=by
 subst hz;refine aH.jC h.at (fun j hj=>?_);have hj2:j=0\/j=1:=by simp at hj;omega
 rcases hj2 with rfl | rfl
 .rfl
 .show some (Value.int .u8 (n:Int))=some (bv (UInt8.ofNat n));unfold bv;rw[UInt8.toNat_ofNat',Nat.mod_eq_of_lt (by omega)]
theorem zx (A:Option Addr) (c:Nat) (ps:List Pu) (w:World) (h:aH w A (ps.flatMap dQ)) (hr:eJ w ps) (hok: ∀ p ∈ ps,p.key.2.2.length<=128/\p.value.2.2.length<=16384) (hn:ps.length<=1000000):
 Calls Tryz.prog 71 #[.slice A ps.length c] w fun x w'=> ∃ B d,x = .returned (.slice B (aJ (ps.map Pu.bE)).length d)/\Sat w (Row 5 1 (.slice B (aJ (ps.map Pu.bE)).length d) (aJ (ps.map Pu.bE)).length ((aJ (ps.map Pu.bE)).map bv)*aV) w':=by
 have HL:=ah h;have HR:=ah hr;have HO:=ah hok;have HS0:Hid (Sat w (Row 5 1 (.slice none (aJ []).length 0) (aJ []).length ((aJ []).map bv)*aV) w):=(Sat.start w).aI 5 1;have HB:Hid (∀ i,i<=ps.length->(aJ ((ps.take i).map Pu.bE)).length<=i*16516):=fun i=>by
  induction i with
  | zero=>intro _;exact Nat.le_refl _
  | succ i ih=>
   intro hi;have h1:=ih (by omega);rw[List.take_add_one,List.getElem?_eq_getElem (by omega),List.map_append,show ((some ps[i]).toList).map Pu.bE=[ps[i].bE] from rfl,tf,List.length_append,gp];have h2:=hok _ (List.getElem_mem (show i<ps.length by omega));have h3:ps[i].bE.key.length<=128:=h2.1;have h4:ps[i].bE.value.length<=16384:=h2.2;omega
 clear h hr hok;go_enter Tryz.func71, Tryz.ntmps71;go_wp2_with fail;go_loopw [3,9] (fun bvv iv wr=> ∃ (i:Nat) (l:List UInt8) (B:Option Addr) (d:Nat),i<=ps.length/\iv = .int .i64 (i:Int)/\bvv = .slice B l.length d/\Hid (l=aJ ((ps.take i).map Pu.bE)/\Sat w (Row 5 1 (.slice B l.length d) l.length (l.map bv)*aV) wr)) (fun _ iv _=>ps.length - (intOf iv).toNat)
 case atStart=>exact⟨0,[],none,0,by omega,rfl,rfl,rfl,HS0.o⟩
 case round=>
  obtain⟨i,l,B,d,hi,rfl,rfl,HD⟩:=hrel;by_cases hlt:i<ps.length
  .obtain⟨lb,lo,rfl,hq⟩:=gx (HL.o.new HD.o.2.aP) (by omega);obtain⟨y0,y1,y2⟩:=hq i hlt;have HRi:=ah (HR.o _ (List.getElem_mem hlt));have HOi:=ah (HO.o _ (List.getElem_mem hlt));have HNx:Hid (aJ ((ps.take (i+1)).map Pu.bE)=l++iG ps[i].bE):=by
    unfold Hid;rw[List.take_add_one,List.getElem?_eq_getElem hlt,List.map_append,show ((some ps[i]).toList).map Pu.bE=[ps[i].bE] from rfl,tf, <-HD.o.1]
   have HBn:=ah (HB.o (i+1) (by omega));have hii:(i:Int)<ps.length:=by omega
   generalize ps[i]=p at*
   obtain⟨⟨kA,kc,kl⟩,⟨vA,vc,vl⟩,dd⟩:=p;have hkl:kl.length<=128:=HOi.o.1;have hvl:vl.length<=16384:=HOi.o.2;have hcv1:IntKind.u8.wrap (kl.length:Int)=kl.length:=by rw[IntKind.wrap_u8];omega
   have hcv2:IntKind.u64.wrap (vl.length:Int)=vl.length:=by rw[IntKind.wrap_u64];omega
   replace y0:_=some (Value.slice kA kl.length kc):=y0;replace y1:_=some (Value.slice vA vl.length vc):=y1;replace y2:_=some (Value.bool dd):=y2;replace HNx:Hid (aJ ((ps.take (i+1)).map Pu.bE)=l++iG ⟨kl,vl,dd⟩):=HNx;have s2:=HD.o.2.af 43 #[.slice kA kl.length kc,.slice vA vl.length vc,.bool dd];have HS2:=ah s2;obtain⟨uz,huz⟩: ∃ uz:UInt8,uz=if dd=true then 1 else 0:=⟨_,rfl⟩;obtain⟨l1,hl1⟩: ∃ l1,l1=l++[uz,UInt8.ofNat kl.length]:=⟨_,rfl⟩;obtain⟨l2,hl2⟩: ∃ l2,l2=l1++ai vl.length 2:=⟨_,rfl⟩;obtain⟨l3,hl3⟩: ∃ l3,l3=l2++kl:=⟨_,rfl⟩;obtain⟨l4,hl4⟩: ∃ l4,l4=l3++vl:=⟨_,rfl⟩;have HL1:=ah hl1;have HL2:=ah hl2;have HL3:=ah hl3;have HL4:=ah hl4;have hall:l4=l++iG ⟨kl,vl,dd⟩:=by
    rw[hl4,hl3,hl2,hl1,huz];unfold iG;simp
   have HAll:=ah hall;have hb4:l4.length<=17000000000:=by
    have h1:=HBn.o;rw[HNx.o, <-hall] at h1;omega
   have hb3:l3.length<=17000000000:=by rw[hl4,List.length_append] at hb4;omega
   have hb2:l2.length<=17000000000:=by rw[hl3,List.length_append] at hb3;omega
   have hb1:l1.length<=17000000000:=by rw[hl2,List.length_append] at hb2;omega
   have hl1':Hid (l1.length<=140737488355328):=by unfold Hid;omega
   have hl2':Hid (l2.length<=140737488355328):=by unfold Hid;omega
   have hl3':Hid (l3.length<=140737488355328):=by unfold Hid;omega
   have hl4':Hid (l4.length<=140737488355328):=by unfold Hid;omega
   have HRk:Hid (Rd w kA kl):=HRi.o.1;have HRv:Hid (Rd w vA vl):=HRi.o.2;clear hl1 hl2 hl3 hl4 hall hb1 hb2 hb3 hb4 s2 hq;have HUz:Hid ((if dd=true then (1:Int) else 0)=uz.toNat):=by unfold Hid;rw[huz];cases dd<;>rfl
   clear huz
   cases dd
   .replace HUz:Hid ((0:Int)=uz.toNat):=HUz;go_upto_region 8 with fail;obtain⟨W4,hW4⟩: ∃ W4,W4=wr.alloc (.cells #[.slice kA kl.length kc,.slice vA vl.length vc,.bool false] 43):=⟨_,rfl⟩;rw[<-hW4] at HS2;rw[<-hW4];clear hW4 y0 y1 y2;obtain⟨bx,hbx⟩: ∃ bx,bx=wr.heap.size:=⟨_,rfl⟩;rw[<-hbx] at HS2;rw[<-hbx];clear hbx;have x0:=HS2.o.cell 0;have x1:=HS2.o.cell 1;have HS3:=ah (HS2.o.af 5 #[.int .u8 0,.int .u8 (kl.length:Int)]);go_upto_region 10 with (first
     | (at_builtin;refine iN rfl (.tmp 15) (.tmp 21) rfl B d l rfl HS3.o.bD (some ⟨W4.heap.size,0,none⟩) 2 [uz,UInt8.ofNat kl.length] rfl (Cx 0 uz HUz.o kl.length (by omega) HS3.o) l1 HL1.o hl1'.o ?_;intro A4 c4 w4 hs4;have HS4:=ah hs4.bF;have x2:=(hs4.bF).av.cell 0;have x3:=(hs4.bF).av.cell 1;clear hs4 x0 x1)
     | (go_at_call 117;(with_reducible refine(lA vl.length 2 2 rfl (by omega) (by omega) (by omega) w _ _ HS4.o _ rfl).mono ?_);rintro x w5 ⟨A5,c5,rfl,hs5⟩;have HS5:=ah hs5;clear hs5)
     | (at_builtin;refine iN rfl (.tmp 23) (.tmp 28) rfl A4 c4 l1 rfl HS5.o.av A5 c5 (ai vl.length 2) rfl HS5.o.cj l2 HL2.o hl2'.o ?_;intro A6 c6 w6 hs6;have HS7:=ah hs6.bF;clear hs6))
    refine wp_region_held_drew (S:=fun w'=>w'.cell? ⟨bx,0,none⟩=some (.slice kA kl.length kc)/\w'.cell? ⟨bx,1,none⟩=some (.slice vA vl.length vc)) (by kernel_rfl) ⟨HS7.o.drew.av.cell 0,HS7.o.drew.av.cell 1⟩ ?_;intro hS0;refine an 0 1 2 4 ?_;refine cH 5 ?_;refine bR 3 fun K hK=>?_
    refine mh rfl (.tmp 30) (.tmp 32) rfl A6 c6 l2 rfl HS7.o.drew kA kc kl rfl (by exact HRk.o.new HS7.o.drew.aP) l3 HL3.o hl3'.o ?_;intro A8 c8 w8 hs;have HS8:=ah hs;clear hs;refine hK.out _ _ ⟨HS8.o.av.cell 0,HS8.o.av.cell 1⟩ (fun hS0=>?_);clear hK K
    try simp only[Act.put,jt,jA,jy]
    refine bR 6 fun K hK=>?_
    refine mh rfl (.tmp 33) (.tmp 35) rfl A8 c8 l3 rfl HS8.o vA vc vl rfl (by exact HRv.o.new HS8.o.aP) l4 HL4.o hl4'.o ?_;intro A9 c9 w9 hs;have HS9:=ah hs;clear hs;refine hK.out _ _ ⟨HS9.o.av.cell 0,HS9.o.av.cell 1⟩ (fun hS0=>?_);clear hK K
    try simp only[Act.put,jt,jA,jy]
    refine cH 7 ?_;refine wpAnyH_done (by kernel_rfl) ?_ _;go_wp2_with fail;go_roundw
    .exact⟨i+1,l4,A9,c9,by omega,by push_cast;rfl,rfl,by rw[HNx.o,HAll.o],HS9.o.bF⟩
    .simp[intOf];omega
   .replace HUz:Hid ((1:Int)=uz.toNat):=HUz;go_upto_region 8 with fail;obtain⟨W4,hW4⟩: ∃ W4,W4=wr.alloc (.cells #[.slice kA kl.length kc,.slice vA vl.length vc,.bool true] 43):=⟨_,rfl⟩;rw[<-hW4] at HS2;rw[<-hW4];clear hW4 y0 y1 y2;obtain⟨bx,hbx⟩: ∃ bx,bx=wr.heap.size:=⟨_,rfl⟩;rw[<-hbx] at HS2;rw[<-hbx];clear hbx;have x0:=HS2.o.cell 0;have x1:=HS2.o.cell 1;have HS3:=ah (HS2.o.af 5 #[.int .u8 1,.int .u8 (kl.length:Int)]);go_upto_region 10 with (first
     | (at_builtin;refine iN rfl (.tmp 15) (.tmp 21) rfl B d l rfl HS3.o.bD (some ⟨W4.heap.size,0,none⟩) 2 [uz,UInt8.ofNat kl.length] rfl (Cx 1 uz HUz.o kl.length (by omega) HS3.o) l1 HL1.o hl1'.o ?_;intro A4 c4 w4 hs4;have HS4:=ah hs4.bF;have x2:=(hs4.bF).av.cell 0;have x3:=(hs4.bF).av.cell 1;clear hs4 x0 x1)
     | (go_at_call 117;(with_reducible refine(lA vl.length 2 2 rfl (by omega) (by omega) (by omega) w _ _ HS4.o _ rfl).mono ?_);rintro x w5 ⟨A5,c5,rfl,hs5⟩;have HS5:=ah hs5;clear hs5)
     | (at_builtin;refine iN rfl (.tmp 23) (.tmp 28) rfl A4 c4 l1 rfl HS5.o.av A5 c5 (ai vl.length 2) rfl HS5.o.cj l2 HL2.o hl2'.o ?_;intro A6 c6 w6 hs6;have HS7:=ah hs6.bF;clear hs6))
    refine wp_region_held_drew (S:=fun w'=>w'.cell? ⟨bx,0,none⟩=some (.slice kA kl.length kc)/\w'.cell? ⟨bx,1,none⟩=some (.slice vA vl.length vc)) (by kernel_rfl) ⟨HS7.o.drew.av.cell 0,HS7.o.drew.av.cell 1⟩ ?_;intro hS0;refine an 0 1 2 4 ?_;refine cH 5 ?_;refine bR 3 fun K hK=>?_
    refine mh rfl (.tmp 30) (.tmp 32) rfl A6 c6 l2 rfl HS7.o.drew kA kc kl rfl (by exact HRk.o.new HS7.o.drew.aP) l3 HL3.o hl3'.o ?_;intro A8 c8 w8 hs;have HS8:=ah hs;clear hs;refine hK.out _ _ ⟨HS8.o.av.cell 0,HS8.o.av.cell 1⟩ (fun hS0=>?_);clear hK K
    try simp only[Act.put,jt,jA,jy]
    refine bR 6 fun K hK=>?_
    refine mh rfl (.tmp 33) (.tmp 35) rfl A8 c8 l3 rfl HS8.o vA vc vl rfl (by exact HRv.o.new HS8.o.aP) l4 HL4.o hl4'.o ?_;intro A9 c9 w9 hs;have HS9:=ah hs;clear hs;refine hK.out _ _ ⟨HS9.o.av.cell 0,HS9.o.av.cell 1⟩ (fun hS0=>?_);clear hK K
    try simp only[Act.put,jt,jA,jy]
    refine cH 7 ?_;refine wpAnyH_done (by kernel_rfl) ?_ _;go_wp2_with fail;go_roundw
    .exact⟨i+1,l4,A9,c9,by omega,by push_cast;rfl,rfl,by rw[HNx.o,HAll.o],HS9.o.bF⟩
    .simp[intOf];omega
  .have hie:i=ps.length:=by omega
   subst hie;have HE:Hid (aJ (ps.map Pu.bE)=l):=by unfold Hid;rw[HD.o.1,List.take_length]
   go_wp2_with fail;go_ret;rw[HE.o];exact⟨_,_,rfl,HD.o.2⟩
theorem ve:(Tryz.prog.info? 43).map (fun i=>(i.zero,i.size,i.bytes))=some (some (.agg #[.slice none 0 0,.slice none 0 0,.bool false]),3,56):=by kernel_rfl
structure Ld (w:World) (g o c m:Nat) (p:cJ) (kk ee:Nat) (r:List UInt8):Prop where
 d:w.cell? ⟨g,o,none⟩=some (.int .u8 (if p.dead=true then 1 else 0))
 k:w.cell? ⟨g,o+1,none⟩=some (.int .u8 (p.key.length:Int))
 v:Rd w (some ⟨g,o+2,none⟩) (ai p.value.length 2)
 key:Rd w (some ⟨g,o+4,none⟩) p.key
 value:Rd w (if c=kk then some ⟨g,o,none⟩ else some ⟨g,o+kk,none⟩) p.value
 rest:Rd w (if c=ee then some ⟨g,o,none⟩ else some ⟨g,o+ee,none⟩) r
theorem Kz {w:World} {A:Option Addr} {c:Nat} {p:cJ} {r:List UInt8} (h:Rd w A (iG p++r)) (hp:CW p) (hc:(iG p++r).length<=c): ∃ g o,A=some ⟨g,o,none⟩/\Ld w g o c (iG p++r).length p (4+p.key.length) (4+p.key.length+p.value.length) r:=by
 obtain⟨a1,a2,a3,a4,a5,a6⟩:=Kc p r hp;have hl:(iG p++r).length=4+p.key.length+p.value.length+r.length:=by rw[List.length_append,gp]
 obtain⟨q,hq⟩: ∃ q,q=iG p++r:=⟨_,rfl⟩;rw[<-hq] at h hc a1 a2 a3 a4 a5 a6 hl;rw[<-hq];have h0:=hp.1;obtain⟨g,o,rfl,hcell⟩:=h (by intro e;have:=congrArg List.length e;rw[List.length_map,hl] at this;simp at this);have hd: ∀ j,0<j->j<=q.length->j<c->Rd w (some ⟨g,o+j,none⟩) (q.drop j):=fun j j0 j1 j2=>by
  have h9:=Rd.drop (k:=j) (cap:=c) h j1 hc;rw[if_neg (by omega),Option.map_some,Addr.add_lit] at h9;exact h9
 refine⟨g,o,rfl,⟨?_,?_,?_,?_,?_,?_⟩⟩
 .have h9:=hcell 0 (by rw[List.length_map];omega);rw[List.getElem?_eq_getElem (by omega)] at a1;rw[List.getElem_map] at h9;injection a1 with a1
  rw[a1] at h9;rw[show o+0=o from rfl] at h9;rw[h9]
  cases p.dead<;>rfl
 .have h9:=hcell 1 (by rw[List.length_map];omega);rw[List.getElem?_eq_getElem (by omega)] at a2;rw[List.getElem_map] at h9;injection a2 with a2
  rw[a2] at h9;rw[h9];have:=hp.2.1;unfold bv;rw[UInt8.toNat_ofNat',Nat.mod_eq_of_lt (by omega)]
 .have h9:=(hd 2 (by omega) (by omega) (by omega)).take 2;rw[<-a3];rw[List.take_drop] at h9;exact h9
 .have h9:=(hd 4 (by omega) (by omega) (by omega)).take p.key.length;rw[<-a4];rw[List.take_drop] at h9;exact h9
 .by_cases e:c=4+p.key.length
  .have hv:p.value=[]:=List.eq_nil_of_length_eq_zero (by omega);rw[hv];exact fun hx=>absurd rfl hx
  .rw[if_neg e];have h9:=(hd (4+p.key.length) (by omega) (by omega) (by omega)).take p.value.length;rw[<-a5];rw[List.take_drop] at h9;exact h9
 .by_cases e:c=4+p.key.length+p.value.length
  .have hv:r=[]:=List.eq_nil_of_length_eq_zero (by omega);rw[hv];exact fun hx=>absurd rfl hx
  .rw[if_neg e];have h9:=hd (4+p.key.length+p.value.length) (by omega) (by omega) (by omega);rw[a6] at h9;exact h9
theorem Ak (A:Option Addr) (c:Nat) (cs:List cJ) (w:World) (h:Rd w A (aJ cs)) (hc:(aJ cs).length<=c) (hm:c<=maxLen) (hok: ∀ p ∈ cs,CW p) (hn:(aJ cs).length<=1000000):
 Calls Tryz.prog 66 #[.slice A (aJ cs).length c] w fun x w'=> ∃ B d ps,ps.map Pu.bE=cs/\(∀ W,Rd W A (aJ cs)->eJ W ps)/\x = .returned (.slice B cs.length d)/\Sat w (Row 43 3 (.slice B cs.length d) cs.length (ps.flatMap dQ)*aV) w':=by
 obtain⟨j0,hj,hy0,hy1,hy2⟩:=info_parts ve;have HR:=ah h;have HOk:=ah hok;have hlen: ∀ k,k<=cs.length->k<=(aJ cs).length - (aJ (cs.drop k)).length/\(aJ (cs.drop k)).length<=(aJ cs).length:=fun k=>by
  induction k with
  | zero=>intro _;simp
  | succ k ih=>
   intro hk;have h1:=ih (by omega);have h2:cs.drop k=cs[k]::cs.drop (k+1):=List.drop_eq_getElem_cons (by omega);rw[h2,gT,List.length_append,gp] at h1;omega
 have HLen:=ah hlen;have HS0:Hid (Sat w (Row 43 3 (.slice none 0 0) 0 []*aV) w):=(Sat.start w).aI 43 3;obtain⟨M,hM⟩: ∃ M,M=(aJ cs).length:=⟨_,rfl⟩;have HM:=ah hM;rw[<-hM] at hc hn;rw[<-hM];unfold maxLen at hm;clear h hok hlen hM;go_enter Tryz.func66, Tryz.ntmps66;go_wp2_with fail;go_loopw [0,3] (fun bvv ov wr=> ∃ (k m mc:Nat) (Q B:Option Addr) (d:Nat) (ps:List Pu),k<=cs.length/\m<=1000000/\m<=mc/\mc<=9223372036854775807/\bvv = .slice Q m mc/\ov = .slice B k d/\Hid (m=(aJ (cs.drop k)).length/\(∀ W,Rd W A (aJ cs)->Rd W Q (aJ (cs.drop k)))/\ps.map Pu.bE=cs.take k/\(∀ W,Rd W A (aJ cs)->eJ W ps)/\Sat w (Row 43 3 (.slice B k d) k (ps.flatMap dQ)*aV) wr)) (fun bvv _ _=>(match bvv with | .slice _ m _=>m | _=>0))
 case atStart=>exact⟨0,M,c,A,none,0,[],by omega,by omega,by omega,by omega,rfl,rfl,HM.o,(fun W h=>h),rfl,(fun W _ p hp=>by cases hp),HS0.o⟩
 case round=>
  obtain⟨k,m,mc,Q,B,d,ps,hk,hm1,hm2,hm3,rfl,rfl,HD⟩:=hrel;by_cases hlt:k<cs.length
  .obtain⟨q,hq⟩: ∃ q,q=cs[k]:=⟨_,rfl⟩;have hqo:=HOk.o _ (List.getElem_mem hlt);have hdr:cs.drop k=cs[k]::cs.drop (k+1):=List.drop_eq_getElem_cons hlt;have hml:=HD.o.1;have hrd:=(HD.o.2.1 w HR.o).new HD.o.2.2.2.2.aP;rw[hdr,gT, <-hq] at hml hrd;rw[<-hq] at hqo;have HTk:Hid (cs.take (k+1)=cs.take k++[q]):=by unfold Hid;rw[List.take_add_one,List.getElem?_eq_getElem hlt,hq];rfl
   have hmc:=hm2;rw[hml] at hmc;obtain⟨g,o,rfl,hat⟩:=Kz hrd hqo hmc;have hrd0:=HD.o.2.1;rw[hdr,gT, <-hq] at hrd0;have hat0: ∀ W,Rd W A (aJ cs)->Ld W g o mc (iG q++aJ (cs.drop (k+1))).length q (4+q.key.length) (4+q.key.length+q.value.length) (aJ (cs.drop (k+1))):=fun W hW=>by
    obtain⟨g',o',eg,h0⟩:=Kz (hrd0 W hW) hqo hmc;injection eg with eg
    injection eg with eg1 eg2
    subst eg1;subst eg2;exact h0
   rw[List.length_append,gp] at hml;have HA:=ah hat;have HA0:=ah hat0;obtain⟨r,hr⟩: ∃ r,r=aJ (cs.drop (k+1)):=⟨_,rfl⟩;rw[<-hr] at hml HA HA0;have HRe:=ah hr;obtain⟨kl,vl,dd⟩:=q;have hkl:1<=kl.length/\kl.length<=128:=⟨hqo.1,hqo.2.1⟩;have hvl:vl.length<=16384:=hqo.2.2;replace hml:m=4+kl.length+vl.length+r.length:=hml;have y0:wr.cell? ⟨g,o,none⟩=some (.int .u8 (if dd=true then 1 else 0)):=hat.d;have y1:wr.cell? ⟨g,o+1,none⟩=some (.int .u8 (kl.length:Int)):=hat.k;have HG:Hid (Rd wr (some ⟨g,o+2,none⟩) (ai vl.length 2)):=hat.v;have HA0:Hid (∀ W,Rd W A (aJ cs)->Ld W g o mc (4+kl.length+vl.length+r.length) ⟨kl,vl,dd⟩ (4+kl.length) (4+kl.length+vl.length) r):=fun W hW=>by have:=HA0.o W hW;rw[List.length_append,gp] at this;exact this
   obtain⟨kk,hkk⟩: ∃ kk,kk=4+kl.length:=⟨_,rfl⟩;rw[<-hkk] at HA0 hml;obtain⟨ee,hee⟩: ∃ ee,ee=kk+vl.length:=⟨_,rfl⟩;rw[<-hee] at HA0 hml;have hkl1:=hkl.1;have hkl2:=hkl.2;have q2:2=(ai vl.length 2).length:=(aB _ _).symm;have HGet:=ah (iW (some ⟨g,o+2,none⟩) (mc - 2) (ai vl.length 2) 2 q2 vl.length (Ly (by omega)) wr HG.o (by omega));have i1:(4:Int)+kl.length=kk:=by omega
   have i2:(kk:Int)+vl.length=ee:=by omega
   have i3:IntKind.i64.wrap (vl.length:Int)=vl.length:=by rw[IntKind.wrap_i64];omega
   have n1:(4:Int)<=kk:=by omega
   have n2:(kk:Int)<=ee:=by omega
   have n3:(ee:Int)<=m:=by omega
   have n4:(kk:Int)<=mc:=by omega
   have n5:(ee:Int)<=mc:=by omega
   have n6:(m:Int)<=mc:=by omega
   have n7:(4:Int)<=mc:=by omega
   have n8:¬ mc=2:=by omega
   have n9:¬ mc=4:=by omega
   have n10:(0:Int)<m:=by omega
   have n11:(1:Int)<m:=by omega
   have HS:=ah HD.o.2.2.2.2;replace hj:=ah hj;replace hy0:=ah hy0;replace hy1:=ah hy1;replace hy2:=ah hy2;have hk6:k<=1000000:=by have:=HLen.o k hk;rw[<-HM.o] at this;omega
   have HE1:Hid (kk - 4=kl.length/\ee - kk=vl.length/\m - ee=r.length/\m - ee<m):=by unfold Hid;omega
   clear hmc hat hat0 hrd hrd0 hqo hq hdr q2 hkl hr hkk hee hml HA;by_cases e2:mc=ee
   .by_cases e1:mc=kk
    .cases dd
     .have HZ0:Hid True:=trivial;have HZ:Hid (w.cell? ⟨g,o,none⟩=some (.int .u8 0)):=(HA0.o w HR.o).d;replace y0:wr.cell? ⟨g,o,none⟩=some (.int .u8 0):=y0;have HVa:Hid (∀ W,Rd W A (aJ cs)->Rd W (some ⟨g,o,none⟩) vl):=fun W hW=>by have:=(HA0.o W hW).value;rw[if_pos e1] at this;exact this
      have HRa:Hid (∀ W,Rd W A (aJ cs)->Rd W (some ⟨g,o,none⟩) r):=fun W hW=>by have:=(HA0.o W hW).rest;rw[if_pos e2] at this;exact this
      have HPu:Hid (ps.flatMap dQ++[.slice (some ⟨g,o+4,none⟩) (kk - 4) (mc - 4),.slice (some ⟨g,o,none⟩) 0 0,.bool false]=(ps++[(⟨(some ⟨g,o+4,none⟩,mc - 4,kl),((some ⟨g,o,none⟩),0,vl),false⟩:Pu)]).flatMap dQ):=by
       unfold Hid;rw[List.flatMap_append];congr 1
       show _=[aO _,aO _,_];unfold aO;simp only[show kk - 4=kl.length from HE1.o.1,show vl.length=0 by have:=HE1.o.2.1;omega]
      have HPs:Hid (∀ W,Rd W A (aJ cs)->eJ W (ps++[(⟨(some ⟨g,o+4,none⟩,mc - 4,kl),((some ⟨g,o,none⟩),0,vl),false⟩:Pu)])):=fun W hW p hp=>by
       rcases List.mem_append.1 hp with h1 | h1
       .exact HD.o.2.2.2.1 W hW p h1
       .rw[List.mem_singleton.1 h1];exact⟨(HA0.o W hW).key,HVa.o W hW⟩
      have HMp:Hid ((ps++[(⟨(some ⟨g,o+4,none⟩,mc - 4,kl),((some ⟨g,o,none⟩),0,vl),false⟩:Pu)]).map Pu.bE=cs.take (k+1)):=by
       unfold Hid;rw[HTk.o,List.map_append,HD.o.2.2.1];rfl
      have HRl:Hid (0=(aJ (cs.drop (k+1))).length/\0<=1000000/\0<=0/\0<=9223372036854775807/\0<m):=by
       unfold Hid;rw[<-HRe.o];have:=HE1.o;omega
      subst e2;subst e1;go_upto_region 5 with (go_at_call 105;(with_reducible refine HGet.o.mono ?_);rintro y wx ⟨rfl,rfl⟩)
      refine wp_region_held_drew (S:=fun w'=>w'.cell? ⟨g,o,none⟩=some (.int .u8 0)) (by kernel_rfl) y0 ?_;intro hS0;refine an 0 1 2 3 ?_;refine an 4 5 6 7 ?_;refine an 8 9 10 11 ?_;refine cH 12 ?_;refine bR 13 fun K hK=>?_
      go_simp;refine hK.out _ _ (by exact(HS.o.aC _).drew.aP.cell HZ.o id) (fun hS0=>?_);clear hK K;refine bR 14 fun K hK=>?_
      refine aQ rfl (.tmp 20) (.tmp 33) 22 rfl 43 j0 _ 3 56 Tryz.underlying22 hj.o hy0.o hy1.o hy2.o rfl (by decide) (.slice B k d) k (ps.flatMap dQ) rfl w _ (by exact(HS.o.aC _).drew) (some ⟨wr.heap.size,0,none⟩) 1 1 [.slice (some ⟨g,o+4,none⟩) (mc - 4) (mc - 4),.slice (some ⟨g,o,none⟩) 0 (0),.bool false] rfl (by exact(aL _ _ _)) rfl (by intro u hu;simp at hu;rcases hu with rfl | rfl | rfl<;>rfl) (by unfold maxLen;omega) (by omega) ?_;intro B5 d5 w5 hs;have HS5:=ah hs;clear hs;refine hK.out _ _ (by exact HS5.o.aP.cell HZ.o id) (fun hS0=>?_);clear hK K
      try simp only[Act.put,jt,jA,jy]
      refine cH 15 ?_;refine wpAnyH_done (by kernel_rfl) ?_ _;rw[HPu.o] at HS5;go_wp2_with fail;go_roundw
      .exact⟨k+1,0,0,(some ⟨g,o,none⟩),B5,d5,_,hlt,HRl.o.2.1,HRl.o.2.2.1,HRl.o.2.2.2.1,rfl,rfl,HRl.o.1,by rw[<-HRe.o];exact HRa.o,HMp.o,HPs.o,HS5.o⟩
      .exact HRl.o.2.2.2.2
     .have HZ0:Hid True:=trivial;have HZ:Hid (w.cell? ⟨g,o,none⟩=some (.int .u8 1)):=(HA0.o w HR.o).d;replace y0:wr.cell? ⟨g,o,none⟩=some (.int .u8 1):=y0;have HVa:Hid (∀ W,Rd W A (aJ cs)->Rd W (some ⟨g,o,none⟩) vl):=fun W hW=>by have:=(HA0.o W hW).value;rw[if_pos e1] at this;exact this
      have HRa:Hid (∀ W,Rd W A (aJ cs)->Rd W (some ⟨g,o,none⟩) r):=fun W hW=>by have:=(HA0.o W hW).rest;rw[if_pos e2] at this;exact this
      have HPu:Hid (ps.flatMap dQ++[.slice (some ⟨g,o+4,none⟩) (kk - 4) (mc - 4),.slice (some ⟨g,o,none⟩) 0 0,.bool true]=(ps++[(⟨(some ⟨g,o+4,none⟩,mc - 4,kl),((some ⟨g,o,none⟩),0,vl),true⟩:Pu)]).flatMap dQ):=by
       unfold Hid;rw[List.flatMap_append];congr 1
       show _=[aO _,aO _,_];unfold aO;simp only[show kk - 4=kl.length from HE1.o.1,show vl.length=0 by have:=HE1.o.2.1;omega]
      have HPs:Hid (∀ W,Rd W A (aJ cs)->eJ W (ps++[(⟨(some ⟨g,o+4,none⟩,mc - 4,kl),((some ⟨g,o,none⟩),0,vl),true⟩:Pu)])):=fun W hW p hp=>by
       rcases List.mem_append.1 hp with h1 | h1
       .exact HD.o.2.2.2.1 W hW p h1
       .rw[List.mem_singleton.1 h1];exact⟨(HA0.o W hW).key,HVa.o W hW⟩
      have HMp:Hid ((ps++[(⟨(some ⟨g,o+4,none⟩,mc - 4,kl),((some ⟨g,o,none⟩),0,vl),true⟩:Pu)]).map Pu.bE=cs.take (k+1)):=by
       unfold Hid;rw[HTk.o,List.map_append,HD.o.2.2.1];rfl
      have HRl:Hid (0=(aJ (cs.drop (k+1))).length/\0<=1000000/\0<=0/\0<=9223372036854775807/\0<m):=by
       unfold Hid;rw[<-HRe.o];have:=HE1.o;omega
      subst e2;subst e1;go_upto_region 5 with (go_at_call 105;(with_reducible refine HGet.o.mono ?_);rintro y wx ⟨rfl,rfl⟩)
      refine wp_region_held_drew (S:=fun w'=>w'.cell? ⟨g,o,none⟩=some (.int .u8 1)) (by kernel_rfl) y0 ?_;intro hS0;refine an 0 1 2 3 ?_;refine an 4 5 6 7 ?_;refine an 8 9 10 11 ?_;refine cH 12 ?_;refine bR 13 fun K hK=>?_
      go_simp;refine hK.out _ _ (by exact(HS.o.aC _).drew.aP.cell HZ.o id) (fun hS0=>?_);clear hK K;refine bR 14 fun K hK=>?_
      refine aQ rfl (.tmp 20) (.tmp 33) 22 rfl 43 j0 _ 3 56 Tryz.underlying22 hj.o hy0.o hy1.o hy2.o rfl (by decide) (.slice B k d) k (ps.flatMap dQ) rfl w _ (by exact(HS.o.aC _).drew) (some ⟨wr.heap.size,0,none⟩) 1 1 [.slice (some ⟨g,o+4,none⟩) (mc - 4) (mc - 4),.slice (some ⟨g,o,none⟩) 0 (0),.bool true] rfl (by exact(aL _ _ _)) rfl (by intro u hu;simp at hu;rcases hu with rfl | rfl | rfl<;>rfl) (by unfold maxLen;omega) (by omega) ?_;intro B5 d5 w5 hs;have HS5:=ah hs;clear hs;refine hK.out _ _ (by exact HS5.o.aP.cell HZ.o id) (fun hS0=>?_);clear hK K
      try simp only[Act.put,jt,jA,jy]
      refine cH 15 ?_;refine wpAnyH_done (by kernel_rfl) ?_ _;rw[HPu.o] at HS5;go_wp2_with fail;go_roundw
      .exact⟨k+1,0,0,(some ⟨g,o,none⟩),B5,d5,_,hlt,HRl.o.2.1,HRl.o.2.2.1,HRl.o.2.2.2.1,rfl,rfl,HRl.o.1,by rw[<-HRe.o];exact HRa.o,HMp.o,HPs.o,HS5.o⟩
      .exact HRl.o.2.2.2.2
    .cases dd
     .have HZ0:Hid True:=trivial;have HZ:Hid (w.cell? ⟨g,o,none⟩=some (.int .u8 0)):=(HA0.o w HR.o).d;replace y0:wr.cell? ⟨g,o,none⟩=some (.int .u8 0):=y0;have HVa:Hid (∀ W,Rd W A (aJ cs)->Rd W (some ⟨g,o+kk,none⟩) vl):=fun W hW=>by have:=(HA0.o W hW).value;rw[if_neg e1] at this;exact this
      have HRa:Hid (∀ W,Rd W A (aJ cs)->Rd W (some ⟨g,o,none⟩) r):=fun W hW=>by have:=(HA0.o W hW).rest;rw[if_pos e2] at this;exact this
      have HPu:Hid (ps.flatMap dQ++[.slice (some ⟨g,o+4,none⟩) (kk - 4) (mc - 4),.slice (some ⟨g,o+kk,none⟩) (ee - kk) (mc - kk),.bool false]=(ps++[(⟨(some ⟨g,o+4,none⟩,mc - 4,kl),((some ⟨g,o+kk,none⟩),mc - kk,vl),false⟩:Pu)]).flatMap dQ):=by
       unfold Hid;rw[List.flatMap_append];congr 1
       show _=[aO _,aO _,_];unfold aO;simp only[show kk - 4=kl.length from HE1.o.1,show ee - kk=vl.length from HE1.o.2.1]
      have HPs:Hid (∀ W,Rd W A (aJ cs)->eJ W (ps++[(⟨(some ⟨g,o+4,none⟩,mc - 4,kl),((some ⟨g,o+kk,none⟩),mc - kk,vl),false⟩:Pu)])):=fun W hW p hp=>by
       rcases List.mem_append.1 hp with h1 | h1
       .exact HD.o.2.2.2.1 W hW p h1
       .rw[List.mem_singleton.1 h1];exact⟨(HA0.o W hW).key,HVa.o W hW⟩
      have HMp:Hid ((ps++[(⟨(some ⟨g,o+4,none⟩,mc - 4,kl),((some ⟨g,o+kk,none⟩),mc - kk,vl),false⟩:Pu)]).map Pu.bE=cs.take (k+1)):=by
       unfold Hid;rw[HTk.o,List.map_append,HD.o.2.2.1];rfl
      have HRl:Hid (0=(aJ (cs.drop (k+1))).length/\0<=1000000/\0<=0/\0<=9223372036854775807/\0<m):=by
       unfold Hid;rw[<-HRe.o];have:=HE1.o;omega
      subst e2;go_upto_region 5 with (go_at_call 105;(with_reducible refine HGet.o.mono ?_);rintro y wx ⟨rfl,rfl⟩)
      refine wp_region_held_drew (S:=fun w'=>w'.cell? ⟨g,o,none⟩=some (.int .u8 0)) (by kernel_rfl) y0 ?_;intro hS0;refine an 0 1 2 3 ?_;refine an 4 5 6 7 ?_;refine an 8 9 10 11 ?_;refine cH 12 ?_;refine bR 13 fun K hK=>?_
      go_simp;refine hK.out _ _ (by exact(HS.o.aC _).drew.aP.cell HZ.o id) (fun hS0=>?_);clear hK K;refine bR 14 fun K hK=>?_
      refine aQ rfl (.tmp 20) (.tmp 33) 22 rfl 43 j0 _ 3 56 Tryz.underlying22 hj.o hy0.o hy1.o hy2.o rfl (by decide) (.slice B k d) k (ps.flatMap dQ) rfl w _ (by exact(HS.o.aC _).drew) (some ⟨wr.heap.size,0,none⟩) 1 1 [.slice (some ⟨g,o+4,none⟩) (kk - 4) (mc - 4),.slice (some ⟨g,o+kk,none⟩) (mc - kk) (mc - kk),.bool false] rfl (by exact(aL _ _ _)) rfl (by intro u hu;simp at hu;rcases hu with rfl | rfl | rfl<;>rfl) (by unfold maxLen;omega) (by omega) ?_;intro B5 d5 w5 hs;have HS5:=ah hs;clear hs;refine hK.out _ _ (by exact HS5.o.aP.cell HZ.o id) (fun hS0=>?_);clear hK K
      try simp only[Act.put,jt,jA,jy]
      refine cH 15 ?_;refine wpAnyH_done (by kernel_rfl) ?_ _;rw[HPu.o] at HS5;go_wp2_with fail;go_roundw
      .exact⟨k+1,0,0,(some ⟨g,o,none⟩),B5,d5,_,hlt,HRl.o.2.1,HRl.o.2.2.1,HRl.o.2.2.2.1,rfl,rfl,HRl.o.1,by rw[<-HRe.o];exact HRa.o,HMp.o,HPs.o,HS5.o⟩
      .exact HRl.o.2.2.2.2
     .have HZ0:Hid True:=trivial;have HZ:Hid (w.cell? ⟨g,o,none⟩=some (.int .u8 1)):=(HA0.o w HR.o).d;replace y0:wr.cell? ⟨g,o,none⟩=some (.int .u8 1):=y0;have HVa:Hid (∀ W,Rd W A (aJ cs)->Rd W (some ⟨g,o+kk,none⟩) vl):=fun W hW=>by have:=(HA0.o W hW).value;rw[if_neg e1] at this;exact this
      have HRa:Hid (∀ W,Rd W A (aJ cs)->Rd W (some ⟨g,o,none⟩) r):=fun W hW=>by have:=(HA0.o W hW).rest;rw[if_pos e2] at this;exact this
      have HPu:Hid (ps.flatMap dQ++[.slice (some ⟨g,o+4,none⟩) (kk - 4) (mc - 4),.slice (some ⟨g,o+kk,none⟩) (ee - kk) (mc - kk),.bool true]=(ps++[(⟨(some ⟨g,o+4,none⟩,mc - 4,kl),((some ⟨g,o+kk,none⟩),mc - kk,vl),true⟩:Pu)]).flatMap dQ):=by
       unfold Hid;rw[List.flatMap_append];congr 1
       show _=[aO _,aO _,_];unfold aO;simp only[show kk - 4=kl.length from HE1.o.1,show ee - kk=vl.length from HE1.o.2.1]
      have HPs:Hid (∀ W,Rd W A (aJ cs)->eJ W (ps++[(⟨(some ⟨g,o+4,none⟩,mc - 4,kl),((some ⟨g,o+kk,none⟩),mc - kk,vl),true⟩:Pu)])):=fun W hW p hp=>by
       rcases List.mem_append.1 hp with h1 | h1
       .exact HD.o.2.2.2.1 W hW p h1
       .rw[List.mem_singleton.1 h1];exact⟨(HA0.o W hW).key,HVa.o W hW⟩
      have HMp:Hid ((ps++[(⟨(some ⟨g,o+4,none⟩,mc - 4,kl),((some ⟨g,o+kk,none⟩),mc - kk,vl),true⟩:Pu)]).map Pu.bE=cs.take (k+1)):=by
       unfold Hid;rw[HTk.o,List.map_append,HD.o.2.2.1];rfl
      have HRl:Hid (0=(aJ (cs.drop (k+1))).length/\0<=1000000/\0<=0/\0<=9223372036854775807/\0<m):=by
       unfold Hid;rw[<-HRe.o];have:=HE1.o;omega
      subst e2;go_upto_region 5 with (go_at_call 105;(with_reducible refine HGet.o.mono ?_);rintro y wx ⟨rfl,rfl⟩)
      refine wp_region_held_drew (S:=fun w'=>w'.cell? ⟨g,o,none⟩=some (.int .u8 1)) (by kernel_rfl) y0 ?_;intro hS0;refine an 0 1 2 3 ?_;refine an 4 5 6 7 ?_;refine an 8 9 10 11 ?_;refine cH 12 ?_;refine bR 13 fun K hK=>?_
      go_simp;refine hK.out _ _ (by exact(HS.o.aC _).drew.aP.cell HZ.o id) (fun hS0=>?_);clear hK K;refine bR 14 fun K hK=>?_
      refine aQ rfl (.tmp 20) (.tmp 33) 22 rfl 43 j0 _ 3 56 Tryz.underlying22 hj.o hy0.o hy1.o hy2.o rfl (by decide) (.slice B k d) k (ps.flatMap dQ) rfl w _ (by exact(HS.o.aC _).drew) (some ⟨wr.heap.size,0,none⟩) 1 1 [.slice (some ⟨g,o+4,none⟩) (kk - 4) (mc - 4),.slice (some ⟨g,o+kk,none⟩) (mc - kk) (mc - kk),.bool true] rfl (by exact(aL _ _ _)) rfl (by intro u hu;simp at hu;rcases hu with rfl | rfl | rfl<;>rfl) (by unfold maxLen;omega) (by omega) ?_;intro B5 d5 w5 hs;have HS5:=ah hs;clear hs;refine hK.out _ _ (by exact HS5.o.aP.cell HZ.o id) (fun hS0=>?_);clear hK K
      try simp only[Act.put,jt,jA,jy]
      refine cH 15 ?_;refine wpAnyH_done (by kernel_rfl) ?_ _;rw[HPu.o] at HS5;go_wp2_with fail;go_roundw
      .exact⟨k+1,0,0,(some ⟨g,o,none⟩),B5,d5,_,hlt,HRl.o.2.1,HRl.o.2.2.1,HRl.o.2.2.2.1,rfl,rfl,HRl.o.1,by rw[<-HRe.o];exact HRa.o,HMp.o,HPs.o,HS5.o⟩
      .exact HRl.o.2.2.2.2
   .have e1:¬ mc=kk:=by omega
    cases dd
    .have HZ0:Hid True:=trivial;have HZ:Hid (w.cell? ⟨g,o,none⟩=some (.int .u8 0)):=(HA0.o w HR.o).d;replace y0:wr.cell? ⟨g,o,none⟩=some (.int .u8 0):=y0;have HVa:Hid (∀ W,Rd W A (aJ cs)->Rd W (some ⟨g,o+kk,none⟩) vl):=fun W hW=>by have:=(HA0.o W hW).value;rw[if_neg e1] at this;exact this
     have HRa:Hid (∀ W,Rd W A (aJ cs)->Rd W (some ⟨g,o+ee,none⟩) r):=fun W hW=>by have:=(HA0.o W hW).rest;rw[if_neg e2] at this;exact this
     have HPu:Hid (ps.flatMap dQ++[.slice (some ⟨g,o+4,none⟩) (kk - 4) (mc - 4),.slice (some ⟨g,o+kk,none⟩) (ee - kk) (mc - kk),.bool false]=(ps++[(⟨(some ⟨g,o+4,none⟩,mc - 4,kl),((some ⟨g,o+kk,none⟩),mc - kk,vl),false⟩:Pu)]).flatMap dQ):=by
      unfold Hid;rw[List.flatMap_append];congr 1
      show _=[aO _,aO _,_];unfold aO;simp only[show kk - 4=kl.length from HE1.o.1,show ee - kk=vl.length from HE1.o.2.1]
     have HPs:Hid (∀ W,Rd W A (aJ cs)->eJ W (ps++[(⟨(some ⟨g,o+4,none⟩,mc - 4,kl),((some ⟨g,o+kk,none⟩),mc - kk,vl),false⟩:Pu)])):=fun W hW p hp=>by
      rcases List.mem_append.1 hp with h1 | h1
      .exact HD.o.2.2.2.1 W hW p h1
      .rw[List.mem_singleton.1 h1];exact⟨(HA0.o W hW).key,HVa.o W hW⟩
     have HMp:Hid ((ps++[(⟨(some ⟨g,o+4,none⟩,mc - 4,kl),((some ⟨g,o+kk,none⟩),mc - kk,vl),false⟩:Pu)]).map Pu.bE=cs.take (k+1)):=by
      unfold Hid;rw[HTk.o,List.map_append,HD.o.2.2.1];rfl
     have HRl:Hid ((m - ee)=(aJ (cs.drop (k+1))).length/\(m - ee)<=1000000/\(m - ee)<=mc - ee/\mc - ee<=9223372036854775807/\(m - ee)<m):=by
      unfold Hid;rw[<-HRe.o];have:=HE1.o;omega
     go_upto_region 5 with (go_at_call 105;(with_reducible refine HGet.o.mono ?_);rintro y wx ⟨rfl,rfl⟩)
     refine wp_region_held_drew (S:=fun w'=>w'.cell? ⟨g,o,none⟩=some (.int .u8 0)) (by kernel_rfl) y0 ?_;intro hS0;refine an 0 1 2 3 ?_;refine an 4 5 6 7 ?_;refine an 8 9 10 11 ?_;refine cH 12 ?_;refine bR 13 fun K hK=>?_
     go_simp;refine hK.out _ _ (by exact(HS.o.aC _).drew.aP.cell HZ.o id) (fun hS0=>?_);clear hK K;refine bR 14 fun K hK=>?_
     refine aQ rfl (.tmp 20) (.tmp 33) 22 rfl 43 j0 _ 3 56 Tryz.underlying22 hj.o hy0.o hy1.o hy2.o rfl (by decide) (.slice B k d) k (ps.flatMap dQ) rfl w _ (by exact(HS.o.aC _).drew) (some ⟨wr.heap.size,0,none⟩) 1 1 [.slice (some ⟨g,o+4,none⟩) (kk - 4) (mc - 4),.slice (some ⟨g,o+kk,none⟩) (ee - kk) (mc - kk),.bool false] rfl (by exact(aL _ _ _)) rfl (by intro u hu;simp at hu;rcases hu with rfl | rfl | rfl<;>rfl) (by unfold maxLen;omega) (by omega) ?_;intro B5 d5 w5 hs;have HS5:=ah hs;clear hs;refine hK.out _ _ (by exact HS5.o.aP.cell HZ.o id) (fun hS0=>?_);clear hK K
     try simp only[Act.put,jt,jA,jy]
     refine cH 15 ?_;refine wpAnyH_done (by kernel_rfl) ?_ _;rw[HPu.o] at HS5;go_wp2_with fail;go_roundw
     .exact⟨k+1,(m - ee),(mc - ee),(some ⟨g,o+ee,none⟩),B5,d5,_,hlt,HRl.o.2.1,HRl.o.2.2.1,HRl.o.2.2.2.1,rfl,rfl,HRl.o.1,by rw[<-HRe.o];exact HRa.o,HMp.o,HPs.o,HS5.o⟩
     .exact HRl.o.2.2.2.2
    .have HZ0:Hid True:=trivial;have HZ:Hid (w.cell? ⟨g,o,none⟩=some (.int .u8 1)):=(HA0.o w HR.o).d;replace y0:wr.cell? ⟨g,o,none⟩=some (.int .u8 1):=y0;have HVa:Hid (∀ W,Rd W A (aJ cs)->Rd W (some ⟨g,o+kk,none⟩) vl):=fun W hW=>by have:=(HA0.o W hW).value;rw[if_neg e1] at this;exact this
     have HRa:Hid (∀ W,Rd W A (aJ cs)->Rd W (some ⟨g,o+ee,none⟩) r):=fun W hW=>by have:=(HA0.o W hW).rest;rw[if_neg e2] at this;exact this
     have HPu:Hid (ps.flatMap dQ++[.slice (some ⟨g,o+4,none⟩) (kk - 4) (mc - 4),.slice (some ⟨g,o+kk,none⟩) (ee - kk) (mc - kk),.bool true]=(ps++[(⟨(some ⟨g,o+4,none⟩,mc - 4,kl),((some ⟨g,o+kk,none⟩),mc - kk,vl),true⟩:Pu)]).flatMap dQ):=by
      unfold Hid;rw[List.flatMap_append];congr 1
      show _=[aO _,aO _,_];unfold aO;simp only[show kk - 4=kl.length from HE1.o.1,show ee - kk=vl.length from HE1.o.2.1]
     have HPs:Hid (∀ W,Rd W A (aJ cs)->eJ W (ps++[(⟨(some ⟨g,o+4,none⟩,mc - 4,kl),((some ⟨g,o+kk,none⟩),mc - kk,vl),true⟩:Pu)])):=fun W hW p hp=>by
      rcases List.mem_append.1 hp with h1 | h1
      .exact HD.o.2.2.2.1 W hW p h1
      .rw[List.mem_singleton.1 h1];exact⟨(HA0.o W hW).key,HVa.o W hW⟩
     have HMp:Hid ((ps++[(⟨(some ⟨g,o+4,none⟩,mc - 4,kl),((some ⟨g,o+kk,none⟩),mc - kk,vl),true⟩:Pu)]).map Pu.bE=cs.take (k+1)):=by
      unfold Hid;rw[HTk.o,List.map_append,HD.o.2.2.1];rfl
     have HRl:Hid ((m - ee)=(aJ (cs.drop (k+1))).length/\(m - ee)<=1000000/\(m - ee)<=mc - ee/\mc - ee<=9223372036854775807/\(m - ee)<m):=by
      unfold Hid;rw[<-HRe.o];have:=HE1.o;omega
     go_upto_region 5 with (go_at_call 105;(with_reducible refine HGet.o.mono ?_);rintro y wx ⟨rfl,rfl⟩)
     refine wp_region_held_drew (S:=fun w'=>w'.cell? ⟨g,o,none⟩=some (.int .u8 1)) (by kernel_rfl) y0 ?_;intro hS0;refine an 0 1 2 3 ?_;refine an 4 5 6 7 ?_;refine an 8 9 10 11 ?_;refine cH 12 ?_;refine bR 13 fun K hK=>?_
     go_simp;refine hK.out _ _ (by exact(HS.o.aC _).drew.aP.cell HZ.o id) (fun hS0=>?_);clear hK K;refine bR 14 fun K hK=>?_
     refine aQ rfl (.tmp 20) (.tmp 33) 22 rfl 43 j0 _ 3 56 Tryz.underlying22 hj.o hy0.o hy1.o hy2.o rfl (by decide) (.slice B k d) k (ps.flatMap dQ) rfl w _ (by exact(HS.o.aC _).drew) (some ⟨wr.heap.size,0,none⟩) 1 1 [.slice (some ⟨g,o+4,none⟩) (kk - 4) (mc - 4),.slice (some ⟨g,o+kk,none⟩) (ee - kk) (mc - kk),.bool true] rfl (by exact(aL _ _ _)) rfl (by intro u hu;simp at hu;rcases hu with rfl | rfl | rfl<;>rfl) (by unfold maxLen;omega) (by omega) ?_;intro B5 d5 w5 hs;have HS5:=ah hs;clear hs;refine hK.out _ _ (by exact HS5.o.aP.cell HZ.o id) (fun hS0=>?_);clear hK K
     try simp only[Act.put,jt,jA,jy]
     refine cH 15 ?_;refine wpAnyH_done (by kernel_rfl) ?_ _;rw[HPu.o] at HS5;go_wp2_with fail;go_roundw
     .exact⟨k+1,(m - ee),(mc - ee),(some ⟨g,o+ee,none⟩),B5,d5,_,hlt,HRl.o.2.1,HRl.o.2.2.1,HRl.o.2.2.2.1,rfl,rfl,HRl.o.1,by rw[<-HRe.o];exact HRa.o,HMp.o,HPs.o,HS5.o⟩
     .exact HRl.o.2.2.2.2
  .have hke:k=cs.length:=by omega
   subst hke;have hm0:m=0:=by have:=HD.o.1;rw[List.drop_length] at this;exact this
   subst hm0;have HE:Hid (ps.map Pu.bE=cs):=by have:=HD.o.2.2.1;rw[List.take_length] at this;exact this
   go_wp2_with fail;go_ret;exact⟨_,_,ps,HE.o,HD.o.2.2.2.1,rfl,HD.o.2.2.2.2⟩
def Lr (ks:Nat->List UInt8):Nat->List UInt8->Option Value
 | 0=>fun _=>none
 | n+1=>kX (Lr ks n) (ks n) (some (.int .i64 (n:Int)))
theorem Hb (ks:Nat->List UInt8) (i:Nat): ∀ n,i<n-> ∃ j:Nat,Lr ks n (ks i)=some (.int .i64 (j:Int))/\j<n/\(j=i↔ ∀ m,i<m->m<n->ks m≠ks i)
 | 0,h=>by omega
 | n+1,h=>by
  show ∃ j:Nat,kX (Lr ks n) (ks n) (some (.int .i64 (n:Int))) (ks i)=_/\_
  unfold kX;by_cases e:ks i=ks n
  .rw[if_pos e];refine⟨n,rfl,by omega,⟨fun e2 m h1 h2=>by omega,fun h2=>?_⟩⟩;rcases Nat.lt_or_ge i n with h3 | h3
   .exact absurd e.symm (h2 n h3 (by omega))
   .omega
  .rw[if_neg e];have hin:i<n:=by
    rcases Nat.lt_or_ge i n with h3 | h3
    .exact h3
    .exact absurd (by rw[show i=n by omega]) e
   obtain⟨j,h1,h2,h3⟩:=Hb ks i n hin;refine⟨j,h1,by omega,⟨fun e2 m h4 h5=>?_,fun h4=>h3.2 fun m h5 h6=>h4 m h5 (by omega)⟩⟩;rcases Nat.lt_or_ge m n with h6 | h6
   .exact h3.1 e2 m h4 h6
   .rw[show m=n by omega];exact fun q=>e q.symm
theorem AI {cs:List cJ} {i:Nat} (hi:i<cs.length) {b:Bool} (hb:b=true↔ ∀ m,i<m->m<cs.length->((cs[m]?.map cJ.key).getD [])≠cs[i].key):dE (cs.drop i)=if b=true then cs[i]::dE (cs.drop (i+1)) else dE (cs.drop (i+1)):=by
 rw[List.drop_eq_getElem_cons hi];show (if (cs.drop (i+1)).any (fun q=>decide (q.key=cs[i].key))=true then _ else _)=_;by_cases h:(cs.drop (i+1)).any (fun q=>decide (q.key=cs[i].key))=true
 .rw[if_pos h,if_neg];intro h2;obtain⟨q,hq,hk⟩:=List.any_eq_true.1 h;obtain⟨m,hm,e⟩:=List.mem_iff_getElem.1 hq;rw[List.length_drop] at hm;rw[List.getElem_drop] at e;have h3:=hb.1 h2 (i+1+m) (by omega) (by omega);rw[List.getElem?_eq_getElem (by omega),e] at h3;exact h3 (by simpa using hk)
 .rw[if_neg h,if_pos];refine hb.2 fun m h1 h2 h3=>?_
  rw[List.getElem?_eq_getElem h2] at h3;refine h (List.any_eq_true.2 ⟨cs[m],?_,by simpa using h3⟩);have h4:(cs.drop (i+1))[m - (i+1)]'(by rw[List.length_drop];omega)=cs[m]:=by rw[List.getElem_drop];congr 1;omega
  rw[<-h4];exact List.getElem_mem _
theorem GZ (w:World):(zeroValue 3).run Tryz.prog w = .ok (.int .i64 0) w:=by kernel_rfl
theorem LJ (w:World):(Instr.makeMap 192 none).run Tryz.prog w = .ok (.map (some w.heap.size)) (w.alloc (.map #[] 0)):=by
 simp[Instr.makeMap]
def rp (ps:List Pu) (i:Nat):List UInt8:=((ps[i]?).map fun p=>p.key.2.2).getD []
theorem mf {ps:List Pu} {i:Nat} (h:i<ps.length):rp ps i=ps[i].key.2.2:=by unfold rp;rw[List.getElem?_eq_getElem h];rfl
theorem GV (A:Option Addr) (c:Nat) (ps:List Pu) (w:World) (h:aH w A (ps.flatMap dQ)) (hr:eJ w ps) (hok: ∀ p ∈ ps,p.key.2.2.length<=128) (hn:ps.length<=1000000):
 Calls Tryz.prog 112 #[.slice A ps.length c] w fun x w'=> ∃ (B:Option Addr) (d:Nat) (qs:List Pu),(∀ q ∈ qs,q ∈ ps)/\qs.map Pu.bE=dE (ps.map Pu.bE)/\x = .returned (.slice B qs.length d)/\Sat w (Row 43 3 (.slice B qs.length d) qs.length (qs.flatMap dQ)*aV) w':=by
 obtain⟨j0,hj,hy0,hy1,hy2⟩:=info_parts ve;have HL:=ah h;have HR:=ah hr;have HO:=ah hok;have hmk:=LJ w;have HM:=ah ((Sat.start w).yE (P:= Tryz.prog) (k:= 9));obtain⟨b,hb⟩: ∃ b,b=w.heap.size:=⟨_,rfl⟩;obtain⟨w1,hw1⟩: ∃ w1,w1=w.alloc (.map #[] 0):=⟨_,rfl⟩;rw[<-hb, <-hw1] at HM hmk;clear h hr hok hb hw1;go_enter Tryz.func112, Tryz.ntmps112;go_wp2_with fail;go_loopw [12] (fun iv wr=> ∃ i:Nat,i<=ps.length/\iv = .int .i64 (i:Int)/\Hid (Sat w (jr Tryz.prog 9 b i (Lr (rp ps) i)*aV) wr)) (fun iv _=>ps.length - (intOf iv).toNat)
 case atStart=>exact⟨0,by omega,rfl,HM.o⟩
 case round=>
  obtain⟨i,hi,rfl,HD⟩:=hrel;by_cases hlt:i<ps.length
  .obtain⟨lb,lo,rfl,hq⟩:=gx (HL.o.new HD.o.aP) (by omega);obtain⟨y0,y1,y2⟩:=hq i hlt;have HRi:=ah (HR.o _ (List.getElem_mem hlt));have HOi:=ah (HO.o _ (List.getElem_mem hlt));have HKi:=ah (mf hlt);have hii:(i:Int)<ps.length:=by omega
   clear hq;generalize ps[i]=p at*
   obtain⟨⟨kA,kc,kl⟩,⟨vA,vc,vl⟩,dd⟩:=p;replace y0:_=some (Value.slice kA kl.length kc):=y0;replace y1:_=some (Value.slice vA vl.length vc):=y1;replace y2:_=some (Value.bool dd):=y2;go_upto_region 5 with fail;have hs2:=HD.o.af 43 #[.slice kA kl.length kc,.slice vA vl.length vc,.bool dd];obtain⟨W4,hW4⟩: ∃ W4,W4=wr.alloc (.cells #[.slice kA kl.length kc,.slice vA vl.length vc,.bool dd] 43):=⟨_,rfl⟩;rw[<-hW4] at hs2;rw[<-hW4];clear hW4 y0 y1 y2;have x0:=hs2.cell 0;have hst:(convert 41 9 (.slice kA kl.length kc)).run Tryz.prog W4 = .ok (zr kl) W4:=cK (HRi.o.1.new hs2.aP) kc;obtain⟨W5,hrun,hs5,_⟩:=hs2.av.nf (t:= 192) Tryz.underlying9 Tryz.underlying192 kl (by have:kl.length<=128:=HOi.o;omega) (.int .i64 (i:Int)) (by unfold maxLen;omega);have HS5:=ah hs5.bF;clear hs2 hs5;go_wp2_with fail;go_roundw
   .refine⟨i+1,by omega,by push_cast;rfl,?_⟩;show Sat w (jr Tryz.prog 9 b (i+1) (kX (Lr (rp ps) i) (rp ps i) (some (.int .i64 (i:Int))))*aV) W5;rw[HKi.o];exact HS5.o
   .simp[intOf];omega
  .have hie:i=ps.length:=by omega
   subst hie;clear hmk;have HF:Hid (∀ i,i<ps.length-> ∃ j:Nat,Lr (rp ps) ps.length (rp ps i)=some (.int .i64 (j:Int))/\j<ps.length/\(j=i↔ ∀ m,i<m->m<ps.length->rp ps m≠rp ps i)):=fun i hi=>Hb (rp ps) i ps.length hi
   generalize hf:Lr (rp ps) ps.length=f at HD HF;clear hf;have HS1:=ah ((HD.o.of (bX _ _)).right);go_wp2_with fail;go_loopw [6,25] (fun ov iv wr2=> ∃ (i k d:Nat) (B:Option Addr) (qs:List Pu),i<=ps.length/\k<=i/\iv = .int .i64 (i:Int)/\ov = .slice B k d/\Hid (k=qs.length/\(∀ q ∈ qs,q ∈ ps)/\qs.map Pu.bE++dE ((ps.map Pu.bE).drop i)=dE (ps.map Pu.bE)/\Sat w (Row 43 3 (.slice B k d) k (qs.flatMap dQ)*(jr Tryz.prog 9 b ps.length f*aV)) wr2)) (fun _ iv _=>ps.length - (intOf iv).toNat)
   case atStart=>exact⟨0,0,0,none,[],by omega,by omega,rfl,rfl,rfl,(fun q hq=>by cases hq),rfl,HD.o.aI 43 3⟩
   case round=>
    obtain⟨i,k,d,B,qs,hi,hki,rfl,rfl,HE⟩:=hrel;by_cases hlt:i<ps.length
    .obtain⟨lb,lo,rfl,hq⟩:=gx (HL.o.new HE.o.2.2.2.aP) (by omega);obtain⟨y0,y1,y2⟩:=hq i hlt;have HRi:=ah (HR.o _ (List.getElem_mem hlt));have HOi:=ah (HO.o _ (List.getElem_mem hlt));have hPm:=ah (List.getElem_mem hlt);have HKi:=ah (mf hlt);have hii:(i:Int)<ps.length:=by omega
     obtain⟨j,hj1,hj2,hj3⟩:=HF.o i hlt;have HSt:Hid (dE ((ps.map Pu.bE).drop i)=if decide (j=i)=true then ps[i].bE::dE ((ps.map Pu.bE).drop (i+1)) else dE ((ps.map Pu.bE).drop (i+1))):=by
      have h9:=AI (cs:=ps.map Pu.bE) (i:=i) (by rw[List.length_map];exact hlt) (b:=decide (j=i)) (by
       have hl:(ps.map Pu.bE).length=ps.length:=List.length_map ..;rw[decide_eq_true_iff,hj3];refine⟨fun h m h1 h2=>?_,fun h m h1 h2=>?_⟩
       .rw[hl] at h2;have h3:=h m h1 h2;rw[mf h2,mf hlt] at h3;rw[List.getElem?_eq_getElem (by rw[hl];exact h2),List.getElem_map,List.getElem_map];exact h3
       .have h3:=h m h1 (by rw[hl];exact h2);rw[List.getElem?_eq_getElem (by rw[hl];exact h2),List.getElem_map,List.getElem_map] at h3;rw[mf h2,mf hlt];exact h3)
      rw[List.getElem_map] at h9;exact h9
     rw[HKi.o] at hj1;clear hq hj3;generalize ps[i]=p at*
     obtain⟨⟨kA,kc,kl⟩,⟨vA,vc,vl⟩,dd⟩:=p;replace y0:_=some (Value.slice kA kl.length kc):=y0;replace y1:_=some (Value.slice vA vl.length vc):=y1;replace y2:_=some (Value.bool dd):=y2;replace hj1:f kl=some (.int .i64 (j:Int)):=hj1;have hs2:=HE.o.2.2.2.af 43 #[.slice kA kl.length kc,.slice vA vl.length vc,.bool dd];obtain⟨W4,hW4⟩: ∃ W4,W4=wr.alloc (.cells #[.slice kA kl.length kc,.slice vA vl.length vc,.bool dd] 43):=⟨_,rfl⟩;rw[<-hW4] at hs2;have hlk:=hs2.bD.EY (t:= 192) Tryz.underlying9 Tryz.underlying192 (GZ W4) kl (by have:kl.length<=128:=HOi.o;omega);rw[hj1,Option.getD_some] at hlk;have hst:(convert 41 9 (.slice kA kl.length kc)).run Tryz.prog W4 = .ok (zr kl) W4:=cK (HRi.o.1.new hs2.aP) kc;have HS2:=ah hs2;have Hlk:=ah hlk;have Hst:=ah hst;have HKd:=ah HE.o.1;clear hs2 hj1 hlk hst;go_upto_region 11 with fail;rw[<-hW4];clear hW4 y0 y1 y2;have x0:=HS2.o.cell 0;have hlk:=Hlk.o;have hst:=Hst.o;by_cases hji:j=i
     .subst hji;have x1:=HS2.o.cell 1;have x2:=HS2.o.cell 2;have HS3:=ah (HS2.o.aC (.cells #[.slice kA kl.length kc,.slice vA vl.length vc,.bool dd] 43));have Hj:=ah hj;have Hy0:=ah hy0;have Hy1:=ah hy1;have Hy2:=ah hy2;clear hj hy0 hy1 hy2;go_wp2_with (at_builtin;refine au rfl (.tmp 37) (.tmp 39) 22 rfl 43 j0 _ 3 56 Tryz.underlying22 Hj.o Hy0.o Hy1.o Hy2.o rfl (by decide) (.slice B k d) k (qs.flatMap dQ) rfl w _ (by exact HS3.o.av) (some ⟨W4.heap.size,0,none⟩) 1 1 [.slice kA kl.length kc,.slice vA vl.length vc,.bool dd] rfl (by exact(aL _ _ _)) rfl (by intro u hu;simp at hu;rcases hu with rfl | rfl | rfl<;>rfl) (by unfold maxLen;omega) (by omega) ?_;intro B5 d5 w5 hs5;have HS5:=ah hs5.bF;clear hs5);go_roundw
      .refine⟨j+1,k+1,d5,B5,qs++[⟨(kA,kc,kl),(vA,vc,vl),dd⟩],by omega,by omega,by push_cast;rfl,rfl,by rw[List.length_append,HKd.o];rfl,fun q hq=>?_,?_,?_⟩
       .rcases List.mem_append.1 hq with h1 | h1
        .exact HE.o.2.1 q h1
        .rw[List.mem_singleton.1 h1];exact hPm.o
       .have h1:=HE.o.2.2.1;rw[HSt.o,if_pos (by simp)] at h1;rw[List.map_append,List.append_assoc];exact h1
       .rw[List.flatMap_append];exact HS5.o
      .simp[intOf];omega
     .have hb:((j:Int)==i)=false:=by rw[beq_eq_false_iff_ne];omega
      have HSt2:Hid (dE ((ps.map Pu.bE).drop i)=dE ((ps.map Pu.bE).drop (i+1))):=by unfold Hid;rw[HSt.o,if_neg (by simpa using hji)]
      clear hji;go_wp2_with fail;go_roundw
      .exact⟨i+1,k,d,B,qs,by omega,by omega,by push_cast;rfl,rfl,HE.o.1,HE.o.2.1,by rw[<-HSt2.o];exact HE.o.2.2.1,HS2.o.right⟩
      .simp[intOf];omega
    .have hie:i=ps.length:=by omega
     subst hie;have HQ:Hid (qs.map Pu.bE=dE (ps.map Pu.bE)):=by
      have h1:=HE.o.2.2.1;rw[List.drop_eq_nil_of_le (by simp)] at h1;rw[show dE []=[] from rfl,List.append_nil] at h1;exact h1
     go_wp2_with fail;go_ret;have hk:=HE.o.1;subst hk;exact⟨_,_,qs,HE.o.2.1,HQ.o,rfl,HE.o.2.2.2.av.right⟩
def rf (p:cJ):Bool:=decide (p.key.length=0) || decide (128<p.key.length)
def ka (p:cJ):Bool:=decide (16384<p.value.length) || (p.dead && decide (0<p.value.length))
def kJ (p:cJ):Nat:=p.key.length+p.value.length+16
def dB (cs:List cJ):Nat:=if cs.any rf=true then 100 else if cs.any ka=true then 101 else if 262144<(cs.map kJ).sum then 102 else 0
theorem Al (K:Nat): ∀ (l:List cJ),(∀ p ∈ l,kJ p<=K)->(l.map kJ).sum<=l.length*K
 | [],_=>by simp
 | p::l,h=>by
  have h1:=Al K l fun q hq=>h q (List.mem_cons_of_mem _ hq)
  have h2:=h p List.mem_cons_self;rw[List.map_cons,List.sum_cons,List.length_cons,Nat.add_mul];omega
theorem xB (p:Pu) (w:World) (hv:p.value.2.2.length<=140737488355328):
 Calls Tryz.prog 115 #[.agg #[.slice p.key.1 p.key.2.2.length p.key.2.1,.slice p.value.1 p.value.2.2.length p.value.2.1,.bool p.dead]] w fun x w'=>x = .returned (.bool (ka p.bE))/\aq No w w':=by
 have hs:=(Sat.start w).af 43 #[.slice p.key.1 p.key.2.2.length p.key.2.1,.slice p.value.1 p.value.2.2.length p.value.2.1,.bool p.dead];have c0:=hs.cell 0;have c1:=hs.cell 1;have c2:=hs.cell 2;have HS:=ah hs;have HB:Hid (ka p.bE=(decide (16384<p.value.2.2.length) || (p.dead && decide (0<p.value.2.2.length)))):=rfl;rw[HB.o];clear hs HB;obtain⟨⟨kA,kc,kl⟩,⟨vA,vc,vl⟩,dd⟩:=p;replace hv:vl.length<=140737488355328:=hv;show Calls Tryz.prog 115 #[.agg #[.slice kA kl.length kc,.slice vA vl.length vc,.bool dd]] w fun x w'=>x = .returned (.bool (decide (16384<vl.length) || (dd && decide (0<vl.length))))/\aq No w w'
 replace c0:_=some (Value.slice kA kl.length kc):=c0;replace c1:_=some (Value.slice vA vl.length vc):=c1;replace c2:_=some (Value.bool dd):=c2;have HC:=ah HS.o.aP;by_cases h1:16384<vl.length
 .have h2:(16384:Int)<vl.length:=by omega
  rw[decide_eq_true h1,Bool.true_or];clear h1 HS;go_enter Tryz.func115, Tryz.ntmps115;go_wp2_with fail;go_ret;exact⟨rfl,HC.o⟩
 .have h2:¬ (16384:Int)<vl.length:=by omega
  rw[decide_eq_false h1,Bool.false_or];clear h1 HS
  cases dd
  .rw[Bool.false_and];go_enter Tryz.func115, Tryz.ntmps115;go_wp2_with fail;go_ret;exact⟨rfl,HC.o⟩
  .rw[Bool.true_and];go_enter Tryz.func115, Tryz.ntmps115;go_wp2_with fail;go_ret;exact⟨rfl,HC.o⟩
theorem AR (A:Option Addr) (c:Nat) (ps:List Pu) (w:World) (h:aH w A (ps.flatMap dQ)) (hn:ps.length<=1000000) (hv: ∀ p ∈ ps,p.value.2.2.length<=140737488355328):
 Calls Tryz.prog 149 #[.slice A ps.length c,.func (.func 115) #[] #[]] w fun x w'=>(∃ r:Int,x = .returned (.int .i64 r)/\decide (0<=r)=(ps.map Pu.bE).any ka)/\aq No w w':=by
 have HL:=ah h;have HV:=ah hv;clear h hv;go_enter Tryz.func149, Tryz.ntmps149;go_wp2_with fail;go_loopw [8] (fun iv wr=> ∃ i:Nat,i<=ps.length/\iv = .int .i64 i/\Hid ((∀ j (h:j<ps.length),j<i->ka ps[j].bE=false)/\aq No w wr)) (fun iv _=>ps.length - (intOf iv).toNat)
 case atStart=>exact⟨0,by omega,rfl,fun j _ h=>by omega,aq.refl _ _⟩
 case round=>
  obtain⟨i,hi,rfl,HD⟩:=hrel;by_cases hlt:i<ps.length
  .obtain⟨lb,lo,rfl,hq⟩:=gx HL.o (by omega);obtain⟨z0,z1,z2⟩:=hq i hlt;have a0:=HD.o.2.cell z0 id;have a1:=HD.o.2.cell z1 id;have a2:=HD.o.2.cell z2 id;unfold aO at a0 a1;have hs:=HV.o _ (List.getElem_mem hlt);clear z0 z1 z2 hq;obtain⟨B,hB⟩: ∃ B,ka ps[i].bE=B:=⟨_,rfl⟩;have HB:=ah hB;clear hB
   cases B
   .go_wp2_with (go_at_call 115;refine(xB ps[i] _ hs).mono ?_;rintro x w1 ⟨rfl,k1⟩;rw[HB.o];have HK:=ah (HD.o.2.tr k1);clear k1);go_roundw
    .refine⟨i+1,by omega,by push_cast;rfl,fun j h hj=>?_,HK.o⟩;by_cases e:j=i
     .subst e;exact HB.o
     .exact HD.o.1 j h (by omega)
    .simp[intOf];omega
   .go_wp2_with (go_at_call 115;refine(xB ps[i] _ hs).mono ?_;rintro x w1 ⟨rfl,k1⟩;rw[HB.o];have HK:=ah (HD.o.2.tr k1);clear k1);go_ret;refine⟨⟨i,rfl,?_⟩,HK.o⟩;rw[decide_eq_true (by omega)];exact(List.any_eq_true.2 ⟨ps[i].bE,List.mem_map.2 ⟨ps[i],List.getElem_mem _,rfl⟩,HB.o⟩).symm
  .go_wp2_with fail;go_ret;refine⟨⟨-1,rfl,?_⟩,HD.o.2⟩;rw[decide_eq_false (by omega)];symm;rw[List.any_eq_false];intro x hx;obtain⟨e,he,rfl⟩:=List.mem_map.1 hx;obtain⟨j,hj,rfl⟩:=List.getElem_of_mem he;rw[HD.o.1 j hj (by omega)];simp
theorem sP (A:Option Addr) (c:Nat) (ps:List Pu) (w:World) (h:aH w A (ps.flatMap dQ)) (hn:ps.length<=1000000) (hv: ∀ p ∈ ps,p.value.2.2.length<=140737488355328):
 Calls Tryz.prog 114 #[.slice A ps.length c,.func (.func 115) #[] #[]] w fun x w'=>x = .returned (.bool ((ps.map Pu.bE).any ka))/\aq No w w':=by
 have HC:=ah (AR A c ps w h hn hv);clear h hv;go_enter Tryz.func114, Tryz.ntmps114;go_wp2_with (go_at_call 149;(with_reducible refine HC.o.mono ?_);rintro x w1 ⟨⟨r,rfl,hr⟩,k1⟩;have HR:=ah hr;have HK:=ah k1;clear hr k1);go_ret;refine⟨?_,HK.o⟩;rw[<-HR.o];rfl
theorem Ds (A:Option Addr) (c:Nat) (ps:List Pu) (w:World) (h:aH w A (ps.flatMap dQ)) (hn:ps.length<=100000) (hb: ∀ p ∈ ps,p.key.2.2.length<=1000000000/\p.value.2.2.length<=1000000000):
 Calls Tryz.prog 68 #[.slice A ps.length c] w fun x w'=>x = .returned (.int .i64 (dB (ps.map Pu.bE):Nat))/\aq No w w':=by
 have HL:=ah h;have HB:=ah hb;have HCo:=ah fun (W:World) (k:aq No w W)=>sP A c ps W (h.new k) (by omega) (fun p hp=>by have:=(hb p hp).2;omega)
 have HSum:Hid (∀ i,i<=ps.length->(((ps.take i).map Pu.bE).map kJ).sum<=300000000000000):=fun i hi=>by
  have h1:=Al 2000000016 ((ps.take i).map Pu.bE) (fun p hp=>by
   obtain⟨q,hq,rfl⟩:=List.mem_map.1 hp;have h2:=hb q (List.mem_of_mem_take hq);have h3:kJ q.bE=q.key.2.2.length+q.value.2.2.length+16:=rfl;omega)
  rw[List.length_map,List.length_take] at h1;omega
 clear h hb;go_enter Tryz.func68, Tryz.ntmps68;go_wp2_with fail;go_loopw [3,8] (fun nv iv wr=> ∃ (i n:Nat),i<=ps.length/\iv = .int .i64 (i:Int)/\nv = .int .i64 (n:Int)/\Hid (n=(((ps.take i).map Pu.bE).map kJ).sum/\(∀ j (h:j<ps.length),j<i->rf ps[j].bE=false)/\aq No w wr)) (fun _ iv _=>ps.length - (intOf iv).toNat)
 case atStart=>exact⟨0,0,by omega,rfl,rfl,rfl,(fun j _ h=>by omega),aq.refl _ _⟩
 case round=>
  obtain⟨i,n,hi,rfl,rfl,HD⟩:=hrel;have hnb:=HSum.o i hi;rw[<-HD.o.1] at hnb;by_cases hlt:i<ps.length
  .obtain⟨lb,lo,rfl,hq⟩:=gx (HL.o.new HD.o.2.2) (by omega);obtain⟨y0,y1,y2⟩:=hq i hlt;have hbi:=HB.o _ (List.getElem_mem hlt);have hii:(i:Int)<ps.length:=by omega
   have HNx:Hid ((((ps.take (i+1)).map Pu.bE).map kJ).sum=n+(ps[i].key.2.2.length+ps[i].value.2.2.length+16)):=by
    unfold Hid;rw[List.take_add_one,List.getElem?_eq_getElem hlt,List.map_append,List.map_append,List.sum_append, <-HD.o.1];rfl
   obtain⟨q,hqe⟩: ∃ q,q=ps[i]:=⟨_,rfl⟩;have HQ:=ah hqe;rw[<-hqe] at y0 y1 y2 hbi HNx;clear hq hqe;obtain⟨⟨kA,kc,kl⟩,⟨vA,vc,vl⟩,dd⟩:=q;replace y0:_=some (Value.slice kA kl.length kc):=y0;replace y1:_=some (Value.slice vA vl.length vc):=y1;replace y2:_=some (Value.bool dd):=y2;replace hbi:kl.length<=1000000000/\vl.length<=1000000000:=hbi;obtain⟨hbk,hbv⟩:=hbi;replace HNx:Hid ((((ps.take (i+1)).map Pu.bE).map kJ).sum=n+(kl.length+vl.length+16)):=HNx;have HBk:Hid (rf ps[i].bE=(decide (kl.length=0) || decide (128<kl.length))):=by rw[<-HQ.o];rfl
   have HCh:Hid (aq No w (wr.alloc (.cells #[.slice kA kl.length kc,.slice vA vl.length vc,.bool dd] 43))):=HD.o.2.2.alloc _;by_cases hk:kl.length=0\/128<kl.length
   .have HE:Hid (dB (ps.map Pu.bE)=100):=by
     unfold Hid dB;rw[if_pos];refine List.any_eq_true.2 ⟨ps[i].bE,List.mem_map.2 ⟨ps[i],List.getElem_mem _,rfl⟩,?_⟩;rw[HBk.o];simpa using hk
    rcases hk with hk | hk
    .have hk0:((kl.length:Int)==0)=true:=by rw[hk];rfl
     clear hk;go_wp2_with fail;go_ret;exact⟨by rw[HE.o];rfl,HCh.o⟩
    .have hk0:((kl.length:Int)==0)=false:=by rw[beq_eq_false_iff_ne];omega
     have hk1:(128:Int)<kl.length:=by omega
     clear hk;go_wp2_with fail;go_ret;exact⟨by rw[HE.o];rfl,HCh.o⟩
   .have hk0:((kl.length:Int)==0)=false:=by rw[beq_eq_false_iff_ne];omega
    have hk1:¬ (128:Int)<kl.length:=by omega
    have HG:Hid (rf ps[i].bE=false):=by
     unfold Hid;rw[HBk.o,decide_eq_false (by omega),decide_eq_false (by omega)];rfl
    clear hk;go_wp2_with fail;go_roundw
    .refine⟨i+1,n+(kl.length+vl.length+16),by omega,by push_cast;rfl,by push_cast;rfl,HNx.o.symm,fun j h hj=>?_,HCh.o⟩;by_cases e:j=i
     .subst e;exact HG.o
     .exact HD.o.2.1 j h (by omega)
    .simp[intOf];omega
  .have hie:i=ps.length:=by omega
   subst hie;have HN:Hid (n=((ps.map Pu.bE).map kJ).sum):=by have:=HD.o.1;rw[List.take_length] at this;exact this
   have HNo:Hid ((ps.map Pu.bE).any rf=false):=by
    unfold Hid;rw[List.any_eq_false];intro x hx;obtain⟨e,he,rfl⟩:=List.mem_map.1 hx;obtain⟨j,hj,rfl⟩:=List.getElem_of_mem he;rw[HD.o.2.1 j hj (by omega)];simp
   have HE:Hid (dB (ps.map Pu.bE)=if (ps.map Pu.bE).any ka=true then 101 else if 262144<n then 102 else 0):=by
    unfold Hid dB;rw[HNo.o, <-HN.o];rfl
   have HK:=ah HD.o.2.2;generalize hv:(ps.map Pu.bE).any ka=V at HCo HE;clear hv HN HNo HD
   cases V
   .by_cases hl:262144<n
    .have hl2:(262144:Int)<n:=by omega
     replace HE:Hid (dB (ps.map Pu.bE)=102):=by unfold Hid;rw[HE.o,if_neg (by simp),if_pos hl]
     clear hl;go_wp2_with (go_at_call 114;(with_reducible refine(HCo.o _ HK.o).mono ?_);rintro x w1 ⟨rfl,k1⟩;have HK2:=ah (HK.o.tr k1);clear k1);go_ret;exact⟨by rw[HE.o];rfl,HK2.o⟩
    .have hl2:¬ (262144:Int)<n:=by omega
     replace HE:Hid (dB (ps.map Pu.bE)=0):=by unfold Hid;rw[HE.o,if_neg (by simp),if_neg hl]
     clear hl;go_wp2_with (go_at_call 114;(with_reducible refine(HCo.o _ HK.o).mono ?_);rintro x w1 ⟨rfl,k1⟩;have HK2:=ah (HK.o.tr k1);clear k1);go_ret;exact⟨by rw[HE.o];rfl,HK2.o⟩
   .replace HE:Hid (dB (ps.map Pu.bE)=101):=by unfold Hid;rw[HE.o,if_pos rfl]
    go_wp2_with (go_at_call 114;(with_reducible refine(HCo.o _ HK.o).mono ?_);rintro x w1 ⟨rfl,k1⟩;have HK2:=ah (HK.o.tr k1);clear k1);go_ret;exact⟨by rw[HE.o];rfl,HK2.o⟩
def nK (ns:List Nat):Nat:=ns.foldl (fun m n=>if n % 2=1 then max m n else m) 0
theorem DE (ns:List Nat) (n:Nat):nK (ns++[n])=if n % 2=1 then max (nK ns) n else nK ns:=by
 unfold nK;rw[List.foldl_append];rfl
theorem BQ {w:World} {A:Option Addr} {ls:List (Nat × Nat × Nat)} (h:aH w A (ls.flatMap dC)) {i:Nat} (hi:i<ls.length): ∃ b o,A=some ⟨b,o,none⟩/\
 w.cell? ⟨b,o+i*3,none⟩=some (.int .i64 (ls[i].1:Int))/\w.cell? ⟨b,o+i*3+1,none⟩=some (.int .i64 (ls[i].2.1:Int))/\w.cell? ⟨b,o+i*3+2,none⟩=some (.int .i64 (ls[i].2.2:Int)):=by
 obtain⟨b,o,e,hc⟩:=aH.elem (f:=dC) (k:=3) (fun _=>rfl) (by decide) h hi;refine⟨b,o,e,by simpa [dC] using hc 0 (by decide),?_,?_⟩
 .have:=hc 1 (by decide);rw[<-Nat.add_assoc] at this;simpa [dC] using this
 .have:=hc 2 (by decide);rw[<-Nat.add_assoc] at this;simpa [dC] using this
section
variable {w0 w:World} {F:SP} {s d:Nat} {D:Dk} {S:aN} {sf:Nat->Nat} {lim:Nat}
theorem Ex (hf:Calls Tryz.prog 67 #[.pointer (some ⟨s,0,none⟩)] w fun e w'=> ∃ u,e = .returned u/\Sat w0 (Row 128 3 u S.files.length ((S.files.map kQ).flatMap dC)*F) w') (hn: ∀ f ∈ S.files,f.num<=2147483647) (hl:S.files.length<=1000):
 Calls Tryz.prog 57 #[.pointer (some ⟨s,0,none⟩)] w fun e w'=>e = .returned (.int .i64 (nK (S.files.map (·.num)):Nat))/\Sat w0 F w':=by
 have HF:=ah hf;have HN:=ah hn;obtain⟨ls,hls⟩: ∃ ls,ls=S.files.map kQ:=⟨_,rfl⟩;have HLs:=ah hls;have hll:ls.length=S.files.length:=by rw[hls,List.length_map]
 have HNm:Hid (S.files.map (·.num)=ls.map (·.1)):=by unfold Hid;rw[hls,List.map_map];rfl
 have HB:Hid (∀ x ∈ ls,x.1<=2147483647):=fun x hx=>by
  rw[hls] at hx;obtain⟨f,hf,rfl⟩:=List.mem_map.1 hx;exact hn f hf
 rw[<-hls, <-hll] at HF;rw[HNm.o];rw[<-hll] at hl;clear hf hn hls hll HLs HN HNm;go_enter Tryz.func57, Tryz.ntmps57;go_wp2_with (go_at_call 67;(with_reducible refine HF.o.mono ?_);rintro e w1 ⟨u,rfl,hs⟩;obtain⟨A,c,rfl,hle,hmx⟩:=hs.aT;have HS:=ah hs;clear hs hle hmx);have HRow:=ah (HS.o.ic);have HS1:=ah HS.o.right;go_loopw [3,9] (fun mv iv wr=> ∃ i m:Nat,i<=ls.length/\iv = .int .i64 (i:Int)/\mv = .int .i64 (m:Int)/\m<=2147483647/\Hid (m=nK ((ls.take i).map (·.1))/\aq No w1 wr)) (fun _ iv _=>ls.length - (intOf iv).toNat)
 case atStart=>exact⟨0,0,by omega,rfl,rfl,by omega,rfl,aq.refl _ _⟩
 case round=>
  obtain⟨i,m,hi,rfl,rfl,hm,HD⟩:=hrel;by_cases hlt:i<ls.length
  .obtain⟨lb,lo,rfl,y0,y1,y2⟩:=BQ (HRow.o.new HD.o.2) hlt;have hb:=HB.o _ (List.getElem_mem hlt);have HNx:Hid (nK ((ls.take (i+1)).map (·.1))=if ls[i].1 % 2=1 then max m ls[i].1 else m):=by
    unfold Hid;rw[List.take_add_one,List.getElem?_eq_getElem hlt,List.map_append];show nK (_++[ls[i].1])=_;rw[DE, <-HD.o.1]
   have hii:(i:Int)<ls.length:=by omega
   generalize ls[i]=x at*
   obtain⟨n,x1,x2⟩:=x;replace y0:_=some (Value.int .i64 (n:Int)):=y0;replace y1:_=some (Value.int .i64 (x1:Int)):=y1;replace y2:_=some (Value.int .i64 (x2:Int)):=y2;replace hb:n<=2147483647:=hb;replace HNx:Hid (nK ((ls.take (i+1)).map (·.1))=if n % 2=1 then max m n else m):=HNx;have HC:=ah (HD.o.2.alloc (.cells #[.int .i64 (n:Int),.int .i64 (x1:Int),.int .i64 (x2:Int)] 128));by_cases h1:n % 2=1
   .have HNx2:Hid (nK ((ls.take (i+1)).map (·.1))=max m n):=by unfold Hid;rw[HNx.o,if_pos h1]
    have hb1:((n:Int) % 2==1)=true:=by rw[beq_iff_eq];omega
    have hb2:((n:Int).tmod 2==1)=true:=by rw[Int.tmod_eq_emod_of_nonneg (by omega)];exact hb1
    have hmx:max (m:Int) n=((max m n:Nat):Int):=by omega
    clear h1;go_wp2_with fail;go_roundw
    .exact⟨i+1,max m n,by omega,by push_cast;rfl,by first | rfl | rw[hmx] | (congr 1),by omega,HNx2.o.symm,HC.o⟩
    .simp[intOf];omega
   .have HNx2:Hid (nK ((ls.take (i+1)).map (·.1))=m):=by unfold Hid;rw[HNx.o,if_neg h1]
    have hb1:((n:Int) % 2==1)=false:=by rw[beq_eq_false_iff_ne];omega
    have hb2:((n:Int).tmod 2==1)=false:=by rw[Int.tmod_eq_emod_of_nonneg (by omega)];exact hb1
    clear h1;go_wp2_with fail;go_roundw
    .exact⟨i+1,m,by omega,by push_cast;rfl,rfl,by omega,HNx2.o.symm,HC.o⟩
    .simp[intOf];omega
  .have hie:i=ls.length:=by omega
   subst hie;have HN:Hid (m=nK (ls.map (·.1))):=by have:=HD.o.1;rw[List.take_length] at this;exact this
   go_wp2_with fail;go_ret;exact⟨by rw[<-HN.o];rfl,HS1.o.new HD.o.2⟩
end
def eW (M:List Kv):Nat:=(M.map fun p=>p.1.length+p.2.length+40).sum
def ab:List aw->List UInt8
 | []=>[]
 | e::L=>ai (aR (e::L)).length 4++aR (e::L)
def gD:Nat->List UInt8->List (List UInt8)
 | 0,_=>[]
 | n+1,b=>if b.length=0 then [] else b.take 480::gD n (b.drop 480)
def ak (b:List UInt8):List (List UInt8):=gD b.length b
theorem rZ: ∀ (n:Nat) (b:List UInt8),b.length<=n->(gD n b).flatten=b
 | 0,b,h=>by rw[List.eq_nil_of_length_eq_zero (by omega:b.length=0)];rfl
 | n+1,b,h=>by
  unfold gD;split
  .rename_i h1;rw[List.eq_nil_of_length_eq_zero h1];rfl
  .rw[List.flatten_cons,rZ n _ (by rw[List.length_drop];omega),List.take_append_drop]
theorem tw: ∀ (n:Nat) (b:List UInt8),b.length<=n->(gD n b).length=(b.length+479) / 480
 | 0,b,h=>by rw[show b.length=0 by omega];rfl
 | n+1,b,h=>by
  unfold gD;split
  .rename_i h1;rw[h1];rfl
  .rw[List.length_cons,tw n _ (by rw[List.length_drop];omega),List.length_drop];omega
theorem sd: ∀ (n:Nat) (b:List UInt8), ∀ p ∈ gD n b,p.length<=480
 | 0,b,p,h=>by cases h
 | n+1,b,p,h=>by
  unfold gD at h;split at h
  .cases h
  .rcases List.mem_cons.1 h with rfl | h
   .rw[List.length_take];omega
   .exact sd n _ p h
theorem uN: ∀ (n m:Nat) (b:List UInt8),b.length<=n->b.length<=m->gD n b=gD m b
 | 0,m,b,h,_=>by
  have h0:b.length=0:=by omega
  cases m with
  | zero=>rfl
  | succ m=>unfold gD;rw[if_pos h0]
 | n+1,0,b,_,h=>by
  have h0:b.length=0:=by omega
  unfold gD;rw[if_pos h0]
 | n+1,m+1,b,h1,h2=>by
  unfold gD;split
  .rfl
  .rw[uN n m _ (by rw[List.length_drop];omega) (by rw[List.length_drop];omega)]
theorem D9 (b:List UInt8):(ak b).flatten=b:=rZ _ b (Nat.le_refl _)
theorem sD (b:List UInt8):(ak b).length=(b.length+479) / 480:=tw _ b (Nat.le_refl _)
theorem Db {b p:List UInt8} (h:p ∈ ak b):p.length<=480:=sd _ b p h
theorem uO {b:List UInt8} (h:b.length≠0):ak b=b.take 480::ak (b.drop 480):=by
 unfold ak;obtain⟨n,hn⟩: ∃ n,b.length=n+1:=⟨b.length - 1,by omega⟩;rw[hn];have e:gD (n+1) b=b.take 480::gD n (b.drop 480):=by
  show (if b.length=0 then [] else b.take 480::gD n (b.drop 480))=_;rw[if_neg h]
 rw[e,uN n _ _ (by rw[List.length_drop];omega) (Nat.le_refl _)]
def pZ (L:List aw):Nat:=(L.map fun e=>e.key.length+e.value.length).sum
theorem DQ (L:List aw) (e:aw):pZ (L++[e])=pZ L+(e.key.length+e.value.length):=by
 unfold pZ;rw[List.map_append,List.sum_append];rfl
theorem ID (al:List UInt8) (e:aw):(jY al e).length<=13+(e.key.length+e.value.length):=by
 unfold jY;simp[aB];omega
theorem zn (L:List aw): ∀ k,k<=L.length->(dp L k).length<=8+pZ (L.take k)+13*k
 | 0,_=>by simp[dp,dT,aB]
 | k+1,h=>by
  have h1:=zn L k (by omega);have h2:(kF L k).length<=13+(L[k].key.length+L[k].value.length):=by
   unfold kF;rw[List.getElem?_eq_getElem (by omega)];exact ID _ _
  rw[kz,List.length_append,List.take_add_one,List.getElem?_eq_getElem (by omega),show (some L[k]).toList=[L[k]] from rfl,DQ];omega
theorem BW (L:List aw) (h: ∀ e ∈ L,e.key.length<=128/\e.value.length<=16384): ∀ k,(fL L k).length<=4+133*((k+7) / 8)
 | 0=>by simp[fL,aB]
 | k+1=>by
  have h1:=BW L h k;rw[lX,List.length_append];by_cases h8:k % 8=0
  .have h2:=uv L k h;have h3:(k+1+7) / 8=(k+7) / 8+1:=by omega
   rw[h3];omega
  .have h2:(mF L k).length=0:=by unfold mF;rw[if_neg h8];rfl
   have h3:(k+7) / 8<=(k+1+7) / 8:=by omega
   omega
theorem oh (L:List aw) (h: ∀ e ∈ L,e.key.length<=128/\e.value.length<=16384):(aR L).length<=pZ L+32*L.length+200:=by
 have h1:=zn L L.length (Nat.le_refl _);have h2:=BW L h L.length;have h3:=oJ L;have h4:=gU L L.length;have h5:dN (dh L L.length).length 10<=(10*L.length+71) / 8:=by
  unfold dN;omega
 rw[List.take_length] at h1;unfold aR Et;simp only[List.length_append,aB];omega
theorem uw (L:List aw):eW (L.map cT)=pZ L+40*L.length:=by
 induction L with
 | nil=>rfl
 | cons e L ih=>
  unfold eW pZ at*
  rw[List.map_cons,List.map_cons,List.sum_cons,List.map_cons,List.sum_cons,ih,List.length_cons];show e.key.length+e.value.length+40+_=_;omega
theorem yT (L:List aw) (h: ∀ e ∈ L,e.key.length<=128/\e.value.length<=16384):(ab L).length<=204+eW (L.map cT):=by
 cases L with
 | nil=>exact Nat.zero_le _
 | cons e L=>
  have h1:=oh (e::L) h;rw[uw];unfold ab;rw[List.length_append,aB];omega
structure Cv (e:aw):Prop where
 key:1<=e.key.length/\e.key.length<=128
 val:e.value.length<=16384
 dead:e.dead=true->e.value.length=0
 seq:0<=e.seq/\e.seq<=1000000000
structure fV (E:List aw):Prop where
 sort:E.Pairwise fun a b=>Lib.compareBytes a.key b.key<0
 each: ∀ e ∈ E,Cv e/\e.dead=false
theorem J1:fV []:=⟨List.Pairwise.nil,fun e h=>by cases h⟩
theorem fV.MQ {E:List aw} (h:fV E):E.Pairwise dJ:=h.sort.imp fun h=>cU.2 (.inl h)
theorem fV.build {E:List aw} (h:fV E) (hn:E.length<=65536):cd E=0:=by
 unfold cd;rw[qW h.MQ,if_neg (by simp),if_neg];rintro (h1 | h1)
 .omega
 .obtain⟨e,he,h2⟩:=List.any_eq_true.1 h1;have h3:=(h.each e he).1;have h4:gM e=true:=ir.2 ⟨h3.key.2,h3.val,h3.dead,h3.seq.1⟩;rw[h4] at h2
  cases h2
theorem fV.seq {E:List aw} (h:fV E): ∀ e ∈ E,e.seq<9223372036854775808:=fun e he=>by have:=(h.each e he).1.seq;omega
theorem fV.gh {E:List aw} (h:fV E):(E.map cT).Pairwise nH:=by rw[List.pairwise_map];exact h.sort
theorem ym (s:Int) (k:List UInt8): ∀ {K:List aw},(K.map cT).Pairwise nH->(∀ x ∈ K,x.dead=false)->(∀ x ∈ K,x.seq<=s)->ew k s K=ba k (K.map cT)
 | [],_,_,_=>rfl
 | e::K,hp,hl,hm=>by
  show _=(if e.key=k then some e.value else ba k (K.map cT));rw[List.map_cons,List.pairwise_cons] at hp;have ih2:=ym s k hp.2 (fun x hx=>hl x (List.mem_cons_of_mem _ hx)) (fun x hx=>hm x (List.mem_cons_of_mem _ hx));by_cases hk:e.key=k
  .rw[if_pos hk,qG ⟨hk,hm e List.mem_cons_self⟩];unfold vy;rw[if_neg (by rw[hl e List.mem_cons_self];simp)]
  .rw[if_neg hk,pb (fun h=>hk h.1),ih2]
structure cR (L:List aw) (q:Nat) (M:List Kv) (t:Nat):Prop where
 sort:L.Pairwise dJ
 each: ∀ x ∈ L,Cv x
 top: ∀ x ∈ L,x.seq<=q
 len:L.length<=t
 gh:M.Pairwise nH
 tells: ∀ k,ew k q L=ba k M
theorem cR.view {L:List aw} {q t:Nat} {M:List Kv} (h:cR L q M t):eP q L=M:=BI h.sort h.gh h.tells
theorem fV.mem {E:List aw} {q:Nat} (h:fV E) (hq: ∀ x ∈ E,x.seq<=q):cR E q (E.map cT) E.length:=
 ⟨h.MQ,fun x hx=>(h.each x hx).1,hq,Nat.le_refl _,h.gh,fun k=>ym _ k h.gh (fun x hx=>(h.each x hx).2) hq⟩
structure je (p:cJ):Prop where
 key:1<=p.key.length/\p.key.length<=128
 val:p.value.length<=16384
 dead:p.dead=true->p.value.length=0
theorem je.bE {p:cJ} (h:je p):CW p:=⟨h.key.1,h.key.2,h.val⟩
structure pQ (cs:List cJ):Prop where
 each: ∀ p ∈ cs,je p
 sum:(cs.map kJ).sum<=262144
theorem zm {cs:List cJ}:dB cs=0↔pQ cs:=by
 have hK:cs.any rf=false↔ ∀ p ∈ cs,1<=p.key.length/\p.key.length<=128:=by
  rw[List.any_eq_false];refine forall_congr' fun p=>forall_congr' fun hp=>?_
  unfold rf;simp only[Bool.or_eq_true,decide_eq_true_eq];omega
 have hV:cs.any ka=false↔ ∀ p ∈ cs,p.value.length<=16384/\(p.dead=true->p.value.length=0):=by
  rw[List.any_eq_false];refine forall_congr' fun p=>forall_congr' fun hp=>?_
  unfold ka;simp only[Bool.or_eq_true,decide_eq_true_eq,Bool.and_eq_true,not_or,not_and];refine and_congr (by omega) (forall_congr' fun _=>by omega)
 unfold dB;constructor
 .intro h;split at h
  .omega
  .rename_i h1;split at h
   .omega
   .rename_i h2;split at h
    .omega
    .rename_i h3;have h1':=hK.1 (by simpa using h1);have h2':=hV.1 (by simpa using h2);exact⟨fun p hp=>⟨h1' p hp,(h2' p hp).1,(h2' p hp).2⟩,by omega⟩
 .rintro ⟨h1,h2⟩;rw[hK.2 fun p hp=>(h1 p hp).key,hV.2 fun p hp=>⟨(h1 p hp).val,(h1 p hp).dead⟩];simp only[Bool.false_eq_true,if_false];rw[if_neg (by omega)]
theorem vK {cs:List cJ} (h:pQ cs):(aJ cs).length<=262144:=by
 have: ∀ l:List cJ,(aJ l).length<=(l.map kJ).sum:=fun l=>by
  induction l with
  | nil=>exact Nat.le_refl _
  | cons p l ih=>
   rw[gT,List.length_append,gp,List.map_cons,List.sum_cons];have:kJ p=p.key.length+p.value.length+16:=rfl;omega
 exact Nat.le_trans (this cs) h.sum
theorem ja: ∀ cs:List cJ,(dE cs).Sublist cs
 | []=>List.Sublist.refl _
 | p::cs=>by
  unfold dE;split
  .exact(ja cs).cons _
  .exact(ja cs).cons_cons _
theorem GW (e:aw) (L:List aw):(kK e L).length=L.length+1:=by
 obtain⟨A,B,h1,h2,_⟩:=mX e L;rw[h2,h1,List.length_append,List.length_append,List.length_cons];omega
theorem qu (n:Int): ∀ (ps:List cJ) (L:List aw),(mU n ps L).length=L.length+ps.length
 | [],L=>rfl
 | p::ps,L=>by
  show (mU n ps (kK (wh n p) L)).length=_;rw[qu n ps,GW,List.length_cons];omega
theorem J0 {e:aw} {L:List aw} (h:L.Pairwise dJ) (hn: ∀ x ∈ L,¬ jm x e):(kK e L).Pairwise dJ:=by
 have e0:=List.takeWhile_append_dropWhile (p:=fun x=>aF x e) (l:=L);have h1:=h;rw[<-e0] at h1;obtain⟨p1,p2,p3⟩:=List.pairwise_append.1 h1;have hA: ∀ x ∈ L.takeWhile (fun x=>aF x e),dJ x e:=fun x hx=>gQ (f:=fun x=>aF x e) hx
 have hB: ∀ x ∈ L.dropWhile (fun x=>aF x e),dJ e x:=by
  intro x hx
  cases hd:L.dropWhile (fun x=>aF x e) with
  | nil=>rw[hd] at hx;cases hx
  | cons y T=>
   have hy:aF y e=false:=by
    have:=List.head_dropWhile_not (p:=fun x=>aF x e) (l:=L) (by rw[hd];simp);simp only[hd,List.head_cons] at this;exact this
   have hyL:y ∈ L:=(List.dropWhile_sublist (fun x=>aF x e)).mem (by rw[hd];exact List.mem_cons_self);have hey:dJ e y:=by
    rcases Cp y e with h2 | h2 | h2
    .have h3:aF y e=true:=h2;rw[hy] at h3;cases h3
    .exact h2
    .exact absurd h2 (hn y hyL)
   rw[hd] at hx p2;rcases List.mem_cons.1 hx with rfl | hx
   .exact hey
   .exact jx hey ((List.pairwise_cons.1 p2).1 x hx)
 unfold kK;refine List.pairwise_append.2 ⟨p1,List.pairwise_cons.2 ⟨hB,p2⟩,fun a ha b hb=>?_⟩;rcases List.mem_cons.1 hb with rfl | hb
 .exact hA a ha
 .exact p3 a ha b hb
theorem CP {n:Int}: ∀ {ps:List cJ} {L:List aw},(ps.Pairwise fun a b=>a.key≠b.key)->L.Pairwise dJ->(∀ p ∈ ps, ∀ x ∈ L,x.key=p.key->x.seq<n)->(mU n ps L).Pairwise dJ
 | [],L,_,h,_=>h
 | p::ps,L,hp,h,hl=>by
  obtain⟨h1,h2⟩:=List.pairwise_cons.1 hp;refine CP (L:=kK (wh n p) L) h2 (J0 h fun x hx hs=>?_) fun q hq x hx hk=>?_
  .have h3:=hl p List.mem_cons_self x hx hs.1;have h4:x.seq=n:=hs.2;omega
  .rcases sj.1 hx with rfl | hx
   .exact absurd hk (h1 q hq)
   .exact hl q (List.mem_cons_of_mem _ hq) x hx hk
def gE (q:Nat) (cs:List cJ) (L:List aw):List aw:=mU ((q+1:Nat):Int) (dE cs) L
theorem cR.done {L:List aw} {q t:Nat} {M:List Kv} (h:cR L q M t) {cs:List cJ} (hc: ∀ p ∈ cs,je p) (hq:q+1<=1000000000):cR (gE q cs L) (q+1) (bq cs M) (t+cs.length):=by
 have hlt: ∀ x ∈ L,x.seq<((q+1:Nat):Int):=fun x hx=>by have:=h.top x hx;omega
 have hm: ∀ x ∈ gE q cs L,x ∈ L\/ ∃ p ∈ cs,x=wh ((q+1:Nat):Int) p:=fun x hx=>by
  rcases nM.1 hx with h1 | ⟨p,hp,h1⟩
  .exact .inl h1
  .exact .inr ⟨p,lO hp,h1⟩
 refine⟨CP (fD cs) h.sort (fun p _ x hx _=>hlt x hx),fun x hx=>?_,fun x hx=>?_,?_,gO cs h.gh,fun k=>?_⟩
 .rcases hm x hx with h1 | ⟨p,hp,rfl⟩
  .exact h.each x h1
  .have h2:=hc p hp;exact⟨h2.key,h2.val,h2.dead,by show 0<=((q+1:Nat):Int)/\((q+1:Nat):Int)<=_;omega⟩
 .rcases hm x hx with h1 | ⟨p,hp,rfl⟩
  .have:=h.top x h1;omega
  .exact Int.le_refl _
 .unfold gE;rw[qu];have h1:=h.len;have h2:=(ja cs).length_le;omega
 .refine Iw (Int.le_refl _) hlt h.gh (fun k=>?_) k;rw[<-h.tells k];exact Ig (fun x hx=>by have:=h.top x hx;omega) h.top k
theorem cR.then {L:List aw} {q t:Nat} {M:List Kv} (h:cR L q M t) (cs:List cJ) {s:Int} (hs:s<=q) (k:List UInt8):ew k s (gE q cs L)=ew k s L:=
 Dy (by omega) (fun x hx=>by have:=h.top x hx;omega) k
def eE (ss:List Int) (L:List aw):List aw:=if 2*(cZ true ss L).length+16<L.length then cZ true ss L else L
theorem cR.thin {L:List aw} {q t:Nat} {M:List Kv} (h:cR L q M t) (ss:List Int):cR (cZ true ss L) q M t:=by
 have hs:=gG true ss L;exact⟨pd h.sort,fun x hx=>h.each x (hs.mem hx),fun x hx=>h.top x (hs.mem hx),Nat.le_trans hs.length_le h.len,h.gh,fun k=>by rw[wu h.sort (.inr h.top),h.tells]⟩
theorem cR.tidy {L:List aw} {q t:Nat} {M:List Kv} (h:cR L q M t) (ss:List Int):cR (eE ss L) q M t:=by
 unfold eE;split
 .exact h.thin ss
 .exact h
theorem cR.kept {L:List aw} {q t:Nat} {M:List Kv} (h:cR L q M t) {ss:List Int} {s:Int} (hs:s ∈ ss) (k:List UInt8):ew k s (eE ss L)=ew k s L:=by
 unfold eE;split
 .exact wu h.sort (.inl hs)
 .rfl
def dj (L:List aw):List aw:=cZ true [] L
theorem cR.wI {L:List aw} {q t:Nat} {M:List Kv} (h:cR L q M t):fV (dj L)/\(dj L).map cT=M/\(dj L).length<=t/\ ∀ x ∈ dj L,x.seq<=q:=by
 have hs:=gG true [] L;refine⟨⟨oz _ L (Nat.le_refl _) h.sort,fun e he=>⟨h.each e (hs.mem he),ou _ L (Nat.le_refl _) e he⟩⟩,?_,Nat.le_trans hs.length_le h.len,fun x hx=>h.top x (hs.mem hx)⟩;rw[<-h.view];exact D5 h.sort h.top
def iY (E:List aw) (bs:List (List cJ)):List Kv:=bs.foldl (fun M cs=>bq cs M) (E.map cT)
theorem lR (E:List aw) (bs:List (List cJ)) (cs:List cJ):iY E (bs++[cs])=bq cs (iY E bs):=by unfold iY;rw[List.foldl_append];rfl
section
variable {D:Dk} {S:aN} {sf:Nat->Nat} {lim n m k:Nat} {f:Fl} {p:List UInt8}
theorem Aj (k:Nat) (p:List UInt8) {x:Int} (h:S.find x=some f) (hk:f.num=k):(S.grow k p).find x=some { f with aa:=f.aa++[p] }:=by
 rw[CL,qH,h];simp[hk]
theorem th {x:Int}: ∀ (ps:List (List UInt8)) {S:aN} {D:Dk} {f:Fl},Good D S sf lim->S.find x=some f->(∀ p ∈ ps,p.length<=480)->f.aa.length+ps.length<=f.blocks->1<=D.armed->D.armed<=ps.length->
 ∃ S' D' Dv j,aN.cO x ps S D=(S',D',21)/\D'.off=true/\Good Dv (S.fw f.num (ps.take j)) sf lim/\(∀ keep torn bytes,D'.bS keep torn bytes=Dv.bS keep torn bytes)/\(∀ m,dA D m->dA D' (m+ps.length))/\D'.cells.length=D.cells.length
 | [],S,D,f,hg,hf,hp,hl,h1,ha=>by
  simp at ha;omega
 | p::ps,S,D,f,hg,hf,hp,hl,h1,ha=>by
  rw[List.length_cons] at hl ha;have h:=ko hg x p
  cases h with
  | none h1 e=>rw[hf] at h1;cases h1
  | Gs f' h1 h2 e=>have:=hp p List.mem_cons_self;omega
  | full f' h1 h2 h3 e=>
   rw[hf] at h1;injection h1 with h1
   subst h1;omega
  | off f' h1 h2 h3 h4 e=>
   obtain⟨hm,_⟩:=iH h1;have hg2:=pK hg hm (p:=p) (by omega) (by omega);rw[hf] at h1;injection h1 with h1
   subst h1;exact⟨_,_,D.wr (f.first+f.aa.length) (bL f.birth f.life p),1,by rw[fB,e];exact if_neg (by simp),yt h4,hg2,fun keep torn bytes=>qC _ _ _ _ _ _,fun m hm=>hm.dK.mono (by rw[List.length_cons];omega),rfl⟩
  | ok f' h1 h2 h3 h4 e g=>
   rw[hf] at h1;injection h1 with h1
   subst h1;rw[e] at g;have e2:aN.cO x (p::ps) S D=aN.cO x ps (S.grow f.num p) (D.wr (f.first+f.aa.length) (bL f.birth f.life p)):=by
    rw[fB,e];exact if_pos rfl
   obtain⟨S',D',Dv,j,i1,i2,i3,i4,i5,i6⟩:=th ps g (Aj f.num p hf rfl) (fun q hq=>hp q (List.mem_cons_of_mem _ hq)) (by simp only[List.length_append,List.length_singleton];omega) (by rw[zy];omega) (by rw[zy];omega);refine⟨S',D',Dv,j+1,e2.trans i1,i2,?_,i4,fun m hm=>(i5 _ hm.wr).mono (by rw[List.length_cons];omega),i6⟩;rw[List.take_succ_cons];rw[qQ] at i3;exact i3
inductive Ks (S:aN) (D:Dk) (sf:Nat->Nat) (lim:Nat) (f:Fl) (ps:List (List UInt8)) (r:aN × Dk × Int):Prop where
 | ok (D':Dk) (e:r=(S.fw f.num ps,D',0)) (g:Good D' (S.fw f.num ps) sf lim) (c: ∀ m,dA D m->dA D' (m+ps.length)) (l:D'.cells.length=D.cells.length) (a:D'.armed<=D.armed)
 | off (ha:D.armed≠0) (S':aN) (D' Dv:Dk) (j:Nat) (e:r=(S',D',21)) (o:D'.off=true) (g:Good Dv (S.fw f.num (ps.take j)) sf lim) (cr: ∀ keep torn bytes,D'.bS keep torn bytes=Dv.bS keep torn bytes) (c: ∀ m,dA D m->dA D' (m+ps.length)) (l:D'.cells.length=D.cells.length)
theorem qw (hg:Good D S sf lim) {x:Int} (hf:S.find x=some f) {ps:List (List UInt8)} (hp: ∀ p ∈ ps,p.length<=480) (hl:f.aa.length+ps.length<=f.blocks):Ks S D sf lim f ps (aN.cO x ps S D):=by
 by_cases ha:D.armed=0\/ps.length<D.armed
 .obtain⟨D',e,g,c,l,a⟩:=xy ps hg hf hp hl ha;exact .ok D' e g c l (by omega)
 .obtain⟨S',D',Dv,j,e,o,g,cr,c,l⟩:=th ps hg hf hp hl (by omega) (by omega);exact .off (by omega) S' D' Dv j e o g cr c l
theorem Ah (hg:Good D S sf lim) {x:Int} (hf:S.find x=some f) {b:List UInt8} (hb:b.length<=262144) (hl:f.aa.length+bz b.length<=f.blocks):Ks S D sf lim f (split b) (S.hU x b D):=by
 have h1:=jo b;have e:S.hU x b D=aN.cO x (split b) S D:=by
  unfold aN.hU;rw[hf];simp only;rw[if_neg (by omega),if_neg (by omega)]
 rw[e];exact qw hg hf (fun p hp=>sh hp) (by omega)
end
def iZ (n:Nat) (lo:Bool):Nat:=if lo=true then 2 else 2+aG n+bC n
abbrev Xf:=Option (Nat × Nat × List (List UInt8))
def Ea (n i:Nat) (lo:Bool):Xf->List Fl
 | none=>[]
 | some x=>[⟨i+2,iZ n (!lo),aG n,x.1,x.2.1,x.2.2⟩]
def cq (slot turn n i:Nat) (lo:Bool) (a b:Nat × Nat) (IF LF:List (List UInt8)) (x:Xf):aN:=⟨slot,turn,⟨i,iZ n lo,aG n,a.1,a.2,IF⟩::⟨i+1,iZ n lo+aG n,bC n,b.1,b.2,LF⟩::Ea n i lo x⟩
section
variable {slot turn n i:Nat} {lo:Bool} {a b:Nat × Nat} {IF LF:List (List UInt8)} {x:Xf}
theorem wY:(cq slot turn n i lo a b IF LF x).find (i:Nat)=some ⟨i,iZ n lo,aG n,a.1,a.2,IF⟩:=by
 unfold aN.find cq;rw[List.find?_cons];simp
theorem wb:(cq slot turn n i lo a b IF LF x).find ((i:Int)+1)=some ⟨i+1,iZ n lo+aG n,bC n,b.1,b.2,LF⟩:=by
 unfold aN.find cq;rw[List.find?_cons,List.find?_cons];have h1:(((i:Nat):Int)==(i:Int)+1)=false:=by rw[beq_eq_false_iff_ne];omega
 have h2:(((i+1:Nat):Int)==(i:Int)+1)=true:=by rw[beq_iff_eq];omega
 simp only[h1,h2]
theorem xu {y:Nat × Nat × List (List UInt8)}:(cq slot turn n i lo a b IF LF (some y)).find ((i:Int)+2)=some ⟨i+2,iZ n (!lo),aG n,y.1,y.2.1,y.2.2⟩:=by
 unfold aN.find cq Ea;rw[List.find?_cons,List.find?_cons,List.find?_cons];have h1:(((i:Nat):Int)==(i:Int)+2)=false:=by rw[beq_eq_false_iff_ne];omega
 have h2:(((i+1:Nat):Int)==(i:Int)+2)=false:=by rw[beq_eq_false_iff_ne];omega
 have h3:(((i+2:Nat):Int)==(i:Int)+2)=true:=by rw[beq_iff_eq];omega
 simp only[h1,h2,h3]
theorem qT (z:Int) (h1:z≠i) (h2:z≠(i:Int)+1) (h3:x.isSome=true->z≠(i:Int)+2):(cq slot turn n i lo a b IF LF x).find z=none:=by
 unfold aN.find cq;rw[List.find?_cons,List.find?_cons];have e1:(((i:Nat):Int)==z)=false:=by rw[beq_eq_false_iff_ne];omega
 have e2:(((i+1:Nat):Int)==z)=false:=by rw[beq_eq_false_iff_ne];omega
 simp only[e1,e2]
 cases x with
 | none=>rfl
 | some y=>
  have e3:(((i+2:Nat):Int)==z)=false:=by rw[beq_eq_false_iff_ne];have:=h3 rfl;omega
  unfold Ea;rw[List.find?_cons];simp only[e3];rfl
theorem pF (ps:List (List UInt8)):(cq slot turn n i lo a b IF LF x).fw (i+1) ps=cq slot turn n i lo a b IF (LF++ps) x:=by
 unfold aN.fw cq
 cases x with
 | none=>simp[Ea]
 | some y=>simp[Ea]
theorem mE (y:Nat × Nat × List (List UInt8)) (ps:List (List UInt8)):(cq slot turn n i lo a b IF LF (some y)).fw (i+2) ps=cq slot turn n i lo a b IF LF (some (y.1,y.2.1,y.2.2++ps)):=by
 unfold aN.fw cq;simp[Ea]
theorem vC (slot turn n i:Nat) (lo:Bool) (a b:Nat × Nat) (IF LF:List (List UInt8)) (x:Xf):(cq slot turn n i lo a b IF LF x).files.length<=3:=by
 unfold cq
 cases x<;>simp[Ea]
theorem Dc (hi:2<=i/\i<=2147483000) (hI:1<=aG n):(cq slot turn n i lo a b IF LF none).may [⟨(i:Int)+2,0,aG n⟩] []=true:=by
 have hf:=qT (slot:=slot) (turn:=turn) (n:=n) (i:=i) (lo:=lo) (a:=a) (b:=b) (IF:=IF) (LF:=LF) (x:=none) ((i:Int)+2) (by omega) (by omega) (by simp);unfold aN.may;rw[Bool.and_eq_true];refine⟨rfl,gX [_] [] |>.2 ⟨fun y hy=>?_,by simp⟩⟩;rw[List.mem_singleton.1 hy];exact⟨⟨by dsimp only;omega,by dsimp only;omega,by dsimp only;omega⟩,by simp,.inl (by dsimp only;rw[hf];rfl)⟩
theorem FF (hi:2<=i/\i<=2147483000) (hI:1<=bC n):(cq slot turn n i lo a b IF LF x).may [⟨(i:Int)+3,0,bC n⟩] [(i:Int),(i:Int)+1]=true:=by
 have hf:=qT (slot:=slot) (turn:=turn) (n:=n) (i:=i) (lo:=lo) (a:=a) (b:=b) (IF:=IF) (LF:=LF) (x:=x) ((i:Int)+3) (by omega) (by omega) (fun _=>by omega);unfold aN.may;rw[Bool.and_eq_true];refine⟨fX [_,_] [] |>.2 ⟨fun z hz=>⟨?_,by simp⟩,?_⟩,gX [_] [] |>.2 ⟨fun y hy=>?_,by simp⟩⟩
 .rcases List.mem_cons.1 hz with rfl | hz
  .rw[wY];rfl
  .rw[List.mem_singleton.1 hz,wb];rfl
 .simp;omega
 .rw[List.mem_singleton.1 hy];exact⟨⟨by dsimp only;omega,by dsimp only;omega,by dsimp only;omega⟩,by simp,.inl (by dsimp only;rw[hf];rfl)⟩
theorem G9 (y:Nat × Nat × List (List UInt8)):(cq slot turn n i lo a b IF LF (some y)).may [] [(i:Int)+2]=true:=by
 unfold aN.may;rw[Bool.and_eq_true];refine⟨fX [_] [] |>.2 ⟨fun z hz=>⟨?_,by simp⟩,by simp⟩,rfl⟩;rw[List.mem_singleton.1 hz,xu];rfl
theorem Lt {p q r s:Nat} (h:p<=r):dv [(p,q),(r,s)]=[(p,q),(r,s)]:=by
 unfold dv;simp[wD,h]
theorem KR {p q r s t u:Nat} (h1:p<=r) (h2:r<=t):dv [(p,q),(r,s),(t,u)]=[(p,q),(r,s),(t,u)]:=by
 unfold dv;simp[wD,h1,h2]
theorem Jr {p q r s t u:Nat} (h1:p<=r) (h2:t<p):dv [(p,q),(r,s),(t,u)]=[(t,u),(p,q),(r,s)]:=by
 unfold dv;have h3:¬ r<=t:=by omega
 have h4:¬ p<=t:=by omega
 simp[wD,h1,h3,h4]
theorem De (hfit:2+2*aG n+2*bC n<=n) (hI:1<=aG n) (hL:1<=bC n):
 ev n (turn+1) [⟨(i:Int)+2,0,aG n⟩] (cq slot turn n i lo a b IF LF none).dz ((cq slot turn n i lo a b IF LF none).files.filter fun f=> !([]:List Int).contains (f.num:Int))=some (cq slot turn n i lo a b IF LF (some (turn+1,1,[]))).files:=by
 have hF:(cq slot turn n i lo a b IF LF none).files.filter (fun f=> !([]:List Int).contains (f.num:Int))=(cq slot turn n i lo a b IF LF none).files:=by
  rw[List.filter_eq_self];simp
 have hlie:(cq slot turn n i lo a b IF LF none).dz=[(iZ n lo,aG n),(iZ n lo+aG n,bC n)]:=rfl;have hpl:bh n ((aG n:Nat):Int) 2 (dv [(iZ n lo,aG n),(iZ n lo+aG n,bC n)])=(iZ n (!lo),true):=by
  rw[Lt (by omega)]
  cases lo with
  | true=>
   show bh n _ 2 [(2,aG n),(2+aG n,bC n)]=(2+aG n+bC n,true);unfold bh;rw[if_neg (by simp only[];omega)];unfold bh;rw[if_neg (by simp only[];omega)];unfold bh;rw[decide_eq_true (by simp only[];omega)]
  | false=>
   show bh n _ 2 [(2+aG n+bC n,aG n),(2+aG n+bC n+aG n,bC n)]=(2,true);unfold bh;rw[if_pos (by simp only[];omega)]
 rw[hF,hlie,lI hpl];unfold ev;show some ((cq slot turn n i lo a b IF LF none).files++_)=_;have e:((i:Int)+2).toNat=i+2:=by omega
 simp only[e,Int.toNat_natCast];rfl
theorem Hx (hfit:2+2*aG n+2*bC n<=n) (hI:1<=aG n) (hL:1<=bC n) (y:Nat × Nat × List (List UInt8)):
 ev n (turn+1) [⟨(i:Int)+3,0,bC n⟩] (cq slot turn n i lo a b IF LF (some y)).dz ((cq slot turn n i lo a b IF LF (some y)).files.filter fun f=> !([(i:Int),(i:Int)+1]:List Int).contains (f.num:Int))=some (cq slot turn n (i+2) (!lo) (y.1,y.2.1) (turn+1,1) y.2.2 [] none).files:=by
 have hF:(cq slot turn n i lo a b IF LF (some y)).files.filter (fun f=> !([(i:Int),(i:Int)+1]:List Int).contains (f.num:Int))=[⟨i+2,iZ n (!lo),aG n,y.1,y.2.1,y.2.2⟩]:=by
  unfold cq Ea;have h1:([(i:Int),(i:Int)+1]:List Int).contains ((i:Nat):Int)=true:=by simp
  have h2:([(i:Int),(i:Int)+1]:List Int).contains ((i+1:Nat):Int)=true:=by simp
  have h3:([(i:Int),(i:Int)+1]:List Int).contains ((i+2:Nat):Int)=false:=by
   rw[Bool.eq_false_iff];intro h;rw[List.contains_iff_mem] at h;rcases List.mem_cons.1 h with h | h
   .omega
   .have:=List.mem_singleton.1 h;omega
  rw[List.filter_cons,List.filter_cons,List.filter_cons];simp only[h1,h2,h3];rfl
 have hlie:(cq slot turn n i lo a b IF LF (some y)).dz=[(iZ n lo,aG n),(iZ n lo+aG n,bC n),(iZ n (!lo),aG n)]:=rfl;have hpl:bh n ((bC n:Nat):Int) 2 (dv [(iZ n lo,aG n),(iZ n lo+aG n,bC n),(iZ n (!lo),aG n)])=(iZ n (!lo)+aG n,true):=by
  cases lo with
  | true=>
   show bh n _ 2 (dv [(2,aG n),(2+aG n,bC n),(2+aG n+bC n,aG n)])=(2+aG n+bC n+aG n,true);rw[KR (by omega) (by omega)];unfold bh;rw[if_neg (by simp only[];omega)];unfold bh;rw[if_neg (by simp only[];omega)];unfold bh;rw[if_neg (by simp only[];omega)];unfold bh;rw[decide_eq_true (by simp only[];omega)]
  | false=>
   show bh n _ 2 (dv [(2+aG n+bC n,aG n),(2+aG n+bC n+aG n,bC n),(2,aG n)])=(2+aG n,true);rw[Jr (by omega) (by omega)];unfold bh;rw[if_neg (by simp only[];omega)];unfold bh;rw[if_pos (by simp only[];omega)]
 rw[hF,hlie,lI hpl];unfold ev;have e:((i:Int)+3).toNat=i+3:=by omega
 simp only[e,Int.toNat_natCast];rfl
theorem F3 (y:Nat × Nat × List (List UInt8)):
 ev n (turn+1) [] (cq slot turn n i lo a b IF LF (some y)).dz ((cq slot turn n i lo a b IF LF (some y)).files.filter fun f=> !([(i:Int)+2]:List Int).contains (f.num:Int))=some (cq slot turn n i lo a b IF LF none).files:=by
 unfold ev;congr 1
 unfold cq Ea;have h1:([(i:Int)+2]:List Int).contains ((i:Nat):Int)=false:=by
  rw[Bool.eq_false_iff];intro h;rw[List.contains_iff_mem] at h;have:=List.mem_singleton.1 h;omega
 have h2:([(i:Int)+2]:List Int).contains ((i+1:Nat):Int)=false:=by
  rw[Bool.eq_false_iff];intro h;rw[List.contains_iff_mem] at h;have:=List.mem_singleton.1 h;omega
 have h3:([(i:Int)+2]:List Int).contains ((i+2:Nat):Int)=true:=by simp
 rw[List.filter_cons,List.filter_cons,List.filter_cons];simp only[h1,h2,h3];rfl
theorem G5 {f g:Fl} (h:f.num<=g.num):et [f,g]=[f,g]:=by
 unfold et;simp[yX,h]
theorem KK {f g k:Fl} (h:f.num<=g.num) (h2:g.num<=k.num):et [f,g,k]=[f,g,k]:=by
 unfold et;simp[yX,h,h2]
theorem vF:et (cq slot turn n i lo a b IF LF x).files=(cq slot turn n i lo a b IF LF x).files:=by
 cases x with
 | none=>exact G5 (Nat.le_succ i)
 | some y=>exact KK (Nat.le_succ i) (Nat.le_succ (i+1))
end
structure qf (n t q:Nat) (E:List aw) (bs:List (List cJ)):Prop where
 wI:fV E
 bats: ∀ cs ∈ bs,pQ cs
 bU:E.length+(bs.map List.length).sum<=t
 siz:eW (iY E bs)+400<=aG n*480
 seqs: ∀ x ∈ E,x.seq+bs.length<=q
 bl:bs.length<=q
theorem qf.mono {n t q t' q':Nat} {E:List aw} {bs:List (List cJ)} (h:qf n t q E bs) (ht:t<=t') (hq:q<=q'):qf n t' q' E bs:=
 ⟨h.wI,h.bats,Nat.le_trans h.bU ht,h.siz,fun x hx=>by have:=h.seqs x hx;omega,Nat.le_trans h.bl hq⟩
theorem qf.aa {n t q:Nat} {E:List aw} {bs:List (List cJ)} (h:eW (E.map cT)+400<=aG n*480) (hi:fV E):(ak (ab E)).length<=aG n:=by
 have h1:=yT E fun e he=>⟨(hi.each e he).1.key.2,(hi.each e he).1.val⟩
 rw[sD];omega
structure iC (n:Nat) (D:Dk) (slot turn:Nat) (lo:Bool) (a b:Nat × Nat) (LF:List (List UInt8)) (y:Xf) (sf:Nat->Nat) (lim i:Nat) (E:List aw) (bs:List (List cJ)) (safe:Nat):Prop where
 good:Good D (cq slot turn n i lo a b (ak (ab E)) LF y) sf lim
 len:D.cells.length=n
 big:64<=n
 num:2<=i/\i % 2=0
 tel:uX LF (bs.map aJ)
 cra:sL LF (bs.map aJ) safe (sf (i+1))
 safeI:(ak (ab E)).length<=sf i
 safe:safe<=bs.length
def Fa (n:Nat) (D:Dk) (S:aN) (sf:Nat->Nat) (lim i:Nat) (E:List aw) (bs:List (List cJ)) (safe:Nat) (x:Bool):Prop:=
 ∃ slot turn lo a b LF y,S=cq slot turn n i lo a b (ak (ab E)) LF y/\y.isSome=x/\iC n D slot turn lo a b LF y sf lim i E bs safe
section
variable {n:Nat} {D D':Dk} {slot turn:Nat} {lo:Bool} {a b:Nat × Nat} {LF:List (List UInt8)} {y:Xf} {sf:Nat->Nat} {lim i:Nat} {E E':List aw} {bs:List (List cJ)} {safe:Nat} {S:aN} {cs:List cJ} {x:Bool}
theorem iC.BJ (h:iC n D slot turn lo a b LF y sf lim i E bs safe):Fa n D (cq slot turn n i lo a b (ak (ab E)) LF y) sf lim i E bs safe y.isSome:=⟨slot,turn,lo,a,b,LF,y,rfl,rfl,h⟩
theorem iC.aD (h:iC n D slot turn lo a b LF y sf lim i E bs safe):n<=65536:=by have:=h.good.fils.aD;rw[h.len] at this;exact this
theorem iC.fit (h:iC n D slot turn lo a b LF y sf lim i E bs safe):2+2*aG n+2*bC n<=n/\1<=bC n/\1<=aG n:=by
 have h1:=mo h.big;have h2:=jP h.aD;omega
theorem iC.MO (h:iC n D slot turn lo a b LF y sf lim i E bs safe) {l:Nat} (h1:lim<=l) (h2:l<=1000000000):iC n D slot turn lo a b LF y sf l i E bs safe:=
 ⟨nz h.good h1 h2,h.len,h.big,h.num,h.tel,h.cra,h.safeI,h.safe⟩
theorem iC.arm (h:iC n D slot turn lo a b LF y sf lim i E bs safe) (k:Nat):iC n { D with armed:=k } slot turn lo a b LF y sf lim i E bs safe:=
 ⟨zH h.good k,h.len,h.big,h.num,h.tel,h.cra,h.safeI,h.safe⟩
theorem dV:dw (cq slot turn n i lo a b (ak (ab E)) LF y).files i=(ak (ab E)).length:=by
 unfold dw cq;simp
theorem fF {IF:List (List UInt8)}:dw (cq slot turn n i lo a b IF LF y).files (i+1)=LF.length:=by
 unfold dw cq;rw[List.find?_cons,List.find?_cons];have h1:(i==i+1)=false:=by rw[beq_eq_false_iff_ne];omega
 have h2:(i+1==i+1)=true:=by simp
 simp only[h1,h2]
theorem yc {IF:List (List UInt8)} {z:Nat × Nat × List (List UInt8)}:dw (cq slot turn n i lo a b IF LF (some z)).files (i+2)=z.2.2.length:=by
 unfold dw cq Ea;rw[List.find?_cons,List.find?_cons,List.find?_cons];have h1:(i==i+2)=false:=by rw[beq_eq_false_iff_ne];omega
 have h2:(i+1==i+2)=false:=by rw[beq_eq_false_iff_ne];omega
 have h3:(i+2==i+2)=true:=by simp
 simp only[h1,h2,h3]
theorem yl {IF:List (List UInt8)} {gs:List Fl} (h:fU sf (cq slot turn n i lo a b IF LF y).files gs): ∃ a' b' m m' y',gs=(cq slot turn n i lo a' b' (IF.take m) (LF.take m') y').files/\sf i<=m/\m<=IF.length/\sf (i+1)<=m'/\m'<=LF.length/\y'.isSome=y.isSome:=by
 cases y with
 | none=>
  match gs,h with
  | [f',g'],⟨⟨a1,a2,a3,a4,m,a5,a6,a7⟩,⟨b1,b2,b3,b4,m',b5,b6,b7⟩,_⟩=>
   obtain⟨fn,ff,fb,fi,fl,fr⟩:=f';obtain⟨gn,gf,gb,gi,gl,gr⟩:=g';simp only at a1 a2 a3 a4 a7 b1 b2 b3 b4 b7;subst a1;subst a2;subst a3;subst a4;subst a7;subst b1;subst b2;subst b3;subst b4;subst b7;exact⟨(a.1,fl),(b.1,gl),m,m',none,rfl,a5,a6,b5,b6,rfl⟩
 | some z=>
  match gs,h with
  | [f',g',k'],⟨⟨a1,a2,a3,a4,m,a5,a6,a7⟩,⟨b1,b2,b3,b4,m',b5,b6,b7⟩,⟨c1,c2,c3,c4,m2,c5,c6,c7⟩,_⟩=>
   obtain⟨fn,ff,fb,fi,fl,fr⟩:=f';obtain⟨gn,gf,gb,gi,gl,gr⟩:=g';obtain⟨kn,kf,kb,ki,kl,kr⟩:=k';simp only at a1 a2 a3 a4 a7 b1 b2 b3 b4 b7 c1 c2 c3 c4 c7;subst a1;subst a2;subst a3;subst a4;subst a7;subst b1;subst b2;subst b3;subst b4;subst b7;subst c1;subst c2;subst c3;subst c4;subst c7;exact⟨(a.1,fl),(b.1,gl),m,m',some (z.1,kl,z.2.2.take m2),rfl,a5,a6,b5,b6,rfl⟩
theorem fg {V:Dk} {sl tu:Nat} {fs':List Fl} {l:Nat} (hlen:V.cells.length=n) (hbig:64<=n) (hnum:2<=i/\i % 2=0) (cra:sL LF (bs.map aJ) safe (sf (i+1))) (safeI:(ak (ab E)).length<=sf i)
 (hf:fU sf (cq sl tu n i lo a b (ak (ab E)) LF y).files fs') (hg:Good V ⟨sl,tu,fs'⟩ (dw fs') l):
 ∃ m,safe<=m/\m<=bs.length/\ ∃ sf',Fa n V ⟨sl,tu,fs'⟩ sf' l i E (bs.take m) m y.isSome:=by
 obtain⟨a',b',m,m',y',rfl,h1,h2,h3,h4,h5⟩:=yl hf;have hm:(ak (ab E)).take m=ak (ab E):=List.take_of_length_le (by omega);rw[hm] at hg ⊢;obtain⟨r,r1,r2,r3⟩:=cra m' h3 h4;rw[List.length_map] at r2;rw[<-List.map_take] at r3;have hl:(bs.take r).length=r:=by rw[List.length_take];omega
 refine⟨r,r1,r2,_,sl,tu,lo,a',b',LF.take m',y',rfl,h5,hg,hlen,hbig,hnum,r3,?_,?_,by rw[hl];exact Nat.le_refl _⟩
 .have h6:=sL.all r3;rw[List.length_map,hl] at h6;rw[fF (IF:=ak (ab E))];exact h6
 .rw[dV];exact Nat.le_refl _
theorem iC.bS (h:iC n D slot turn lo a b LF y sf lim i E bs safe) (hlim:lim+1<=1000000000) (keep:List Bool) (torn bytes:Int):
 ∃ S',cP (D.bS keep torn bytes)=(some S',0)/\ ∃ m,safe<=m/\m<=bs.length/\ ∃ sf',Fa n (D.bS keep torn bytes) S' sf' (lim+1) i E (bs.take m) m y.isSome:=by
 obtain⟨gs,e1,e2,e3⟩:=kS h.good hlim (jR (keep:=keep) (torn:=torn) (bytes:=bytes) h.good.fils.wf);exact⟨_,e1,fg (by rw[ek];exact h.len) h.big h.num h.cra h.safeI e2 e3⟩
theorem iC.again (h:iC n D slot turn lo a b LF y sf lim i E bs safe) (hlim:lim+1<=1000000000):
 ∃ S',cP D=(some S',0)/\Fa n D S' sf (lim+1) i E bs safe y.isSome:=by
 obtain⟨gs,e1,e2,e3⟩:=pG h.good hlim;obtain⟨a',b',m,m',y',rfl,h1,h2,h3,h4,h5⟩:=yl e2;rw[dV] at h1;rw[fF (IF:=ak (ab E))] at h3;have hm:(ak (ab E)).take m=ak (ab E):=List.take_of_length_le (by omega);have hm':LF.take m'=LF:=List.take_of_length_le (by omega);rw[hm,hm'] at e1 e3;exact⟨_,e1,slot,turn,lo,a',b',LF,y',rfl,h5,e3,h.len,h.big,h.num,h.tel,h.cra,h.safeI,h.safe⟩
theorem iC.sync (h:iC n D slot turn lo a b LF y sf lim i E bs safe):D.flush.2=0/\iC n D.flush.1 slot turn lo a b LF y (dw (cq slot turn n i lo a b (ak (ab E)) LF y).files) lim i E bs bs.length:=by
 have ho:=h.good.fils.off;refine⟨by rw[du D ho],rN h.good,(eL h.good.fils.wf ho).len.trans h.len,h.big,h.num,h.tel,?_,?_,Nat.le_refl _⟩
 .have h6:=sL.all h.tel;rw[List.length_map] at h6;rw[fF (IF:=ak (ab E))];exact h6
 .rw[dV];exact Nat.le_refl _
def gZ (n:Nat) (D:Dk) (lim i:Nat) (E:List aw) (bs:List (List cJ)) (safe:Nat):Prop:= ∀ keep torn bytes,
 ∃ S',cP (D.bS keep torn bytes)=(some S',0)/\ ∃ m,safe<=m/\m<=bs.length/\ ∃ sf' x,Fa n (D.bS keep torn bytes) S' sf' lim i E (bs.take m) m x
inductive Nj (n:Nat) (D:Dk) (slot turn:Nat) (lo:Bool) (a b:Nat × Nat) (LF:List (List UInt8)) (sf:Nat->Nat) (lim i:Nat) (E:List aw) (bs:List (List cJ)) (safe:Nat) (cs:List cJ) (r:aN × Dk × Int):Prop where
 | no (h:bC n<LF.length+bz (aJ cs).length) (e:r=(cq slot turn n i lo a b (ak (ab E)) LF none,D,41))
 | ok (D':Dk) (e:r=(cq slot turn n i lo a b (ak (ab E)) (LF++split (aJ cs)) none,D',0)) (h:iC n D' slot turn lo a b (LF++split (aJ cs)) none sf lim i E (bs++[cs]) safe) (c: ∀ m,dA D m->dA D' (m+548)) (r:D'.armed<=D.armed)
 | off (ha:D.armed≠0) (S':aN) (D':Dk) (e:r=(S',D',21)) (o:D'.off=true) (h:gZ n D' (lim+1) i E (bs++[cs]) safe) (c: ∀ m,dA D m->dA D' (m+548)) (l:D'.cells.length=n)
theorem iC.put (h:iC n D slot turn lo a b LF none sf lim i E bs safe) (hlim:lim+1<=1000000000) (hc:pQ cs):Nj n D slot turn lo a b LF sf lim i E bs safe cs ((cq slot turn n i lo a b (ak (ab E)) LF none).hU ((i:Int)+1) (aJ cs) D):=by
 have hb:=vK hc;have hsp:=jo (aJ cs);have hnd:=rr (aJ cs).length;by_cases hr:bC n<LF.length+bz (aJ cs).length
 .exact .no hr (J4 wb hb hr)
 .have hmp:(bs++[cs]).map aJ=bs.map aJ++[aJ cs]:=by simp
  have hcr:sL (LF++split (aJ cs)) ((bs++[cs]).map aJ) safe (sf (i+1)):=by
   rw[hmp];exact h.cra.put h.tel (by rw[List.length_map];exact h.safe) hb
  have hs:safe<=(bs++[cs]).length:=by rw[List.length_append];have:=h.safe;omega
  have ha:=Ah (b:=aJ cs) h.good wb hb (show LF.length+bz (aJ cs).length<=bC n by omega)
  cases ha with
  | ok D' e g c l r=>
   have e2:=pF (slot:=slot) (turn:=turn) (n:=n) (i:=i) (lo:=lo) (a:=a) (b:=b) (IF:=ak (ab E)) (LF:=LF) (x:=none) (split (aJ cs));simp only at e g;rw[e2] at e g;refine .ok D' e ⟨g,l.trans h.len,h.big,h.num,?_,hcr,h.safeI,hs⟩ (fun m hm=>(c m hm).mono (by omega)) r;rw[hmp];exact h.tel.put hb
  | off ha S' D' Dv j e o g cr c l=>
   have e2:=pF (slot:=slot) (turn:=turn) (n:=n) (i:=i) (lo:=lo) (a:=a) (b:=b) (IF:=ak (ab E)) (LF:=LF) (x:=none) ((split (aJ cs)).take j);simp only at g;rw[e2] at g;refine .off ha S' D' e o (fun keep torn bytes=>?_) (fun m hm=>(c m hm).mono (by omega)) (l.trans h.len);obtain⟨gs,f1,f2,f3⟩:=kS g hlim (jR (keep:=keep) (torn:=torn) (bytes:=bytes) g.fils.wf);obtain⟨m,m1,m2,sf',m3⟩:=fg (bs:=bs++[cs]) (safe:=safe) (by rw[<-cr,ek,l];exact h.len) h.big h.num (sL.sub (j:=j) hcr) h.safeI f2 f3;exact⟨_,by rw[cr];exact f1,m,m1,m2,sf',_,by rw[cr];exact m3⟩
end
end Go.Proofs.YtmbaiglpgaoogaaGreat
