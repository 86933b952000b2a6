/- Joined, as they were built one by one: Sto2 Sto3 Sto4 Sto5 Sto6. -/
import Derived.Test.YtmbaiglpgaoogaaGreatW02
import Derived.Test.YtmbaiglpgaoogaaGreatW03
import Derived.Test.YtmbaiglpgaoogaaGreatW05
import Derived.Test.YtmbaiglpgaoogaaGreatW06
import Derived.Test.YtmbaiglpgaoogaaGreatW07
import Derived.Test.YtmbaiglpgaoogaaGreatW08
import Derived.Test.YtmbaiglpgaoogaaGreatW12
import Derived.Test.YtmbaiglpgaoogaaGreatW15
import Derived.Test.YtmbaiglpgaoogaaGreatW16
import Derived.Test.YtmbaiglpgaoogaaGreatW18
set_option maxHeartbeats 16000000
set_option linter.unusedVariables false
set_option maxRecDepth 100000
namespace Go.Proofs.YtmbaiglpgaoogaaGreat
open Go.RowKit Z
structure Pu where
 key:du
 value:du
 dead:Bool
def fI (p:Pu):List Value:=[aJ p.key,aJ p.value,.bool p.dead]
def Pu.bq (p:Pu):cE:=⟨p.key.2.2,p.value.2.2,p.dead⟩
def Js (w:World) (p:Pu):Prop:=Rd w p.key.1 p.key.2.2/\Rd w p.value.1 p.value.2.2
def gZ (w:World) (ps:List Pu):Prop:= ∀ p ∈ ps,Js w p
theorem gI {w:World} {A:Option Addr} {ps:List Pu} (h:aF w A (ps.flatMap fI)) (hn:0<ps.length): ∃ b o,A=some ⟨b,o,none⟩/\ ∀ i (hi:i<ps.length),
 w.cell? ⟨b,o+i*3,none⟩=some (aJ ps[i].key)/\w.cell? ⟨b,o+i*3+1,none⟩=some (aJ ps[i].value)/\w.cell? ⟨b,o+i*3+2,none⟩=some (.bool ps[i].dead):=by
 obtain⟨b,o,rfl,_⟩:=aF.elem (f:=fI) (k:=3) (fun _=>rfl) (by decide) h hn;refine⟨b,o,rfl,fun i hi=>?_⟩;obtain⟨b',o',e,hc⟩:=aF.elem (f:=fI) (k:=3) (fun _=>rfl) (by decide) h hi;injection e with e
 injection e with e1 e2
 subst e1;subst e2;refine⟨by simpa [fI] using hc 0 (by decide),?_,?_⟩
 .have:=hc 1 (by decide);rw[<-Nat.add_assoc] at this;simpa [fI] using this
 .have:=hc 2 (by decide);rw[<-Nat.add_assoc] at this;simpa [fI] using this
theorem zW {w0 w:World} {F:SP} {g:Nat} (z:Int) (u:UInt8) (hz:z=u.toNat) (n:Nat) (hn:n<=255) (h:Sat w0 (Pt g 5 #[.int .u8 z,.int .u8 (n:Int)]*F) w):Rd w (some ⟨g,0,none⟩) [u,UInt8.ofNat n]:=by
 subst hz;refine aF.je h.at (fun j hj=>?_);have hj2:j=0\/j=1:=by simp at hj;omega
 rcases hj2 with rfl | rfl
 .rfl
 .show some (Value.int .u8 (n:Int))=some (bv (UInt8.ofNat n));unfold bv;rw[UInt8.toNat_ofNat',Nat.mod_eq_of_lt (by omega)]
theorem vS (A:Option Addr) (c:Nat) (ps:List Pu) (w:World) (h:aF w A (ps.flatMap fI)) (hr:gZ w ps) (hok: ∀ p ∈ ps,p.key.2.2.length<=128/\p.value.2.2.length<=16384) (hn:ps.length<=1000000):
 Calls Tryz.prog 71 #[.slice A ps.length c] w fun x w'=> ∃ B d,x = .returned (.slice B (aE (ps.map Pu.bq)).length d)/\Sat w (Row 5 1 (.slice B (aE (ps.map Pu.bq)).length d) (aE (ps.map Pu.bq)).length ((aE (ps.map Pu.bq)).map bv)*bF) w':=by
 have HL:=ah h;have HR:=ah hr;have HO:=ah hok;have HS0:Hid (Sat w (Row 5 1 (.slice none (aE []).length 0) (aE []).length ((aE []).map bv)*bF) w):=(Sat.start w).aN 5 1;have HB:Hid (∀ i,i<=ps.length->(aE ((ps.take i).map Pu.bq)).length<=i*16516):=fun i=>by
  induction i with
  | zero=>intro _;exact Nat.le_refl _
  | succ i ih=>
   intro hi;have h1:=ih (by omega);rw[List.take_add_one,List.getElem?_eq_getElem (by omega),List.map_append,show ((some ps[i]).toList).map Pu.bq=[ps[i].bq] from rfl,sH,List.length_append,fL];have h2:=hok _ (List.getElem_mem (show i<ps.length by omega));have h3:ps[i].bq.key.length<=128:=h2.1;have h4:ps[i].bq.value.length<=16384:=h2.2;omega
 clear h hr hok;go_enter Tryz.func71, Tryz.ntmps71;go_wp2_with fail;go_loopw [3,9] (fun bvv iv wr=> ∃ (i:Nat) (l:List UInt8) (B:Option Addr) (d:Nat),i<=ps.length/\iv = .int .i64 (i:Int)/\bvv = .slice B l.length d/\Hid (l=aE ((ps.take i).map Pu.bq)/\Sat w (Row 5 1 (.slice B l.length d) l.length (l.map bv)*bF) wr)) (fun _ iv _=>ps.length - (intOf iv).toNat)
 case atStart=>exact⟨0,[],none,0,by omega,rfl,rfl,rfl,HS0.o⟩
 case round=>
  obtain⟨i,l,B,d,hi,rfl,rfl,HD⟩:=hrel;by_cases hlt:i<ps.length
  .obtain⟨lb,lo,rfl,hq⟩:=gI (HL.o.new HD.o.2.aL) (by omega);obtain⟨y0,y1,y2⟩:=hq i hlt;have HRi:=ah (HR.o _ (List.getElem_mem hlt));have HOi:=ah (HO.o _ (List.getElem_mem hlt));have HNx:Hid (aE ((ps.take (i+1)).map Pu.bq)=l++gT ps[i].bq):=by
    unfold Hid;rw[List.take_add_one,List.getElem?_eq_getElem hlt,List.map_append,show ((some ps[i]).toList).map Pu.bq=[ps[i].bq] from rfl,sH, <-HD.o.1]
   have HBn:=ah (HB.o (i+1) (by omega));have hii:(i:Int)<ps.length:=by omega
   generalize ps[i]=p at*
   obtain⟨⟨kA,kc,kl⟩,⟨vA,vc,vl⟩,dd⟩:=p;have hkl:kl.length<=128:=HOi.o.1;have hvl:vl.length<=16384:=HOi.o.2;have hcv1:IntKind.u8.wrap (kl.length:Int)=kl.length:=by rw[IntKind.wrap_u8];omega
   have hcv2:IntKind.u64.wrap (vl.length:Int)=vl.length:=by rw[IntKind.wrap_u64];omega
   replace y0:_=some (Value.slice kA kl.length kc):=y0;replace y1:_=some (Value.slice vA vl.length vc):=y1;replace y2:_=some (Value.bool dd):=y2;replace HNx:Hid (aE ((ps.take (i+1)).map Pu.bq)=l++gT ⟨kl,vl,dd⟩):=HNx;have s2:=HD.o.2.ab 43 #[.slice kA kl.length kc,.slice vA vl.length vc,.bool dd];have HS2:=ah s2;obtain⟨uz,huz⟩: ∃ uz:UInt8,uz=if dd=true then 1 else 0:=⟨_,rfl⟩;obtain⟨l1,hl1⟩: ∃ l1,l1=l++[uz,UInt8.ofNat kl.length]:=⟨_,rfl⟩;obtain⟨l2,hl2⟩: ∃ l2,l2=l1++ai vl.length 2:=⟨_,rfl⟩;obtain⟨l3,hl3⟩: ∃ l3,l3=l2++kl:=⟨_,rfl⟩;obtain⟨l4,hl4⟩: ∃ l4,l4=l3++vl:=⟨_,rfl⟩;have HL1:=ah hl1;have HL2:=ah hl2;have HL3:=ah hl3;have HL4:=ah hl4;have hall:l4=l++gT ⟨kl,vl,dd⟩:=by
    rw[hl4,hl3,hl2,hl1,huz];unfold gT;simp
   have HAll:=ah hall;have hb4:l4.length<=17000000000:=by
    have h1:=HBn.o;rw[HNx.o, <-hall] at h1;omega
   have hb3:l3.length<=17000000000:=by rw[hl4,List.length_append] at hb4;omega
   have hb2:l2.length<=17000000000:=by rw[hl3,List.length_append] at hb3;omega
   have hb1:l1.length<=17000000000:=by rw[hl2,List.length_append] at hb2;omega
   have hl1':Hid (l1.length<=140737488355328):=by unfold Hid;omega
   have hl2':Hid (l2.length<=140737488355328):=by unfold Hid;omega
   have hl3':Hid (l3.length<=140737488355328):=by unfold Hid;omega
   have hl4':Hid (l4.length<=140737488355328):=by unfold Hid;omega
   have HRk:Hid (Rd w kA kl):=HRi.o.1;have HRv:Hid (Rd w vA vl):=HRi.o.2;clear hl1 hl2 hl3 hl4 hall hb1 hb2 hb3 hb4 s2 hq;have HUz:Hid ((if dd=true then (1:Int) else 0)=uz.toNat):=by unfold Hid;rw[huz];cases dd<;>rfl
   clear huz
   cases dd
   .replace HUz:Hid ((0:Int)=uz.toNat):=HUz;go_upto_region 8 with fail;obtain⟨W4,hW4⟩: ∃ W4,W4=wr.alloc (.cells #[.slice kA kl.length kc,.slice vA vl.length vc,.bool false] 43):=⟨_,rfl⟩;rw[<-hW4] at HS2;rw[<-hW4];clear hW4 y0 y1 y2;obtain⟨bx,hbx⟩: ∃ bx,bx=wr.heap.size:=⟨_,rfl⟩;rw[<-hbx] at HS2;rw[<-hbx];clear hbx;have x0:=HS2.o.cell 0;have x1:=HS2.o.cell 1;have HS3:=ah (HS2.o.ab 5 #[.int .u8 0,.int .u8 (kl.length:Int)]);go_upto_region 10 with (first
     | (at_builtin;refine ix rfl (.tmp 15) (.tmp 21) rfl B d l rfl HS3.o.bp (some ⟨W4.heap.size,0,none⟩) 2 [uz,UInt8.ofNat kl.length] rfl (zW 0 uz HUz.o kl.length (by omega) HS3.o) l1 HL1.o hl1'.o ?_;intro A4 c4 w4 hs4;have HS4:=ah hs4.bo;have x2:=(hs4.bo).ay.cell 0;have x3:=(hs4.bo).ay.cell 1;clear hs4 x0 x1)
     | (go_at_call 117;(with_reducible refine(jY vl.length 2 2 rfl (by omega) (by omega) (by omega) w _ _ HS4.o _ rfl).mono ?_);rintro x w5 ⟨A5,c5,rfl,hs5⟩;have HS5:=ah hs5;clear hs5)
     | (at_builtin;refine ix rfl (.tmp 23) (.tmp 28) rfl A4 c4 l1 rfl HS5.o.ay A5 c5 (ai vl.length 2) rfl HS5.o.cj l2 HL2.o hl2'.o ?_;intro A6 c6 w6 hs6;have HS7:=ah hs6.bo;clear hs6))
    refine wp_region_held_drew (S:=fun w'=>w'.cell? ⟨bx,0,none⟩=some (.slice kA kl.length kc)/\w'.cell? ⟨bx,1,none⟩=some (.slice vA vl.length vc)) (by kernel_rfl) ⟨HS7.o.drew.ay.cell 0,HS7.o.drew.ay.cell 1⟩ ?_;intro hS0;refine an 0 1 2 4 ?_;refine ca 5 ?_;refine bC 3 fun K hK=>?_
    refine ll rfl (.tmp 30) (.tmp 32) rfl A6 c6 l2 rfl HS7.o.drew kA kc kl rfl (by exact HRk.o.new HS7.o.drew.aL) l3 HL3.o hl3'.o ?_;intro A8 c8 w8 hs;have HS8:=ah hs;clear hs;refine hK.out _ _ ⟨HS8.o.ay.cell 0,HS8.o.ay.cell 1⟩ (fun hS0=>?_);clear hK K
    try simp only[Act.put,et,eh,ep]
    refine bC 6 fun K hK=>?_
    refine ll rfl (.tmp 33) (.tmp 35) rfl A8 c8 l3 rfl HS8.o vA vc vl rfl (by exact HRv.o.new HS8.o.aL) l4 HL4.o hl4'.o ?_;intro A9 c9 w9 hs;have HS9:=ah hs;clear hs;refine hK.out _ _ ⟨HS9.o.ay.cell 0,HS9.o.ay.cell 1⟩ (fun hS0=>?_);clear hK K
    try simp only[Act.put,et,eh,ep]
    refine ca 7 ?_;refine wpAnyH_done (by kernel_rfl) ?_ _;go_wp2_with fail;go_roundw
    .exact⟨i+1,l4,A9,c9,by omega,by push_cast;rfl,rfl,by rw[HNx.o,HAll.o],HS9.o.bo⟩
    .simp[intOf];omega
   .replace HUz:Hid ((1:Int)=uz.toNat):=HUz;go_upto_region 8 with fail;obtain⟨W4,hW4⟩: ∃ W4,W4=wr.alloc (.cells #[.slice kA kl.length kc,.slice vA vl.length vc,.bool true] 43):=⟨_,rfl⟩;rw[<-hW4] at HS2;rw[<-hW4];clear hW4 y0 y1 y2;obtain⟨bx,hbx⟩: ∃ bx,bx=wr.heap.size:=⟨_,rfl⟩;rw[<-hbx] at HS2;rw[<-hbx];clear hbx;have x0:=HS2.o.cell 0;have x1:=HS2.o.cell 1;have HS3:=ah (HS2.o.ab 5 #[.int .u8 1,.int .u8 (kl.length:Int)]);go_upto_region 10 with (first
     | (at_builtin;refine ix rfl (.tmp 15) (.tmp 21) rfl B d l rfl HS3.o.bp (some ⟨W4.heap.size,0,none⟩) 2 [uz,UInt8.ofNat kl.length] rfl (zW 1 uz HUz.o kl.length (by omega) HS3.o) l1 HL1.o hl1'.o ?_;intro A4 c4 w4 hs4;have HS4:=ah hs4.bo;have x2:=(hs4.bo).ay.cell 0;have x3:=(hs4.bo).ay.cell 1;clear hs4 x0 x1)
     | (go_at_call 117;(with_reducible refine(jY vl.length 2 2 rfl (by omega) (by omega) (by omega) w _ _ HS4.o _ rfl).mono ?_);rintro x w5 ⟨A5,c5,rfl,hs5⟩;have HS5:=ah hs5;clear hs5)
     | (at_builtin;refine ix rfl (.tmp 23) (.tmp 28) rfl A4 c4 l1 rfl HS5.o.ay A5 c5 (ai vl.length 2) rfl HS5.o.cj l2 HL2.o hl2'.o ?_;intro A6 c6 w6 hs6;have HS7:=ah hs6.bo;clear hs6))
    refine wp_region_held_drew (S:=fun w'=>w'.cell? ⟨bx,0,none⟩=some (.slice kA kl.length kc)/\w'.cell? ⟨bx,1,none⟩=some (.slice vA vl.length vc)) (by kernel_rfl) ⟨HS7.o.drew.ay.cell 0,HS7.o.drew.ay.cell 1⟩ ?_;intro hS0;refine an 0 1 2 4 ?_;refine ca 5 ?_;refine bC 3 fun K hK=>?_
    refine ll rfl (.tmp 30) (.tmp 32) rfl A6 c6 l2 rfl HS7.o.drew kA kc kl rfl (by exact HRk.o.new HS7.o.drew.aL) l3 HL3.o hl3'.o ?_;intro A8 c8 w8 hs;have HS8:=ah hs;clear hs;refine hK.out _ _ ⟨HS8.o.ay.cell 0,HS8.o.ay.cell 1⟩ (fun hS0=>?_);clear hK K
    try simp only[Act.put,et,eh,ep]
    refine bC 6 fun K hK=>?_
    refine ll rfl (.tmp 33) (.tmp 35) rfl A8 c8 l3 rfl HS8.o vA vc vl rfl (by exact HRv.o.new HS8.o.aL) l4 HL4.o hl4'.o ?_;intro A9 c9 w9 hs;have HS9:=ah hs;clear hs;refine hK.out _ _ ⟨HS9.o.ay.cell 0,HS9.o.ay.cell 1⟩ (fun hS0=>?_);clear hK K
    try simp only[Act.put,et,eh,ep]
    refine ca 7 ?_;refine wpAnyH_done (by kernel_rfl) ?_ _;go_wp2_with fail;go_roundw
    .exact⟨i+1,l4,A9,c9,by omega,by push_cast;rfl,rfl,by rw[HNx.o,HAll.o],HS9.o.bo⟩
    .simp[intOf];omega
  .have hie:i=ps.length:=by omega
   subst hie;have HE:Hid (aE (ps.map Pu.bq)=l):=by unfold Hid;rw[HD.o.1,List.take_length]
   go_wp2_with fail;go_ret;rw[HE.o];exact⟨_,_,rfl,HD.o.2⟩
theorem AH:(Tryz.prog.info? 43).map (fun i=>(i.zero,i.size,i.bytes))=some (some (.agg #[.slice none 0 0,.slice none 0 0,.bool false]),3,56):=by kernel_rfl
structure Jd (w:World) (g o c m:Nat) (p:cE) (kk ee:Nat) (r:List UInt8):Prop where
 d:w.cell? ⟨g,o,none⟩=some (.int .u8 (if p.dead=true then 1 else 0))
 k:w.cell? ⟨g,o+1,none⟩=some (.int .u8 (p.key.length:Int))
 v:Rd w (some ⟨g,o+2,none⟩) (ai p.value.length 2)
 key:Rd w (some ⟨g,o+4,none⟩) p.key
 value:Rd w (if c=kk then some ⟨g,o,none⟩ else some ⟨g,o+kk,none⟩) p.value
 rest:Rd w (if c=ee then some ⟨g,o,none⟩ else some ⟨g,o+ee,none⟩) r
theorem Im {w:World} {A:Option Addr} {c:Nat} {p:cE} {r:List UInt8} (h:Rd w A (gT p++r)) (hp:zL p) (hc:(gT p++r).length<=c): ∃ g o,A=some ⟨g,o,none⟩/\Jd w g o c (gT p++r).length p (4+p.key.length) (4+p.key.length+p.value.length) r:=by
 obtain⟨a1,a2,a3,a4,a5,a6⟩:=G9 p r hp;have hl:(gT p++r).length=4+p.key.length+p.value.length+r.length:=by rw[List.length_append,fL]
 obtain⟨q,hq⟩: ∃ q,q=gT p++r:=⟨_,rfl⟩;rw[<-hq] at h hc a1 a2 a3 a4 a5 a6 hl;rw[<-hq];have h0:=hp.1;obtain⟨g,o,rfl,hcell⟩:=h (by intro e;have:=congrArg List.length e;rw[List.length_map,hl] at this;simp at this);have hd: ∀ j,0<j->j<=q.length->j<c->Rd w (some ⟨g,o+j,none⟩) (q.drop j):=fun j j0 j1 j2=>by
  have h9:=Rd.drop (k:=j) (cap:=c) h j1 hc;rw[if_neg (by omega),Option.map_some,Addr.add_lit] at h9;exact h9
 refine⟨g,o,rfl,⟨?_,?_,?_,?_,?_,?_⟩⟩
 .have h9:=hcell 0 (by rw[List.length_map];omega);rw[List.getElem?_eq_getElem (by omega)] at a1;rw[List.getElem_map] at h9;injection a1 with a1
  rw[a1] at h9;rw[show o+0=o from rfl] at h9;rw[h9]
  cases p.dead<;>rfl
 .have h9:=hcell 1 (by rw[List.length_map];omega);rw[List.getElem?_eq_getElem (by omega)] at a2;rw[List.getElem_map] at h9;injection a2 with a2
  rw[a2] at h9;rw[h9];have:=hp.2.1;unfold bv;rw[UInt8.toNat_ofNat',Nat.mod_eq_of_lt (by omega)]
 .have h9:=(hd 2 (by omega) (by omega) (by omega)).take 2;rw[<-a3];rw[List.take_drop] at h9;exact h9
 .have h9:=(hd 4 (by omega) (by omega) (by omega)).take p.key.length;rw[<-a4];rw[List.take_drop] at h9;exact h9
 .by_cases e:c=4+p.key.length
  .have hv:p.value=[]:=List.eq_nil_of_length_eq_zero (by omega);rw[hv];exact fun hx=>absurd rfl hx
  .rw[if_neg e];have h9:=(hd (4+p.key.length) (by omega) (by omega) (by omega)).take p.value.length;rw[<-a5];rw[List.take_drop] at h9;exact h9
 .by_cases e:c=4+p.key.length+p.value.length
  .have hv:r=[]:=List.eq_nil_of_length_eq_zero (by omega);rw[hv];exact fun hx=>absurd rfl hx
  .rw[if_neg e];have h9:=hd (4+p.key.length+p.value.length) (by omega) (by omega) (by omega);rw[a6] at h9;exact h9
theorem yr (A:Option Addr) (c:Nat) (cs:List cE) (w:World) (h:Rd w A (aE cs)) (hc:(aE cs).length<=c) (hm:c<=maxLen) (hok: ∀ p ∈ cs,zL p) (hn:(aE cs).length<=1000000):
 Calls Tryz.prog 66 #[.slice A (aE cs).length c] w fun x w'=> ∃ B d ps,ps.map Pu.bq=cs/\(∀ W,Rd W A (aE cs)->gZ W ps)/\x = .returned (.slice B cs.length d)/\Sat w (Row 43 3 (.slice B cs.length d) cs.length (ps.flatMap fI)*bF) w':=by
 obtain⟨j0,hj,hy0,hy1,hy2⟩:=info_parts AH;have HR:=ah h;have HOk:=ah hok;have hlen: ∀ k,k<=cs.length->k<=(aE cs).length - (aE (cs.drop k)).length/\(aE (cs.drop k)).length<=(aE cs).length:=fun k=>by
  induction k with
  | zero=>intro _;simp
  | succ k ih=>
   intro hk;have h1:=ih (by omega);have h2:cs.drop k=cs[k]::cs.drop (k+1):=List.drop_eq_getElem_cons (by omega);rw[h2,gj,List.length_append,fL] at h1;omega
 have HLen:=ah hlen;have HS0:Hid (Sat w (Row 43 3 (.slice none 0 0) 0 []*bF) w):=(Sat.start w).aN 43 3;obtain⟨M,hM⟩: ∃ M,M=(aE cs).length:=⟨_,rfl⟩;have HM:=ah hM;rw[<-hM] at hc hn;rw[<-hM];unfold maxLen at hm;clear h hok hlen hM;go_enter Tryz.func66, Tryz.ntmps66;go_wp2_with fail;go_loopw [0,3] (fun bvv ov wr=> ∃ (k m mc:Nat) (Q B:Option Addr) (d:Nat) (ps:List Pu),k<=cs.length/\m<=1000000/\m<=mc/\mc<=9223372036854775807/\bvv = .slice Q m mc/\ov = .slice B k d/\Hid (m=(aE (cs.drop k)).length/\(∀ W,Rd W A (aE cs)->Rd W Q (aE (cs.drop k)))/\ps.map Pu.bq=cs.take k/\(∀ W,Rd W A (aE cs)->gZ W ps)/\Sat w (Row 43 3 (.slice B k d) k (ps.flatMap fI)*bF) wr)) (fun bvv _ _=>(match bvv with | .slice _ m _=>m | _=>0))
 case atStart=>exact⟨0,M,c,A,none,0,[],by omega,by omega,by omega,by omega,rfl,rfl,HM.o,(fun W h=>h),rfl,(fun W _ p hp=>by cases hp),HS0.o⟩
 case round=>
  obtain⟨k,m,mc,Q,B,d,ps,hk,hm1,hm2,hm3,rfl,rfl,HD⟩:=hrel;by_cases hlt:k<cs.length
  .obtain⟨q,hq⟩: ∃ q,q=cs[k]:=⟨_,rfl⟩;have hqo:=HOk.o _ (List.getElem_mem hlt);have hdr:cs.drop k=cs[k]::cs.drop (k+1):=List.drop_eq_getElem_cons hlt;have hml:=HD.o.1;have hrd:=(HD.o.2.1 w HR.o).new HD.o.2.2.2.2.aL;rw[hdr,gj, <-hq] at hml hrd;rw[<-hq] at hqo;have HTk:Hid (cs.take (k+1)=cs.take k++[q]):=by unfold Hid;rw[List.take_add_one,List.getElem?_eq_getElem hlt,hq];rfl
   have hmc:=hm2;rw[hml] at hmc;obtain⟨g,o,rfl,hat⟩:=Im hrd hqo hmc;have hrd0:=HD.o.2.1;rw[hdr,gj, <-hq] at hrd0;have hat0: ∀ W,Rd W A (aE cs)->Jd W g o mc (gT q++aE (cs.drop (k+1))).length q (4+q.key.length) (4+q.key.length+q.value.length) (aE (cs.drop (k+1))):=fun W hW=>by
    obtain⟨g',o',eg,h0⟩:=Im (hrd0 W hW) hqo hmc;injection eg with eg
    injection eg with eg1 eg2
    subst eg1;subst eg2;exact h0
   rw[List.length_append,fL] at hml;have HA:=ah hat;have HA0:=ah hat0;obtain⟨r,hr⟩: ∃ r,r=aE (cs.drop (k+1)):=⟨_,rfl⟩;rw[<-hr] at hml HA HA0;have HRe:=ah hr;obtain⟨kl,vl,dd⟩:=q;have hkl:1<=kl.length/\kl.length<=128:=⟨hqo.1,hqo.2.1⟩;have hvl:vl.length<=16384:=hqo.2.2;replace hml:m=4+kl.length+vl.length+r.length:=hml;have y0:wr.cell? ⟨g,o,none⟩=some (.int .u8 (if dd=true then 1 else 0)):=hat.d;have y1:wr.cell? ⟨g,o+1,none⟩=some (.int .u8 (kl.length:Int)):=hat.k;have HG:Hid (Rd wr (some ⟨g,o+2,none⟩) (ai vl.length 2)):=hat.v;have HA0:Hid (∀ W,Rd W A (aE cs)->Jd W g o mc (4+kl.length+vl.length+r.length) ⟨kl,vl,dd⟩ (4+kl.length) (4+kl.length+vl.length) r):=fun W hW=>by have:=HA0.o W hW;rw[List.length_append,fL] at this;exact this
   obtain⟨kk,hkk⟩: ∃ kk,kk=4+kl.length:=⟨_,rfl⟩;rw[<-hkk] at HA0 hml;obtain⟨ee,hee⟩: ∃ ee,ee=kk+vl.length:=⟨_,rfl⟩;rw[<-hee] at HA0 hml;have hkl1:=hkl.1;have hkl2:=hkl.2;have q2:2=(ai vl.length 2).length:=(aw _ _).symm;have HGet:=ah (iD (some ⟨g,o+2,none⟩) (mc - 2) (ai vl.length 2) 2 q2 vl.length (Jb (by omega)) wr HG.o (by omega));have i1:(4:Int)+kl.length=kk:=by omega
   have i2:(kk:Int)+vl.length=ee:=by omega
   have i3:IntKind.i64.wrap (vl.length:Int)=vl.length:=by rw[IntKind.wrap_i64];omega
   have n1:(4:Int)<=kk:=by omega
   have n2:(kk:Int)<=ee:=by omega
   have n3:(ee:Int)<=m:=by omega
   have n4:(kk:Int)<=mc:=by omega
   have n5:(ee:Int)<=mc:=by omega
   have n6:(m:Int)<=mc:=by omega
   have n7:(4:Int)<=mc:=by omega
   have n8:¬ mc=2:=by omega
   have n9:¬ mc=4:=by omega
   have n10:(0:Int)<m:=by omega
   have n11:(1:Int)<m:=by omega
   have HS:=ah HD.o.2.2.2.2;replace hj:=ah hj;replace hy0:=ah hy0;replace hy1:=ah hy1;replace hy2:=ah hy2;have hk6:k<=1000000:=by have:=HLen.o k hk;rw[<-HM.o] at this;omega
   have HE1:Hid (kk - 4=kl.length/\ee - kk=vl.length/\m - ee=r.length/\m - ee<m):=by unfold Hid;omega
   clear hmc hat hat0 hrd hrd0 hqo hq hdr q2 hkl hr hkk hee hml HA;by_cases e2:mc=ee
   .by_cases e1:mc=kk
    .cases dd
     .have HZ0:Hid True:=trivial;have HZ:Hid (w.cell? ⟨g,o,none⟩=some (.int .u8 0)):=(HA0.o w HR.o).d;replace y0:wr.cell? ⟨g,o,none⟩=some (.int .u8 0):=y0;have HVa:Hid (∀ W,Rd W A (aE cs)->Rd W (some ⟨g,o,none⟩) vl):=fun W hW=>by have:=(HA0.o W hW).value;rw[if_pos e1] at this;exact this
      have HRa:Hid (∀ W,Rd W A (aE cs)->Rd W (some ⟨g,o,none⟩) r):=fun W hW=>by have:=(HA0.o W hW).rest;rw[if_pos e2] at this;exact this
      have HPu:Hid (ps.flatMap fI++[.slice (some ⟨g,o+4,none⟩) (kk - 4) (mc - 4),.slice (some ⟨g,o,none⟩) 0 0,.bool false]=(ps++[(⟨(some ⟨g,o+4,none⟩,mc - 4,kl),((some ⟨g,o,none⟩),0,vl),false⟩:Pu)]).flatMap fI):=by
       unfold Hid;rw[List.flatMap_append];congr 1
       show _=[aJ _,aJ _,_];unfold aJ;simp only[show kk - 4=kl.length from HE1.o.1,show vl.length=0 by have:=HE1.o.2.1;omega]
      have HPs:Hid (∀ W,Rd W A (aE cs)->gZ W (ps++[(⟨(some ⟨g,o+4,none⟩,mc - 4,kl),((some ⟨g,o,none⟩),0,vl),false⟩:Pu)])):=fun W hW p hp=>by
       rcases List.mem_append.1 hp with h1 | h1
       .exact HD.o.2.2.2.1 W hW p h1
       .rw[List.mem_singleton.1 h1];exact⟨(HA0.o W hW).key,HVa.o W hW⟩
      have HMp:Hid ((ps++[(⟨(some ⟨g,o+4,none⟩,mc - 4,kl),((some ⟨g,o,none⟩),0,vl),false⟩:Pu)]).map Pu.bq=cs.take (k+1)):=by
       unfold Hid;rw[HTk.o,List.map_append,HD.o.2.2.1];rfl
      have HRl:Hid (0=(aE (cs.drop (k+1))).length/\0<=1000000/\0<=0/\0<=9223372036854775807/\0<m):=by
       unfold Hid;rw[<-HRe.o];have:=HE1.o;omega
      subst e2;subst e1;go_upto_region 5 with (go_at_call 105;(with_reducible refine HGet.o.mono ?_);rintro y wx ⟨rfl,rfl⟩)
      refine wp_region_held_drew (S:=fun w'=>w'.cell? ⟨g,o,none⟩=some (.int .u8 0)) (by kernel_rfl) y0 ?_;intro hS0;refine an 0 1 2 3 ?_;refine an 4 5 6 7 ?_;refine an 8 9 10 11 ?_;refine ca 12 ?_;refine bC 13 fun K hK=>?_
      go_simp;refine hK.out _ _ (by exact(HS.o.aD _).drew.aL.cell HZ.o id) (fun hS0=>?_);clear hK K;refine bC 14 fun K hK=>?_
      refine aQ rfl (.tmp 20) (.tmp 33) 22 rfl 43 j0 _ 3 56 Tryz.underlying22 hj.o hy0.o hy1.o hy2.o rfl (by decide) (.slice B k d) k (ps.flatMap fI) rfl w _ (by exact(HS.o.aD _).drew) (some ⟨wr.heap.size,0,none⟩) 1 1 [.slice (some ⟨g,o+4,none⟩) (mc - 4) (mc - 4),.slice (some ⟨g,o,none⟩) 0 (0),.bool false] rfl (by exact(aR _ _ _)) rfl (by intro u hu;simp at hu;rcases hu with rfl | rfl | rfl<;>rfl) (by unfold maxLen;omega) (by omega) ?_;intro B5 d5 w5 hs;have HS5:=ah hs;clear hs;refine hK.out _ _ (by exact HS5.o.aL.cell HZ.o id) (fun hS0=>?_);clear hK K
      try simp only[Act.put,et,eh,ep]
      refine ca 15 ?_;refine wpAnyH_done (by kernel_rfl) ?_ _;rw[HPu.o] at HS5;go_wp2_with fail;go_roundw
      .exact⟨k+1,0,0,(some ⟨g,o,none⟩),B5,d5,_,hlt,HRl.o.2.1,HRl.o.2.2.1,HRl.o.2.2.2.1,rfl,rfl,HRl.o.1,by rw[<-HRe.o];exact HRa.o,HMp.o,HPs.o,HS5.o⟩
      .exact HRl.o.2.2.2.2
     .have HZ0:Hid True:=trivial;have HZ:Hid (w.cell? ⟨g,o,none⟩=some (.int .u8 1)):=(HA0.o w HR.o).d;replace y0:wr.cell? ⟨g,o,none⟩=some (.int .u8 1):=y0;have HVa:Hid (∀ W,Rd W A (aE cs)->Rd W (some ⟨g,o,none⟩) vl):=fun W hW=>by have:=(HA0.o W hW).value;rw[if_pos e1] at this;exact this
      have HRa:Hid (∀ W,Rd W A (aE cs)->Rd W (some ⟨g,o,none⟩) r):=fun W hW=>by have:=(HA0.o W hW).rest;rw[if_pos e2] at this;exact this
      have HPu:Hid (ps.flatMap fI++[.slice (some ⟨g,o+4,none⟩) (kk - 4) (mc - 4),.slice (some ⟨g,o,none⟩) 0 0,.bool true]=(ps++[(⟨(some ⟨g,o+4,none⟩,mc - 4,kl),((some ⟨g,o,none⟩),0,vl),true⟩:Pu)]).flatMap fI):=by
       unfold Hid;rw[List.flatMap_append];congr 1
       show _=[aJ _,aJ _,_];unfold aJ;simp only[show kk - 4=kl.length from HE1.o.1,show vl.length=0 by have:=HE1.o.2.1;omega]
      have HPs:Hid (∀ W,Rd W A (aE cs)->gZ W (ps++[(⟨(some ⟨g,o+4,none⟩,mc - 4,kl),((some ⟨g,o,none⟩),0,vl),true⟩:Pu)])):=fun W hW p hp=>by
       rcases List.mem_append.1 hp with h1 | h1
       .exact HD.o.2.2.2.1 W hW p h1
       .rw[List.mem_singleton.1 h1];exact⟨(HA0.o W hW).key,HVa.o W hW⟩
      have HMp:Hid ((ps++[(⟨(some ⟨g,o+4,none⟩,mc - 4,kl),((some ⟨g,o,none⟩),0,vl),true⟩:Pu)]).map Pu.bq=cs.take (k+1)):=by
       unfold Hid;rw[HTk.o,List.map_append,HD.o.2.2.1];rfl
      have HRl:Hid (0=(aE (cs.drop (k+1))).length/\0<=1000000/\0<=0/\0<=9223372036854775807/\0<m):=by
       unfold Hid;rw[<-HRe.o];have:=HE1.o;omega
      subst e2;subst e1;go_upto_region 5 with (go_at_call 105;(with_reducible refine HGet.o.mono ?_);rintro y wx ⟨rfl,rfl⟩)
      refine wp_region_held_drew (S:=fun w'=>w'.cell? ⟨g,o,none⟩=some (.int .u8 1)) (by kernel_rfl) y0 ?_;intro hS0;refine an 0 1 2 3 ?_;refine an 4 5 6 7 ?_;refine an 8 9 10 11 ?_;refine ca 12 ?_;refine bC 13 fun K hK=>?_
      go_simp;refine hK.out _ _ (by exact(HS.o.aD _).drew.aL.cell HZ.o id) (fun hS0=>?_);clear hK K;refine bC 14 fun K hK=>?_
      refine aQ rfl (.tmp 20) (.tmp 33) 22 rfl 43 j0 _ 3 56 Tryz.underlying22 hj.o hy0.o hy1.o hy2.o rfl (by decide) (.slice B k d) k (ps.flatMap fI) rfl w _ (by exact(HS.o.aD _).drew) (some ⟨wr.heap.size,0,none⟩) 1 1 [.slice (some ⟨g,o+4,none⟩) (mc - 4) (mc - 4),.slice (some ⟨g,o,none⟩) 0 (0),.bool true] rfl (by exact(aR _ _ _)) rfl (by intro u hu;simp at hu;rcases hu with rfl | rfl | rfl<;>rfl) (by unfold maxLen;omega) (by omega) ?_;intro B5 d5 w5 hs;have HS5:=ah hs;clear hs;refine hK.out _ _ (by exact HS5.o.aL.cell HZ.o id) (fun hS0=>?_);clear hK K
      try simp only[Act.put,et,eh,ep]
      refine ca 15 ?_;refine wpAnyH_done (by kernel_rfl) ?_ _;rw[HPu.o] at HS5;go_wp2_with fail;go_roundw
      .exact⟨k+1,0,0,(some ⟨g,o,none⟩),B5,d5,_,hlt,HRl.o.2.1,HRl.o.2.2.1,HRl.o.2.2.2.1,rfl,rfl,HRl.o.1,by rw[<-HRe.o];exact HRa.o,HMp.o,HPs.o,HS5.o⟩
      .exact HRl.o.2.2.2.2
    .cases dd
     .have HZ0:Hid True:=trivial;have HZ:Hid (w.cell? ⟨g,o,none⟩=some (.int .u8 0)):=(HA0.o w HR.o).d;replace y0:wr.cell? ⟨g,o,none⟩=some (.int .u8 0):=y0;have HVa:Hid (∀ W,Rd W A (aE cs)->Rd W (some ⟨g,o+kk,none⟩) vl):=fun W hW=>by have:=(HA0.o W hW).value;rw[if_neg e1] at this;exact this
      have HRa:Hid (∀ W,Rd W A (aE cs)->Rd W (some ⟨g,o,none⟩) r):=fun W hW=>by have:=(HA0.o W hW).rest;rw[if_pos e2] at this;exact this
      have HPu:Hid (ps.flatMap fI++[.slice (some ⟨g,o+4,none⟩) (kk - 4) (mc - 4),.slice (some ⟨g,o+kk,none⟩) (ee - kk) (mc - kk),.bool false]=(ps++[(⟨(some ⟨g,o+4,none⟩,mc - 4,kl),((some ⟨g,o+kk,none⟩),mc - kk,vl),false⟩:Pu)]).flatMap fI):=by
       unfold Hid;rw[List.flatMap_append];congr 1
       show _=[aJ _,aJ _,_];unfold aJ;simp only[show kk - 4=kl.length from HE1.o.1,show ee - kk=vl.length from HE1.o.2.1]
      have HPs:Hid (∀ W,Rd W A (aE cs)->gZ W (ps++[(⟨(some ⟨g,o+4,none⟩,mc - 4,kl),((some ⟨g,o+kk,none⟩),mc - kk,vl),false⟩:Pu)])):=fun W hW p hp=>by
       rcases List.mem_append.1 hp with h1 | h1
       .exact HD.o.2.2.2.1 W hW p h1
       .rw[List.mem_singleton.1 h1];exact⟨(HA0.o W hW).key,HVa.o W hW⟩
      have HMp:Hid ((ps++[(⟨(some ⟨g,o+4,none⟩,mc - 4,kl),((some ⟨g,o+kk,none⟩),mc - kk,vl),false⟩:Pu)]).map Pu.bq=cs.take (k+1)):=by
       unfold Hid;rw[HTk.o,List.map_append,HD.o.2.2.1];rfl
      have HRl:Hid (0=(aE (cs.drop (k+1))).length/\0<=1000000/\0<=0/\0<=9223372036854775807/\0<m):=by
       unfold Hid;rw[<-HRe.o];have:=HE1.o;omega
      subst e2;go_upto_region 5 with (go_at_call 105;(with_reducible refine HGet.o.mono ?_);rintro y wx ⟨rfl,rfl⟩)
      refine wp_region_held_drew (S:=fun w'=>w'.cell? ⟨g,o,none⟩=some (.int .u8 0)) (by kernel_rfl) y0 ?_;intro hS0;refine an 0 1 2 3 ?_;refine an 4 5 6 7 ?_;refine an 8 9 10 11 ?_;refine ca 12 ?_;refine bC 13 fun K hK=>?_
      go_simp;refine hK.out _ _ (by exact(HS.o.aD _).drew.aL.cell HZ.o id) (fun hS0=>?_);clear hK K;refine bC 14 fun K hK=>?_
      refine aQ rfl (.tmp 20) (.tmp 33) 22 rfl 43 j0 _ 3 56 Tryz.underlying22 hj.o hy0.o hy1.o hy2.o rfl (by decide) (.slice B k d) k (ps.flatMap fI) rfl w _ (by exact(HS.o.aD _).drew) (some ⟨wr.heap.size,0,none⟩) 1 1 [.slice (some ⟨g,o+4,none⟩) (kk - 4) (mc - 4),.slice (some ⟨g,o+kk,none⟩) (mc - kk) (mc - kk),.bool false] rfl (by exact(aR _ _ _)) rfl (by intro u hu;simp at hu;rcases hu with rfl | rfl | rfl<;>rfl) (by unfold maxLen;omega) (by omega) ?_;intro B5 d5 w5 hs;have HS5:=ah hs;clear hs;refine hK.out _ _ (by exact HS5.o.aL.cell HZ.o id) (fun hS0=>?_);clear hK K
      try simp only[Act.put,et,eh,ep]
      refine ca 15 ?_;refine wpAnyH_done (by kernel_rfl) ?_ _;rw[HPu.o] at HS5;go_wp2_with fail;go_roundw
      .exact⟨k+1,0,0,(some ⟨g,o,none⟩),B5,d5,_,hlt,HRl.o.2.1,HRl.o.2.2.1,HRl.o.2.2.2.1,rfl,rfl,HRl.o.1,by rw[<-HRe.o];exact HRa.o,HMp.o,HPs.o,HS5.o⟩
      .exact HRl.o.2.2.2.2
     .have HZ0:Hid True:=trivial;have HZ:Hid (w.cell? ⟨g,o,none⟩=some (.int .u8 1)):=(HA0.o w HR.o).d;replace y0:wr.cell? ⟨g,o,none⟩=some (.int .u8 1):=y0;have HVa:Hid (∀ W,Rd W A (aE cs)->Rd W (some ⟨g,o+kk,none⟩) vl):=fun W hW=>by have:=(HA0.o W hW).value;rw[if_neg e1] at this;exact this
      have HRa:Hid (∀ W,Rd W A (aE cs)->Rd W (some ⟨g,o,none⟩) r):=fun W hW=>by have:=(HA0.o W hW).rest;rw[if_pos e2] at this;exact this
      have HPu:Hid (ps.flatMap fI++[.slice (some ⟨g,o+4,none⟩) (kk - 4) (mc - 4),.slice (some ⟨g,o+kk,none⟩) (ee - kk) (mc - kk),.bool true]=(ps++[(⟨(some ⟨g,o+4,none⟩,mc - 4,kl),((some ⟨g,o+kk,none⟩),mc - kk,vl),true⟩:Pu)]).flatMap fI):=by
       unfold Hid;rw[List.flatMap_append];congr 1
       show _=[aJ _,aJ _,_];unfold aJ;simp only[show kk - 4=kl.length from HE1.o.1,show ee - kk=vl.length from HE1.o.2.1]
      have HPs:Hid (∀ W,Rd W A (aE cs)->gZ W (ps++[(⟨(some ⟨g,o+4,none⟩,mc - 4,kl),((some ⟨g,o+kk,none⟩),mc - kk,vl),true⟩:Pu)])):=fun W hW p hp=>by
       rcases List.mem_append.1 hp with h1 | h1
       .exact HD.o.2.2.2.1 W hW p h1
       .rw[List.mem_singleton.1 h1];exact⟨(HA0.o W hW).key,HVa.o W hW⟩
      have HMp:Hid ((ps++[(⟨(some ⟨g,o+4,none⟩,mc - 4,kl),((some ⟨g,o+kk,none⟩),mc - kk,vl),true⟩:Pu)]).map Pu.bq=cs.take (k+1)):=by
       unfold Hid;rw[HTk.o,List.map_append,HD.o.2.2.1];rfl
      have HRl:Hid (0=(aE (cs.drop (k+1))).length/\0<=1000000/\0<=0/\0<=9223372036854775807/\0<m):=by
       unfold Hid;rw[<-HRe.o];have:=HE1.o;omega
      subst e2;go_upto_region 5 with (go_at_call 105;(with_reducible refine HGet.o.mono ?_);rintro y wx ⟨rfl,rfl⟩)
      refine wp_region_held_drew (S:=fun w'=>w'.cell? ⟨g,o,none⟩=some (.int .u8 1)) (by kernel_rfl) y0 ?_;intro hS0;refine an 0 1 2 3 ?_;refine an 4 5 6 7 ?_;refine an 8 9 10 11 ?_;refine ca 12 ?_;refine bC 13 fun K hK=>?_
      go_simp;refine hK.out _ _ (by exact(HS.o.aD _).drew.aL.cell HZ.o id) (fun hS0=>?_);clear hK K;refine bC 14 fun K hK=>?_
      refine aQ rfl (.tmp 20) (.tmp 33) 22 rfl 43 j0 _ 3 56 Tryz.underlying22 hj.o hy0.o hy1.o hy2.o rfl (by decide) (.slice B k d) k (ps.flatMap fI) rfl w _ (by exact(HS.o.aD _).drew) (some ⟨wr.heap.size,0,none⟩) 1 1 [.slice (some ⟨g,o+4,none⟩) (kk - 4) (mc - 4),.slice (some ⟨g,o+kk,none⟩) (mc - kk) (mc - kk),.bool true] rfl (by exact(aR _ _ _)) rfl (by intro u hu;simp at hu;rcases hu with rfl | rfl | rfl<;>rfl) (by unfold maxLen;omega) (by omega) ?_;intro B5 d5 w5 hs;have HS5:=ah hs;clear hs;refine hK.out _ _ (by exact HS5.o.aL.cell HZ.o id) (fun hS0=>?_);clear hK K
      try simp only[Act.put,et,eh,ep]
      refine ca 15 ?_;refine wpAnyH_done (by kernel_rfl) ?_ _;rw[HPu.o] at HS5;go_wp2_with fail;go_roundw
      .exact⟨k+1,0,0,(some ⟨g,o,none⟩),B5,d5,_,hlt,HRl.o.2.1,HRl.o.2.2.1,HRl.o.2.2.2.1,rfl,rfl,HRl.o.1,by rw[<-HRe.o];exact HRa.o,HMp.o,HPs.o,HS5.o⟩
      .exact HRl.o.2.2.2.2
   .have e1:¬ mc=kk:=by omega
    cases dd
    .have HZ0:Hid True:=trivial;have HZ:Hid (w.cell? ⟨g,o,none⟩=some (.int .u8 0)):=(HA0.o w HR.o).d;replace y0:wr.cell? ⟨g,o,none⟩=some (.int .u8 0):=y0;have HVa:Hid (∀ W,Rd W A (aE cs)->Rd W (some ⟨g,o+kk,none⟩) vl):=fun W hW=>by have:=(HA0.o W hW).value;rw[if_neg e1] at this;exact this
     have HRa:Hid (∀ W,Rd W A (aE cs)->Rd W (some ⟨g,o+ee,none⟩) r):=fun W hW=>by have:=(HA0.o W hW).rest;rw[if_neg e2] at this;exact this
     have HPu:Hid (ps.flatMap fI++[.slice (some ⟨g,o+4,none⟩) (kk - 4) (mc - 4),.slice (some ⟨g,o+kk,none⟩) (ee - kk) (mc - kk),.bool false]=(ps++[(⟨(some ⟨g,o+4,none⟩,mc - 4,kl),((some ⟨g,o+kk,none⟩),mc - kk,vl),false⟩:Pu)]).flatMap fI):=by
      unfold Hid;rw[List.flatMap_append];congr 1
      show _=[aJ _,aJ _,_];unfold aJ;simp only[show kk - 4=kl.length from HE1.o.1,show ee - kk=vl.length from HE1.o.2.1]
     have HPs:Hid (∀ W,Rd W A (aE cs)->gZ W (ps++[(⟨(some ⟨g,o+4,none⟩,mc - 4,kl),((some ⟨g,o+kk,none⟩),mc - kk,vl),false⟩:Pu)])):=fun W hW p hp=>by
      rcases List.mem_append.1 hp with h1 | h1
      .exact HD.o.2.2.2.1 W hW p h1
      .rw[List.mem_singleton.1 h1];exact⟨(HA0.o W hW).key,HVa.o W hW⟩
     have HMp:Hid ((ps++[(⟨(some ⟨g,o+4,none⟩,mc - 4,kl),((some ⟨g,o+kk,none⟩),mc - kk,vl),false⟩:Pu)]).map Pu.bq=cs.take (k+1)):=by
      unfold Hid;rw[HTk.o,List.map_append,HD.o.2.2.1];rfl
     have HRl:Hid ((m - ee)=(aE (cs.drop (k+1))).length/\(m - ee)<=1000000/\(m - ee)<=mc - ee/\mc - ee<=9223372036854775807/\(m - ee)<m):=by
      unfold Hid;rw[<-HRe.o];have:=HE1.o;omega
     go_upto_region 5 with (go_at_call 105;(with_reducible refine HGet.o.mono ?_);rintro y wx ⟨rfl,rfl⟩)
     refine wp_region_held_drew (S:=fun w'=>w'.cell? ⟨g,o,none⟩=some (.int .u8 0)) (by kernel_rfl) y0 ?_;intro hS0;refine an 0 1 2 3 ?_;refine an 4 5 6 7 ?_;refine an 8 9 10 11 ?_;refine ca 12 ?_;refine bC 13 fun K hK=>?_
     go_simp;refine hK.out _ _ (by exact(HS.o.aD _).drew.aL.cell HZ.o id) (fun hS0=>?_);clear hK K;refine bC 14 fun K hK=>?_
     refine aQ rfl (.tmp 20) (.tmp 33) 22 rfl 43 j0 _ 3 56 Tryz.underlying22 hj.o hy0.o hy1.o hy2.o rfl (by decide) (.slice B k d) k (ps.flatMap fI) rfl w _ (by exact(HS.o.aD _).drew) (some ⟨wr.heap.size,0,none⟩) 1 1 [.slice (some ⟨g,o+4,none⟩) (kk - 4) (mc - 4),.slice (some ⟨g,o+kk,none⟩) (ee - kk) (mc - kk),.bool false] rfl (by exact(aR _ _ _)) rfl (by intro u hu;simp at hu;rcases hu with rfl | rfl | rfl<;>rfl) (by unfold maxLen;omega) (by omega) ?_;intro B5 d5 w5 hs;have HS5:=ah hs;clear hs;refine hK.out _ _ (by exact HS5.o.aL.cell HZ.o id) (fun hS0=>?_);clear hK K
     try simp only[Act.put,et,eh,ep]
     refine ca 15 ?_;refine wpAnyH_done (by kernel_rfl) ?_ _;rw[HPu.o] at HS5;go_wp2_with fail;go_roundw
     .exact⟨k+1,(m - ee),(mc - ee),(some ⟨g,o+ee,none⟩),B5,d5,_,hlt,HRl.o.2.1,HRl.o.2.2.1,HRl.o.2.2.2.1,rfl,rfl,HRl.o.1,by rw[<-HRe.o];exact HRa.o,HMp.o,HPs.o,HS5.o⟩
     .exact HRl.o.2.2.2.2
    .have HZ0:Hid True:=trivial;have HZ:Hid (w.cell? ⟨g,o,none⟩=some (.int .u8 1)):=(HA0.o w HR.o).d;replace y0:wr.cell? ⟨g,o,none⟩=some (.int .u8 1):=y0;have HVa:Hid (∀ W,Rd W A (aE cs)->Rd W (some ⟨g,o+kk,none⟩) vl):=fun W hW=>by have:=(HA0.o W hW).value;rw[if_neg e1] at this;exact this
     have HRa:Hid (∀ W,Rd W A (aE cs)->Rd W (some ⟨g,o+ee,none⟩) r):=fun W hW=>by have:=(HA0.o W hW).rest;rw[if_neg e2] at this;exact this
     have HPu:Hid (ps.flatMap fI++[.slice (some ⟨g,o+4,none⟩) (kk - 4) (mc - 4),.slice (some ⟨g,o+kk,none⟩) (ee - kk) (mc - kk),.bool true]=(ps++[(⟨(some ⟨g,o+4,none⟩,mc - 4,kl),((some ⟨g,o+kk,none⟩),mc - kk,vl),true⟩:Pu)]).flatMap fI):=by
      unfold Hid;rw[List.flatMap_append];congr 1
      show _=[aJ _,aJ _,_];unfold aJ;simp only[show kk - 4=kl.length from HE1.o.1,show ee - kk=vl.length from HE1.o.2.1]
     have HPs:Hid (∀ W,Rd W A (aE cs)->gZ W (ps++[(⟨(some ⟨g,o+4,none⟩,mc - 4,kl),((some ⟨g,o+kk,none⟩),mc - kk,vl),true⟩:Pu)])):=fun W hW p hp=>by
      rcases List.mem_append.1 hp with h1 | h1
      .exact HD.o.2.2.2.1 W hW p h1
      .rw[List.mem_singleton.1 h1];exact⟨(HA0.o W hW).key,HVa.o W hW⟩
     have HMp:Hid ((ps++[(⟨(some ⟨g,o+4,none⟩,mc - 4,kl),((some ⟨g,o+kk,none⟩),mc - kk,vl),true⟩:Pu)]).map Pu.bq=cs.take (k+1)):=by
      unfold Hid;rw[HTk.o,List.map_append,HD.o.2.2.1];rfl
     have HRl:Hid ((m - ee)=(aE (cs.drop (k+1))).length/\(m - ee)<=1000000/\(m - ee)<=mc - ee/\mc - ee<=9223372036854775807/\(m - ee)<m):=by
      unfold Hid;rw[<-HRe.o];have:=HE1.o;omega
     go_upto_region 5 with (go_at_call 105;(with_reducible refine HGet.o.mono ?_);rintro y wx ⟨rfl,rfl⟩)
     refine wp_region_held_drew (S:=fun w'=>w'.cell? ⟨g,o,none⟩=some (.int .u8 1)) (by kernel_rfl) y0 ?_;intro hS0;refine an 0 1 2 3 ?_;refine an 4 5 6 7 ?_;refine an 8 9 10 11 ?_;refine ca 12 ?_;refine bC 13 fun K hK=>?_
     go_simp;refine hK.out _ _ (by exact(HS.o.aD _).drew.aL.cell HZ.o id) (fun hS0=>?_);clear hK K;refine bC 14 fun K hK=>?_
     refine aQ rfl (.tmp 20) (.tmp 33) 22 rfl 43 j0 _ 3 56 Tryz.underlying22 hj.o hy0.o hy1.o hy2.o rfl (by decide) (.slice B k d) k (ps.flatMap fI) rfl w _ (by exact(HS.o.aD _).drew) (some ⟨wr.heap.size,0,none⟩) 1 1 [.slice (some ⟨g,o+4,none⟩) (kk - 4) (mc - 4),.slice (some ⟨g,o+kk,none⟩) (ee - kk) (mc - kk),.bool true] rfl (by exact(aR _ _ _)) rfl (by intro u hu;simp at hu;rcases hu with rfl | rfl | rfl<;>rfl) (by unfold maxLen;omega) (by omega) ?_;intro B5 d5 w5 hs;have HS5:=ah hs;clear hs;refine hK.out _ _ (by exact HS5.o.aL.cell HZ.o id) (fun hS0=>?_);clear hK K
     try simp only[Act.put,et,eh,ep]
     refine ca 15 ?_;refine wpAnyH_done (by kernel_rfl) ?_ _;rw[HPu.o] at HS5;go_wp2_with fail;go_roundw
     .exact⟨k+1,(m - ee),(mc - ee),(some ⟨g,o+ee,none⟩),B5,d5,_,hlt,HRl.o.2.1,HRl.o.2.2.1,HRl.o.2.2.2.1,rfl,rfl,HRl.o.1,by rw[<-HRe.o];exact HRa.o,HMp.o,HPs.o,HS5.o⟩
     .exact HRl.o.2.2.2.2
  .have hke:k=cs.length:=by omega
   subst hke;have hm0:m=0:=by have:=HD.o.1;rw[List.drop_length] at this;exact this
   subst hm0;have HE:Hid (ps.map Pu.bq=cs):=by have:=HD.o.2.2.1;rw[List.take_length] at this;exact this
   go_wp2_with fail;go_ret;exact⟨_,_,ps,HE.o,HD.o.2.2.2.1,rfl,HD.o.2.2.2.2⟩
def I0 (ks:Nat->List UInt8):Nat->List UInt8->Option Value
 | 0=>fun _=>none
 | n+1=>kz (I0 ks n) (ks n) (some (.int .i64 (n:Int)))
theorem FO (ks:Nat->List UInt8) (i:Nat): ∀ n,i<n-> ∃ j:Nat,I0 ks n (ks i)=some (.int .i64 (j:Int))/\j<n/\(j=i↔ ∀ m,i<m->m<n->ks m≠ks i)
 | 0,h=>by omega
 | n+1,h=>by
  show ∃ j:Nat,kz (I0 ks n) (ks n) (some (.int .i64 (n:Int))) (ks i)=_/\_
  unfold kz;by_cases e:ks i=ks n
  .rw[if_pos e];refine⟨n,rfl,by omega,⟨fun e2 m h1 h2=>by omega,fun h2=>?_⟩⟩;rcases Nat.lt_or_ge i n with h3 | h3
   .exact absurd e.symm (h2 n h3 (by omega))
   .omega
  .rw[if_neg e];have hin:i<n:=by
    rcases Nat.lt_or_ge i n with h3 | h3
    .exact h3
    .exact absurd (by rw[show i=n by omega]) e
   obtain⟨j,h1,h2,h3⟩:=FO ks i n hin;refine⟨j,h1,by omega,⟨fun e2 m h4 h5=>?_,fun h4=>h3.2 fun m h5 h6=>h4 m h5 (by omega)⟩⟩;rcases Nat.lt_or_ge m n with h6 | h6
   .exact h3.1 e2 m h4 h6
   .rw[show m=n by omega];exact fun q=>e q.symm
theorem xQ {cs:List cE} {i:Nat} (hi:i<cs.length) {b:Bool} (hb:b=true↔ ∀ m,i<m->m<cs.length->((cs[m]?.map cE.key).getD [])≠cs[i].key):dw (cs.drop i)=if b=true then cs[i]::dw (cs.drop (i+1)) else dw (cs.drop (i+1)):=by
 rw[List.drop_eq_getElem_cons hi];show (if (cs.drop (i+1)).any (fun q=>decide (q.key=cs[i].key))=true then _ else _)=_;by_cases h:(cs.drop (i+1)).any (fun q=>decide (q.key=cs[i].key))=true
 .rw[if_pos h,if_neg];intro h2;obtain⟨q,hq,hk⟩:=List.any_eq_true.1 h;obtain⟨m,hm,e⟩:=List.mem_iff_getElem.1 hq;rw[List.length_drop] at hm;rw[List.getElem_drop] at e;have h3:=hb.1 h2 (i+1+m) (by omega) (by omega);rw[List.getElem?_eq_getElem (by omega),e] at h3;exact h3 (by simpa using hk)
 .rw[if_neg h,if_pos];refine hb.2 fun m h1 h2 h3=>?_
  rw[List.getElem?_eq_getElem h2] at h3;refine h (List.any_eq_true.2 ⟨cs[m],?_,by simpa using h3⟩);have h4:(cs.drop (i+1))[m - (i+1)]'(by rw[List.length_drop];omega)=cs[m]:=by rw[List.getElem_drop];congr 1;omega
  rw[<-h4];exact List.getElem_mem _
theorem D9 (w:World):(zeroValue 3).run Tryz.prog w = .ok (.int .i64 0) w:=by kernel_rfl
theorem Jh (w:World):(Instr.makeMap 192 none).run Tryz.prog w = .ok (.map (some w.heap.size)) (w.alloc (.map #[] 0)):=by
 simp[Instr.makeMap]
def pA (ps:List Pu) (i:Nat):List UInt8:=((ps[i]?).map fun p=>p.key.2.2).getD []
theorem lq {ps:List Pu} {i:Nat} (h:i<ps.length):pA ps i=ps[i].key.2.2:=by unfold pA;rw[List.getElem?_eq_getElem h];rfl
theorem Fb (A:Option Addr) (c:Nat) (ps:List Pu) (w:World) (h:aF w A (ps.flatMap fI)) (hr:gZ w ps) (hok: ∀ p ∈ ps,p.key.2.2.length<=128) (hn:ps.length<=1000000):
 Calls Tryz.prog 112 #[.slice A ps.length c] w fun x w'=> ∃ (B:Option Addr) (d:Nat) (qs:List Pu),(∀ q ∈ qs,q ∈ ps)/\qs.map Pu.bq=dw (ps.map Pu.bq)/\x = .returned (.slice B qs.length d)/\Sat w (Row 43 3 (.slice B qs.length d) qs.length (qs.flatMap fI)*bF) w':=by
 obtain⟨j0,hj,hy0,hy1,hy2⟩:=info_parts AH;have HL:=ah h;have HR:=ah hr;have HO:=ah hok;have hmk:=Jh w;have HM:=ah ((Sat.start w).uQ (P:= Tryz.prog) (k:= 9));obtain⟨b,hb⟩: ∃ b,b=w.heap.size:=⟨_,rfl⟩;obtain⟨w1,hw1⟩: ∃ w1,w1=w.alloc (.map #[] 0):=⟨_,rfl⟩;rw[<-hb, <-hw1] at HM hmk;clear h hr hok hb hw1;go_enter Tryz.func112, Tryz.ntmps112;go_wp2_with fail;go_loopw [12] (fun iv wr=> ∃ i:Nat,i<=ps.length/\iv = .int .i64 (i:Int)/\Hid (Sat w (jb Tryz.prog 9 b i (I0 (pA ps) i)*bF) wr)) (fun iv _=>ps.length - (intOf iv).toNat)
 case atStart=>exact⟨0,by omega,rfl,HM.o⟩
 case round=>
  obtain⟨i,hi,rfl,HD⟩:=hrel;by_cases hlt:i<ps.length
  .obtain⟨lb,lo,rfl,hq⟩:=gI (HL.o.new HD.o.aL) (by omega);obtain⟨y0,y1,y2⟩:=hq i hlt;have HRi:=ah (HR.o _ (List.getElem_mem hlt));have HOi:=ah (HO.o _ (List.getElem_mem hlt));have HKi:=ah (lq hlt);have hii:(i:Int)<ps.length:=by omega
   clear hq;generalize ps[i]=p at*
   obtain⟨⟨kA,kc,kl⟩,⟨vA,vc,vl⟩,dd⟩:=p;replace y0:_=some (Value.slice kA kl.length kc):=y0;replace y1:_=some (Value.slice vA vl.length vc):=y1;replace y2:_=some (Value.bool dd):=y2;go_upto_region 5 with fail;have hs2:=HD.o.ab 43 #[.slice kA kl.length kc,.slice vA vl.length vc,.bool dd];obtain⟨W4,hW4⟩: ∃ W4,W4=wr.alloc (.cells #[.slice kA kl.length kc,.slice vA vl.length vc,.bool dd] 43):=⟨_,rfl⟩;rw[<-hW4] at hs2;rw[<-hW4];clear hW4 y0 y1 y2;have x0:=hs2.cell 0;have hst:(convert 41 9 (.slice kA kl.length kc)).run Tryz.prog W4 = .ok (vK kl) W4:=dy (HRi.o.1.new hs2.aL) kc;obtain⟨W5,hrun,hs5,_⟩:=hs2.ay.lQ (t:= 192) Tryz.underlying9 Tryz.underlying192 kl (by have:kl.length<=128:=HOi.o;omega) (.int .i64 (i:Int)) (by unfold maxLen;omega);have HS5:=ah hs5.bo;clear hs2 hs5;go_wp2_with fail;go_roundw
   .refine⟨i+1,by omega,by push_cast;rfl,?_⟩;show Sat w (jb Tryz.prog 9 b (i+1) (kz (I0 (pA ps) i) (pA ps i) (some (.int .i64 (i:Int))))*bF) W5;rw[HKi.o];exact HS5.o
   .simp[intOf];omega
  .have hie:i=ps.length:=by omega
   subst hie;clear hmk;have HF:Hid (∀ i,i<ps.length-> ∃ j:Nat,I0 (pA ps) ps.length (pA ps i)=some (.int .i64 (j:Int))/\j<ps.length/\(j=i↔ ∀ m,i<m->m<ps.length->pA ps m≠pA ps i)):=fun i hi=>FO (pA ps) i ps.length hi
   generalize hf:I0 (pA ps) ps.length=f at HD HF;clear hf;have HS1:=ah ((HD.o.of (cD _ _)).right);go_wp2_with fail;go_loopw [6,25] (fun ov iv wr2=> ∃ (i k d:Nat) (B:Option Addr) (qs:List Pu),i<=ps.length/\k<=i/\iv = .int .i64 (i:Int)/\ov = .slice B k d/\Hid (k=qs.length/\(∀ q ∈ qs,q ∈ ps)/\qs.map Pu.bq++dw ((ps.map Pu.bq).drop i)=dw (ps.map Pu.bq)/\Sat w (Row 43 3 (.slice B k d) k (qs.flatMap fI)*(jb Tryz.prog 9 b ps.length f*bF)) wr2)) (fun _ iv _=>ps.length - (intOf iv).toNat)
   case atStart=>exact⟨0,0,0,none,[],by omega,by omega,rfl,rfl,rfl,(fun q hq=>by cases hq),rfl,HD.o.aN 43 3⟩
   case round=>
    obtain⟨i,k,d,B,qs,hi,hki,rfl,rfl,HE⟩:=hrel;by_cases hlt:i<ps.length
    .obtain⟨lb,lo,rfl,hq⟩:=gI (HL.o.new HE.o.2.2.2.aL) (by omega);obtain⟨y0,y1,y2⟩:=hq i hlt;have HRi:=ah (HR.o _ (List.getElem_mem hlt));have HOi:=ah (HO.o _ (List.getElem_mem hlt));have hPm:=ah (List.getElem_mem hlt);have HKi:=ah (lq hlt);have hii:(i:Int)<ps.length:=by omega
     obtain⟨j,hj1,hj2,hj3⟩:=HF.o i hlt;have HSt:Hid (dw ((ps.map Pu.bq).drop i)=if decide (j=i)=true then ps[i].bq::dw ((ps.map Pu.bq).drop (i+1)) else dw ((ps.map Pu.bq).drop (i+1))):=by
      have h9:=xQ (cs:=ps.map Pu.bq) (i:=i) (by rw[List.length_map];exact hlt) (b:=decide (j=i)) (by
       have hl:(ps.map Pu.bq).length=ps.length:=List.length_map ..;rw[decide_eq_true_iff,hj3];refine⟨fun h m h1 h2=>?_,fun h m h1 h2=>?_⟩
       .rw[hl] at h2;have h3:=h m h1 h2;rw[lq h2,lq hlt] at h3;rw[List.getElem?_eq_getElem (by rw[hl];exact h2),List.getElem_map,List.getElem_map];exact h3
       .have h3:=h m h1 (by rw[hl];exact h2);rw[List.getElem?_eq_getElem (by rw[hl];exact h2),List.getElem_map,List.getElem_map] at h3;rw[lq h2,lq hlt];exact h3)
      rw[List.getElem_map] at h9;exact h9
     rw[HKi.o] at hj1;clear hq hj3;generalize ps[i]=p at*
     obtain⟨⟨kA,kc,kl⟩,⟨vA,vc,vl⟩,dd⟩:=p;replace y0:_=some (Value.slice kA kl.length kc):=y0;replace y1:_=some (Value.slice vA vl.length vc):=y1;replace y2:_=some (Value.bool dd):=y2;replace hj1:f kl=some (.int .i64 (j:Int)):=hj1;have hs2:=HE.o.2.2.2.ab 43 #[.slice kA kl.length kc,.slice vA vl.length vc,.bool dd];obtain⟨W4,hW4⟩: ∃ W4,W4=wr.alloc (.cells #[.slice kA kl.length kc,.slice vA vl.length vc,.bool dd] 43):=⟨_,rfl⟩;rw[<-hW4] at hs2;have hlk:=hs2.bp.Cw (t:= 192) Tryz.underlying9 Tryz.underlying192 (D9 W4) kl (by have:kl.length<=128:=HOi.o;omega);rw[hj1,Option.getD_some] at hlk;have hst:(convert 41 9 (.slice kA kl.length kc)).run Tryz.prog W4 = .ok (vK kl) W4:=dy (HRi.o.1.new hs2.aL) kc;have HS2:=ah hs2;have Hlk:=ah hlk;have Hst:=ah hst;have HKd:=ah HE.o.1;clear hs2 hj1 hlk hst;go_upto_region 11 with fail;rw[<-hW4];clear hW4 y0 y1 y2;have x0:=HS2.o.cell 0;have hlk:=Hlk.o;have hst:=Hst.o;by_cases hji:j=i
     .subst hji;have x1:=HS2.o.cell 1;have x2:=HS2.o.cell 2;have HS3:=ah (HS2.o.aD (.cells #[.slice kA kl.length kc,.slice vA vl.length vc,.bool dd] 43));have Hj:=ah hj;have Hy0:=ah hy0;have Hy1:=ah hy1;have Hy2:=ah hy2;clear hj hy0 hy1 hy2;go_wp2_with (at_builtin;refine av rfl (.tmp 37) (.tmp 39) 22 rfl 43 j0 _ 3 56 Tryz.underlying22 Hj.o Hy0.o Hy1.o Hy2.o rfl (by decide) (.slice B k d) k (qs.flatMap fI) rfl w _ (by exact HS3.o.ay) (some ⟨W4.heap.size,0,none⟩) 1 1 [.slice kA kl.length kc,.slice vA vl.length vc,.bool dd] rfl (by exact(aR _ _ _)) rfl (by intro u hu;simp at hu;rcases hu with rfl | rfl | rfl<;>rfl) (by unfold maxLen;omega) (by omega) ?_;intro B5 d5 w5 hs5;have HS5:=ah hs5.bo;clear hs5);go_roundw
      .refine⟨j+1,k+1,d5,B5,qs++[⟨(kA,kc,kl),(vA,vc,vl),dd⟩],by omega,by omega,by push_cast;rfl,rfl,by rw[List.length_append,HKd.o];rfl,fun q hq=>?_,?_,?_⟩
       .rcases List.mem_append.1 hq with h1 | h1
        .exact HE.o.2.1 q h1
        .rw[List.mem_singleton.1 h1];exact hPm.o
       .have h1:=HE.o.2.2.1;rw[HSt.o,if_pos (by simp)] at h1;rw[List.map_append,List.append_assoc];exact h1
       .rw[List.flatMap_append];exact HS5.o
      .simp[intOf];omega
     .have hb:((j:Int)==i)=false:=by rw[beq_eq_false_iff_ne];omega
      have HSt2:Hid (dw ((ps.map Pu.bq).drop i)=dw ((ps.map Pu.bq).drop (i+1))):=by unfold Hid;rw[HSt.o,if_neg (by simpa using hji)]
      clear hji;go_wp2_with fail;go_roundw
      .exact⟨i+1,k,d,B,qs,by omega,by omega,by push_cast;rfl,rfl,HE.o.1,HE.o.2.1,by rw[<-HSt2.o];exact HE.o.2.2.1,HS2.o.right⟩
      .simp[intOf];omega
    .have hie:i=ps.length:=by omega
     subst hie;have HQ:Hid (qs.map Pu.bq=dw (ps.map Pu.bq)):=by
      have h1:=HE.o.2.2.1;rw[List.drop_eq_nil_of_le (by simp)] at h1;rw[show dw []=[] from rfl,List.append_nil] at h1;exact h1
     go_wp2_with fail;go_ret;have hk:=HE.o.1;subst hk;exact⟨_,_,qs,HE.o.2.1,HQ.o,rfl,HE.o.2.2.2.ay.right⟩
def re (p:cE):Bool:=decide (p.key.length=0) || decide (128<p.key.length)
def jC (p:cE):Bool:=decide (16384<p.value.length) || (p.dead && decide (0<p.value.length))
def jt (p:cE):Nat:=p.key.length+p.value.length+16
def dt (cs:List cE):Nat:=if cs.any re=true then 100 else if cs.any jC=true then 101 else if 262144<(cs.map jt).sum then 102 else 0
theorem zu (K:Nat): ∀ (l:List cE),(∀ p ∈ l,jt p<=K)->(l.map jt).sum<=l.length*K
 | [],_=>by simp
 | p::l,h=>by
  have h1:=zu K l fun q hq=>h q (List.mem_cons_of_mem _ hq)
  have h2:=h p List.mem_cons_self;rw[List.map_cons,List.sum_cons,List.length_cons,Nat.add_mul];omega
theorem wb (p:Pu) (w:World) (hv:p.value.2.2.length<=140737488355328):
 Calls Tryz.prog 115 #[.agg #[.slice p.key.1 p.key.2.2.length p.key.2.1,.slice p.value.1 p.value.2.2.length p.value.2.1,.bool p.dead]] w fun x w'=>x = .returned (.bool (jC p.bq))/\ao No w w':=by
 have hs:=(Sat.start w).ab 43 #[.slice p.key.1 p.key.2.2.length p.key.2.1,.slice p.value.1 p.value.2.2.length p.value.2.1,.bool p.dead];have c0:=hs.cell 0;have c1:=hs.cell 1;have c2:=hs.cell 2;have HS:=ah hs;have HB:Hid (jC p.bq=(decide (16384<p.value.2.2.length) || (p.dead && decide (0<p.value.2.2.length)))):=rfl;rw[HB.o];clear hs HB;obtain⟨⟨kA,kc,kl⟩,⟨vA,vc,vl⟩,dd⟩:=p;replace hv:vl.length<=140737488355328:=hv;show Calls Tryz.prog 115 #[.agg #[.slice kA kl.length kc,.slice vA vl.length vc,.bool dd]] w fun x w'=>x = .returned (.bool (decide (16384<vl.length) || (dd && decide (0<vl.length))))/\ao No w w'
 replace c0:_=some (Value.slice kA kl.length kc):=c0;replace c1:_=some (Value.slice vA vl.length vc):=c1;replace c2:_=some (Value.bool dd):=c2;have HC:=ah HS.o.aL;by_cases h1:16384<vl.length
 .have h2:(16384:Int)<vl.length:=by omega
  rw[decide_eq_true h1,Bool.true_or];clear h1 HS;go_enter Tryz.func115, Tryz.ntmps115;go_wp2_with fail;go_ret;exact⟨rfl,HC.o⟩
 .have h2:¬ (16384:Int)<vl.length:=by omega
  rw[decide_eq_false h1,Bool.false_or];clear h1 HS
  cases dd
  .rw[Bool.false_and];go_enter Tryz.func115, Tryz.ntmps115;go_wp2_with fail;go_ret;exact⟨rfl,HC.o⟩
  .rw[Bool.true_and];go_enter Tryz.func115, Tryz.ntmps115;go_wp2_with fail;go_ret;exact⟨rfl,HC.o⟩
theorem yz (A:Option Addr) (c:Nat) (ps:List Pu) (w:World) (h:aF w A (ps.flatMap fI)) (hn:ps.length<=1000000) (hv: ∀ p ∈ ps,p.value.2.2.length<=140737488355328):
 Calls Tryz.prog 149 #[.slice A ps.length c,.func (.func 115) #[] #[]] w fun x w'=>(∃ r:Int,x = .returned (.int .i64 r)/\decide (0<=r)=(ps.map Pu.bq).any jC)/\ao No w w':=by
 have HL:=ah h;have HV:=ah hv;clear h hv;go_enter Tryz.func149, Tryz.ntmps149;go_wp2_with fail;go_loopw [8] (fun iv wr=> ∃ i:Nat,i<=ps.length/\iv = .int .i64 i/\Hid ((∀ j (h:j<ps.length),j<i->jC ps[j].bq=false)/\ao No w wr)) (fun iv _=>ps.length - (intOf iv).toNat)
 case atStart=>exact⟨0,by omega,rfl,fun j _ h=>by omega,ao.refl _ _⟩
 case round=>
  obtain⟨i,hi,rfl,HD⟩:=hrel;by_cases hlt:i<ps.length
  .obtain⟨lb,lo,rfl,hq⟩:=gI HL.o (by omega);obtain⟨z0,z1,z2⟩:=hq i hlt;have a0:=HD.o.2.cell z0 id;have a1:=HD.o.2.cell z1 id;have a2:=HD.o.2.cell z2 id;unfold aJ at a0 a1;have hs:=HV.o _ (List.getElem_mem hlt);clear z0 z1 z2 hq;obtain⟨B,hB⟩: ∃ B,jC ps[i].bq=B:=⟨_,rfl⟩;have HB:=ah hB;clear hB
   cases B
   .go_wp2_with (go_at_call 115;refine(wb ps[i] _ hs).mono ?_;rintro x w1 ⟨rfl,k1⟩;rw[HB.o];have HK:=ah (HD.o.2.tr k1);clear k1);go_roundw
    .refine⟨i+1,by omega,by push_cast;rfl,fun j h hj=>?_,HK.o⟩;by_cases e:j=i
     .subst e;exact HB.o
     .exact HD.o.1 j h (by omega)
    .simp[intOf];omega
   .go_wp2_with (go_at_call 115;refine(wb ps[i] _ hs).mono ?_;rintro x w1 ⟨rfl,k1⟩;rw[HB.o];have HK:=ah (HD.o.2.tr k1);clear k1);go_ret;refine⟨⟨i,rfl,?_⟩,HK.o⟩;rw[decide_eq_true (by omega)];exact(List.any_eq_true.2 ⟨ps[i].bq,List.mem_map.2 ⟨ps[i],List.getElem_mem _,rfl⟩,HB.o⟩).symm
  .go_wp2_with fail;go_ret;refine⟨⟨-1,rfl,?_⟩,HD.o.2⟩;rw[decide_eq_false (by omega)];symm;rw[List.any_eq_false];intro x hx;obtain⟨e,he,rfl⟩:=List.mem_map.1 hx;obtain⟨j,hj,rfl⟩:=List.getElem_of_mem he;rw[HD.o.1 j hj (by omega)];simp
theorem rk (A:Option Addr) (c:Nat) (ps:List Pu) (w:World) (h:aF w A (ps.flatMap fI)) (hn:ps.length<=1000000) (hv: ∀ p ∈ ps,p.value.2.2.length<=140737488355328):
 Calls Tryz.prog 114 #[.slice A ps.length c,.func (.func 115) #[] #[]] w fun x w'=>x = .returned (.bool ((ps.map Pu.bq).any jC))/\ao No w w':=by
 have HC:=ah (yz A c ps w h hn hv);clear h hv;go_enter Tryz.func114, Tryz.ntmps114;go_wp2_with (go_at_call 149;(with_reducible refine HC.o.mono ?_);rintro x w1 ⟨⟨r,rfl,hr⟩,k1⟩;have HR:=ah hr;have HK:=ah k1;clear hr k1);go_ret;refine⟨?_,HK.o⟩;rw[<-HR.o];rfl
theorem Cr (A:Option Addr) (c:Nat) (ps:List Pu) (w:World) (h:aF w A (ps.flatMap fI)) (hn:ps.length<=100000) (hb: ∀ p ∈ ps,p.key.2.2.length<=1000000000/\p.value.2.2.length<=1000000000):
 Calls Tryz.prog 68 #[.slice A ps.length c] w fun x w'=>x = .returned (.int .i64 (dt (ps.map Pu.bq):Nat))/\ao No w w':=by
 have HL:=ah h;have HB:=ah hb;have HCo:=ah fun (W:World) (k:ao No w W)=>rk A c ps W (h.new k) (by omega) (fun p hp=>by have:=(hb p hp).2;omega)
 have HSum:Hid (∀ i,i<=ps.length->(((ps.take i).map Pu.bq).map jt).sum<=300000000000000):=fun i hi=>by
  have h1:=zu 2000000016 ((ps.take i).map Pu.bq) (fun p hp=>by
   obtain⟨q,hq,rfl⟩:=List.mem_map.1 hp;have h2:=hb q (List.mem_of_mem_take hq);have h3:jt q.bq=q.key.2.2.length+q.value.2.2.length+16:=rfl;omega)
  rw[List.length_map,List.length_take] at h1;omega
 clear h hb;go_enter Tryz.func68, Tryz.ntmps68;go_wp2_with fail;go_loopw [3,8] (fun nv iv wr=> ∃ (i n:Nat),i<=ps.length/\iv = .int .i64 (i:Int)/\nv = .int .i64 (n:Int)/\Hid (n=(((ps.take i).map Pu.bq).map jt).sum/\(∀ j (h:j<ps.length),j<i->re ps[j].bq=false)/\ao No w wr)) (fun _ iv _=>ps.length - (intOf iv).toNat)
 case atStart=>exact⟨0,0,by omega,rfl,rfl,rfl,(fun j _ h=>by omega),ao.refl _ _⟩
 case round=>
  obtain⟨i,n,hi,rfl,rfl,HD⟩:=hrel;have hnb:=HSum.o i hi;rw[<-HD.o.1] at hnb;by_cases hlt:i<ps.length
  .obtain⟨lb,lo,rfl,hq⟩:=gI (HL.o.new HD.o.2.2) (by omega);obtain⟨y0,y1,y2⟩:=hq i hlt;have hbi:=HB.o _ (List.getElem_mem hlt);have hii:(i:Int)<ps.length:=by omega
   have HNx:Hid ((((ps.take (i+1)).map Pu.bq).map jt).sum=n+(ps[i].key.2.2.length+ps[i].value.2.2.length+16)):=by
    unfold Hid;rw[List.take_add_one,List.getElem?_eq_getElem hlt,List.map_append,List.map_append,List.sum_append, <-HD.o.1];rfl
   obtain⟨q,hqe⟩: ∃ q,q=ps[i]:=⟨_,rfl⟩;have HQ:=ah hqe;rw[<-hqe] at y0 y1 y2 hbi HNx;clear hq hqe;obtain⟨⟨kA,kc,kl⟩,⟨vA,vc,vl⟩,dd⟩:=q;replace y0:_=some (Value.slice kA kl.length kc):=y0;replace y1:_=some (Value.slice vA vl.length vc):=y1;replace y2:_=some (Value.bool dd):=y2;replace hbi:kl.length<=1000000000/\vl.length<=1000000000:=hbi;obtain⟨hbk,hbv⟩:=hbi;replace HNx:Hid ((((ps.take (i+1)).map Pu.bq).map jt).sum=n+(kl.length+vl.length+16)):=HNx;have HBk:Hid (re ps[i].bq=(decide (kl.length=0) || decide (128<kl.length))):=by rw[<-HQ.o];rfl
   have HCh:Hid (ao No w (wr.alloc (.cells #[.slice kA kl.length kc,.slice vA vl.length vc,.bool dd] 43))):=HD.o.2.2.alloc _;by_cases hk:kl.length=0\/128<kl.length
   .have HE:Hid (dt (ps.map Pu.bq)=100):=by
     unfold Hid dt;rw[if_pos];refine List.any_eq_true.2 ⟨ps[i].bq,List.mem_map.2 ⟨ps[i],List.getElem_mem _,rfl⟩,?_⟩;rw[HBk.o];simpa using hk
    rcases hk with hk | hk
    .have hk0:((kl.length:Int)==0)=true:=by rw[hk];rfl
     clear hk;go_wp2_with fail;go_ret;exact⟨by rw[HE.o];rfl,HCh.o⟩
    .have hk0:((kl.length:Int)==0)=false:=by rw[beq_eq_false_iff_ne];omega
     have hk1:(128:Int)<kl.length:=by omega
     clear hk;go_wp2_with fail;go_ret;exact⟨by rw[HE.o];rfl,HCh.o⟩
   .have hk0:((kl.length:Int)==0)=false:=by rw[beq_eq_false_iff_ne];omega
    have hk1:¬ (128:Int)<kl.length:=by omega
    have HG:Hid (re ps[i].bq=false):=by
     unfold Hid;rw[HBk.o,decide_eq_false (by omega),decide_eq_false (by omega)];rfl
    clear hk;go_wp2_with fail;go_roundw
    .refine⟨i+1,n+(kl.length+vl.length+16),by omega,by push_cast;rfl,by push_cast;rfl,HNx.o.symm,fun j h hj=>?_,HCh.o⟩;by_cases e:j=i
     .subst e;exact HG.o
     .exact HD.o.2.1 j h (by omega)
    .simp[intOf];omega
  .have hie:i=ps.length:=by omega
   subst hie;have HN:Hid (n=((ps.map Pu.bq).map jt).sum):=by have:=HD.o.1;rw[List.take_length] at this;exact this
   have HNo:Hid ((ps.map Pu.bq).any re=false):=by
    unfold Hid;rw[List.any_eq_false];intro x hx;obtain⟨e,he,rfl⟩:=List.mem_map.1 hx;obtain⟨j,hj,rfl⟩:=List.getElem_of_mem he;rw[HD.o.2.1 j hj (by omega)];simp
   have HE:Hid (dt (ps.map Pu.bq)=if (ps.map Pu.bq).any jC=true then 101 else if 262144<n then 102 else 0):=by
    unfold Hid dt;rw[HNo.o, <-HN.o];rfl
   have HK:=ah HD.o.2.2;generalize hv:(ps.map Pu.bq).any jC=V at HCo HE;clear hv HN HNo HD
   cases V
   .by_cases hl:262144<n
    .have hl2:(262144:Int)<n:=by omega
     replace HE:Hid (dt (ps.map Pu.bq)=102):=by unfold Hid;rw[HE.o,if_neg (by simp),if_pos hl]
     clear hl;go_wp2_with (go_at_call 114;(with_reducible refine(HCo.o _ HK.o).mono ?_);rintro x w1 ⟨rfl,k1⟩;have HK2:=ah (HK.o.tr k1);clear k1);go_ret;exact⟨by rw[HE.o];rfl,HK2.o⟩
    .have hl2:¬ (262144:Int)<n:=by omega
     replace HE:Hid (dt (ps.map Pu.bq)=0):=by unfold Hid;rw[HE.o,if_neg (by simp),if_neg hl]
     clear hl;go_wp2_with (go_at_call 114;(with_reducible refine(HCo.o _ HK.o).mono ?_);rintro x w1 ⟨rfl,k1⟩;have HK2:=ah (HK.o.tr k1);clear k1);go_ret;exact⟨by rw[HE.o];rfl,HK2.o⟩
   .replace HE:Hid (dt (ps.map Pu.bq)=101):=by unfold Hid;rw[HE.o,if_pos rfl]
    go_wp2_with (go_at_call 114;(with_reducible refine(HCo.o _ HK.o).mono ?_);rintro x w1 ⟨rfl,k1⟩;have HK2:=ah (HK.o.tr k1);clear k1);go_ret;exact⟨by rw[HE.o];rfl,HK2.o⟩
def mD (ns:List Nat):Nat:=ns.foldl (fun m n=>if n % 2=1 then max m n else m) 0
theorem Cq (ns:List Nat) (n:Nat):mD (ns++[n])=if n % 2=1 then max (mD ns) n else mD ns:=by
 unfold mD;rw[List.foldl_append];rfl
theorem Ac {w:World} {A:Option Addr} {ls:List (Nat × Nat × Nat)} (h:aF w A (ls.flatMap dr)) {i:Nat} (hi:i<ls.length): ∃ b o,A=some ⟨b,o,none⟩/\
 w.cell? ⟨b,o+i*3,none⟩=some (.int .i64 (ls[i].1:Int))/\w.cell? ⟨b,o+i*3+1,none⟩=some (.int .i64 (ls[i].2.1:Int))/\w.cell? ⟨b,o+i*3+2,none⟩=some (.int .i64 (ls[i].2.2:Int)):=by
 obtain⟨b,o,e,hc⟩:=aF.elem (f:=dr) (k:=3) (fun _=>rfl) (by decide) h hi;refine⟨b,o,e,by simpa [dr] using hc 0 (by decide),?_,?_⟩
 .have:=hc 1 (by decide);rw[<-Nat.add_assoc] at this;simpa [dr] using this
 .have:=hc 2 (by decide);rw[<-Nat.add_assoc] at this;simpa [dr] using this
section
variable {w0 w:World} {F:SP} {s d:Nat} {D:Dk} {S:aK} {sf:Nat->Nat} {lim:Nat}
theorem Bu (hf:Calls Tryz.prog 67 #[.pointer (some ⟨s,0,none⟩)] w fun e w'=> ∃ u,e = .returned u/\Sat w0 (Row 128 3 u S.files.length ((S.files.map kp).flatMap dr)*F) w') (hn: ∀ f ∈ S.files,f.num<=2147483647) (hl:S.files.length<=1000):
 Calls Tryz.prog 57 #[.pointer (some ⟨s,0,none⟩)] w fun e w'=>e = .returned (.int .i64 (mD (S.files.map (·.num)):Nat))/\Sat w0 F w':=by
 have HF:=ah hf;have HN:=ah hn;obtain⟨ls,hls⟩: ∃ ls,ls=S.files.map kp:=⟨_,rfl⟩;have HLs:=ah hls;have hll:ls.length=S.files.length:=by rw[hls,List.length_map]
 have HNm:Hid (S.files.map (·.num)=ls.map (·.1)):=by unfold Hid;rw[hls,List.map_map];rfl
 have HB:Hid (∀ x ∈ ls,x.1<=2147483647):=fun x hx=>by
  rw[hls] at hx;obtain⟨f,hf,rfl⟩:=List.mem_map.1 hx;exact hn f hf
 rw[<-hls, <-hll] at HF;rw[HNm.o];rw[<-hll] at hl;clear hf hn hls hll HLs HN HNm;go_enter Tryz.func57, Tryz.ntmps57;go_wp2_with (go_at_call 67;(with_reducible refine HF.o.mono ?_);rintro e w1 ⟨u,rfl,hs⟩;obtain⟨A,c,rfl,hle,hmx⟩:=hs.bm;have HS:=ah hs;clear hs hle hmx);have HRow:=ah (HS.o.gD);have HS1:=ah HS.o.right;go_loopw [3,9] (fun mv iv wr=> ∃ i m:Nat,i<=ls.length/\iv = .int .i64 (i:Int)/\mv = .int .i64 (m:Int)/\m<=2147483647/\Hid (m=mD ((ls.take i).map (·.1))/\ao No w1 wr)) (fun _ iv _=>ls.length - (intOf iv).toNat)
 case atStart=>exact⟨0,0,by omega,rfl,rfl,by omega,rfl,ao.refl _ _⟩
 case round=>
  obtain⟨i,m,hi,rfl,rfl,hm,HD⟩:=hrel;by_cases hlt:i<ls.length
  .obtain⟨lb,lo,rfl,y0,y1,y2⟩:=Ac (HRow.o.new HD.o.2) hlt;have hb:=HB.o _ (List.getElem_mem hlt);have HNx:Hid (mD ((ls.take (i+1)).map (·.1))=if ls[i].1 % 2=1 then max m ls[i].1 else m):=by
    unfold Hid;rw[List.take_add_one,List.getElem?_eq_getElem hlt,List.map_append];show mD (_++[ls[i].1])=_;rw[Cq, <-HD.o.1]
   have hii:(i:Int)<ls.length:=by omega
   generalize ls[i]=x at*
   obtain⟨n,x1,x2⟩:=x;replace y0:_=some (Value.int .i64 (n:Int)):=y0;replace y1:_=some (Value.int .i64 (x1:Int)):=y1;replace y2:_=some (Value.int .i64 (x2:Int)):=y2;replace hb:n<=2147483647:=hb;replace HNx:Hid (mD ((ls.take (i+1)).map (·.1))=if n % 2=1 then max m n else m):=HNx;have HC:=ah (HD.o.2.alloc (.cells #[.int .i64 (n:Int),.int .i64 (x1:Int),.int .i64 (x2:Int)] 128));by_cases h1:n % 2=1
   .have HNx2:Hid (mD ((ls.take (i+1)).map (·.1))=max m n):=by unfold Hid;rw[HNx.o,if_pos h1]
    have hb1:((n:Int) % 2==1)=true:=by rw[beq_iff_eq];omega
    have hb2:((n:Int).tmod 2==1)=true:=by rw[Int.tmod_eq_emod_of_nonneg (by omega)];exact hb1
    have hmx:max (m:Int) n=((max m n:Nat):Int):=by omega
    clear h1;go_wp2_with fail;go_roundw
    .exact⟨i+1,max m n,by omega,by push_cast;rfl,by first | rfl | rw[hmx] | (congr 1),by omega,HNx2.o.symm,HC.o⟩
    .simp[intOf];omega
   .have HNx2:Hid (mD ((ls.take (i+1)).map (·.1))=m):=by unfold Hid;rw[HNx.o,if_neg h1]
    have hb1:((n:Int) % 2==1)=false:=by rw[beq_eq_false_iff_ne];omega
    have hb2:((n:Int).tmod 2==1)=false:=by rw[Int.tmod_eq_emod_of_nonneg (by omega)];exact hb1
    clear h1;go_wp2_with fail;go_roundw
    .exact⟨i+1,m,by omega,by push_cast;rfl,rfl,by omega,HNx2.o.symm,HC.o⟩
    .simp[intOf];omega
  .have hie:i=ls.length:=by omega
   subst hie;have HN:Hid (m=mD (ls.map (·.1))):=by have:=HD.o.1;rw[List.take_length] at this;exact this
   go_wp2_with fail;go_ret;exact⟨by rw[<-HN.o];rfl,HS1.o.new HD.o.2⟩
end
end Go.Proofs.YtmbaiglpgaoogaaGreat
