/- Joined, as they were built one by one: TabBuild MemTab TabOpenP TabLaw AppG Mrg1 Mrg2. -/
import Derived.Lib.SlBytesConst
import Derived.Test.YtmbaiglpgaoogaaGreatW01
import Derived.Test.YtmbaiglpgaoogaaGreatW02
import Derived.Test.YtmbaiglpgaoogaaGreatW04
import Derived.Test.YtmbaiglpgaoogaaGreatW05
import Derived.Test.YtmbaiglpgaoogaaGreatW13
import Derived.Test.YtmbaiglpgaoogaaGreatW14
set_option maxHeartbeats 16000000
set_option linter.unusedVariables false
set_option maxRecDepth 100000
namespace Go.Proofs.YtmbaiglpgaoogaaGreat
open Go.RowKit Z
theorem qR (al:List UInt8) (e:aq) (hk:e.key.length<=128) (hv:e.value.length<=16384):(jI al e).length<=16525:=by
 unfold jI;simp[aw];omega
theorem BJ (L:List aq) (i:Nat) (h: ∀ e ∈ L,e.key.length<=128/\e.value.length<=16384):(jR L i).length<=16525:=by
 unfold jR;split
 .rename_i e he;have:=h e (List.mem_of_getElem? he);exact qR _ _ this.1 this.2
 .simp
theorem nF (L:List aq) (h: ∀ e ∈ L,e.key.length<=128/\e.value.length<=16384): ∀ k,(da L k).length<=8+k*16525
 | 0=>by simp[da,dI,aw]
 | k+1=>by
  have h1:=nF L h k;have h2:=BJ L k h;rw[jP,List.length_append];omega
theorem sX (L:List aq) (i:Nat) (h: ∀ e ∈ L,e.key.length<=128/\e.value.length<=16384):(lI L i).length<=133:=by
 unfold lI;split
 .rw[List.length_append,List.length_append,aw]
  cases hq:L[i]? with
  | none=>simp
  | some e=>have:=h e (List.mem_of_getElem? hq);simp;omega
 .simp
theorem pO (L:List aq) (h: ∀ e ∈ L,e.key.length<=128/\e.value.length<=16384): ∀ k,(fh L k).length<=4+k*133
 | 0=>by simp[fh,aw]
 | k+1=>by
  have h1:=pO L h k;have h2:=sX L k h;rw[lk,List.length_append];omega
theorem ny (L:List aq):(hU L).length=dF (cT L L.length).length 10:=by
 unfold hU;rw[ry,List.length_replicate]
theorem dT {a b c:List UInt8} (h:c=a++b):a.length+b.length=c.length/\a.map bv++b.map bv=c.map bv:=by
 subst h;exact⟨List.length_append.symm,List.map_append.symm⟩
theorem gR {e:aq}:fU e=true↔e.key.length<=128/\e.value.length<=16384/\(e.dead=true->e.value.length=0)/\0<=e.seq:=by
 unfold fU
 cases e.dead<;>simp
theorem um {es:List En} {i:Nat} (h:i<es.length):(es.map En.ak)[i]?=some es[i].ak:=by rw[List.getElem?_map,List.getElem?_eq_getElem h];rfl
theorem xA {es:List En} {i:Nat} (h:i<es.length) (h8:i % 8=0):jR (es.map En.ak) i=jI [] es[i].ak:=by
 unfold jR kM;rw[um h,if_pos h8]
theorem zo {es:List En} {i:Nat} (h:i+1<es.length) (h8:¬ (i+1) % 8=0):jR (es.map En.ak) (i+1)=jI es[i].key.2.2 es[i+1].ak:=by
 unfold jR kM;rw[um h,if_neg h8,Nat.add_sub_cancel,um (show i<es.length by omega)];rfl
theorem uW {es:List En} {i:Nat} (h:i<es.length) (h8:i % 8=0):lI (es.map En.ak) i=(ai (da (es.map En.ak) i).length 4++[UInt8.ofNat es[i].key.2.2.length])++es[i].key.2.2:=by
 unfold lI;rw[if_pos h8,um h,List.append_assoc];rfl
theorem zq {es:List En} {i:Nat} (h8:¬ i % 8=0):lI (es.map En.ak) i=[]:=by
 unfold lI;rw[if_neg h8]
theorem Kc (a:du) (e:En) (EB:List UInt8) (hEB:jI a.2.2 e.ak=EB) (w0 w:World) (F:SP) (h:Sat w0 F w) (ha:Rd w a.1 a.2.2) (he:oD w e) (hal:a.2.2.length<=128) (hkl:e.key.2.2.length<=128) (hkc:e.key.2.2.length<=e.key.2.1) (hkm:e.key.2.1<=maxLen) (hvl:e.value.2.2.length<=16384) (hsq:0<=e.seq/\e.seq<9223372036854775808):
 Calls Tryz.prog 179 #[.slice a.1 a.2.2.length a.2.1,.agg #[.slice e.key.1 e.key.2.2.length e.key.2.1,.slice e.value.1 e.value.2.2.length e.value.2.1,.int .i64 e.seq,.bool e.dead]] w fun x w'=> ∃ A c,x = .returned (.slice A EB.length c)/\Sat w0 (Row 5 1 (.slice A EB.length c) EB.length (EB.map bv)*F) w':=by
 subst hEB;exact(Ep a e w0 w F h ha he hal hkl hkc hkm hvl hsq).mono fun _ _ ⟨A,c,e,_,_,hs⟩=>⟨A,c,e,hs⟩
theorem Gq (w3:World) {a b:Nat} {A3:Option Addr} {c3:Nat} {l m:List UInt8} (h1:Rd w3 (some ⟨a,0,none⟩) l) (h2:Rd w3 A3 m):rm (w3.alloc (.cells #[.slice (some ⟨a,0,none⟩) l.length b,.slice A3 m.length c3] 41)) (some ⟨w3.heap.size,0,none⟩) [(some ⟨a,0,none⟩,b,l),(A3,c3,m)]:=by
 refine⟨?_,fun x hx=>?_⟩
 .have:=aR w3 #[.slice (some ⟨a,0,none⟩) l.length b,.slice A3 m.length c3] 41;simpa [aI] using this
 .simp only[List.mem_cons,List.not_mem_nil,or_false] at hx;rcases hx with rfl | rfl
  .exact h1.alloc _
  .exact h2.alloc _
theorem qh (n:Nat) (hn:n<9223372036854775808) (w0 w:World) (F:SP) (h:Sat w0 F w):Calls Tryz.prog 178 #[.int .i64 (n:Int)] w fun e w'=> ∃ A c,e = .returned (.slice A (ai n 4).length c)/\Sat w0 (Row 5 1 (.slice A (ai n 4).length c) (ai n 4).length ((ai n 4).map bv)*F) w':=
 (FU n hn w0 w F h).mono fun _ _ ⟨A,c,e,_,_,hs⟩=>⟨A,c,e,hs⟩
theorem Jc {w0 w:World} {g:Nat} {F:SP} (n:Nat) (hn:n<=128) (h:Sat w0 (Pt g 5 #[.int .u8 (n:Int)]*F) w):Rd w (some ⟨g,0,none⟩) [UInt8.ofNat n]:=aF.je h.at fun j hj=>by
 have hn:((UInt8.ofNat n).toNat:Int)=n:=by rw[UInt8.toNat_ofNat',Nat.mod_eq_of_lt (by omega)]
 have e:([UInt8.ofNat n].map bv)=[.int .u8 (n:Int)]:=by
  unfold bv;rw[List.map_cons,List.map_nil,hn]
 simp only[e];rw[<-List.getElem?_eq_getElem (by rw[e] at hj;exact hj)];simp
theorem Du {B:List UInt8} {w w':World} {e:Ending} (h:Told B w e w'): ∃ A c,e = .returned (.slice A B.length c)/\w'.ownsRow w.heap.size 5 1 (.slice A B.length c) B.length (B.map bv)/\ao No w w':=by
 obtain⟨x,cap,cur,rfl,h1,h2,h3,h4,h5,h6,h7⟩:=h;refine⟨_,_,rfl,⟨by simp,.inr ⟨x,cap,cur,rfl,h1,h2,h4,h5,by rw[h3,Nat.mul_one],?_⟩⟩,h7⟩;have hc:cur.toList.length=cap:=by simp[h3]
 apply List.ext_getElem
 .rw[List.length_take,hc,List.length_map];omega
 .intro j hj hj2;rw[List.length_map] at hj2;obtain⟨_,e⟩:=Array.getElem?_eq_some_iff.1 (h6 j hj2);rw[List.getElem_take,List.getElem_map, <-e,Array.getElem_toList]
theorem Ef (es:List En) (hn:es.length<=65536):(hU (es.map En.ak)).length<=262144:=by
 rw[ny];have:=gQ (es.map En.ak) (es.map En.ak).length;have e:(es.map En.ak).length<=65536:=by simpa using hn
 exact(iJ _ 10 ⟨by omega,by omega,by omega,by omega⟩).2.2
theorem Gb {L:List aq} {n:Nat} {b x c d1 d2 d3 d4:List UInt8} (hn:L.length=n) (hb:da L n=b) (hx:fh L n=x) (hc:c=b++x) (h1:d1=c++ai (hU L).length 4) (h2:d2=d1++hU L) (h3:d3=d2++ai b.length 4) (h4:d4=d3++ai c.length 4):aM L=d4++ai (tN d4) 4:=by
 subst hn hb hx hc h1 h2 h3 h4;rfl
def xp (L:List aq) (w:World) (x:Ending) (w':World):Prop:=
 (bR L≠0/\x = .returned (.tuple #[.slice none 0 0,.int .i64 (bR L:Nat)])/\ao No w w')\/
 (bR L=0/\ ∃ A c,x = .returned (.tuple #[.slice A (aM L).length c,.int .i64 0])/\(aM L).length<=c/\c<=maxLen/\Sat w (Row 5 1 (.slice A (aM L).length c) (aM L).length ((aM L).map bv)*bF) w')
structure J9 (w:World) (L:List aq) (i:Nat) (vb vx:Value) (wr:World):Prop where
 sat:Sat w (Row 5 1 vb (da L i).length ((da L i).map bv)*(Row 5 1 vx (fh L i).length ((fh L i).map bv)*bF)) wr
theorem Bz (L:List aq):da L 0=dI++ai L.length 4:=by simp[da]
theorem EM (L:List aq):fh L 0=ai ((L.length+7) / 8) 4:=by simp[fh]
theorem sw (A:Option Addr) (c:Nat) (es:List En) (w:World) (h:aF w A (es.flatMap bV)) (hr:jG w es) (hc:es.length<=c) (hm:c<=maxLen) (hsh: ∀ e ∈ es,e.key.2.2.length<=140737488355328/\e.value.2.2.length<=140737488355328/\e.key.2.2.length<=e.key.2.1/\e.key.2.1<=maxLen) (hi64: ∀ e ∈ es,e.seq<9223372036854775808):
 Calls Tryz.prog 142 #[.slice A es.length c] w (xp (es.map En.ak) w):=by
 obtain⟨j0,hj,hy0,hy1,hy2⟩:=info_parts iw;have Hj:=ah hj;have Hy0:=ah hy0;have Hy1:=ah hy1;have Hy2:=ah hy2;have HL:=ah h;have HR:=ah hr;have HM:=ah hm;have HI64:=ah hi64;have HSh:=ah hsh;have HSh2:Hid (∀ e ∈ es,e.key.2.2.length<=140737488355328/\e.value.2.2.length<=140737488355328):=fun e he=>⟨(hsh e he).1,(hsh e he).2.1⟩
 obtain⟨L,hLe⟩: ∃ L,L=es.map En.ak:=⟨_,rfl⟩;have HLe:=ah hLe;have hlen:L.length=es.length:=by rw[hLe,List.length_map]
 rw[<-hLe];unfold maxLen at hm;clear h hr hsh hi64 hj hy0 hy1 hy2 hLe;obtain⟨Q,hQ⟩: ∃ Q,bR L=Q:=⟨_,rfl⟩;have HQ:Hid (xp L w=fun x w'=>(Q≠0/\x = .returned (.tuple #[.slice none 0 0,.int .i64 (Q:Nat)])/\ao No w w')\/(Q=0/\ ∃ A c,x = .returned (.tuple #[.slice A (aM L).length c,.int .i64 0])/\(aM L).length<=c/\c<=maxLen/\Sat w (Row 5 1 (.slice A (aM L).length c) (aM L).length ((aM L).map bv)*bF) w')):=by
  unfold Hid xp;rw[hQ]
 rw[HQ.o];have HBE:=ah hQ;have HLen:=ah hlen;clear hQ hlen;obtain⟨S,hS⟩: ∃ S,dH L=S:=⟨_,rfl⟩;have HSo:Hid (dH (es.map En.ak)=S):=by rw[<-HLe.o];exact hS
 have HSo2:=ah hS;clear hS
 cases S
 .have hq:Q=70:=by rw[<-HBE.o];unfold bR;rw[if_pos HSo2.o]
  subst hq;go_enter Tryz.func142, Tryz.ntmps142;go_wp2_with (go_at_call 151;refine(gE A c es w HL.o HR.o hc HM.o).mono ?_;rintro x w1 ⟨rfl,k1⟩;rw[HSo.o];have HK:=ah k1;clear k1);go_ret2;exact .inl ⟨by decide,rfl,HK.o⟩
 .by_cases hbig:65536<es.length
  .have hq:Q=71:=by rw[<-HBE.o];unfold bR;rw[if_neg (by rw[HSo2.o];simp),if_pos (.inl (by rw[HLen.o];exact hbig))]
   subst hq;have hbi:(65536:Int)<es.length:=by omega
   go_enter Tryz.func142, Tryz.ntmps142;go_wp2_with (go_at_call 151;refine(gE A c es w HL.o HR.o hc HM.o).mono ?_;rintro x w1 ⟨rfl,k1⟩;rw[HSo.o];have HK:=ah k1;clear k1);go_ret2;exact .inl ⟨by decide,rfl,HK.o⟩
  .have hbi:¬ (65536:Int)<es.length:=by omega
   obtain⟨Y,hY⟩: ∃ Y,(es.map En.ak).any (fun e=> !fU e)=Y:=⟨_,rfl⟩;have HY:=ah hY;clear hY
   cases Y
   case true=>
    have hq:Q=71:=by rw[<-HBE.o];unfold bR;rw[if_neg (by rw[HSo2.o];simp),if_pos (.inr (by rw[HLe.o];exact HY.o))]
    subst hq;go_enter Tryz.func142, Tryz.ntmps142;go_wp2_with (first
     | (go_at_call 151;refine(gE A c es w HL.o HR.o hc HM.o).mono ?_;rintro x w1 ⟨rfl,k1⟩;rw[HSo.o];have HK:=ah k1;clear k1)
     | (go_at_call 175;refine(lK A c es w1 (HL.o.new HK.o) hc HM.o HSh2.o).mono ?_;rintro x w2 ⟨rfl,k2⟩;rw[HY.o];have HK2:=ah (HK.o.tr k2);clear k2))
    go_ret2;exact .inl ⟨by decide,rfl,HK2.o⟩
   case false=>
    have hq:Q=0:=by rw[<-HBE.o];unfold bR;rw[if_neg (by rw[HSo2.o];simp),if_neg (by rw[HLe.o,HY.o];rw[HLe.o] at HLen;have:=HLen.o;intro h;rcases h with h | h;omega;cases h)]
    have HMay:Hid (∀ e ∈ es,e.key.2.2.length<=128/\e.value.2.2.length<=16384/\0<=e.seq):=fun e he=>by
     have h1:=HY.o;rw[List.any_eq_false] at h1;have h2:=h1 e.ak (List.mem_map.2 ⟨e,he,rfl⟩);have h3:=gR.1 (by simpa using h2);exact⟨h3.1,h3.2.1,h3.2.2.2⟩
    have HMx:Hid (∀ e ∈ L,e.key.length<=128/\e.value.length<=16384):=fun e he=>by
     rw[HLe.o] at he;obtain⟨x,hx,rfl⟩:=List.mem_map.1 he;have:=HMay.o x hx;exact⟨this.1,this.2.1⟩
    subst hq;have hcv:=fun (W:World) (C:Array Value) (n c:Nat)=>Lib.run_convert_bytes_const (P:= Tryz.prog) W 41 5 C n c Tryz.underlying41 Tryz.underlying5
    have hLn:=HLen.o;have hq8:((es.length:Int)+8 - 1).tdiv 8=(((es.length+7) / 8:Nat):Int):=by
     rw[Int.tdiv_eq_ediv_of_nonneg (by omega)];omega
    have HZ0:Hid (da L 0=dI++ai es.length 4):=by rw[<-HLen.o];exact Bz L
    have HZ1:Hid (fh L 0=ai ((es.length+7) / 8) 4):=by rw[<-HLen.o];exact EM L
    clear hLn;go_enter Tryz.func142, Tryz.ntmps142;go_upto_region 5 with (first
     | (go_at_call 151;refine(gE A c es w HL.o HR.o hc HM.o).mono ?_;rintro x w1 ⟨rfl,k1⟩;rw[HSo.o];have HK:=ah k1;clear k1)
     | (go_at_call 175;refine(lK A c es w1 (HL.o.new HK.o) hc HM.o HSh2.o).mono ?_;rintro x w2 ⟨rfl,k2⟩;rw[HY.o];have HK2:=ah (HK.o.tr k2);clear k2))
    have HMk:Hid (Rd (w2.alloc (.cells #[.int .u8 84,.int .u8 68,.int .u8 84,.int .u8 49] 5 (4,5))) (some ⟨w2.heap.size,0,none⟩) dI):=aF.lit w2 #[.int .u8 84,.int .u8 68,.int .u8 84,.int .u8 49] 5 (4,5);have HKM:Hid (ao No w (w2.alloc (.cells #[.int .u8 84,.int .u8 68,.int .u8 84,.int .u8 49] 5 (4,5)))):=HK2.o.alloc _;go_upto_region 6 with (first
     | (go_at_call 178;refine(qh es.length (by omega) _ _ bF (Sat.start _)).mono ?_;rintro x w3 ⟨A3,c3,rfl,hs3⟩;have HS3:=ah hs3;clear hs3)
     | (go_at_call 61;refine(eG (some ⟨w3.heap.size,0,none⟩) 2 [(some ⟨w2.heap.size,0,none⟩,4,dI),(A3,c3,ai es.length 4)] _ (Gq w3 (HMk.o.new HS3.o.aL) (aF.bG HS3.o.aO)) (by simp[bK,dI,aw]) (show 2<=140737488355328 by omega)).mono ?_;rintro x w4 ⟨vv,rfl,ho,k4⟩;rw[show (bK [(some ⟨w2.heap.size,0,none⟩,4,dI),(A3,c3,ai es.length 4)]).flatten=da L 0 by rw[HZ0.o];simp[bK]] at ho;obtain⟨A4,c4,rfl, -⟩:=kt ho;have K4:=(HKM.o.tr HS3.o.aL).tr (((ao.refl No w3).alloc _).tr k4);have HS4:=ah ((Sat.start w).dP K4 (iY ho (by rw[World.size_alloc];have:=(HKM.o.tr HS3.o.aL).size;omega)));clear ho k4 K4))
    go_upto_region 7 with (go_at_call 178;refine(qh ((es.length+7) / 8) (by omega) w _ _ HS4.o).mono ?_;rintro x w5 ⟨A5,c5,rfl,hs5⟩;rw[<-HZ1.o] at hs5 ⊢;have HS5:=ah hs5.ay;clear hs5)
    go_wp2_with fail;go_loopw [4,5,37] (fun vb vx iv wr=> ∃ i:Nat,i<=es.length/\iv = .int .i64 i/\Hid (J9 w L i vb vx wr)) (fun _ _ iv _=>es.length - (intOf iv).toNat)
    case atStart=>exact⟨0,by omega,rfl,⟨HS5.o⟩⟩
    case round=>
     obtain⟨i,hi,rfl,HD⟩:=hrel;obtain⟨AB,cb,rfl,hb1,hb2⟩:=HD.o.sat.bm;obtain⟨AX,cx,rfl,hx1,hx2⟩:=HD.o.sat.ay.bm;have hBl:=nF L HMx.o i;have hXl:=pO L HMx.o i;by_cases hlt:i<es.length
     .obtain⟨lb,lo,rfl,hq⟩:=dU HL.o (by omega);obtain⟨z0,z1,z2,z3⟩:=hq i hlt;have a0:=HD.o.sat.aL.cell z0 id;have a1:=HD.o.sat.aL.cell z1 id;have a2:=HD.o.sat.aL.cell z2 id;have a3:=HD.o.sat.aL.cell z3 id;unfold aJ at a0 a1;have HE:=ah (HR.o _ (List.getElem_mem hlt));have HMi:=ah (HMay.o _ (List.getElem_mem hlt));have HSi:=ah (HSh.o _ (List.getElem_mem hlt));have HSq:Hid (0<=es[i].seq/\es[i].seq<9223372036854775808):=⟨HMi.o.2.2,HI64.o _ (List.getElem_mem hlt)⟩;have HSE:=ah (HD.o.sat.ab 120 #[.slice es[i].key.1 es[i].key.2.2.length es[i].key.2.1,.slice es[i].value.1 es[i].value.2.2.length es[i].value.2.1,.int .i64 es[i].seq,.bool es[i].dead]);have e0:=HSE.o.cell 0;have e1:=HSE.o.cell 1;have e2:=HSE.o.cell 2;have e3:=HSE.o.cell 3;by_cases h8:i % 8=0
      .have hm1:(i:Int) % 8=0:=by omega
       have hm2:(i:Int).tmod 8=0:=by rw[Int.tmod_eq_emod_of_nonneg (by omega)];exact hm1
       have HBn:Hid (da L (i+1)=da L i++jI [] es[i].ak):=by unfold Hid;rw[jP,HLe.o,xA hlt h8]
       have HXn:Hid (fh L (i+1)=((fh L i++ai (da L i).length 4)++[UInt8.ofNat es[i].key.2.2.length])++es[i].key.2.2):=by unfold Hid;rw[lk,HLe.o,uW hlt h8];simp only[List.append_assoc]
       clear z0 z1 z2 z3 hq h8;generalize da L i=B at*
       generalize fh L i=X at*
       have hw8:IntKind.u8.wrap (es[i].key.2.2.length:Int)=es[i].key.2.2.length:=by have:=HMi.o.1;rw[IntKind.wrap_u8];omega
       obtain⟨P4,hP4⟩: ∃ P4,ai B.length 4=P4:=⟨_,rfl⟩;have hP4l:P4.length=4:=by rw[<-hP4,aw]
       obtain⟨X1,hX1⟩: ∃ X1,X1=X++P4:=⟨_,rfl⟩;obtain⟨X2,hX2⟩: ∃ X2,X2=X1++[UInt8.ofNat es[i].key.2.2.length]:=⟨_,rfl⟩;have HXm:Hid (fh L (i+1)=X2++es[i].key.2.2):=by unfold Hid;rw[hX2,hX1, <-hP4];exact HXn.o
       obtain⟨EB,hEB⟩: ∃ EB,jI [] es[i].ak=EB:=⟨_,rfl⟩;have HBm:Hid (da L (i+1)=B++EB):=by unfold Hid;rw[<-hEB];exact HBn.o
       have hEl:EB.length<=16525:=by rw[<-hEB];exact qR _ _ HMi.o.1 HMi.o.2.1
       have HP4:=ah hP4;have HX1:=ah hX1;have HX2:=ah hX2;have HEB:=ah hEB;have hX1l:X1.length=X.length+4:=by rw[hX1,List.length_append,hP4l]
       have hX2l:X2.length=X.length+5:=by rw[hX2,List.length_append,hX1l];rfl
       have HX1l:=ah hX1l;have HX2l:=ah hX2l;have HP4l:=ah hP4l;clear hP4 hX1 hX2 hEB HXn HBn hX1l hX2l hP4l;go_upto_region 13 with fail;have HSV:=HSE;revert HSV;generalize World.alloc wr _=wq;generalize wr.heap.size=E;intro HSV;have HSW:Hid (Sat w (Pt E 120 #[.slice es[i].key.1 es[i].key.2.2.length es[i].key.2.1,.slice es[i].value.1 es[i].value.2.2.length es[i].value.2.1,.int .i64 es[i].seq,.bool es[i].dead]*(Row 5 1 (.slice AB B.length cb) B.length (B.map bv)*(Row 5 1 (.slice AX X.length cx) X.length (X.map bv)*bF))) wq):=HSV;clear HSV HSE a0 a1 a2 a3 e0 e1 e2 e3;have HSd:=ah HSW.o.drew;refine wp_region_held_drew (S:=fun w'=>w'.cell? ⟨E,0,none⟩=some (.slice es[i].key.1 es[i].key.2.2.length es[i].key.2.1)) (by kernel_rfl) (HSd.o.cell 0) ?_;intro hS0;revert hS0 HSd;generalize wq.drew=wd;intro HS hS0;replace HS:Hid (Sat w (Pt E 120 #[.slice es[i].key.1 es[i].key.2.2.length es[i].key.2.1,.slice es[i].value.1 es[i].value.2.2.length es[i].value.2.1,.int .i64 es[i].seq,.bool es[i].dead]*(Row 5 1 (.slice AB B.length cb) B.length (B.map bv)*(Row 5 1 (.slice AX X.length cx) X.length (X.map bv)*bF))) wd):=HS.o;refine an 0 1 2 5 ?_;refine cw 6 7 ?_;refine ca 8 ?_;refine bM (i:=3) (j:=9) rfl rfl (by kernel_rfl) (fun K hK=>?_) (fun K hK=>?_);go_simp;go_at_call 178
       refine(qh B.length (by omega) w _ _ HS.o).mono ?_;rintro x v3 ⟨A3',c3',rfl,hs⟩;rw[HP4.o] at hs ⊢;replace HS:Hid (Sat w (Pt E 120 #[.slice es[i].key.1 es[i].key.2.2.length es[i].key.2.1,.slice es[i].value.1 es[i].value.2.2.length es[i].value.2.1,.int .i64 es[i].seq,.bool es[i].dead]*(Row 5 1 (.slice AB B.length cb) B.length (B.map bv)*(Row 5 1 (.slice AX X.length cx) X.length (X.map bv)*(Row 5 1 (.slice A3' P4.length c3') P4.length (P4.map bv)*bF)))) v3):=hs.of (by ac_rfl);clear hs;refine hK.out _ _ (HS.o.cell 0) (fun hS0=>?_);clear hK K;refine bM (i:=4) (j:=9) rfl rfl (by kernel_rfl) (fun K hK=>?_) (fun K hK=>?_);have hA:Sat w (Row 5 1 (.slice AX X.length cx) X.length (X.map bv)*(Pt E 120 #[.slice es[i].key.1 es[i].key.2.2.length es[i].key.2.1,.slice es[i].value.1 es[i].value.2.2.length es[i].value.2.1,.int .i64 es[i].seq,.bool es[i].dead]*(Row 5 1 (.slice AB B.length cb) B.length (B.map bv)*(Row 5 1 (.slice A3' P4.length c3') P4.length (P4.map bv)*bF)))) v3:=HS.o.of (by ac_rfl);have hR:Rd v3 A3' P4:=aF.bG HS.o.bL.aO;have hA1:=HP4l.o;have hm:(P4.map bv).length=P4.length*1:=by simp
       refine aQ rfl (.tmp 51) (.tmp 54) 41 rfl 5 j0 _ 1 1 Tryz.underlying41 Hj.o Hy0.o Hy1.o Hy2.o rfl (by decide) (.slice AX X.length cx) X.length (X.map bv) rfl w _ (by exact hA) A3' P4.length c3' (P4.map bv) rfl (by exact hR) hm (dR P4) (by unfold maxLen;omega) (by omega) ?_;intro A4 c4 v4 hs;have he:=dT HX1.o;have he1:X.length+P4.length=_:=he.1;rw[he1,he.2] at hs;rw[he1];replace HS:Hid (Sat w (Pt E 120 #[.slice es[i].key.1 es[i].key.2.2.length es[i].key.2.1,.slice es[i].value.1 es[i].value.2.2.length es[i].value.2.1,.int .i64 es[i].seq,.bool es[i].dead]*(Row 5 1 (.slice AB B.length cb) B.length (B.map bv)*(Row 5 1 (.slice A4 X1.length c4) X1.length (X1.map bv)*(Row 5 1 (.slice A3' P4.length c3') P4.length (P4.map bv)*bF)))) v4):=hs.of (by ac_rfl);clear hs hA hR hm he he1 hA1;refine hK.out _ _ (HS.o.cell 0) (fun hS0=>?_);clear hK K
       try simp only[Act.put,et,eh,ep]
       refine bC 9 fun K hK=>?_
       go_simp;have hs:=HS.o.ab 5 #[.int .u8 (es[i].key.2.2.length:Int)];revert hs;generalize World.alloc v4 _=vz;generalize v4.heap.size=g9;intro hs;replace HS:Hid (Sat w (Pt E 120 #[.slice es[i].key.1 es[i].key.2.2.length es[i].key.2.1,.slice es[i].value.1 es[i].value.2.2.length es[i].value.2.1,.int .i64 es[i].seq,.bool es[i].dead]*(Row 5 1 (.slice AB B.length cb) B.length (B.map bv)*(Row 5 1 (.slice A4 X1.length c4) X1.length (X1.map bv)*(Row 5 1 (.slice A3' P4.length c3') P4.length (P4.map bv)*(Pt g9 5 #[.int .u8 (es[i].key.2.2.length:Int)]*bF))))) vz):=hs.of (by ac_rfl);clear hs;refine hK.out _ _ (HS.o.cell 0) (fun hS0=>?_);clear hK K
       rotate_left
       go_simp;have hs:=HS.o.ab 5 #[.int .u8 (es[i].key.2.2.length:Int)];revert hs;generalize World.alloc v3 _=v9;generalize v3.heap.size=g9;intro hs;replace HS:Hid (Sat w (Pt E 120 #[.slice es[i].key.1 es[i].key.2.2.length es[i].key.2.1,.slice es[i].value.1 es[i].value.2.2.length es[i].value.2.1,.int .i64 es[i].seq,.bool es[i].dead]*(Row 5 1 (.slice AB B.length cb) B.length (B.map bv)*(Row 5 1 (.slice AX X.length cx) X.length (X.map bv)*(Row 5 1 (.slice A3' P4.length c3') P4.length (P4.map bv)*(Pt g9 5 #[.int .u8 (es[i].key.2.2.length:Int)]*bF))))) v9):=hs.of (by ac_rfl);clear hs;refine hK.out _ _ (HS.o.cell 0) (fun hS0=>?_);clear hK K;refine bC 4 fun K hK=>?_
       have hA:Sat w (Row 5 1 (.slice AX X.length cx) X.length (X.map bv)*(Pt E 120 #[.slice es[i].key.1 es[i].key.2.2.length es[i].key.2.1,.slice es[i].value.1 es[i].value.2.2.length es[i].value.2.1,.int .i64 es[i].seq,.bool es[i].dead]*(Row 5 1 (.slice AB B.length cb) B.length (B.map bv)*(Row 5 1 (.slice A3' P4.length c3') P4.length (P4.map bv)*(Pt g9 5 #[.int .u8 (es[i].key.2.2.length:Int)]*bF))))) v9:=HS.o.of (by ac_rfl);have hR:Rd v9 A3' P4:=aF.bG HS.o.bL.aO;have hA1:=HP4l.o;have hm:(P4.map bv).length=P4.length*1:=by simp
       refine aQ rfl (.tmp 51) (.tmp 54) 41 rfl 5 j0 _ 1 1 Tryz.underlying41 Hj.o Hy0.o Hy1.o Hy2.o rfl (by decide) (.slice AX X.length cx) X.length (X.map bv) rfl w _ (by exact hA) A3' P4.length c3' (P4.map bv) rfl (by exact hR) hm (dR P4) (by unfold maxLen;omega) (by omega) ?_;intro A4 c4 vz hs;have he:=dT HX1.o;have he1:X.length+P4.length=_:=he.1;rw[he1,he.2] at hs;rw[he1];replace HS:Hid (Sat w (Pt E 120 #[.slice es[i].key.1 es[i].key.2.2.length es[i].key.2.1,.slice es[i].value.1 es[i].value.2.2.length es[i].value.2.1,.int .i64 es[i].seq,.bool es[i].dead]*(Row 5 1 (.slice AB B.length cb) B.length (B.map bv)*(Row 5 1 (.slice A4 X1.length c4) X1.length (X1.map bv)*(Row 5 1 (.slice A3' P4.length c3') P4.length (P4.map bv)*(Pt g9 5 #[.int .u8 (es[i].key.2.2.length:Int)]*bF))))) vz):=hs.of (by ac_rfl);clear hs hA hR hm he he1 hA1;refine hK.out _ _ (HS.o.cell 0) (fun hS0=>?_);clear hK K
       try simp only[Act.put,et,eh,ep]
       rotate_left
       go_simp;have hs:=HS.o.ab 5 #[.int .u8 (es[i].key.2.2.length:Int)];revert hs;generalize World.alloc wd _=v9;generalize wd.heap.size=g9;intro hs;replace HS:Hid (Sat w (Pt E 120 #[.slice es[i].key.1 es[i].key.2.2.length es[i].key.2.1,.slice es[i].value.1 es[i].value.2.2.length es[i].value.2.1,.int .i64 es[i].seq,.bool es[i].dead]*(Row 5 1 (.slice AB B.length cb) B.length (B.map bv)*(Row 5 1 (.slice AX X.length cx) X.length (X.map bv)*(Pt g9 5 #[.int .u8 (es[i].key.2.2.length:Int)]*bF)))) v9):=hs.of (by ac_rfl);clear hs;refine hK.out _ _ (HS.o.cell 0) (fun hS0=>?_);clear hK K;refine bC 3 fun K hK=>?_
       go_simp;go_at_call 178
       refine(qh B.length (by omega) w _ _ HS.o).mono ?_;rintro x v3 ⟨A3',c3',rfl,hs⟩;rw[HP4.o] at hs ⊢;replace HS:Hid (Sat w (Pt E 120 #[.slice es[i].key.1 es[i].key.2.2.length es[i].key.2.1,.slice es[i].value.1 es[i].value.2.2.length es[i].value.2.1,.int .i64 es[i].seq,.bool es[i].dead]*(Row 5 1 (.slice AB B.length cb) B.length (B.map bv)*(Row 5 1 (.slice AX X.length cx) X.length (X.map bv)*(Row 5 1 (.slice A3' P4.length c3') P4.length (P4.map bv)*(Pt g9 5 #[.int .u8 (es[i].key.2.2.length:Int)]*bF))))) v3):=hs.of (by ac_rfl);clear hs;refine hK.out _ _ (HS.o.cell 0) (fun hS0=>?_);clear hK K;refine bC 4 fun K hK=>?_
       have hA:Sat w (Row 5 1 (.slice AX X.length cx) X.length (X.map bv)*(Pt E 120 #[.slice es[i].key.1 es[i].key.2.2.length es[i].key.2.1,.slice es[i].value.1 es[i].value.2.2.length es[i].value.2.1,.int .i64 es[i].seq,.bool es[i].dead]*(Row 5 1 (.slice AB B.length cb) B.length (B.map bv)*(Row 5 1 (.slice A3' P4.length c3') P4.length (P4.map bv)*(Pt g9 5 #[.int .u8 (es[i].key.2.2.length:Int)]*bF))))) v3:=HS.o.of (by ac_rfl);have hR:Rd v3 A3' P4:=aF.bG HS.o.bL.aO;have hA1:=HP4l.o;have hm:(P4.map bv).length=P4.length*1:=by simp
       refine aQ rfl (.tmp 51) (.tmp 54) 41 rfl 5 j0 _ 1 1 Tryz.underlying41 Hj.o Hy0.o Hy1.o Hy2.o rfl (by decide) (.slice AX X.length cx) X.length (X.map bv) rfl w _ (by exact hA) A3' P4.length c3' (P4.map bv) rfl (by exact hR) hm (dR P4) (by unfold maxLen;omega) (by omega) ?_;intro A4 c4 vz hs;have he:=dT HX1.o;have he1:X.length+P4.length=_:=he.1;rw[he1,he.2] at hs;rw[he1];replace HS:Hid (Sat w (Pt E 120 #[.slice es[i].key.1 es[i].key.2.2.length es[i].key.2.1,.slice es[i].value.1 es[i].value.2.2.length es[i].value.2.1,.int .i64 es[i].seq,.bool es[i].dead]*(Row 5 1 (.slice AB B.length cb) B.length (B.map bv)*(Row 5 1 (.slice A4 X1.length c4) X1.length (X1.map bv)*(Row 5 1 (.slice A3' P4.length c3') P4.length (P4.map bv)*(Pt g9 5 #[.int .u8 (es[i].key.2.2.length:Int)]*bF))))) vz):=hs.of (by ac_rfl);clear hs hA hR hm he he1 hA1;refine hK.out _ _ (HS.o.cell 0) (fun hS0=>?_);clear hK K
       try simp only[Act.put,et,eh,ep]
       rotate_left
       all_goals
        refine bC 10 fun K hK=>?_
        have hA:Sat w (Row 5 1 (.slice A4 X1.length c4) X1.length (X1.map bv)*(Pt E 120 #[.slice es[i].key.1 es[i].key.2.2.length es[i].key.2.1,.slice es[i].value.1 es[i].value.2.2.length es[i].value.2.1,.int .i64 es[i].seq,.bool es[i].dead]*(Row 5 1 (.slice AB B.length cb) B.length (B.map bv)*(Row 5 1 (.slice A3' P4.length c3') P4.length (P4.map bv)*(Pt g9 5 #[.int .u8 (es[i].key.2.2.length:Int)]*bF))))) vz:=HS.o.of (by ac_rfl);have hR:Rd vz (some ⟨g9,0,none⟩) [UInt8.ofNat es[i].key.2.2.length]:=Jc _ HMi.o.1 HS.o.fN;have hA1:=HX1l.o;have hm:([UInt8.ofNat es[i].key.2.2.length].map bv).length=1*1:=by simp
        refine aQ rfl (.tmp 55) (.tmp 60) 41 rfl 5 j0 _ 1 1 Tryz.underlying41 Hj.o Hy0.o Hy1.o Hy2.o rfl (by decide) (.slice A4 X1.length c4) X1.length (X1.map bv) rfl w _ (by exact hA) (some ⟨g9,0,none⟩) 1 1 ([UInt8.ofNat es[i].key.2.2.length].map bv) rfl (by exact hR) hm (dR [UInt8.ofNat es[i].key.2.2.length]) (by unfold maxLen;omega) (by omega) ?_;intro A10 c10 v10 hs;have he:=dT HX2.o;have he1:X1.length+1=_:=he.1;rw[he1,he.2] at hs;rw[he1];replace HS:Hid (Sat w (Pt E 120 #[.slice es[i].key.1 es[i].key.2.2.length es[i].key.2.1,.slice es[i].value.1 es[i].value.2.2.length es[i].value.2.1,.int .i64 es[i].seq,.bool es[i].dead]*(Row 5 1 (.slice AB B.length cb) B.length (B.map bv)*(Row 5 1 (.slice A10 X2.length c10) X2.length (X2.map bv)*(Row 5 1 (.slice A3' P4.length c3') P4.length (P4.map bv)*(Pt g9 5 #[.int .u8 (es[i].key.2.2.length:Int)]*bF))))) v10):=hs.of (by ac_rfl);clear hs hA hR hm he he1 hA1;refine hK.out _ _ (HS.o.cell 0) (fun hS0=>?_);clear hK K
        try simp only[Act.put,et,eh,ep]
        refine ca 11 ?_;refine wpAnyH_done (by kernel_rfl) ?_ _;have hl2:=HX2l.o;have hkl:=HMi.o.1;go_wp2_with (first
         | (at_builtin;have he:=dT HXm.o;refine av rfl (.tmp 62) (.tmp 64) 41 rfl 5 j0 _ 1 1 Tryz.underlying41 Hj.o Hy0.o Hy1.o Hy2.o rfl (by decide) (.slice A10 X2.length c10) X2.length (X2.map bv) rfl w _ (by exact HS.o.bp) es[i].key.1 es[i].key.2.2.length es[i].key.2.1 (es[i].key.2.2.map bv) rfl (by exact HE.o.1.new HS.o.aL) (by simp) (dR es[i].key.2.2) (by unfold maxLen;omega) (by omega) ?_;intro A6 c6 w6 hs6;rw[he.1,he.2] at hs6;rw[he.1];have q0:=hs6.ay.cell 0;have q1:=hs6.ay.cell 1;have q2:=hs6.ay.cell 2;have q3:=hs6.ay.cell 3;have HS6:=ah hs6;clear hs6 he)
         | (go_at_call 179;refine(Kc (none,0,[]) es[i] EB HEB.o w _ _ HS6.o (fun hx=>absurd rfl hx) ⟨HE.o.1.new HS6.o.aL,HE.o.2.new HS6.o.aL⟩ (by simp) HMi.o.1 HSi.o.2.2.1 HSi.o.2.2.2 HMi.o.2.1 HSq.o).mono ?_;rintro x w7 ⟨A7,c7,rfl,hs7⟩;have HS7:=ah hs7;clear hs7)
         | (at_builtin;have he:=dT HBm.o;refine av rfl (.tmp 66) (.tmp 69) 41 rfl 5 j0 _ 1 1 Tryz.underlying41 Hj.o Hy0.o Hy1.o Hy2.o rfl (by decide) (.slice AB B.length cb) B.length (B.map bv) rfl w _ (by exact HS7.o.bL) A7 EB.length c7 (EB.map bv) rfl (by exact aF.bG HS7.o.aO) (by simp) (dR EB) (by unfold maxLen;omega) (by omega) ?_;intro A8 c8 w8 hs8;rw[he.1,he.2] at hs8;rw[he.1];have HS8:=ah hs8;clear hs8 he))
        go_roundw
        .refine⟨i+1,by omega,by push_cast;rfl,⟨?_⟩⟩;have h9:=HS8.o.bo;exact h9.bp.right.bp.right.bp.right
        .simp[intOf];omega
      .obtain⟨p,hp⟩: ∃ p,i=p+1:=⟨i - 1,by cases i with | zero=>simp at h8 | succ n=>omega⟩;have hpl:p<es.length:=by omega
       obtain⟨m,hm1,hm2⟩: ∃ m:Nat,(i:Int).tmod 8=(m:Int)/\0<m:=⟨i % 8,by rw[Int.tmod_eq_emod_of_nonneg (by omega)];omega,by omega⟩;have hmi:(0:Int)<(m:Int):=by omega
       have hii:(i:Int) - 1=(p:Int):=by omega
       have hwi:IntKind.i64.wrap (p:Int)=(p:Int):=by rw[IntKind.wrap_i64];omega
       have hpi:(p:Int)<es.length:=by omega
       obtain⟨y0,_,_,_⟩:=hq p hpl;have b0:=HSE.o.aL.cell y0 id;unfold aJ at b0;have HEp:=ah (HR.o _ (List.getElem_mem hpl));have HMp:=ah (HMay.o _ (List.getElem_mem hpl));have HBn:Hid (da L (i+1)=da L i++jI es[p].key.2.2 es[i].ak):=by
        unfold Hid;rw[jP,HLe.o];subst hp;rw[zo hlt h8]
       have HXn:Hid (fh L (i+1)=fh L i):=by unfold Hid;rw[lk,HLe.o,zq h8,List.append_nil]
       have HP:=ah hp;clear z0 z1 z2 z3 hq h8 y0 hp hm2;generalize da L i=B at*
       generalize fh L i=X at*
       obtain⟨EB,hEB⟩: ∃ EB,jI es[p].key.2.2 es[i].ak=EB:=⟨_,rfl⟩;have HBm:Hid (da L (i+1)=B++EB):=by unfold Hid;rw[<-hEB];exact HBn.o
       have hEl:EB.length<=16525:=by rw[<-hEB];exact qR _ _ HMi.o.1 HMi.o.2.1
       have HEB:=ah hEB;clear hEB HBn;go_wp2_with (first
        | (go_at_call 179;refine(Kc es[p].key es[i] EB HEB.o w _ _ HSE.o (HEp.o.1.new HSE.o.aL) ⟨HE.o.1.new HSE.o.aL,HE.o.2.new HSE.o.aL⟩ HMp.o.1 HMi.o.1 HSi.o.2.2.1 HSi.o.2.2.2 HMi.o.2.1 HSq.o).mono ?_;rintro x w7 ⟨A7,c7,rfl,hs7⟩;have HS7:=ah hs7;clear hs7)
        | (at_builtin;have he:=dT HBm.o;refine av rfl (.tmp 66) (.tmp 69) 41 rfl 5 j0 _ 1 1 Tryz.underlying41 Hj.o Hy0.o Hy1.o Hy2.o rfl (by decide) (.slice AB B.length cb) B.length (B.map bv) rfl w _ (by exact HS7.o.bp) A7 EB.length c7 (EB.map bv) rfl (by exact aF.bG HS7.o.aO) (by simp) (dR EB) (by unfold maxLen;omega) (by omega) ?_;intro A8 c8 w8 hs8;rw[he.1,he.2] at hs8;rw[he.1];have HS8:=ah hs8;clear hs8 he))
       go_roundw
       .refine⟨i+1,by omega,by push_cast;rfl,⟨?_⟩⟩;rw[HXn.o];exact HS8.o.bo.bo
       .simp[intOf];omega
     .have hie:i=es.length:=by omega
      subst hie;obtain⟨bt,hbt⟩: ∃ bt,hU L=bt:=⟨_,rfl⟩;have hbtl:bt.length<=262144:=by rw[<-hbt,HLe.o];exact Ef es (by omega)
      have HSS:=ah HD.o.sat;obtain⟨Bd,hBd⟩: ∃ B,da L es.length=B:=⟨_,rfl⟩;obtain⟨X,hX⟩: ∃ X,fh L es.length=X:=⟨_,rfl⟩;rw[hBd] at HSS hBl;rw[hX] at HSS hXl;rw[hBd,hX];obtain⟨P1,hP1⟩: ∃ P,ai bt.length 4=P:=⟨_,rfl⟩;obtain⟨P2,hP2⟩: ∃ P,ai Bd.length 4=P:=⟨_,rfl⟩;obtain⟨C,hC⟩: ∃ C,C=Bd++X:=⟨_,rfl⟩;obtain⟨P3,hP3⟩: ∃ P,ai C.length 4=P:=⟨_,rfl⟩;obtain⟨D1,hD1⟩: ∃ D,D=C++P1:=⟨_,rfl⟩;obtain⟨D2,hD2⟩: ∃ D,D=D1++bt:=⟨_,rfl⟩;obtain⟨D3,hD3⟩: ∃ D,D=D2++P2:=⟨_,rfl⟩;obtain⟨D4,hD4⟩: ∃ D,D=D3++P3:=⟨_,rfl⟩;obtain⟨sm,hsm⟩: ∃ s,tN D4=s:=⟨_,rfl⟩;obtain⟨P5,hP5⟩: ∃ P,ai sm 4=P:=⟨_,rfl⟩;have hD5:aM L=D4++P5:=by
       rw[<-hP5, <-hsm];exact Gb (b:=Bd) (x:=X) (c:=C) (d1:=D1) (d2:=D2) (d3:=D3) (d4:=D4) HLen.o hBd hX hC (by rw[hbt,hP1];exact hD1) (by rw[hbt];exact hD2) (by rw[hP2];exact hD3) (by rw[hP3];exact hD4)
      have hl1:P1.length=4:=by rw[<-hP1,aw]
      have hl2:P2.length=4:=by rw[<-hP2,aw]
      have hl3:P3.length=4:=by rw[<-hP3,aw]
      have hl5:P5.length=4:=by rw[<-hP5,aw]
      have hlC:C.length=Bd.length+X.length:=by rw[hC,List.length_append]
      have hlD1:D1.length=C.length+4:=by rw[hD1,List.length_append,hl1]
      have hlD2:D2.length=D1.length+bt.length:=by rw[hD2,List.length_append]
      have hlD3:D3.length=D2.length+4:=by rw[hD3,List.length_append,hl2]
      have hlD4:D4.length=D3.length+4:=by rw[hD4,List.length_append,hl3]
      have hB0:Bd.length<=1100000000:=by omega
      have hX0:X.length<=10000000:=by omega
      have hC0:C.length<=1110000000:=by omega
      have hD10:D1.length<=1110000004:=by omega
      have hD20:D2.length<=1110500000:=by omega
      have hD30:D3.length<=1110600000:=by omega
      have hD40:D4.length<=1110700000:=by omega
      have hsm0:sm<4294967296:=by rw[<-hsm];exact AA _
      have hws:IntKind.u64.wrap (sm:Int)=sm:=by rw[IntKind.wrap_u64];omega
      have HP1:=ah hP1;have HP2:=ah hP2;have HP3:=ah hP3;have HP5:=ah hP5;have HBt:=ah hbt;have HSm:=ah hsm;have HC:=ah hC;have HD1:=ah hD1;have HD2:=ah hD2;have HD3:=ah hD3;have HD4:=ah hD4;have HD5:=ah hD5;have HL1:=ah hl1;have HL2:=ah hl2;have HL3:=ah hl3;have HL5:=ah hl5;have hq1:P1.length<=4:=by omega
      have hq2:P2.length<=4:=by omega
      have hq3:P3.length<=4:=by omega
      have hq5:P5.length<=4:=by omega
      clear hP1 hP2 hP3 hP5 hbt hsm hC hD1 hD2 hD3 hD4 hD5 hl1 hl2 hl3 hl5 hlC hlD1 hlD2 hlD3 hlD4 hBd hX hBl hXl;go_wp2_with (first
       | (at_builtin;have he:=dT HC.o;refine av rfl (.tmp 74) (.tmp 75) 41 rfl 5 j0 _ 1 1 Tryz.underlying41 Hj.o Hy0.o Hy1.o Hy2.o rfl (by decide) (.slice AB Bd.length cb) Bd.length (Bd.map bv) rfl w _ (by exact HSS.o) AX X.length cx (X.map bv) rfl (by exact aF.bG HSS.o.ay.aO) (by simp) (dR X) (by unfold maxLen;omega) (by omega) ?_;intro A18 c18 w18 hs18;rw[he.1,he.2] at hs18;rw[he.1];have HS18:=ah hs18;clear hs18 he)
       | (go_at_call 143;refine(mQ A c es _ (HL.o.new HS18.o.aL) (fun e he=>⟨(HR.o e he).1.new HS18.o.aL,(HR.o e he).2.new HS18.o.aL⟩) hc HM.o (by omega) (fun e he=>(HSh2.o e he).1)).mono ?_;rintro x w20 ⟨g,h,n,rfl,hF, -, -,k20,hn1,hn2⟩;rw[<-HLe.o,HBt.o] at hF;have HF:=ah hF;have HS20:=ah (HS18.o.new k20);have HN:=ah (And.intro hn1 hn2);clear hF k20 hn1 hn2)
       | (go_at_call 180;refine(zk g h n n bt w20 HF.o HN.o).mono ?_;rintro x w21 ht;obtain⟨A21,c21,rfl,ho,k21⟩:=Du ht;have HS21:=ah (HS20.o.dP k21 ho);clear ht ho k21)
       | (go_at_call 178;refine(qh bt.length (by omega) w _ _ HS21.o).mono ?_;rintro x w22 ⟨A22,c22,rfl,hs22⟩;rw[HP1.o] at hs22 ⊢;have HS22:=ah hs22;clear hs22)
       | (at_builtin;have he:=dT HD1.o;refine av rfl (.tmp 82) (.tmp 85) 41 rfl 5 j0 _ 1 1 Tryz.underlying41 Hj.o Hy0.o Hy1.o Hy2.o rfl (by decide) (.slice A18 C.length c18) C.length (C.map bv) rfl w _ (by exact HS22.o.bp) A22 P1.length c22 (P1.map bv) rfl (by exact aF.bG HS22.o.aO) (by simp) (dR P1) (by unfold maxLen;omega) (by omega) ?_;intro A23 c23 w23 hs23;rw[he.1,he.2] at hs23;rw[he.1];have HS23:=ah hs23;clear hs23 he)
       | (at_builtin;have he:=dT HD2.o;refine av rfl (.tmp 86) (.tmp 87) 41 rfl 5 j0 _ 1 1 Tryz.underlying41 Hj.o Hy0.o Hy1.o Hy2.o rfl (by decide) (.slice A23 D1.length c23) D1.length (D1.map bv) rfl w _ (by exact HS23.o) A21 bt.length c21 (bt.map bv) rfl (by exact aF.bG HS23.o.bp.aO) (by simp) (dR bt) (by unfold maxLen;omega) (by omega) ?_;intro A24 c24 w24 hs24;rw[he.1,he.2] at hs24;rw[he.1];have HS24:=ah hs24;clear hs24 he)
       | (go_at_call 178;refine(qh Bd.length (by omega) w _ _ HS24.o).mono ?_;rintro x w25 ⟨A25,c25,rfl,hs25⟩;rw[HP2.o] at hs25 ⊢;have HS25:=ah hs25;clear hs25)
       | (at_builtin;have he:=dT HD3.o;refine av rfl (.tmp 89) (.tmp 91) 41 rfl 5 j0 _ 1 1 Tryz.underlying41 Hj.o Hy0.o Hy1.o Hy2.o rfl (by decide) (.slice A24 D2.length c24) D2.length (D2.map bv) rfl w _ (by exact HS25.o.ay) A25 P2.length c25 (P2.map bv) rfl (by exact aF.bG HS25.o.aO) (by simp) (dR P2) (by unfold maxLen;omega) (by omega) ?_;intro A26 c26 w26 hs26;rw[he.1,he.2] at hs26;rw[he.1];have HS26:=ah hs26;clear hs26 he)
       | (go_at_call 178;refine(qh C.length (by omega) w _ _ HS26.o).mono ?_;rintro x w27 ⟨A27,c27,rfl,hs27⟩;rw[HP3.o] at hs27 ⊢;have HS27:=ah hs27;clear hs27)
       | (at_builtin;have he:=dT HD4.o;refine av rfl (.tmp 92) (.tmp 94) 41 rfl 5 j0 _ 1 1 Tryz.underlying41 Hj.o Hy0.o Hy1.o Hy2.o rfl (by decide) (.slice A26 D3.length c26) D3.length (D3.map bv) rfl w _ (by exact HS27.o.ay) A27 P3.length c27 (P3.map bv) rfl (by exact aF.bG HS27.o.aO) (by simp) (dR P3) (by unfold maxLen;omega) (by omega) ?_;intro A28 c28 w28 hs28;rw[he.1,he.2] at hs28;rw[he.1];have HS28:=ah hs28;clear hs28 he)
       | (go_at_call 138;refine(osum_any (some ⟨w28.heap.size,0,none⟩) 1 [(A28,c28,D4)] _ ⟨aR w28 #[.slice A28 D4.length c28] 41,fun y hy=>by rw[List.mem_singleton] at hy;subst hy;exact aF.bG (HS28.o.aD _).aO⟩ (by simp) (by simp;omega)).mono ?_;rintro x w29 ⟨rfl,rfl⟩;rw[show (bK [(A28,c28,D4)]).flatten=D4 by simp[bK],HSm.o])
       | (go_at_call 117;refine(bS sm 4 (by omega) (by omega) (by omega) w _ _ (HS28.o.aD _)).mono ?_;rintro x w30 ⟨A30,c30,rfl, -, -,hs30⟩;rw[HP5.o] at hs30 ⊢;have HS30:=ah hs30;clear hs30)
       | (at_builtin;have he:=dT HD5.o;refine av rfl (.tmp 96) (.tmp 101) 41 rfl 5 j0 _ 1 1 Tryz.underlying41 Hj.o Hy0.o Hy1.o Hy2.o rfl (by decide) (.slice A28 D4.length c28) D4.length (D4.map bv) rfl w _ (by exact HS30.o.ay) A30 P5.length c30 (P5.map bv) rfl (by exact aF.bG HS30.o.aO) (by simp) (dR P5) (by unfold maxLen;omega) (by omega) ?_;intro A31 c31 w31 hs31;rw[he.1,he.2] at hs31;rw[he.1];have HS31:=ah hs31;clear hs31 he))
      go_ret2;obtain⟨Az,cz,hz,h1,h2⟩:=HS31.o.bm;injection hz with e1 e2 e3
      subst e1 e3;refine .inr ⟨trivial,_,_,rfl,h1,h2,?_⟩;exact HS31.o.bo.bo.bo.bo.bo.bo
abbrev Pr:=aq × Nat
def tH (e:aq) (L:List Pr):List Pr:=L.takeWhile fun p=>az p.1 e
def kX (e:aq) (L:List Pr):List Pr:=L.dropWhile fun p=>az p.1 e
def ma (e:aq) (L:List Pr):Bool:=match kX e L with | p::_=>decide (oM p.1 e=0) | []=>false
def FQ (e:aq) (h:Nat) (L:List Pr):List Pr:=if ma e L then L else tH e L++(e,h)::kX e L
def Fa (n:Nd):Pr:=(n.e.ak,n.h)
def fM (ns:List Nd):List Pr:=ns.map Fa
theorem BE (e:aq) (ns:List Nd):fM (ahead e ns)=tH e (fM ns):=by
 unfold fM tH ahead
 induction ns with
 | nil=>rfl
 | cons n ns ih=>
  rw[List.map_cons,List.takeWhile_cons,List.takeWhile_cons];show List.map Fa (if az n.e.ak e=true then _ else _)=if az n.e.ak e=true then _ else _
  split
  .rw[List.map_cons,ih]
  .rfl
theorem qe (e:aq) (ns:List Nd):fM (behind e ns)=kX e (fM ns):=by
 unfold fM kX behind
 induction ns with
 | nil=>rfl
 | cons n ns ih=>
  rw[List.map_cons,List.dropWhile_cons,List.dropWhile_cons];show List.map Fa (if az n.e.ak e=true then _ else _)=if az n.e.ak e=true then _ else _
  split
  .exact ih
  .rfl
theorem sz (e:aq) (ns:List Nd):iy e ns=ma e (fM ns):=by
 unfold iy ma;rw[<-qe]
 cases behind e ns<;>rfl
theorem zE (a b:List aq):Kg (a++b)=Kg a+Kg b:=by
 unfold Kg
 induction a with
 | nil=>simp
 | cons x a ih=>simp only[List.cons_append,List.foldr_cons];omega
def eE:Int:=9223372036854775807
def jT (ns:List Nd):Nat:=Kg (ns.map fun n=>n.e.ak)
def bE (b hr:Nat) (ns:List Nd):SP:=cV b hr ns ns.length (jT ns)
theorem fO {w0 w:World} {F:SP}: ∀ {es:List En},Sat w0 (aT es*F) w->jG w es
 | [],_=>fun e he=>by simp at he
 | e::es,h=>by
  have h1:Sat w0 (Row 5 1 (aJ e.key) e.key.2.2.length (e.key.2.2.map bv)*(Row 5 1 (aJ e.value) e.value.2.2.length (e.value.2.2.map bv)*(aT es*F))) w:=h.of (by
   show Row _ _ _ _ _*(Row _ _ _ _ _*aT es)*F=_
   ac_rfl)
  intro x hx;rcases List.mem_cons.1 hx with rfl | hx
  .obtain⟨A,c,e1,r1,_⟩:=Sat.yK (h:=h1);obtain⟨B,d,e2,r2,_⟩:=Sat.yK (h:=h1.ay);unfold aJ at e1 e2;injection e1 with e1
   injection e2 with e2
   exact⟨by rw[e1];exact r1,by rw[e2];exact r2⟩
  .exact fO h1.right.right x hx
abbrev Ip:=List aq × List UInt8 × Bool
def lY (L:List aq):List UInt8:=if L.length % 8=0 then [] else match L[L.length - 1]? with | some e=>e.key | none=>[]
def pY (st:Ip):Ip:=let p:=dm (lY st.1) st.2.1 st.2.2;(st.1++[p.1],p.2)
def oL:Nat->Ip->Ip
 | 0,st=>st
 | k+1,st=>if st.2.2=true then st else oL k (pY st)
theorem xW (k:Nat) {st:Ip} (h:st.2.2=true):oL k st=st:=by
 cases k with
 | zero=>rfl
 | succ k=>unfold oL;rw[if_pos h]
theorem rZ (k:Nat) {st:Ip} (h:st.2.2=false):oL (k+1) st=oL k (pY st):=by
 conv=>lhs;unfold oL
 rw[if_neg (by rw[h];simp)]
def qV (b:List UInt8):Bool:=decide (4<=b.length) && decide (ai (tN (b.take (b.length - 4))) 4=b.drop (b.length - 4))
def jS (b:List UInt8):Ip:=let t:=cm 4 b false;let c:=cm 4 t.2.1 t.2.2;oL (bu c.1) ([],c.2)
def eV (b:List UInt8):Nat:=
 if qV b=false then 72 else if (cm 4 b false).1≠dI then 73 else if (jS b).2.2=true\/bR (jS b).1≠0\/aM (jS b).1≠b then 73 else 0
theorem lz (n:Nat) (q:List UInt8) (s:Bool) (hn:n<=8):bu (cm n q s).1<256 ^ n:=Nat.lt_of_lt_of_le (iB _) (Nat.pow_le_pow_right (by omega) (fe n q s))
theorem pk (al q:List UInt8) (s:Bool):(dm al q s).1.key.length<=600/\(dm al q s).1.value.length<=65536/\(dm al q s).1.seq<9223372036854775808:=by
 unfold dm;refine⟨?_,?_,?_⟩
 .simp only;split
  .simp
  .rw[List.length_append,List.length_take];have h1:=lz 1 q s (by omega);have h2:=lz 1 (cm 1 q s).2.1 (cm 1 q s).2.2 (by omega);have h3:=fe (bu (cm 1 (cm 1 q s).2.1 (cm 1 q s).2.2).1);refine Nat.le_trans (Nat.add_le_add (Nat.min_le_left _ _) (h3 _ _)) ?_;omega
 .simp only;refine Nat.le_trans (fe _ _ _) ?_;have h2:=lz 2;exact Nat.le_of_lt (h2 _ _ (by omega))
 .simp only;rw[IntKind.wrap_i64];omega
theorem xr (al q:List UInt8) (s:Bool):(dm al q s).2.1.length<=q.length:=by
 unfold dm;simp only;refine Nat.le_trans (cW _ _ _) (Nat.le_trans (cW _ _ _) (Nat.le_trans (cW _ _ _) (Nat.le_trans (cW _ _ _) (Nat.le_trans (cW _ _ _) (Nat.le_trans (cW _ _ _) (cW _ _ _))))))
theorem xo {w0 w:World} {F:SP}: ∀ {es:List En},Sat w0 (aT es*F) w-> ∀ e ∈ es,e.key.2.2.length<=e.key.2.1/\e.key.2.1<=maxLen
 | [],_=>by simp
 | e::es,h=>by
  have h0:Sat w0 (Row 5 1 (aJ e.key) e.key.2.2.length (e.key.2.2.map bv)*(Row 5 1 (aJ e.value) e.value.2.2.length (e.value.2.2.map bv)*aT es)*F) w:=h;have h1:=h0.of (show _=Row 5 1 (aJ e.key) e.key.2.2.length (e.key.2.2.map bv)*(Row 5 1 (aJ e.value) e.value.2.2.length (e.value.2.2.map bv)*(aT es*F)) by ac_rfl);intro x hx;rcases List.mem_cons.1 hx with rfl | hx
  .obtain⟨A,c,e1,k1,k2⟩:=h1.bm;unfold aJ at e1;injection e1 with e2 e3 e4
   rw[e4];exact⟨k1,k2⟩
  .exact xo h1.right.right x hx
structure mq (w:World) (T:Nat) (es:List En):Prop where
 box: ∃ A c g h n,w.cell? ⟨T,0,none⟩=some (.slice A es.length c)/\w.cell? ⟨T,1,none⟩=some (.pointer (some ⟨g,0,none⟩))/\aF w A (es.flatMap bV)/\es.length<=c/\c<=maxLen/\dL w g h n n (hU (es.map En.ak))/\8<=n/\n<=262144
 rd:jG w es
 cap: ∀ e ∈ es,e.key.2.2.length<=e.key.2.1/\e.key.2.1<=maxLen
 ok:bR (es.map En.ak)=0
theorem mq.new {w w':World} {T:Nat} {es:List En} (h:mq w T es) (k:ao No w w'):mq w' T es:=by
 obtain⟨A,c,g,h1,n,a1,a2,a3,a4,a5,a6,a7⟩:=h.box;exact⟨⟨A,c,g,h1,n,k.cell a1 id,k.cell a2 id,a3.new k,a4,a5,a6.new k,a7⟩,fun e he=>⟨(h.rd e he).1.new k,(h.rd e he).2.new k⟩,h.cap,h.ok⟩
def IU (b:List UInt8) (w:World) (x:Ending) (w':World):Prop:=
 (eV b≠0/\x = .returned (.tuple #[.pointer none,.int .i64 (eV b:Nat)])/\ao No w w')\/
 (eV b=0/\ ∃ T es,x = .returned (.tuple #[.pointer (some ⟨T,0,none⟩),.int .i64 0])/\es.map En.ak=(jS b).1/\mq w' T es/\w.heap.size<=T/\ao No w w')
theorem fq {n:Nat} (a r:List UInt8) (h:a.length=n):cm n (a++r) false=(a,r,false):=by
 subst h;rw[xF (by simp)];simp
theorem wR (b:UInt8):bu [b]=b.toNat:=by simp[bu]
theorem BP (al:List UInt8) (e:aq) (r:List UInt8) (hm:fU e=true) (hs:e.seq<9223372036854775808) (hal:al.length<=128):dm al (jI al e++r) false=(e,r,false):=by
 obtain⟨h1,h2,h3,h4⟩:=gR.1 hm;have hc:=mh al e.key;obtain⟨n,hn⟩: ∃ n,bJ al e.key=n:=⟨_,rfl⟩;have ht:=mN al e.key;unfold jI;rw[hn] at hc ht ⊢;have e1:[UInt8.ofNat n,UInt8.ofNat (e.key.length - n)]++(ai e.seq.toNat 8++([if e.dead then 1 else 0]++(ai e.value.length 2++(e.key.drop n++e.value))))++r
  =[UInt8.ofNat n]++([UInt8.ofNat (e.key.length - n)]++(ai e.seq.toNat 8++([if e.dead then 1 else 0]++(ai e.value.length 2++(e.key.drop n++(e.value++r)))))):=by simp
 rw[e1];have b1:bu [UInt8.ofNat n]=n:=by rw[wR,UInt8.toNat_ofNat',Nat.mod_eq_of_lt (by omega)]
 have b2:bu [UInt8.ofNat (e.key.length - n)]=e.key.length - n:=by rw[wR,UInt8.toNat_ofNat',Nat.mod_eq_of_lt (by omega)]
 have b3:IntKind.i64.wrap (bu (ai e.seq.toNat 8):Int)=e.seq:=by
  rw[jN,Nat.mod_eq_of_lt (by omega),IntKind.wrap_i64];omega
 have b4:decide (bu [if e.dead then (1:UInt8) else 0]=1)=e.dead:=by cases e.dead<;>decide
 have b5:bu (ai e.value.length 2)=e.value.length:=by rw[jN,Nat.mod_eq_of_lt (by omega)]
 unfold dm;simp only[fq _ _ (List.length_singleton),fq _ _ (aw _ _),b1,b2,b3,b4,b5];rw[decide_eq_false (by omega)];simp only[Bool.or_false];rw[fq (n:=e.key.length - n) _ _ (by simp)];simp only;rw[fq (n:=e.value.length) _ _ rfl];simp only[Bool.false_eq_true,if_false];rw[ht,List.take_append_drop]
theorem wu {L:List aq} {i:Nat} (h:i<=L.length):lY (L.take i)=kM L i:=by
 unfold lY kM;rw[List.length_take,Nat.min_eq_left h];split
 .rfl
 .rw[List.getElem?_take,if_pos (by omega)]
  cases L[i - 1]?<;>rfl
theorem vJ {L:List aq} (h: ∀ e ∈ L,e.key.length<=128) (i:Nat):(kM L i).length<=128:=by
 unfold kM;split
 .simp
 .split
  .rename_i e he;exact h e (List.mem_of_getElem? he)
  .simp
theorem jJ {L:List aq} (h:bR L=0): ∀ e ∈ L,fU e=true:=by
 intro e he;unfold bR at h;split at h
 .cases h
 .split at h
  .cases h
  .rename_i h1
   cases hm:fU e with
   | true=>rfl
   | false=>exact absurd (.inr (List.any_eq_true.2 ⟨e,he,by rw[hm];rfl⟩)) h1
theorem zB {L:List aq} (h:bR L=0): ∀ e ∈ L,e.key.length<=128:=fun e he=>(gR.1 (jJ h e he)).1
theorem pz {L:List aq} (h:bR L=0):L.length<=65536:=by
 unfold bR at h;split at h
 .cases h
 .split at h
  .cases h
  .rename_i h1;rcases Nat.lt_or_ge 65536 L.length with h2 | h2
   .exact absurd (.inl h2) h1
   .exact h2
def gY (L:List aq) (i k:Nat):List UInt8:=((List.range' i k).map (jR L)).flatten
theorem si (L:List aq) (r:List UInt8) (hb:bR L=0) (hs: ∀ e ∈ L,e.seq<9223372036854775808): ∀ (k i:Nat),i+k=L.length->oL k (L.take i,gY L i k++r,false)=(L,r,false)
 | 0,i,h=>by
  have e:L.take i=L:=List.take_of_length_le (by omega);unfold oL gY;rw[e];rfl
 | k+1,i,h=>by
  have hi:i<L.length:=by omega
  have ih:=si L r hb hs k (i+1) (by omega);rw[rZ _ rfl];have e2:gY L i (k+1)=jI (kM L i) L[i]++gY L (i+1) k:=by
   unfold gY;rw[List.range'_succ,List.map_cons,List.flatten_cons];congr 1
   unfold jR;rw[List.getElem?_eq_getElem hi]
  have e3:pY (L.take i,gY L i (k+1)++r,false)=(L.take (i+1),gY L (i+1) k++r,false):=by
   unfold pY;simp only;rw[wu (by omega),e2,List.append_assoc,BP _ _ _ (jJ hb _ (List.getElem_mem hi)) (hs _ (List.getElem_mem hi)) (vJ (zB hb) i)];simp only;rw[List.take_succ_eq_append_getElem hi]
  rw[e3,ih]
theorem yp (L:List aq):da L L.length=dI++(ai L.length 4++gY L 0 L.length):=by
 unfold da gY;rw[List.range_eq_range',List.append_assoc]
theorem sR (L:List aq): ∃ r,aM L=dI++(ai L.length 4++(gY L 0 L.length++r)):=by
 unfold aM BN;simp only;rw[yp];refine⟨fh L L.length++(ai (hU L).length 4++(hU L++(ai (dI++(ai L.length 4++gY L 0 L.length)).length 4++(ai (dI++(ai L.length 4++gY L 0 L.length)++fh L L.length).length 4++ai (tN (dI++(ai L.length 4++gY L 0 L.length)++fh L L.length++ai (hU L).length 4++hU L++ai (dI++(ai L.length 4++gY L 0 L.length)).length 4++ai (dI++(ai L.length 4++gY L 0 L.length)++fh L L.length).length 4)) 4)))),?_⟩;simp only[List.append_assoc]
theorem nZ {L:List aq} (hb:bR L=0) (hs: ∀ e ∈ L,e.seq<9223372036854775808):(jS (aM L)).1=L/\(jS (aM L)).2.2=false:=by
 obtain⟨r,hr⟩:=sR L;have hf:=pz hb;have e:jS (aM L)=(L,r,false):=by
  rw[hr];unfold jS;simp only;rw[fq (n:=4) dI _ rfl];simp only;rw[fq _ _ (aw _ _)];simp only;rw[jN,Nat.mod_eq_of_lt (by omega)];exact si L r hb hs L.length 0 (by omega)
 rw[e];exact⟨rfl,rfl⟩
theorem xE (L:List aq):qV (aM L)=true:=by
 unfold qV aM;rw[List.length_append,aw,Nat.add_sub_cancel,List.take_left,List.drop_left];simp
theorem uP {L:List aq} (hb:bR L=0) (hs: ∀ e ∈ L,e.seq<9223372036854775808):eV (aM L)=0:=by
 obtain⟨h1,h2⟩:=nZ hb hs;unfold eV;rw[if_neg (by rw[xE];simp),if_neg,if_neg]
 .rw[h1,h2];simp[hb]
 .obtain⟨r,hr⟩:=sR L;rw[hr,fq (n:=4) dI _ rfl];simp
theorem ix {w0 w:World} {F:SP} {ops:Array Oper} {o:Oper} {a:Act} {rest:List Oper} {Q:Exit->Act->World->Prop} (hgd:o.guard=none) (s x:Operand)
 (ho:o.op = .call { callee:= .builtin .append,args:= #[s,x],argTypes:= #[41, 41] })
 (A:Option Addr) (cA:Nat) (l:List UInt8) (hs:a.eval s = .slice A l.length cA) (hS:Sat w0 (Row 5 1 (.slice A l.length cA) l.length (l.map bv)*F) w)
 (B:Option Addr) (cB:Nat) (m:List UInt8) (hx:a.eval x = .slice B m.length cB) (hr:Rd w B m) (k:List UInt8) (hk:k=l++m) (hl:k.length<=140737488355328)
 (h: ∀ A' c' w',Sat w0 (Row 5 1 (.slice A' k.length c') k.length (k.map bv)*F) w'->wpList Tryz.prog ops Q rest (a.put o.dst (.slice A' k.length c')) w'):wpList Tryz.prog ops Q (o::rest) a w:=by
 subst hk;rw[List.length_append] at hl;obtain⟨j0,hj,hy0,hy1,hy2⟩:=info_parts iw;refine av hgd s x 41 ho 5 j0 _ 1 1 Tryz.underlying41 hj hy0 hy1 hy2 rfl (by decide) _ l.length (l.map bv) hs w0 F hS B m.length cB (m.map bv) hx hr (by simp) (dR _) (by unfold maxLen;omega) (by omega) ?_;intro A' c' w' h2;have h3:=h A' c' w';rw[List.length_append,List.map_append] at h3;exact h3 h2
theorem ll {w0 w:World} {F:SP} {ops:Array Oper} {o:Oper} {a:Act} {K:Act->World->Prop} {Q:Exit->Act->World->Prop} {E:Prop} (hgd:o.guard=none) (s x:Operand)
 (ho:o.op = .call { callee:= .builtin .append,args:= #[s,x],argTypes:= #[41, 41] })
 (A:Option Addr) (cA:Nat) (l:List UInt8) (hs:a.eval s = .slice A l.length cA) (hS:Sat w0 (Row 5 1 (.slice A l.length cA) l.length (l.map bv)*F) w)
 (B:Option Addr) (cB:Nat) (m:List UInt8) (hx:a.eval x = .slice B m.length cB) (hr:Rd w B m) (k:List UInt8) (hk:k=l++m) (hl:k.length<=140737488355328)
 (h: ∀ A' c' w',Sat w0 (Row 5 1 (.slice A' k.length c') k.length (k.map bv)*F) w'->K (a.put o.dst (.slice A' k.length c')) w'):
 if Region.wanted o (yielded ops a.tmps)=true then Oper.wp Tryz.prog o a w K Q else E:=by
 subst hk;rw[List.length_append] at hl;obtain⟨j0,hj,hy0,hy1,hy2⟩:=info_parts iw;refine aQ hgd s x 41 ho 5 j0 _ 1 1 Tryz.underlying41 hj hy0 hy1 hy2 rfl (by decide) _ l.length (l.map bv) hs w0 F hS B m.length cB (m.map bv) hx hr (by simp) (dR _) (by unfold maxLen;omega) (by omega) ?_;intro A' c' w' h2;have h3:=h A' c' w';rw[List.length_append,List.map_append] at h3;exact h3 h2
theorem Fh (e:En) (w:World) (hr:oD w e) (hk:e.key.2.2.length<=140737488355328) (hv:e.value.2.2.length<=140737488355328):
 Calls Tryz.prog 153 #[iN e] w (jk w bF e):=by
 have h:=Sat.start w;obtain⟨⟨kA,kc,k⟩,⟨vA,vc,v⟩,seq,dead⟩:=e;have HRk:Hid (Rd w kA k):=hr.1;have HRv:Hid (Rd w vA v):=hr.2;have hk':k.length<=140737488355328:=hk;have hv':v.length<=140737488355328:=hv;have h1:=h.bO (b:=w.heap.size) 120 #[.slice kA k.length kc,.slice vA v.length vc,.int .i64 seq,.bool dead] rfl;have h2:=h1.bO (b:=w.heap.size+1) 120 #[.slice none 0 0,.slice none 0 0,.int .i64 0,.bool false] (by simp);have hc2:ao No w _:=((ao.refl No w).alloc (.cells #[.slice kA k.length kc,.slice vA v.length vc,.int .i64 seq,.bool dead] 120)).alloc (.cells #[.slice none 0 0,.slice none 0 0,.int .i64 0,.bool false] 120);clear hr h h1;unfold iN;go_enter Tryz.func153, Tryz.ntmps153;go_wp2_with fail;revert h2 hc2;generalize (w.alloc _).alloc _=W;intro h2 hc2;generalize w.heap.size+1=B at*
 generalize w.heap.size=E at*
 have c0:=h2.ay.cell 0;have c1:=h2.ay.cell 1;have c2:=h2.ay.cell 2;have c3:=h2.ay.cell 3;have HS0:=ah h2;have HC0:=ah hc2;clear h2 hc2;go_region_law (first
  | (go_simp;go_at_call 104;(with_reducible refine(nz kA kc k HS0.o.drew (HRk.o.new HC0.o.drew) hk').mono ?_);rintro x w1 ⟨A,c,rfl,k1,hs1⟩;have HS1:=ah hs1;have HC1:=ah (HC0.o.drew.tr k1);have c0:=hs1.bp.cell 0;have c1:=hs1.bp.cell 1;have c2:=hs1.bp.cell 2;have c3:=hs1.bp.cell 3;clear hs1 k1)
  | (go_simp;go_at_call 104;(with_reducible refine(nz vA vc v HS1.o (HRv.o.new HC1.o) hv').mono ?_);rintro x w2 ⟨B2,d,rfl,k2,hs2⟩;have HS2:=ah hs2;have HC2:=ah (HC1.o.tr k2);have c0:=hs2.bL.cell 0;have c1:=hs2.bL.cell 1;have c2:=hs2.bL.cell 2;have c3:=hs2.bL.cell 3;have f0:=hs2.bL.frozen 0;have f1:=hs2.bL.frozen 1;clear hs2 k2))
 all_goals
  have h5:=(HS2.o.bL.set 0 (.slice A k.length c)).set 1 (.slice B2 v.length d);clear f0 f1 c0 c1 c2 c3;revert h5;generalize World.setCell _ _ _=w3;intro h5;have c0:=h5.cell 0;have c1:=h5.cell 1;have c2:=h5.cell 2;have c3:=h5.cell 3;have d0:=h5.bL.cell 0;have d1:=h5.bL.cell 1;have d2:=h5.bL.cell 2;have d3:=h5.bL.cell 3;have f0:=h5.bL.frozen 0;have f1:=h5.bL.frozen 1;have f2:=h5.bL.frozen 2;have f3:=h5.bL.frozen 3;have h6:=(((h5.bL.set 0 (.slice A k.length c)).set 1 (.slice B2 v.length d)).set 2 (.int .i64 seq)).set 3 (.bool dead);go_wp2_with fail;revert h6;generalize World.setCell _ _ _=w4;intro h6;refine bodyPost_ret (results_cell_row (p:=2) (by kernel_rfl) _ _ B 120 _ (0,0) _ rfl h6.at Tryz.underlying120 rfl (by kernel_rfl)) rfl ?_;exact⟨A,c,B2,d,rfl,h6.right.right.ay⟩
theorem wg (e:En) (w0 w:World) (F:SP) (h:Sat w0 F w) (hr:oD w e) (hk:e.key.2.2.length<=140737488355328) (hv:e.value.2.2.length<=140737488355328):
 Calls Tryz.prog 153 #[iN e] w fun x w'=>jk w0 F e x w'/\ao No w w':=by
 refine(Fh e w hr hk hv).mono ?_;rintro x w' ⟨A,c,B,d,rfl,hs⟩;exact⟨⟨A,c,B,d,rfl,(h.join hs (ba (bH _ _ _ _ _) (ba (bH _ _ _ _ _) df))).of (by rw[aB,aB,bf])⟩,hs.aL⟩
def gH (z:Value) (n:Nat):Array Value:=(List.replicate n z).toArray
theorem Cv (z:Value) (n:Nat):madeCells #[z] n=gH z n:=by
 apply Array.ext';apply List.ext_getElem?;intro j;simp[madeCells,gH,List.getElem?_replicate];by_cases h:j<n
 .simp[h];rw[Nat.mod_one];rfl
 .simp[h]
theorem yL:(Tryz.prog.info? 4).map (fun i=>(i.zero,i.size,i.bytes))=some (some (.bool false),1,1):=by kernel_rfl
theorem wa (n:Nat) (hn:n<=1000000) (W:World):(Instr.makeSlice 34 (.int .i64 (n:Int)) (.int .i64 (n:Int))).run Tryz.prog W=
 .ok (.slice (some ⟨W.heap.size,0,none⟩) n n) (W.alloc (.cells (gH (.bool false) n) 4)):=by
 obtain⟨i0,hi,hz0,hz1,hz2⟩:=info_parts yL;have hr:=run_make (P:= Tryz.prog) W 34 4 i0 _ Tryz.underlying34 hi hz0 .i64 .i64 n n (by omega) (by omega) (by rw[hz2];omega) (by omega);have hc:(Value.bool false).cells = #[.bool false]:=rfl;simpa [hz1,hc,Cv] using hr
theorem CG (bl bs:Nat) (A:Option Addr) (c:Nat) (es:List En) (s:Int) (i:Nat) (w:World) (h1:w.cell? ⟨bl,0,none⟩=some (.slice A es.length c)) (h2:w.cell? ⟨bs,0,none⟩=some (.int .i64 s)) (hr:aF w A (es.flatMap bV)) (hi:i<es.length):
 Calls Tryz.prog 186 #[.int .i64 (i:Int),.pointer (some ⟨bl,0,none⟩),.pointer (some ⟨bs,0,none⟩)] w fun x w'=>x = .returned (.bool (decide (es[i].seq<=s)))/\ao No w w':=by
 obtain⟨lb,lo,rfl,hq⟩:=dU hr (by omega);obtain⟨y0,y1,y2,y3⟩:=hq i hi;have hii:(i:Int)<es.length:=by omega
 have S0:w.cell? ⟨bl,0,none⟩=some (.slice (some ⟨lb,lo,none⟩) es.length c)/\w.cell? ⟨bs,0,none⟩=some (.int .i64 s)/\w.cell? ⟨lb,lo+i*4+2,none⟩=some (.int .i64 es[i].seq):=⟨h1,h2,y2⟩;have HS:=ah S0;clear hq y0 y1 y2 y3 h1 h2 hr S0;go_enter Tryz.func186, Tryz.ntmps186;go_upto_region 1 with fail;refine wp_region_held_drew (S:=fun w'=>w'.cell? ⟨bl,0,none⟩=some (.slice (some ⟨lb,lo,none⟩) es.length c)/\w'.cell? ⟨bs,0,none⟩=some (.int .i64 s)/\w'.cell? ⟨lb,lo+i*4+2,none⟩=some (.int .i64 es[i].seq)) (by kernel_rfl) HS.o ?_;intro hS0;refine an 0 1 2 3 ?_;refine an 4 5 6 7 ?_;refine wpAnyH_done (by kernel_rfl) ?_ _;go_wp2_with fail;go_ret;exact⟨rfl,(ao.refl No w).drew⟩
def lF (s:Int) (es:List En):Nat:=es.findIdx fun e=>decide (e.seq<=s)
structure Ky (w:World) (es:List En) (s:Int) (i j:Nat) (wr:World):Prop where
 lo: ∀ (m:Nat) (h:m<es.length),m<i->¬ es[m].seq<=s
 hi: ∀ (m:Nat) (h:m<es.length),j<=m->es[m].seq<=s
 aL:ao No w wr
theorem Au {s:Int} {es:List En} {k:Nat} (hk:k<=es.length) (lo: ∀ (m:Nat) (h:m<es.length),m<k->¬ es[m].seq<=s) (hi: ∀ h:k<es.length,es[k].seq<=s):lF s es=k:=by
 unfold lF;by_cases h:k<es.length
 .rw[List.findIdx_eq h];exact⟨by simpa using hi h,fun m hm=>by simpa using lo m (by omega) hm⟩
 .have:k=es.length:=by omega
  subst this;rw[List.findIdx_eq_length];intro x hx;obtain⟨m,hm,rfl⟩:=List.getElem_of_mem hx;simpa using lo m hm hm
theorem BV (bl bs:Nat) (A:Option Addr) (c:Nat) (es:List En) (s:Int) (w:World) (h1:w.cell? ⟨bl,0,none⟩=some (.slice A es.length c)) (h2:w.cell? ⟨bs,0,none⟩=some (.int .i64 s)) (hr:aF w A (es.flatMap bV)) (hn:es.length<=1000000)
 (hmono: ∀ (a b:Nat) (ha:a<es.length) (hb:b<es.length),a<=b->es[a].seq<=s->es[b].seq<=s):
 Calls Tryz.prog 183 #[.int .i64 (es.length:Int),.func (.func 186) #[] #[.pointer (some ⟨bl,0,none⟩),.pointer (some ⟨bs,0,none⟩)]] w fun x w'=>x = .returned (.int .i64 (lF s es:Nat))/\ao No w w':=by
 have H1:=ah h1;have H2:=ah h2;have HR:=ah hr;have HM:=ah hmono;clear h1 h2 hr hmono;go_enter Tryz.func183, Tryz.ntmps183;go_wp2_with fail;go_loopw [5,6] (fun iv jv wr=> ∃ i j:Nat,i<=j/\j<=es.length/\iv = .int .i64 i/\jv = .int .i64 j/\Hid (Ky w es s i j wr)) (fun iv jv _=>((intOf jv) - (intOf iv)).toNat)
 case atStart=>exact⟨0,es.length,by omega,by omega,rfl,rfl,fun m _ h=>by omega,fun m h h2=>by omega,ao.refl _ _⟩
 case round=>
  obtain⟨i,j,hij,hj,rfl,rfl,HD⟩:=hrel;by_cases hlt:i<j
  .obtain⟨m,hm⟩: ∃ m,m=(i+j) / 2:=⟨_,rfl⟩;have hmi:i<=m:=by omega
   have hmj:m<j:=by omega
   have hml:m<es.length:=by omega
   have hw1:IntKind.u64.wrap ((i:Int)+(j:Int))=(i:Int)+j:=by rw[IntKind.wrap_u64];omega
   have hsh:((i:Int)+j) / 2=m:=by omega
   have hw2:IntKind.i64.wrap (m:Int)=m:=by rw[IntKind.wrap_i64];omega
   have HMm:=ah hm;clear hm;obtain⟨Z,hZ⟩: ∃ Z,decide (es[m].seq<=s)=Z:=⟨_,rfl⟩;have HZ:=ah hZ;clear hZ
   cases Z
   all_goals
    go_wp2_with (go_at_call 186;refine(CG bl bs A c es s m _ (HD.o.aL.cell H1.o id) (HD.o.aL.cell H2.o id) (HR.o.new HD.o.aL) hml).mono ?_;rintro x w1 ⟨rfl,k1⟩;rw[HZ.o];have HK:=ah (HD.o.aL.tr k1);clear k1);go_roundw
   .exact⟨m+1,j,by omega,by omega,by push_cast;rfl,rfl,⟨fun a ha h2 h3=>of_decide_eq_false HZ.o (HM.o a m ha hml (by omega) h3),HD.o.hi,HK.o⟩⟩
   .simp[intOf];omega
   .exact⟨i,m,by omega,by omega,rfl,rfl,⟨HD.o.lo,fun a ha h2=>HM.o m a hml ha h2 (of_decide_eq_true HZ.o),HK.o⟩⟩
   .simp[intOf];omega
  .have hij2:i=j:=by omega
   subst hij2;go_wp2_with fail;go_ret;refine⟨?_,HD.o.aL⟩;rw[Au hj (fun a ha h2=>HD.o.lo a ha h2) (fun h=>HD.o.hi i h (Nat.le_refl _))];rfl
def gw (es:List En) (snaps:List Int):List Bool:=snaps.foldl (fun b s=>b.set (lF s es) true) ((List.replicate es.length false).set 0 true)
theorem zR (es:List En): ∀ (snaps:List Int) (b:List Bool),(snaps.foldl (fun b s=>b.set (lF s es) true) b).length=b.length
 | [],b=>rfl
 | s::snaps,b=>by rw[List.foldl_cons,zR es snaps,List.length_set]
theorem nL (es:List En) (snaps:List Int):(gw es snaps).length=es.length:=by unfold gw;rw[zR,List.length_set,List.length_replicate]
theorem yn (es:List En) (snaps:List Int) (s:Int):gw es (snaps++[s])=(gw es snaps).set (lF s es) true:=by unfold gw;rw[List.foldl_append];rfl
theorem sS (l:List Bool) (k:Nat) (b:Bool):(l.set k b).map Value.bool=(l.map Value.bool).set k (.bool b):=by rw[List.map_set]
section
variable {w0 w:World} {F:SP}
def Bg (w0:World) (es:List En) (snaps:List Int) (k g:Nat) (bl:Nat) (A:Option Addr) (c:Nat) (wr:World):Prop:=Sat w0 (Row 4 1 (.slice (some ⟨g,0,none⟩) es.length es.length) es.length ((gw es (snaps.take k)).map Value.bool)*(Pt bl 116 #[.slice A es.length c]*bF)) wr
theorem Ki (A:Option Addr) (c:Nat) (es:List En) (SA:Option Addr) (sc:Nat) (snaps:List Int) (w:World) (hr:aF w A (es.flatMap bV)) (hs:aF w SA (snaps.map fun x=> .int .i64 x)) (hn:1<=es.length/\es.length<=1000000) (hsn:snaps.length<=1000000)
 (hmono: ∀ (s:Int) (a b:Nat) (ha:a<es.length) (hb:b<es.length),a<=b->es[a].seq<=s->es[b].seq<=s):
 Calls Tryz.prog 152 #[.slice A es.length c,.slice SA snaps.length sc] w fun x w'=> ∃ g,x = .returned (.slice (some ⟨g,0,none⟩) es.length es.length)/\Sat w (Row 4 1 (.slice (some ⟨g,0,none⟩) es.length es.length) es.length ((gw es snaps).map Value.bool)*bF) w':=by
 have s1:=(Sat.start w).ab 116 #[.slice A es.length c];have HR:=ah hr;have HSn:=ah hs;have HM:=ah hmono;have HMk:=ah (fun W=>wa es.length hn.2 W);obtain⟨hn1,hn2⟩:=hn;clear hr hs hmono;have s2:=s1.bO (b:=w.heap.size+1) 4 (gH (.bool false) es.length) (by simp);have s3:=s2.dN (n:=es.length) (cap:=es.length) (size:=1) (Nat.le_refl _) (by unfold maxLen;omega) (by unfold gH;simp);have e3:(gH (.bool false) es.length).toList.take (es.length*1)=(List.replicate es.length false).map Value.bool:=by unfold gH;simp
 rw[e3] at s3;have s5:=s1.bO (b:=w.heap.size+1) 4 ((gH (.bool false) es.length).setIfInBounds 0 (.bool true)) (by simp);have s4:=s5.dN (n:=es.length) (cap:=es.length) (size:=1) (Nat.le_refl _) (by unfold maxLen;omega) (by unfold gH;simp);have e4:((gH (.bool false) es.length).setIfInBounds 0 (.bool true)).toList.take (es.length*1)=((List.replicate es.length false).set 0 true).map Value.bool:=by
  unfold gH;rw[sS,List.map_replicate,Nat.mul_one,Array.toList_setIfInBounds,List.take_of_length_le (by simp)]
 rw[e4] at s4;have f0:=s3.kF 0;have c0:=s3.kx (j:=0) (by simp;omega);simp only[List.getElem_map,List.getElem_replicate] at c0;have q0:=HMk.o;have hne:¬ ((es.length:Int)=0):=by omega
 go_enter Tryz.func152, Tryz.ntmps152;go_upto_region 3 with fail;clear f0 c0 q0 hne s2 s3 e3 s5 e4 s1;revert s4;generalize World.alloc (World.alloc w _) _=w3;generalize w.heap.size+1=g;generalize w.heap.size=bl;intro s4;have HS4:Hid (Bg w es snaps 0 g bl A c w3):=s4;clear s4;go_wp2_with fail;go_loopw [16] (fun iv wr=> ∃ k:Nat,k<=snaps.length/\iv = .int .i64 k/\Hid (Bg w es snaps k g bl A c wr)) (fun iv _=>snaps.length - (intOf iv).toNat)
 case atStart=>exact⟨0,by omega,rfl,HS4.o⟩
 case round=>
  obtain⟨k,hk,rfl,HD⟩:=hrel;by_cases hlt:k<snaps.length
  .obtain⟨sb,so,rfl,hsc⟩:=(HSn.o.new (Sat.aL HD.o)).get (j:=k) (by simpa using hlt);simp only[List.getElem_map] at hsc;obtain⟨q,hq⟩: ∃ q,snaps[k]=q:=⟨_,rfl⟩;have HQe:Hid (snaps.take (k+1)=snaps.take k++[q]):=by
    unfold Hid;rw[List.take_add_one,List.getElem?_eq_getElem hlt,hq];rfl
   rw[hq] at hsc;clear hq;have s6:=Sat.ab HD.o 3 #[.int .i64 q];have c1:=s6.bp.cell 0;have HSe:Hid (Calls Tryz.prog 183 #[.int .i64 (es.length:Int),.func (.func 186) #[] #[.pointer (some ⟨bl,0,none⟩),.pointer (some ⟨wr.heap.size,0,none⟩)]] (wr.alloc (.cells #[.int .i64 q] 3)) fun x w'=>x = .returned (.int .i64 (lF q es:Nat))/\ao No (wr.alloc (.cells #[.int .i64 q] 3)) w'):=
    BV bl wr.heap.size A c es q _ c1 (s6.cell 0) (HR.o.new s6.aL) hn2 (HM.o q)
   have HS6:=ah s6;have hf:lF q es<=es.length:=List.findIdx_le_length;obtain⟨z,hz⟩: ∃ z,lF q es=z:=⟨_,rfl⟩;have HNx:Hid (gw es (snaps.take (k+1))=(gw es (snaps.take k)).set z true):=by
    unfold Hid;rw[HQe.o,yn,hz]
   rw[hz] at HSe hf;clear hz s6;have hml:=nL es (snaps.take k);by_cases hzn:z<es.length
   .have hzi:(z:Int)<es.length:=by omega
    go_wp2_with (go_at_call 183;(with_reducible refine HSe.o.mono ?_);rintro x w7 ⟨rfl,k7⟩;have HS7:=ah (HS6.o.new k7);have c2:=HS7.o.bp.cell 0;have c3:=HS7.o.ay.kx (j:=z) (by rw[List.length_map,hml];exact hzn);have f3:=HS7.o.ay.kF z;clear k7);have h9:=HS7.o.ay.pC (j:=z) (.bool true);rw[<-sS, <-HNx.o] at h9;go_roundw
    .exact⟨k+1,by omega,by go_num,Sat.right (A:=Pt wr.heap.size 3 #[.int .i64 q]) (h9.of (by ac_rfl))⟩
    .simp[intOf];omega
   .have hzi:¬ (z:Int)<es.length:=by omega
    have HNy:Hid ((gw es (snaps.take k)).set z true=gw es (snaps.take k)):=List.set_eq_of_length_le (by omega);go_wp2_with (go_at_call 183;(with_reducible refine HSe.o.mono ?_);rintro x w7 ⟨rfl,k7⟩;have HS7:=ah (HS6.o.new k7);have c2:=HS7.o.bp.cell 0;clear k7);go_roundw
    .refine⟨k+1,by omega,by go_num,?_⟩;unfold Hid Bg;rw[HNx.o,HNy.o];exact HS7.o.right
    .simp[intOf];omega
  .have hke:snaps.take k=snaps:=List.take_of_length_le (by omega);go_wp2_with fail;go_ret;refine⟨g,rfl,?_⟩;have h9:=HD.o;unfold Bg at h9;rw[hke] at h9;exact Sat.right (A:=Pt bl 116 #[.slice A es.length c]) (h9.of (by ac_rfl))
theorem Ec (A:Option Addr) (c:Nat) (es:List En) (SA:Option Addr) (sc:Nat) (snaps:List Int) (h:Sat w0 F w) (hr:aF w A (es.flatMap bV)) (hs:aF w SA (snaps.map fun x=> .int .i64 x)) (hn:1<=es.length/\es.length<=1000000) (hsn:snaps.length<=1000000)
 (hmono: ∀ (s:Int) (a b:Nat) (ha:a<es.length) (hb:b<es.length),a<=b->es[a].seq<=s->es[b].seq<=s):
 Calls Tryz.prog 152 #[.slice A es.length c,.slice SA snaps.length sc] w fun x w'=> ∃ g,x = .returned (.slice (some ⟨g,0,none⟩) es.length es.length)/\Sat w0 (Row 4 1 (.slice (some ⟨g,0,none⟩) es.length es.length) es.length ((gw es snaps).map Value.bool)*F) w'/\ao No w w':=by
 refine(Ki A c es SA sc snaps w hr hs hn hsn hmono).mono ?_;rintro x w' ⟨g,rfl,hs⟩;exact⟨g,rfl,(h.join hs (ba (bH _ _ _ _ _) df)).of (by rw[aB,bf]),hs.aL⟩
end
def mS {α:Type}:List Bool->List α->List α
 | true::bs,x::l=>x::mS bs l
 | false::bs,x::l=>mS bs l
 | _,_=>[]
theorem qY {α:Type}: ∀ (bs:List Bool) (l:List α) (b:Bool) (x:α),bs.length=l.length->mS (bs++[b]) (l++[x])=mS bs l++(if b=true then [x] else [])
 | [],[],true,x,_=>rfl
 | [],[],false,x,_=>rfl
 | [],y::l,b,x,h=>by cases h
 | a::bs,[],b,x,h=>by cases h
 | true::bs,y::l,b,x,h=>by show y::mS (bs++[b]) (l++[x])=y::(mS bs l++_);rw[qY bs l b x (by simpa using h)]
 | false::bs,y::l,b,x,h=>qY bs l b x (by simpa using h)
theorem xe (snaps:List Int): ∀ (g:List aq) (q:Option Int) (bs:List Bool),bs.length=g.length->(∀ i (h:i<g.length) (h':i<bs.length),bs[i]=ot snaps (if hi:i=0 then q else some (g[i - 1]'(by omega)).seq) g[i])->mS bs g=cU snaps q g
 | [],q,[],_,_=>rfl
 | [],q,b::bs,h,_=>by cases h
 | x::g,q,[],h,_=>by cases h
 | x::g,q,b::bs,h,hb=>by
  have h0:=hb 0 (by simp) (by simp);simp only[List.getElem_cons_zero,dif_pos] at h0;have ih:=xe snaps g (some x.seq) bs (by simpa using h) (fun i hi hi'=>by
   have h1:=hb (i+1) (by simp;omega) (by simp;omega);simp only[List.getElem_cons_succ] at h1;rw[h1];congr 1
   rw[dif_neg (by omega)];by_cases hz:i=0
   .subst hz;rw[dif_pos rfl];rfl
   .rw[dif_neg hz];obtain⟨j,rfl⟩: ∃ j,i=j+1:=⟨i - 1,by omega⟩;rfl)
  show mS (b::bs) (x::g)=if ot snaps q x=true then x::cU snaps (some x.seq) g else cU snaps (some x.seq) g
  rw[<-h0, <-ih]
  cases b<;>rfl
def zU (es:List En):Prop:= ∀ (a b:Nat) (ha:a<es.length) (hb:b<es.length),a<b->es[b].seq<es[a].seq
theorem Fm (es:List En): ∀ (snaps:List Int) (b:List Bool) (i:Nat) (h:i<b.length) (h':i<(snaps.foldl (fun b s=>b.set (lF s es) true) b).length),(snaps.foldl (fun b s=>b.set (lF s es) true) b)[i]=(b[i] || snaps.any fun s=>decide (lF s es=i))
 | [],b,i,h,h'=>by simp
 | s::snaps,b,i,h,h'=>by
  simp only[List.foldl_cons];rw[Fm es snaps _ i (by rw[List.length_set];exact h) (by simpa using h'),List.getElem_set,List.any_cons, <-Bool.or_assoc];congr 1
  by_cases hs:lF s es=i
  .rw[if_pos hs,decide_eq_true hs,Bool.or_true]
  .rw[if_neg hs,decide_eq_false hs,Bool.or_false]
theorem Ib {es:List En} (hd:zU es) {s:Int} {i:Nat} (hi:i+1<es.length):lF s es=i+1↔es[i+1].seq<=s/\s<es[i].seq:=by
 constructor
 .intro h;have h1:lF s es<es.length:=by omega
  have h2:decide (es[i+1].seq<=s)=true:=by
   have h5:=List.findIdx_getElem (xs:=es) (p:=fun e:En=>decide (e.seq<=s)) (w:=show List.findIdx (fun e:En=>decide (e.seq<=s)) es<es.length from h1);have e:List.findIdx (fun e:En=>decide (e.seq<=s)) es=i+1:=h;simp only[e] at h5;exact h5
  have h3:=List.not_of_lt_findIdx (p:=fun e=>decide (e.seq<=s)) (xs:=es) (i:=i) (by show i<lF s es;omega);exact⟨of_decide_eq_true h2,by simpa using h3⟩
 .rintro ⟨h1,h2⟩;refine Au (by omega) (fun m hm hmi=>?_) (fun _=>h1);rcases Nat.lt_or_ge m i with h3 | h3
  .have:=hd m i hm (by omega) h3;omega
  .obtain rfl:m=i:=by omega
   omega
theorem D7 {es:List En} (hd:zU es) (snaps:List Int):mS (gw es snaps) (es.map En.ak)=cU snaps none (es.map En.ak):=by
 refine xe snaps _ none _ (by rw[nL,List.length_map]) (fun i h h'=>?_);have hl:i<es.length:=by simpa using h
 have e0:(gw es snaps)[i]=_:=Fm es snaps ((List.replicate es.length false).set 0 true) i (by simpa using hl) h';rw[e0,List.getElem_set]
 cases i with
 | zero=>rw[if_pos rfl,dif_pos rfl];rfl
 | succ i=>
  rw[if_neg (by omega),List.getElem_replicate,dif_neg (by omega),Bool.false_or];show _=snaps.any fun s=>decide (((es.map En.ak)[i+1]).seq<=s) && decide (s<((es.map En.ak)[i+1 - 1]'(by simp;omega)).seq)
  congr 1
  funext s
  have h1:=Ib hd (s:=s) hl;simp only[List.getElem_map];rw[Bool.eq_iff_iff,Bool.and_eq_true,decide_eq_true_iff,decide_eq_true_iff,decide_eq_true_iff,h1];rfl
theorem CM {w:World} {A:Option Addr} {c n:Nat} {es:List En} (h:aF w A (es.flatMap bV)) (hn:n<=es.length) (hc:es.length<=c):aF w (if c=n then A else A.map (·.add (n*4))) ((es.drop n).flatMap bV):=by
 have h1:=aF.drop h (k:=n*4) (cap:=c*4) (by rw[dD eF];omega) (by rw[dD eF];omega);have h2:(es.flatMap bV).drop (n*4)=(es.drop n).flatMap bV:=by
  clear h h1 hc
  induction n generalizing es with
  | zero=>simp
  | succ n ih=>
   cases es with
   | nil=>simp
   | cons e es=>
    rw[List.flatMap_cons,List.drop_succ_cons,show (n+1)*4=(bV e).length+n*4 by rw[eF];omega, <-List.drop_drop,List.drop_left];exact ih (by simpa using hn)
 rw[h2] at h1;by_cases e:c=n
 .rw[if_pos e];rw[if_pos (by omega)] at h1;exact h1
 .rw[if_neg e];rw[if_neg (by omega)] at h1;exact h1
theorem Ci {w:World} {A:Option Addr} {n:Nat} {es:List En} (h:aF w A (es.flatMap bV)) (hn:n<=es.length):aF w A ((es.take n).flatMap bV):=by
 have h1:=aF.take h (n*4);have h2:(es.flatMap bV).take (n*4)=(es.take n).flatMap bV:=by
  clear h h1
  induction n generalizing es with
  | zero=>simp
  | succ n ih=>
   cases es with
   | nil=>simp
   | cons e es=>
    rw[List.flatMap_cons,List.take_succ_cons,List.flatMap_cons,show (n+1)*4=(bV e).length+n*4 by rw[eF];omega,List.take_length_add_append];rw[ih (by simpa using hn)]
 rwa [h2] at h1
end Go.Proofs.YtmbaiglpgaoogaaGreat
