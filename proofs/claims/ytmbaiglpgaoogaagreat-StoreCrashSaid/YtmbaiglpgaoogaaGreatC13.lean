/- Joined, as they were built one by one: TabBuild MemTab TabOpenP TabLaw AppG Mrg1 Mrg2 MemBest MemG. -/
import Derived.Lib.SlBytesConst
import Derived.Test.YtmbaiglpgaoogaaGreatC01
import Derived.Test.YtmbaiglpgaoogaaGreatC02
import Derived.Test.YtmbaiglpgaoogaaGreatC04
import Derived.Test.YtmbaiglpgaoogaaGreatC05
import Derived.Test.YtmbaiglpgaoogaaGreatC12
set_option maxHeartbeats 16000000
set_option linter.unusedVariables false
set_option maxRecDepth 100000
namespace Go.Proofs.YtmbaiglpgaoogaaGreat
open Go.RowKit Z
theorem rR (al:List UInt8) (e:aw) (hk:e.key.length<=128) (hv:e.value.length<=16384):(jY al e).length<=16525:=by
 unfold jY;simp[aB];omega
theorem DJ (L:List aw) (i:Nat) (h: ∀ e ∈ L,e.key.length<=128/\e.value.length<=16384):(kF L i).length<=16525:=by
 unfold kF;split
 .rename_i e he;have:=h e (List.mem_of_getElem? he);exact rR _ _ this.1 this.2
 .simp
theorem oq (L:List aw) (h: ∀ e ∈ L,e.key.length<=128/\e.value.length<=16384): ∀ k,(dp L k).length<=8+k*16525
 | 0=>by simp[dp,dT,aB]
 | k+1=>by
  have h1:=oq L h k;have h2:=DJ L k h;rw[kz,List.length_append];omega
theorem uv (L:List aw) (i:Nat) (h: ∀ e ∈ L,e.key.length<=128/\e.value.length<=16384):(mF L i).length<=133:=by
 unfold mF;split
 .rw[List.length_append,List.length_append,aB]
  cases hq:L[i]? with
  | none=>simp
  | some e=>have:=h e (List.mem_of_getElem? hq);simp;omega
 .simp
theorem rB (L:List aw) (h: ∀ e ∈ L,e.key.length<=128/\e.value.length<=16384): ∀ k,(fL L k).length<=4+k*133
 | 0=>by simp[fL,aB]
 | k+1=>by
  have h1:=rB L h k;have h2:=uv L k h;rw[lX,List.length_append];omega
theorem oJ (L:List aw):(gY L).length=dN (dh L L.length).length 10:=by
 unfold gY;rw[sZ,List.length_replicate]
theorem en {a b c:List UInt8} (h:c=a++b):a.length+b.length=c.length/\a.map bv++b.map bv=c.map bv:=by
 subst h;exact⟨List.length_append.symm,List.map_append.symm⟩
theorem ir {e:aw}:gM e=true↔e.key.length<=128/\e.value.length<=16384/\(e.dead=true->e.value.length=0)/\0<=e.seq:=by
 unfold gM
 cases e.dead<;>simp
theorem vI {es:List En} {i:Nat} (h:i<es.length):(es.map En.ao)[i]?=some es[i].ao:=by rw[List.getElem?_map,List.getElem?_eq_getElem h];rfl
theorem xd {es:List En} {i:Nat} (h:i<es.length) (h8:i % 8=0):kF (es.map En.ao) i=jY [] es[i].ao:=by
 unfold kF lB;rw[vI h,if_pos h8]
theorem Bj {es:List En} {i:Nat} (h:i+1<es.length) (h8:¬ (i+1) % 8=0):kF (es.map En.ao) (i+1)=jY es[i].key.2.2 es[i+1].ao:=by
 unfold kF lB;rw[vI h,if_neg h8,Nat.add_sub_cancel,vI (show i<es.length by omega)];rfl
theorem wN {es:List En} {i:Nat} (h:i<es.length) (h8:i % 8=0):mF (es.map En.ao) i=(ai (dp (es.map En.ao) i).length 4++[UInt8.ofNat es[i].key.2.2.length])++es[i].key.2.2:=by
 unfold mF;rw[if_pos h8,vI h,List.append_assoc];rfl
theorem zM {es:List En} {i:Nat} (h8:¬ i % 8=0):mF (es.map En.ao) i=[]:=by
 unfold mF;rw[if_neg h8]
theorem MA (a:cW) (e:En) (EB:List UInt8) (hEB:jY a.2.2 e.ao=EB) (w0 w:World) (F:SP) (h:Sat w0 F w) (ha:Rd w a.1 a.2.2) (he:pJ w e) (hal:a.2.2.length<=128) (hkl:e.key.2.2.length<=128) (hkc:e.key.2.2.length<=e.key.2.1) (hkm:e.key.2.1<=maxLen) (hvl:e.value.2.2.length<=16384) (hsq:0<=e.seq/\e.seq<9223372036854775808):
 Calls Tryz.prog 179 #[.slice a.1 a.2.2.length a.2.1,.agg #[.slice e.key.1 e.key.2.2.length e.key.2.1,.slice e.value.1 e.value.2.2.length e.value.2.1,.int .i64 e.seq,.bool e.dead]] w fun x w'=> ∃ A c,x = .returned (.slice A EB.length c)/\Sat w0 (Row 5 1 (.slice A EB.length c) EB.length (EB.map bv)*F) w':=by
 subst hEB;exact(FO a e w0 w F h ha he hal hkl hkc hkm hvl hsq).mono fun _ _ ⟨A,c,e,_,_,hs⟩=>⟨A,c,e,hs⟩
theorem I9 (w3:World) {a b:Nat} {A3:Option Addr} {c3:Nat} {l m:List UInt8} (h1:Rd w3 (some ⟨a,0,none⟩) l) (h2:Rd w3 A3 m):sQ (w3.alloc (.cells #[.slice (some ⟨a,0,none⟩) l.length b,.slice A3 m.length c3] 41)) (some ⟨w3.heap.size,0,none⟩) [(some ⟨a,0,none⟩,b,l),(A3,c3,m)]:=by
 refine⟨?_,fun x hx=>?_⟩
 .have:=aL w3 #[.slice (some ⟨a,0,none⟩) l.length b,.slice A3 m.length c3] 41;simpa [aE] using this
 .simp only[List.mem_cons,List.not_mem_nil,or_false] at hx;rcases hx with rfl | rfl
  .exact h1.alloc _
  .exact h2.alloc _
theorem rz (n:Nat) (hn:n<9223372036854775808) (w0 w:World) (F:SP) (h:Sat w0 F w):Calls Tryz.prog 178 #[.int .i64 (n:Int)] w fun e w'=> ∃ A c,e = .returned (.slice A (ai n 4).length c)/\Sat w0 (Row 5 1 (.slice A (ai n 4).length c) (ai n 4).length ((ai n 4).map bv)*F) w':=
 (Ft n hn w0 w F h).mono fun _ _ ⟨A,c,e,_,_,hs⟩=>⟨A,c,e,hs⟩
theorem Lc {w0 w:World} {g:Nat} {F:SP} (n:Nat) (hn:n<=128) (h:Sat w0 (Pt g 5 #[.int .u8 (n:Int)]*F) w):Rd w (some ⟨g,0,none⟩) [UInt8.ofNat n]:=aH.jC h.at fun j hj=>by
 have hn:((UInt8.ofNat n).toNat:Int)=n:=by rw[UInt8.toNat_ofNat',Nat.mod_eq_of_lt (by omega)]
 have e:([UInt8.ofNat n].map bv)=[.int .u8 (n:Int)]:=by
  unfold bv;rw[List.map_cons,List.map_nil,hn]
 simp only[e];rw[<-List.getElem?_eq_getElem (by rw[e] at hj;exact hj)];simp
theorem FW {B:List UInt8} {w w':World} {e:Ending} (h:Told B w e w'): ∃ A c,e = .returned (.slice A B.length c)/\w'.ownsRow w.heap.size 5 1 (.slice A B.length c) B.length (B.map bv)/\aq No w w':=by
 obtain⟨x,cap,cur,rfl,h1,h2,h3,h4,h5,h6,h7⟩:=h;refine⟨_,_,rfl,⟨by simp,.inr ⟨x,cap,cur,rfl,h1,h2,h4,h5,by rw[h3,Nat.mul_one],?_⟩⟩,h7⟩;have hc:cur.toList.length=cap:=by simp[h3]
 apply List.ext_getElem
 .rw[List.length_take,hc,List.length_map];omega
 .intro j hj hj2;rw[List.length_map] at hj2;obtain⟨_,e⟩:=Array.getElem?_eq_some_iff.1 (h6 j hj2);rw[List.getElem_take,List.getElem_map, <-e,Array.getElem_toList]
theorem GK (es:List En) (hn:es.length<=65536):(gY (es.map En.ao)).length<=262144:=by
 rw[oJ];have:=gU (es.map En.ao) (es.map En.ao).length;have e:(es.map En.ao).length<=65536:=by simpa using hn
 exact(jz _ 10 ⟨by omega,by omega,by omega,by omega⟩).2.2
theorem J9 {L:List aw} {n:Nat} {b x c d1 d2 d3 d4:List UInt8} (hn:L.length=n) (hb:dp L n=b) (hx:fL L n=x) (hc:c=b++x) (h1:d1=c++ai (gY L).length 4) (h2:d2=d1++gY L) (h3:d3=d2++ai b.length 4) (h4:d4=d3++ai c.length 4):aR L=d4++ai (vZ d4) 4:=by
 subst hn hb hx hc h1 h2 h3 h4;rfl
def yL (L:List aw) (w:World) (x:Ending) (w':World):Prop:=
 (cd L≠0/\x = .returned (.tuple #[.slice none 0 0,.int .i64 (cd L:Nat)])/\aq No w w')\/
 (cd L=0/\ ∃ A c,x = .returned (.tuple #[.slice A (aR L).length c,.int .i64 0])/\(aR L).length<=c/\c<=maxLen/\Sat w (Row 5 1 (.slice A (aR L).length c) (aR L).length ((aR L).map bv)*aV) w')
structure Mm (w:World) (L:List aw) (i:Nat) (vb vx:Value) (wr:World):Prop where
 sat:Sat w (Row 5 1 vb (dp L i).length ((dp L i).map bv)*(Row 5 1 vx (fL L i).length ((fL L i).map bv)*aV)) wr
theorem EV (L:List aw):dp L 0=dT++ai L.length 4:=by simp[dp]
theorem FK (L:List aw):fL L 0=ai ((L.length+7) / 8) 4:=by simp[fL]
theorem tD (A:Option Addr) (c:Nat) (es:List En) (w:World) (h:aH w A (es.flatMap cu)) (hr:jH w es) (hc:es.length<=c) (hm:c<=maxLen) (hsh: ∀ e ∈ es,e.key.2.2.length<=140737488355328/\e.value.2.2.length<=140737488355328/\e.key.2.2.length<=e.key.2.1/\e.key.2.1<=maxLen) (hi64: ∀ e ∈ es,e.seq<9223372036854775808):
 Calls Tryz.prog 142 #[.slice A es.length c] w (yL (es.map En.ao) w):=by
 obtain⟨j0,hj,hy0,hy1,hy2⟩:=info_parts gL;have Hj:=ah hj;have Hy0:=ah hy0;have Hy1:=ah hy1;have Hy2:=ah hy2;have HL:=ah h;have HR:=ah hr;have HM:=ah hm;have HI64:=ah hi64;have HSh:=ah hsh;have HSh2:Hid (∀ e ∈ es,e.key.2.2.length<=140737488355328/\e.value.2.2.length<=140737488355328):=fun e he=>⟨(hsh e he).1,(hsh e he).2.1⟩
 obtain⟨L,hLe⟩: ∃ L,L=es.map En.ao:=⟨_,rfl⟩;have HLe:=ah hLe;have hlen:L.length=es.length:=by rw[hLe,List.length_map]
 rw[<-hLe];unfold maxLen at hm;clear h hr hsh hi64 hj hy0 hy1 hy2 hLe;obtain⟨Q,hQ⟩: ∃ Q,cd L=Q:=⟨_,rfl⟩;have HQ:Hid (yL L w=fun x w'=>(Q≠0/\x = .returned (.tuple #[.slice none 0 0,.int .i64 (Q:Nat)])/\aq No w w')\/(Q=0/\ ∃ A c,x = .returned (.tuple #[.slice A (aR L).length c,.int .i64 0])/\(aR L).length<=c/\c<=maxLen/\Sat w (Row 5 1 (.slice A (aR L).length c) (aR L).length ((aR L).map bv)*aV) w')):=by
  unfold Hid yL;rw[hQ]
 rw[HQ.o];have HBE:=ah hQ;have HLen:=ah hlen;clear hQ hlen;obtain⟨S,hS⟩: ∃ S,dR L=S:=⟨_,rfl⟩;have HSo:Hid (dR (es.map En.ao)=S):=by rw[<-HLe.o];exact hS
 have HSo2:=ah hS;clear hS
 cases S
 .have hq:Q=70:=by rw[<-HBE.o];unfold cd;rw[if_pos HSo2.o]
  subst hq;go_enter Tryz.func142, Tryz.ntmps142;go_wp2_with (go_at_call 151;refine(gV A c es w HL.o HR.o hc HM.o).mono ?_;rintro x w1 ⟨rfl,k1⟩;rw[HSo.o];have HK:=ah k1;clear k1);go_ret2;exact .inl ⟨by decide,rfl,HK.o⟩
 .by_cases hbig:65536<es.length
  .have hq:Q=71:=by rw[<-HBE.o];unfold cd;rw[if_neg (by rw[HSo2.o];simp),if_pos (.inl (by rw[HLen.o];exact hbig))]
   subst hq;have hbi:(65536:Int)<es.length:=by omega
   go_enter Tryz.func142, Tryz.ntmps142;go_wp2_with (go_at_call 151;refine(gV A c es w HL.o HR.o hc HM.o).mono ?_;rintro x w1 ⟨rfl,k1⟩;rw[HSo.o];have HK:=ah k1;clear k1);go_ret2;exact .inl ⟨by decide,rfl,HK.o⟩
  .have hbi:¬ (65536:Int)<es.length:=by omega
   obtain⟨Y,hY⟩: ∃ Y,(es.map En.ao).any (fun e=> !gM e)=Y:=⟨_,rfl⟩;have HY:=ah hY;clear hY
   cases Y
   case true=>
    have hq:Q=71:=by rw[<-HBE.o];unfold cd;rw[if_neg (by rw[HSo2.o];simp),if_pos (.inr (by rw[HLe.o];exact HY.o))]
    subst hq;go_enter Tryz.func142, Tryz.ntmps142;go_wp2_with (first
     | (go_at_call 151;refine(gV A c es w HL.o HR.o hc HM.o).mono ?_;rintro x w1 ⟨rfl,k1⟩;rw[HSo.o];have HK:=ah k1;clear k1)
     | (go_at_call 175;refine(mx A c es w1 (HL.o.new HK.o) hc HM.o HSh2.o).mono ?_;rintro x w2 ⟨rfl,k2⟩;rw[HY.o];have HK2:=ah (HK.o.tr k2);clear k2))
    go_ret2;exact .inl ⟨by decide,rfl,HK2.o⟩
   case false=>
    have hq:Q=0:=by rw[<-HBE.o];unfold cd;rw[if_neg (by rw[HSo2.o];simp),if_neg (by rw[HLe.o,HY.o];rw[HLe.o] at HLen;have:=HLen.o;intro h;rcases h with h | h;omega;cases h)]
    have HMay:Hid (∀ e ∈ es,e.key.2.2.length<=128/\e.value.2.2.length<=16384/\0<=e.seq):=fun e he=>by
     have h1:=HY.o;rw[List.any_eq_false] at h1;have h2:=h1 e.ao (List.mem_map.2 ⟨e,he,rfl⟩);have h3:=ir.1 (by simpa using h2);exact⟨h3.1,h3.2.1,h3.2.2.2⟩
    have HMx:Hid (∀ e ∈ L,e.key.length<=128/\e.value.length<=16384):=fun e he=>by
     rw[HLe.o] at he;obtain⟨x,hx,rfl⟩:=List.mem_map.1 he;have:=HMay.o x hx;exact⟨this.1,this.2.1⟩
    subst hq;have hcv:=fun (W:World) (C:Array Value) (n c:Nat)=>Lib.run_convert_bytes_const (P:= Tryz.prog) W 41 5 C n c Tryz.underlying41 Tryz.underlying5
    have hLn:=HLen.o;have hq8:((es.length:Int)+8 - 1).tdiv 8=(((es.length+7) / 8:Nat):Int):=by
     rw[Int.tdiv_eq_ediv_of_nonneg (by omega)];omega
    have HZ0:Hid (dp L 0=dT++ai es.length 4):=by rw[<-HLen.o];exact EV L
    have HZ1:Hid (fL L 0=ai ((es.length+7) / 8) 4):=by rw[<-HLen.o];exact FK L
    clear hLn;go_enter Tryz.func142, Tryz.ntmps142;go_upto_region 5 with (first
     | (go_at_call 151;refine(gV A c es w HL.o HR.o hc HM.o).mono ?_;rintro x w1 ⟨rfl,k1⟩;rw[HSo.o];have HK:=ah k1;clear k1)
     | (go_at_call 175;refine(mx A c es w1 (HL.o.new HK.o) hc HM.o HSh2.o).mono ?_;rintro x w2 ⟨rfl,k2⟩;rw[HY.o];have HK2:=ah (HK.o.tr k2);clear k2))
    have HMk:Hid (Rd (w2.alloc (.cells #[.int .u8 84,.int .u8 68,.int .u8 84,.int .u8 49] 5 (4,5))) (some ⟨w2.heap.size,0,none⟩) dT):=aH.lit w2 #[.int .u8 84,.int .u8 68,.int .u8 84,.int .u8 49] 5 (4,5);have HKM:Hid (aq No w (w2.alloc (.cells #[.int .u8 84,.int .u8 68,.int .u8 84,.int .u8 49] 5 (4,5)))):=HK2.o.alloc _;go_upto_region 6 with (first
     | (go_at_call 178;refine(rz es.length (by omega) _ _ aV (Sat.start _)).mono ?_;rintro x w3 ⟨A3,c3,rfl,hs3⟩;have HS3:=ah hs3;clear hs3)
     | (go_at_call 61;refine(eY (some ⟨w3.heap.size,0,none⟩) 2 [(some ⟨w2.heap.size,0,none⟩,4,dT),(A3,c3,ai es.length 4)] _ (I9 w3 (HMk.o.new HS3.o.aP) (aH.bO HS3.o.aS)) (by simp[bT,dT,aB]) (show 2<=140737488355328 by omega)).mono ?_;rintro x w4 ⟨vv,rfl,ho,k4⟩;rw[show (bT [(some ⟨w2.heap.size,0,none⟩,4,dT),(A3,c3,ai es.length 4)]).flatten=dp L 0 by rw[HZ0.o];simp[bT]] at ho;obtain⟨A4,c4,rfl, -⟩:=lp ho;have K4:=(HKM.o.tr HS3.o.aP).tr (((aq.refl No w3).alloc _).tr k4);have HS4:=ah ((Sat.start w).dP K4 (js ho (by rw[World.size_alloc];have:=(HKM.o.tr HS3.o.aP).size;omega)));clear ho k4 K4))
    go_upto_region 7 with (go_at_call 178;refine(rz ((es.length+7) / 8) (by omega) w _ _ HS4.o).mono ?_;rintro x w5 ⟨A5,c5,rfl,hs5⟩;rw[<-HZ1.o] at hs5 ⊢;have HS5:=ah hs5.av;clear hs5)
    go_wp2_with fail;go_loopw [4,5,37] (fun vb vx iv wr=> ∃ i:Nat,i<=es.length/\iv = .int .i64 i/\Hid (Mm w L i vb vx wr)) (fun _ _ iv _=>es.length - (intOf iv).toNat)
    case atStart=>exact⟨0,by omega,rfl,⟨HS5.o⟩⟩
    case round=>
     obtain⟨i,hi,rfl,HD⟩:=hrel;obtain⟨AB,cb,rfl,hb1,hb2⟩:=HD.o.sat.aT;obtain⟨AX,cx,rfl,hx1,hx2⟩:=HD.o.sat.av.aT;have hBl:=oq L HMx.o i;have hXl:=rB L HMx.o i;by_cases hlt:i<es.length
     .obtain⟨lb,lo,rfl,hq⟩:=eh HL.o (by omega);obtain⟨z0,z1,z2,z3⟩:=hq i hlt;have a0:=HD.o.sat.aP.cell z0 id;have a1:=HD.o.sat.aP.cell z1 id;have a2:=HD.o.sat.aP.cell z2 id;have a3:=HD.o.sat.aP.cell z3 id;unfold aO at a0 a1;have HE:=ah (HR.o _ (List.getElem_mem hlt));have HMi:=ah (HMay.o _ (List.getElem_mem hlt));have HSi:=ah (HSh.o _ (List.getElem_mem hlt));have HSq:Hid (0<=es[i].seq/\es[i].seq<9223372036854775808):=⟨HMi.o.2.2,HI64.o _ (List.getElem_mem hlt)⟩;have HSE:=ah (HD.o.sat.af 120 #[.slice es[i].key.1 es[i].key.2.2.length es[i].key.2.1,.slice es[i].value.1 es[i].value.2.2.length es[i].value.2.1,.int .i64 es[i].seq,.bool es[i].dead]);have e0:=HSE.o.cell 0;have e1:=HSE.o.cell 1;have e2:=HSE.o.cell 2;have e3:=HSE.o.cell 3;by_cases h8:i % 8=0
      .have hm1:(i:Int) % 8=0:=by omega
       have hm2:(i:Int).tmod 8=0:=by rw[Int.tmod_eq_emod_of_nonneg (by omega)];exact hm1
       have HBn:Hid (dp L (i+1)=dp L i++jY [] es[i].ao):=by unfold Hid;rw[kz,HLe.o,xd hlt h8]
       have HXn:Hid (fL L (i+1)=((fL L i++ai (dp L i).length 4)++[UInt8.ofNat es[i].key.2.2.length])++es[i].key.2.2):=by unfold Hid;rw[lX,HLe.o,wN hlt h8];simp only[List.append_assoc]
       clear z0 z1 z2 z3 hq h8;generalize dp L i=B at*
       generalize fL L i=X at*
       have hw8:IntKind.u8.wrap (es[i].key.2.2.length:Int)=es[i].key.2.2.length:=by have:=HMi.o.1;rw[IntKind.wrap_u8];omega
       obtain⟨P4,hP4⟩: ∃ P4,ai B.length 4=P4:=⟨_,rfl⟩;have hP4l:P4.length=4:=by rw[<-hP4,aB]
       obtain⟨X1,hX1⟩: ∃ X1,X1=X++P4:=⟨_,rfl⟩;obtain⟨X2,hX2⟩: ∃ X2,X2=X1++[UInt8.ofNat es[i].key.2.2.length]:=⟨_,rfl⟩;have HXm:Hid (fL L (i+1)=X2++es[i].key.2.2):=by unfold Hid;rw[hX2,hX1, <-hP4];exact HXn.o
       obtain⟨EB,hEB⟩: ∃ EB,jY [] es[i].ao=EB:=⟨_,rfl⟩;have HBm:Hid (dp L (i+1)=B++EB):=by unfold Hid;rw[<-hEB];exact HBn.o
       have hEl:EB.length<=16525:=by rw[<-hEB];exact rR _ _ HMi.o.1 HMi.o.2.1
       have HP4:=ah hP4;have HX1:=ah hX1;have HX2:=ah hX2;have HEB:=ah hEB;have hX1l:X1.length=X.length+4:=by rw[hX1,List.length_append,hP4l]
       have hX2l:X2.length=X.length+5:=by rw[hX2,List.length_append,hX1l];rfl
       have HX1l:=ah hX1l;have HX2l:=ah hX2l;have HP4l:=ah hP4l;clear hP4 hX1 hX2 hEB HXn HBn hX1l hX2l hP4l;go_upto_region 13 with fail;have HSV:=HSE;revert HSV;generalize World.alloc wr _=wq;generalize wr.heap.size=E;intro HSV;have HSW:Hid (Sat w (Pt E 120 #[.slice es[i].key.1 es[i].key.2.2.length es[i].key.2.1,.slice es[i].value.1 es[i].value.2.2.length es[i].value.2.1,.int .i64 es[i].seq,.bool es[i].dead]*(Row 5 1 (.slice AB B.length cb) B.length (B.map bv)*(Row 5 1 (.slice AX X.length cx) X.length (X.map bv)*aV))) wq):=HSV;clear HSV HSE a0 a1 a2 a3 e0 e1 e2 e3;have HSd:=ah HSW.o.drew;refine wp_region_held_drew (S:=fun w'=>w'.cell? ⟨E,0,none⟩=some (.slice es[i].key.1 es[i].key.2.2.length es[i].key.2.1)) (by kernel_rfl) (HSd.o.cell 0) ?_;intro hS0;revert hS0 HSd;generalize wq.drew=wd;intro HS hS0;replace HS:Hid (Sat w (Pt E 120 #[.slice es[i].key.1 es[i].key.2.2.length es[i].key.2.1,.slice es[i].value.1 es[i].value.2.2.length es[i].value.2.1,.int .i64 es[i].seq,.bool es[i].dead]*(Row 5 1 (.slice AB B.length cb) B.length (B.map bv)*(Row 5 1 (.slice AX X.length cx) X.length (X.map bv)*aV))) wd):=HS.o;refine an 0 1 2 5 ?_;refine cm 6 7 ?_;refine cH 8 ?_;refine dc (i:=3) (j:=9) rfl rfl (by kernel_rfl) (fun K hK=>?_) (fun K hK=>?_);go_simp;go_at_call 178
       refine(rz B.length (by omega) w _ _ HS.o).mono ?_;rintro x v3 ⟨A3',c3',rfl,hs⟩;rw[HP4.o] at hs ⊢;replace HS:Hid (Sat w (Pt E 120 #[.slice es[i].key.1 es[i].key.2.2.length es[i].key.2.1,.slice es[i].value.1 es[i].value.2.2.length es[i].value.2.1,.int .i64 es[i].seq,.bool es[i].dead]*(Row 5 1 (.slice AB B.length cb) B.length (B.map bv)*(Row 5 1 (.slice AX X.length cx) X.length (X.map bv)*(Row 5 1 (.slice A3' P4.length c3') P4.length (P4.map bv)*aV)))) v3):=hs.of (by ac_rfl);clear hs;refine hK.out _ _ (HS.o.cell 0) (fun hS0=>?_);clear hK K;refine dc (i:=4) (j:=9) rfl rfl (by kernel_rfl) (fun K hK=>?_) (fun K hK=>?_);have hA:Sat w (Row 5 1 (.slice AX X.length cx) X.length (X.map bv)*(Pt E 120 #[.slice es[i].key.1 es[i].key.2.2.length es[i].key.2.1,.slice es[i].value.1 es[i].value.2.2.length es[i].value.2.1,.int .i64 es[i].seq,.bool es[i].dead]*(Row 5 1 (.slice AB B.length cb) B.length (B.map bv)*(Row 5 1 (.slice A3' P4.length c3') P4.length (P4.map bv)*aV)))) v3:=HS.o.of (by ac_rfl);have hR:Rd v3 A3' P4:=aH.bO HS.o.bW.aS;have hA1:=HP4l.o;have hm:(P4.map bv).length=P4.length*1:=by simp
       refine aQ rfl (.tmp 51) (.tmp 54) 41 rfl 5 j0 _ 1 1 Tryz.underlying41 Hj.o Hy0.o Hy1.o Hy2.o rfl (by decide) (.slice AX X.length cx) X.length (X.map bv) rfl w _ (by exact hA) A3' P4.length c3' (P4.map bv) rfl (by exact hR) hm (dO P4) (by unfold maxLen;omega) (by omega) ?_;intro A4 c4 v4 hs;have he:=en HX1.o;have he1:X.length+P4.length=_:=he.1;rw[he1,he.2] at hs;rw[he1];replace HS:Hid (Sat w (Pt E 120 #[.slice es[i].key.1 es[i].key.2.2.length es[i].key.2.1,.slice es[i].value.1 es[i].value.2.2.length es[i].value.2.1,.int .i64 es[i].seq,.bool es[i].dead]*(Row 5 1 (.slice AB B.length cb) B.length (B.map bv)*(Row 5 1 (.slice A4 X1.length c4) X1.length (X1.map bv)*(Row 5 1 (.slice A3' P4.length c3') P4.length (P4.map bv)*aV)))) v4):=hs.of (by ac_rfl);clear hs hA hR hm he he1 hA1;refine hK.out _ _ (HS.o.cell 0) (fun hS0=>?_);clear hK K
       try simp only[Act.put,jt,jA,jy]
       refine bR 9 fun K hK=>?_
       go_simp;have hs:=HS.o.af 5 #[.int .u8 (es[i].key.2.2.length:Int)];revert hs;generalize World.alloc v4 _=vz;generalize v4.heap.size=g9;intro hs;replace HS:Hid (Sat w (Pt E 120 #[.slice es[i].key.1 es[i].key.2.2.length es[i].key.2.1,.slice es[i].value.1 es[i].value.2.2.length es[i].value.2.1,.int .i64 es[i].seq,.bool es[i].dead]*(Row 5 1 (.slice AB B.length cb) B.length (B.map bv)*(Row 5 1 (.slice A4 X1.length c4) X1.length (X1.map bv)*(Row 5 1 (.slice A3' P4.length c3') P4.length (P4.map bv)*(Pt g9 5 #[.int .u8 (es[i].key.2.2.length:Int)]*aV))))) vz):=hs.of (by ac_rfl);clear hs;refine hK.out _ _ (HS.o.cell 0) (fun hS0=>?_);clear hK K
       rotate_left
       go_simp;have hs:=HS.o.af 5 #[.int .u8 (es[i].key.2.2.length:Int)];revert hs;generalize World.alloc v3 _=v9;generalize v3.heap.size=g9;intro hs;replace HS:Hid (Sat w (Pt E 120 #[.slice es[i].key.1 es[i].key.2.2.length es[i].key.2.1,.slice es[i].value.1 es[i].value.2.2.length es[i].value.2.1,.int .i64 es[i].seq,.bool es[i].dead]*(Row 5 1 (.slice AB B.length cb) B.length (B.map bv)*(Row 5 1 (.slice AX X.length cx) X.length (X.map bv)*(Row 5 1 (.slice A3' P4.length c3') P4.length (P4.map bv)*(Pt g9 5 #[.int .u8 (es[i].key.2.2.length:Int)]*aV))))) v9):=hs.of (by ac_rfl);clear hs;refine hK.out _ _ (HS.o.cell 0) (fun hS0=>?_);clear hK K;refine bR 4 fun K hK=>?_
       have hA:Sat w (Row 5 1 (.slice AX X.length cx) X.length (X.map bv)*(Pt E 120 #[.slice es[i].key.1 es[i].key.2.2.length es[i].key.2.1,.slice es[i].value.1 es[i].value.2.2.length es[i].value.2.1,.int .i64 es[i].seq,.bool es[i].dead]*(Row 5 1 (.slice AB B.length cb) B.length (B.map bv)*(Row 5 1 (.slice A3' P4.length c3') P4.length (P4.map bv)*(Pt g9 5 #[.int .u8 (es[i].key.2.2.length:Int)]*aV))))) v9:=HS.o.of (by ac_rfl);have hR:Rd v9 A3' P4:=aH.bO HS.o.bW.aS;have hA1:=HP4l.o;have hm:(P4.map bv).length=P4.length*1:=by simp
       refine aQ rfl (.tmp 51) (.tmp 54) 41 rfl 5 j0 _ 1 1 Tryz.underlying41 Hj.o Hy0.o Hy1.o Hy2.o rfl (by decide) (.slice AX X.length cx) X.length (X.map bv) rfl w _ (by exact hA) A3' P4.length c3' (P4.map bv) rfl (by exact hR) hm (dO P4) (by unfold maxLen;omega) (by omega) ?_;intro A4 c4 vz hs;have he:=en HX1.o;have he1:X.length+P4.length=_:=he.1;rw[he1,he.2] at hs;rw[he1];replace HS:Hid (Sat w (Pt E 120 #[.slice es[i].key.1 es[i].key.2.2.length es[i].key.2.1,.slice es[i].value.1 es[i].value.2.2.length es[i].value.2.1,.int .i64 es[i].seq,.bool es[i].dead]*(Row 5 1 (.slice AB B.length cb) B.length (B.map bv)*(Row 5 1 (.slice A4 X1.length c4) X1.length (X1.map bv)*(Row 5 1 (.slice A3' P4.length c3') P4.length (P4.map bv)*(Pt g9 5 #[.int .u8 (es[i].key.2.2.length:Int)]*aV))))) vz):=hs.of (by ac_rfl);clear hs hA hR hm he he1 hA1;refine hK.out _ _ (HS.o.cell 0) (fun hS0=>?_);clear hK K
       try simp only[Act.put,jt,jA,jy]
       rotate_left
       go_simp;have hs:=HS.o.af 5 #[.int .u8 (es[i].key.2.2.length:Int)];revert hs;generalize World.alloc wd _=v9;generalize wd.heap.size=g9;intro hs;replace HS:Hid (Sat w (Pt E 120 #[.slice es[i].key.1 es[i].key.2.2.length es[i].key.2.1,.slice es[i].value.1 es[i].value.2.2.length es[i].value.2.1,.int .i64 es[i].seq,.bool es[i].dead]*(Row 5 1 (.slice AB B.length cb) B.length (B.map bv)*(Row 5 1 (.slice AX X.length cx) X.length (X.map bv)*(Pt g9 5 #[.int .u8 (es[i].key.2.2.length:Int)]*aV)))) v9):=hs.of (by ac_rfl);clear hs;refine hK.out _ _ (HS.o.cell 0) (fun hS0=>?_);clear hK K;refine bR 3 fun K hK=>?_
       go_simp;go_at_call 178
       refine(rz B.length (by omega) w _ _ HS.o).mono ?_;rintro x v3 ⟨A3',c3',rfl,hs⟩;rw[HP4.o] at hs ⊢;replace HS:Hid (Sat w (Pt E 120 #[.slice es[i].key.1 es[i].key.2.2.length es[i].key.2.1,.slice es[i].value.1 es[i].value.2.2.length es[i].value.2.1,.int .i64 es[i].seq,.bool es[i].dead]*(Row 5 1 (.slice AB B.length cb) B.length (B.map bv)*(Row 5 1 (.slice AX X.length cx) X.length (X.map bv)*(Row 5 1 (.slice A3' P4.length c3') P4.length (P4.map bv)*(Pt g9 5 #[.int .u8 (es[i].key.2.2.length:Int)]*aV))))) v3):=hs.of (by ac_rfl);clear hs;refine hK.out _ _ (HS.o.cell 0) (fun hS0=>?_);clear hK K;refine bR 4 fun K hK=>?_
       have hA:Sat w (Row 5 1 (.slice AX X.length cx) X.length (X.map bv)*(Pt E 120 #[.slice es[i].key.1 es[i].key.2.2.length es[i].key.2.1,.slice es[i].value.1 es[i].value.2.2.length es[i].value.2.1,.int .i64 es[i].seq,.bool es[i].dead]*(Row 5 1 (.slice AB B.length cb) B.length (B.map bv)*(Row 5 1 (.slice A3' P4.length c3') P4.length (P4.map bv)*(Pt g9 5 #[.int .u8 (es[i].key.2.2.length:Int)]*aV))))) v3:=HS.o.of (by ac_rfl);have hR:Rd v3 A3' P4:=aH.bO HS.o.bW.aS;have hA1:=HP4l.o;have hm:(P4.map bv).length=P4.length*1:=by simp
       refine aQ rfl (.tmp 51) (.tmp 54) 41 rfl 5 j0 _ 1 1 Tryz.underlying41 Hj.o Hy0.o Hy1.o Hy2.o rfl (by decide) (.slice AX X.length cx) X.length (X.map bv) rfl w _ (by exact hA) A3' P4.length c3' (P4.map bv) rfl (by exact hR) hm (dO P4) (by unfold maxLen;omega) (by omega) ?_;intro A4 c4 vz hs;have he:=en HX1.o;have he1:X.length+P4.length=_:=he.1;rw[he1,he.2] at hs;rw[he1];replace HS:Hid (Sat w (Pt E 120 #[.slice es[i].key.1 es[i].key.2.2.length es[i].key.2.1,.slice es[i].value.1 es[i].value.2.2.length es[i].value.2.1,.int .i64 es[i].seq,.bool es[i].dead]*(Row 5 1 (.slice AB B.length cb) B.length (B.map bv)*(Row 5 1 (.slice A4 X1.length c4) X1.length (X1.map bv)*(Row 5 1 (.slice A3' P4.length c3') P4.length (P4.map bv)*(Pt g9 5 #[.int .u8 (es[i].key.2.2.length:Int)]*aV))))) vz):=hs.of (by ac_rfl);clear hs hA hR hm he he1 hA1;refine hK.out _ _ (HS.o.cell 0) (fun hS0=>?_);clear hK K
       try simp only[Act.put,jt,jA,jy]
       rotate_left
       all_goals
        refine bR 10 fun K hK=>?_
        have hA:Sat w (Row 5 1 (.slice A4 X1.length c4) X1.length (X1.map bv)*(Pt E 120 #[.slice es[i].key.1 es[i].key.2.2.length es[i].key.2.1,.slice es[i].value.1 es[i].value.2.2.length es[i].value.2.1,.int .i64 es[i].seq,.bool es[i].dead]*(Row 5 1 (.slice AB B.length cb) B.length (B.map bv)*(Row 5 1 (.slice A3' P4.length c3') P4.length (P4.map bv)*(Pt g9 5 #[.int .u8 (es[i].key.2.2.length:Int)]*aV))))) vz:=HS.o.of (by ac_rfl);have hR:Rd vz (some ⟨g9,0,none⟩) [UInt8.ofNat es[i].key.2.2.length]:=Lc _ HMi.o.1 HS.o.gw;have hA1:=HX1l.o;have hm:([UInt8.ofNat es[i].key.2.2.length].map bv).length=1*1:=by simp
        refine aQ rfl (.tmp 55) (.tmp 60) 41 rfl 5 j0 _ 1 1 Tryz.underlying41 Hj.o Hy0.o Hy1.o Hy2.o rfl (by decide) (.slice A4 X1.length c4) X1.length (X1.map bv) rfl w _ (by exact hA) (some ⟨g9,0,none⟩) 1 1 ([UInt8.ofNat es[i].key.2.2.length].map bv) rfl (by exact hR) hm (dO [UInt8.ofNat es[i].key.2.2.length]) (by unfold maxLen;omega) (by omega) ?_;intro A10 c10 v10 hs;have he:=en HX2.o;have he1:X1.length+1=_:=he.1;rw[he1,he.2] at hs;rw[he1];replace HS:Hid (Sat w (Pt E 120 #[.slice es[i].key.1 es[i].key.2.2.length es[i].key.2.1,.slice es[i].value.1 es[i].value.2.2.length es[i].value.2.1,.int .i64 es[i].seq,.bool es[i].dead]*(Row 5 1 (.slice AB B.length cb) B.length (B.map bv)*(Row 5 1 (.slice A10 X2.length c10) X2.length (X2.map bv)*(Row 5 1 (.slice A3' P4.length c3') P4.length (P4.map bv)*(Pt g9 5 #[.int .u8 (es[i].key.2.2.length:Int)]*aV))))) v10):=hs.of (by ac_rfl);clear hs hA hR hm he he1 hA1;refine hK.out _ _ (HS.o.cell 0) (fun hS0=>?_);clear hK K
        try simp only[Act.put,jt,jA,jy]
        refine cH 11 ?_;refine wpAnyH_done (by kernel_rfl) ?_ _;have hl2:=HX2l.o;have hkl:=HMi.o.1;go_wp2_with (first
         | (at_builtin;have he:=en HXm.o;refine au rfl (.tmp 62) (.tmp 64) 41 rfl 5 j0 _ 1 1 Tryz.underlying41 Hj.o Hy0.o Hy1.o Hy2.o rfl (by decide) (.slice A10 X2.length c10) X2.length (X2.map bv) rfl w _ (by exact HS.o.bD) es[i].key.1 es[i].key.2.2.length es[i].key.2.1 (es[i].key.2.2.map bv) rfl (by exact HE.o.1.new HS.o.aP) (by simp) (dO es[i].key.2.2) (by unfold maxLen;omega) (by omega) ?_;intro A6 c6 w6 hs6;rw[he.1,he.2] at hs6;rw[he.1];have q0:=hs6.av.cell 0;have q1:=hs6.av.cell 1;have q2:=hs6.av.cell 2;have q3:=hs6.av.cell 3;have HS6:=ah hs6;clear hs6 he)
         | (go_at_call 179;refine(MA (none,0,[]) es[i] EB HEB.o w _ _ HS6.o (fun hx=>absurd rfl hx) ⟨HE.o.1.new HS6.o.aP,HE.o.2.new HS6.o.aP⟩ (by simp) HMi.o.1 HSi.o.2.2.1 HSi.o.2.2.2 HMi.o.2.1 HSq.o).mono ?_;rintro x w7 ⟨A7,c7,rfl,hs7⟩;have HS7:=ah hs7;clear hs7)
         | (at_builtin;have he:=en HBm.o;refine au rfl (.tmp 66) (.tmp 69) 41 rfl 5 j0 _ 1 1 Tryz.underlying41 Hj.o Hy0.o Hy1.o Hy2.o rfl (by decide) (.slice AB B.length cb) B.length (B.map bv) rfl w _ (by exact HS7.o.bW) A7 EB.length c7 (EB.map bv) rfl (by exact aH.bO HS7.o.aS) (by simp) (dO EB) (by unfold maxLen;omega) (by omega) ?_;intro A8 c8 w8 hs8;rw[he.1,he.2] at hs8;rw[he.1];have HS8:=ah hs8;clear hs8 he))
        go_roundw
        .refine⟨i+1,by omega,by push_cast;rfl,⟨?_⟩⟩;have h9:=HS8.o.bF;exact h9.bD.right.bD.right.bD.right
        .simp[intOf];omega
      .obtain⟨p,hp⟩: ∃ p,i=p+1:=⟨i - 1,by cases i with | zero=>simp at h8 | succ n=>omega⟩;have hpl:p<es.length:=by omega
       obtain⟨m,hm1,hm2⟩: ∃ m:Nat,(i:Int).tmod 8=(m:Int)/\0<m:=⟨i % 8,by rw[Int.tmod_eq_emod_of_nonneg (by omega)];omega,by omega⟩;have hmi:(0:Int)<(m:Int):=by omega
       have hii:(i:Int) - 1=(p:Int):=by omega
       have hwi:IntKind.i64.wrap (p:Int)=(p:Int):=by rw[IntKind.wrap_i64];omega
       have hpi:(p:Int)<es.length:=by omega
       obtain⟨y0,_,_,_⟩:=hq p hpl;have b0:=HSE.o.aP.cell y0 id;unfold aO at b0;have HEp:=ah (HR.o _ (List.getElem_mem hpl));have HMp:=ah (HMay.o _ (List.getElem_mem hpl));have HBn:Hid (dp L (i+1)=dp L i++jY es[p].key.2.2 es[i].ao):=by
        unfold Hid;rw[kz,HLe.o];subst hp;rw[Bj hlt h8]
       have HXn:Hid (fL L (i+1)=fL L i):=by unfold Hid;rw[lX,HLe.o,zM h8,List.append_nil]
       have HP:=ah hp;clear z0 z1 z2 z3 hq h8 y0 hp hm2;generalize dp L i=B at*
       generalize fL L i=X at*
       obtain⟨EB,hEB⟩: ∃ EB,jY es[p].key.2.2 es[i].ao=EB:=⟨_,rfl⟩;have HBm:Hid (dp L (i+1)=B++EB):=by unfold Hid;rw[<-hEB];exact HBn.o
       have hEl:EB.length<=16525:=by rw[<-hEB];exact rR _ _ HMi.o.1 HMi.o.2.1
       have HEB:=ah hEB;clear hEB HBn;go_wp2_with (first
        | (go_at_call 179;refine(MA es[p].key es[i] EB HEB.o w _ _ HSE.o (HEp.o.1.new HSE.o.aP) ⟨HE.o.1.new HSE.o.aP,HE.o.2.new HSE.o.aP⟩ HMp.o.1 HMi.o.1 HSi.o.2.2.1 HSi.o.2.2.2 HMi.o.2.1 HSq.o).mono ?_;rintro x w7 ⟨A7,c7,rfl,hs7⟩;have HS7:=ah hs7;clear hs7)
        | (at_builtin;have he:=en HBm.o;refine au rfl (.tmp 66) (.tmp 69) 41 rfl 5 j0 _ 1 1 Tryz.underlying41 Hj.o Hy0.o Hy1.o Hy2.o rfl (by decide) (.slice AB B.length cb) B.length (B.map bv) rfl w _ (by exact HS7.o.bD) A7 EB.length c7 (EB.map bv) rfl (by exact aH.bO HS7.o.aS) (by simp) (dO EB) (by unfold maxLen;omega) (by omega) ?_;intro A8 c8 w8 hs8;rw[he.1,he.2] at hs8;rw[he.1];have HS8:=ah hs8;clear hs8 he))
       go_roundw
       .refine⟨i+1,by omega,by push_cast;rfl,⟨?_⟩⟩;rw[HXn.o];exact HS8.o.bF.bF
       .simp[intOf];omega
     .have hie:i=es.length:=by omega
      subst hie;obtain⟨bt,hbt⟩: ∃ bt,gY L=bt:=⟨_,rfl⟩;have hbtl:bt.length<=262144:=by rw[<-hbt,HLe.o];exact GK es (by omega)
      have HSS:=ah HD.o.sat;obtain⟨Bd,hBd⟩: ∃ B,dp L es.length=B:=⟨_,rfl⟩;obtain⟨X,hX⟩: ∃ X,fL L es.length=X:=⟨_,rfl⟩;rw[hBd] at HSS hBl;rw[hX] at HSS hXl;rw[hBd,hX];obtain⟨P1,hP1⟩: ∃ P,ai bt.length 4=P:=⟨_,rfl⟩;obtain⟨P2,hP2⟩: ∃ P,ai Bd.length 4=P:=⟨_,rfl⟩;obtain⟨C,hC⟩: ∃ C,C=Bd++X:=⟨_,rfl⟩;obtain⟨P3,hP3⟩: ∃ P,ai C.length 4=P:=⟨_,rfl⟩;obtain⟨D1,hD1⟩: ∃ D,D=C++P1:=⟨_,rfl⟩;obtain⟨D2,hD2⟩: ∃ D,D=D1++bt:=⟨_,rfl⟩;obtain⟨D3,hD3⟩: ∃ D,D=D2++P2:=⟨_,rfl⟩;obtain⟨D4,hD4⟩: ∃ D,D=D3++P3:=⟨_,rfl⟩;obtain⟨sm,hsm⟩: ∃ s,vZ D4=s:=⟨_,rfl⟩;obtain⟨P5,hP5⟩: ∃ P,ai sm 4=P:=⟨_,rfl⟩;have hD5:aR L=D4++P5:=by
       rw[<-hP5, <-hsm];exact J9 (b:=Bd) (x:=X) (c:=C) (d1:=D1) (d2:=D2) (d3:=D3) (d4:=D4) HLen.o hBd hX hC (by rw[hbt,hP1];exact hD1) (by rw[hbt];exact hD2) (by rw[hP2];exact hD3) (by rw[hP3];exact hD4)
      have hl1:P1.length=4:=by rw[<-hP1,aB]
      have hl2:P2.length=4:=by rw[<-hP2,aB]
      have hl3:P3.length=4:=by rw[<-hP3,aB]
      have hl5:P5.length=4:=by rw[<-hP5,aB]
      have hlC:C.length=Bd.length+X.length:=by rw[hC,List.length_append]
      have hlD1:D1.length=C.length+4:=by rw[hD1,List.length_append,hl1]
      have hlD2:D2.length=D1.length+bt.length:=by rw[hD2,List.length_append]
      have hlD3:D3.length=D2.length+4:=by rw[hD3,List.length_append,hl2]
      have hlD4:D4.length=D3.length+4:=by rw[hD4,List.length_append,hl3]
      have hB0:Bd.length<=1100000000:=by omega
      have hX0:X.length<=10000000:=by omega
      have hC0:C.length<=1110000000:=by omega
      have hD10:D1.length<=1110000004:=by omega
      have hD20:D2.length<=1110500000:=by omega
      have hD30:D3.length<=1110600000:=by omega
      have hD40:D4.length<=1110700000:=by omega
      have hsm0:sm<4294967296:=by rw[<-hsm];exact BV _
      have hws:IntKind.u64.wrap (sm:Int)=sm:=by rw[IntKind.wrap_u64];omega
      have HP1:=ah hP1;have HP2:=ah hP2;have HP3:=ah hP3;have HP5:=ah hP5;have HBt:=ah hbt;have HSm:=ah hsm;have HC:=ah hC;have HD1:=ah hD1;have HD2:=ah hD2;have HD3:=ah hD3;have HD4:=ah hD4;have HD5:=ah hD5;have HL1:=ah hl1;have HL2:=ah hl2;have HL3:=ah hl3;have HL5:=ah hl5;have hq1:P1.length<=4:=by omega
      have hq2:P2.length<=4:=by omega
      have hq3:P3.length<=4:=by omega
      have hq5:P5.length<=4:=by omega
      clear hP1 hP2 hP3 hP5 hbt hsm hC hD1 hD2 hD3 hD4 hD5 hl1 hl2 hl3 hl5 hlC hlD1 hlD2 hlD3 hlD4 hBd hX hBl hXl;go_wp2_with (first
       | (at_builtin;have he:=en HC.o;refine au rfl (.tmp 74) (.tmp 75) 41 rfl 5 j0 _ 1 1 Tryz.underlying41 Hj.o Hy0.o Hy1.o Hy2.o rfl (by decide) (.slice AB Bd.length cb) Bd.length (Bd.map bv) rfl w _ (by exact HSS.o) AX X.length cx (X.map bv) rfl (by exact aH.bO HSS.o.av.aS) (by simp) (dO X) (by unfold maxLen;omega) (by omega) ?_;intro A18 c18 w18 hs18;rw[he.1,he.2] at hs18;rw[he.1];have HS18:=ah hs18;clear hs18 he)
       | (go_at_call 143;refine(nT A c es _ (HL.o.new HS18.o.aP) (fun e he=>⟨(HR.o e he).1.new HS18.o.aP,(HR.o e he).2.new HS18.o.aP⟩) hc HM.o (by omega) (fun e he=>(HSh2.o e he).1)).mono ?_;rintro x w20 ⟨g,h,n,rfl,hF, -, -,k20,hn1,hn2⟩;rw[<-HLe.o,HBt.o] at hF;have HF:=ah hF;have HS20:=ah (HS18.o.new k20);have HN:=ah (And.intro hn1 hn2);clear hF k20 hn1 hn2)
       | (go_at_call 180;refine(AG g h n n bt w20 HF.o HN.o).mono ?_;rintro x w21 ht;obtain⟨A21,c21,rfl,ho,k21⟩:=FW ht;have HS21:=ah (HS20.o.dP k21 ho);clear ht ho k21)
       | (go_at_call 178;refine(rz bt.length (by omega) w _ _ HS21.o).mono ?_;rintro x w22 ⟨A22,c22,rfl,hs22⟩;rw[HP1.o] at hs22 ⊢;have HS22:=ah hs22;clear hs22)
       | (at_builtin;have he:=en HD1.o;refine au rfl (.tmp 82) (.tmp 85) 41 rfl 5 j0 _ 1 1 Tryz.underlying41 Hj.o Hy0.o Hy1.o Hy2.o rfl (by decide) (.slice A18 C.length c18) C.length (C.map bv) rfl w _ (by exact HS22.o.bD) A22 P1.length c22 (P1.map bv) rfl (by exact aH.bO HS22.o.aS) (by simp) (dO P1) (by unfold maxLen;omega) (by omega) ?_;intro A23 c23 w23 hs23;rw[he.1,he.2] at hs23;rw[he.1];have HS23:=ah hs23;clear hs23 he)
       | (at_builtin;have he:=en HD2.o;refine au rfl (.tmp 86) (.tmp 87) 41 rfl 5 j0 _ 1 1 Tryz.underlying41 Hj.o Hy0.o Hy1.o Hy2.o rfl (by decide) (.slice A23 D1.length c23) D1.length (D1.map bv) rfl w _ (by exact HS23.o) A21 bt.length c21 (bt.map bv) rfl (by exact aH.bO HS23.o.bD.aS) (by simp) (dO bt) (by unfold maxLen;omega) (by omega) ?_;intro A24 c24 w24 hs24;rw[he.1,he.2] at hs24;rw[he.1];have HS24:=ah hs24;clear hs24 he)
       | (go_at_call 178;refine(rz Bd.length (by omega) w _ _ HS24.o).mono ?_;rintro x w25 ⟨A25,c25,rfl,hs25⟩;rw[HP2.o] at hs25 ⊢;have HS25:=ah hs25;clear hs25)
       | (at_builtin;have he:=en HD3.o;refine au rfl (.tmp 89) (.tmp 91) 41 rfl 5 j0 _ 1 1 Tryz.underlying41 Hj.o Hy0.o Hy1.o Hy2.o rfl (by decide) (.slice A24 D2.length c24) D2.length (D2.map bv) rfl w _ (by exact HS25.o.av) A25 P2.length c25 (P2.map bv) rfl (by exact aH.bO HS25.o.aS) (by simp) (dO P2) (by unfold maxLen;omega) (by omega) ?_;intro A26 c26 w26 hs26;rw[he.1,he.2] at hs26;rw[he.1];have HS26:=ah hs26;clear hs26 he)
       | (go_at_call 178;refine(rz C.length (by omega) w _ _ HS26.o).mono ?_;rintro x w27 ⟨A27,c27,rfl,hs27⟩;rw[HP3.o] at hs27 ⊢;have HS27:=ah hs27;clear hs27)
       | (at_builtin;have he:=en HD4.o;refine au rfl (.tmp 92) (.tmp 94) 41 rfl 5 j0 _ 1 1 Tryz.underlying41 Hj.o Hy0.o Hy1.o Hy2.o rfl (by decide) (.slice A26 D3.length c26) D3.length (D3.map bv) rfl w _ (by exact HS27.o.av) A27 P3.length c27 (P3.map bv) rfl (by exact aH.bO HS27.o.aS) (by simp) (dO P3) (by unfold maxLen;omega) (by omega) ?_;intro A28 c28 w28 hs28;rw[he.1,he.2] at hs28;rw[he.1];have HS28:=ah hs28;clear hs28 he)
       | (go_at_call 138;refine(osum_any (some ⟨w28.heap.size,0,none⟩) 1 [(A28,c28,D4)] _ ⟨aL w28 #[.slice A28 D4.length c28] 41,fun y hy=>by rw[List.mem_singleton] at hy;subst hy;exact aH.bO (HS28.o.aC _).aS⟩ (by simp) (by simp;omega)).mono ?_;rintro x w29 ⟨rfl,rfl⟩;rw[show (bT [(A28,c28,D4)]).flatten=D4 by simp[bT],HSm.o])
       | (go_at_call 117;refine(ch sm 4 (by omega) (by omega) (by omega) w _ _ (HS28.o.aC _)).mono ?_;rintro x w30 ⟨A30,c30,rfl, -, -,hs30⟩;rw[HP5.o] at hs30 ⊢;have HS30:=ah hs30;clear hs30)
       | (at_builtin;have he:=en HD5.o;refine au rfl (.tmp 96) (.tmp 101) 41 rfl 5 j0 _ 1 1 Tryz.underlying41 Hj.o Hy0.o Hy1.o Hy2.o rfl (by decide) (.slice A28 D4.length c28) D4.length (D4.map bv) rfl w _ (by exact HS30.o.av) A30 P5.length c30 (P5.map bv) rfl (by exact aH.bO HS30.o.aS) (by simp) (dO P5) (by unfold maxLen;omega) (by omega) ?_;intro A31 c31 w31 hs31;rw[he.1,he.2] at hs31;rw[he.1];have HS31:=ah hs31;clear hs31 he))
      go_ret2;obtain⟨Az,cz,hz,h1,h2⟩:=HS31.o.aT;injection hz with e1 e2 e3
      subst e1 e3;refine .inr ⟨trivial,_,_,rfl,h1,h2,?_⟩;exact HS31.o.bF.bF.bF.bF.bF.bF
abbrev Pr:=aw × Nat
def vM (e:aw) (L:List Pr):List Pr:=L.takeWhile fun p=>aF p.1 e
def lU (e:aw) (L:List Pr):List Pr:=L.dropWhile fun p=>aF p.1 e
def mT (e:aw) (L:List Pr):Bool:=match lU e L with | p::_=>decide (pU p.1 e=0) | []=>false
def Hh (e:aw) (h:Nat) (L:List Pr):List Pr:=if mT e L then L else vM e L++(e,h)::lU e L
def Fs (n:Nd):Pr:=(n.e.ao,n.h)
def gy (ns:List Nd):List Pr:=ns.map Fs
theorem EK (e:aw) (ns:List Nd):gy (ahead e ns)=vM e (gy ns):=by
 unfold gy vM ahead
 induction ns with
 | nil=>rfl
 | cons n ns ih=>
  rw[List.map_cons,List.takeWhile_cons,List.takeWhile_cons];show List.map Fs (if aF n.e.ao e=true then _ else _)=if aF n.e.ao e=true then _ else _
  split
  .rw[List.map_cons,ih]
  .rfl
theorem qI (e:aw) (ns:List Nd):gy (behind e ns)=lU e (gy ns):=by
 unfold gy lU behind
 induction ns with
 | nil=>rfl
 | cons n ns ih=>
  rw[List.map_cons,List.dropWhile_cons,List.dropWhile_cons];show List.map Fs (if aF n.e.ao e=true then _ else _)=if aF n.e.ao e=true then _ else _
  split
  .exact ih
  .rfl
theorem um (e:aw) (ns:List Nd):iP e ns=mT e (gy ns):=by
 unfold iP mT;rw[<-qI]
 cases behind e ns<;>rfl
theorem Cc (a b:List aw):MM (a++b)=MM a+MM b:=by
 unfold MM
 induction a with
 | nil=>simp
 | cons x a ih=>simp only[List.cons_append,List.foldr_cons];omega
def fm:Int:=9223372036854775807
def kI (ns:List Nd):Nat:=MM (ns.map fun n=>n.e.ao)
def bK (b hr:Nat) (ns:List Nd):SP:=de b hr ns ns.length (kI ns)
theorem gu {w0 w:World} {F:SP}: ∀ {es:List En},Sat w0 (aW es*F) w->jH w es
 | [],_=>fun e he=>by simp at he
 | e::es,h=>by
  have h1:Sat w0 (Row 5 1 (aO e.key) e.key.2.2.length (e.key.2.2.map bv)*(Row 5 1 (aO e.value) e.value.2.2.length (e.value.2.2.map bv)*(aW es*F))) w:=h.of (by
   show Row _ _ _ _ _*(Row _ _ _ _ _*aW es)*F=_
   ac_rfl)
  intro x hx;rcases List.mem_cons.1 hx with rfl | hx
  .obtain⟨A,c,e1,r1,_⟩:=Sat.By (h:=h1);obtain⟨B,d,e2,r2,_⟩:=Sat.By (h:=h1.av);unfold aO at e1 e2;injection e1 with e1
   injection e2 with e2
   exact⟨by rw[e1];exact r1,by rw[e2];exact r2⟩
  .exact gu h1.right.right x hx
abbrev Kg:=List aw × List UInt8 × Bool
def mO (L:List aw):List UInt8:=if L.length % 8=0 then [] else match L[L.length - 1]? with | some e=>e.key | none=>[]
def qt (st:Kg):Kg:=let p:=dx (mO st.1) st.2.1 st.2.2;(st.1++[p.1],p.2)
def pV:Nat->Kg->Kg
 | 0,st=>st
 | k+1,st=>if st.2.2=true then st else pV k (qt st)
theorem Bo (k:Nat) {st:Kg} (h:st.2.2=true):pV k st=st:=by
 cases k with
 | zero=>rfl
 | succ k=>unfold pV;rw[if_pos h]
theorem tm (k:Nat) {st:Kg} (h:st.2.2=false):pV (k+1) st=pV k (qt st):=by
 conv=>lhs;unfold pV
 rw[if_neg (by rw[h];simp)]
def sy (b:List UInt8):Bool:=decide (4<=b.length) && decide (ai (vZ (b.take (b.length - 4))) 4=b.drop (b.length - 4))
def kH (b:List UInt8):Kg:=let t:=cE 4 b false;let c:=cE 4 t.2.1 t.2.2;pV (bI c.1) ([],c.2)
def fz (b:List UInt8):Nat:=
 if sy b=false then 72 else if (cE 4 b false).1≠dT then 73 else if (kH b).2.2=true\/cd (kH b).1≠0\/aR (kH b).1≠b then 73 else 0
theorem lT (n:Nat) (q:List UInt8) (s:Bool) (hn:n<=8):bI (cE n q s).1<256 ^ n:=Nat.lt_of_lt_of_le (iO _) (Nat.pow_le_pow_right (by omega) (fI n q s))
theorem rX (al q:List UInt8) (s:Bool):(dx al q s).1.key.length<=600/\(dx al q s).1.value.length<=65536/\(dx al q s).1.seq<9223372036854775808:=by
 unfold dx;refine⟨?_,?_,?_⟩
 .simp only;split
  .simp
  .rw[List.length_append,List.length_take];have h1:=lT 1 q s (by omega);have h2:=lT 1 (cE 1 q s).2.1 (cE 1 q s).2.2 (by omega);have h3:=fI (bI (cE 1 (cE 1 q s).2.1 (cE 1 q s).2.2).1);refine Nat.le_trans (Nat.add_le_add (Nat.min_le_left _ _) (h3 _ _)) ?_;omega
 .simp only;refine Nat.le_trans (fI _ _ _) ?_;have h2:=lT 2;exact Nat.le_of_lt (h2 _ _ (by omega))
 .simp only;rw[IntKind.wrap_i64];omega
theorem xr (al q:List UInt8) (s:Bool):(dx al q s).2.1.length<=q.length:=by
 unfold dx;simp only;refine Nat.le_trans (dg _ _ _) (Nat.le_trans (dg _ _ _) (Nat.le_trans (dg _ _ _) (Nat.le_trans (dg _ _ _) (Nat.le_trans (dg _ _ _) (Nat.le_trans (dg _ _ _) (dg _ _ _))))))
theorem yf {w0 w:World} {F:SP}: ∀ {es:List En},Sat w0 (aW es*F) w-> ∀ e ∈ es,e.key.2.2.length<=e.key.2.1/\e.key.2.1<=maxLen
 | [],_=>by simp
 | e::es,h=>by
  have h0:Sat w0 (Row 5 1 (aO e.key) e.key.2.2.length (e.key.2.2.map bv)*(Row 5 1 (aO e.value) e.value.2.2.length (e.value.2.2.map bv)*aW es)*F) w:=h;have h1:=h0.of (show _=Row 5 1 (aO e.key) e.key.2.2.length (e.key.2.2.map bv)*(Row 5 1 (aO e.value) e.value.2.2.length (e.value.2.2.map bv)*(aW es*F)) by ac_rfl);intro x hx;rcases List.mem_cons.1 hx with rfl | hx
  .obtain⟨A,c,e1,k1,k2⟩:=h1.aT;unfold aO at e1;injection e1 with e2 e3 e4
   rw[e4];exact⟨k1,k2⟩
  .exact yf h1.right.right x hx
structure mL (w:World) (T:Nat) (es:List En):Prop where
 box: ∃ A c g h n,w.cell? ⟨T,0,none⟩=some (.slice A es.length c)/\w.cell? ⟨T,1,none⟩=some (.pointer (some ⟨g,0,none⟩))/\aH w A (es.flatMap cu)/\es.length<=c/\c<=maxLen/\dZ w g h n n (gY (es.map En.ao))/\8<=n/\n<=262144
 rd:jH w es
 cap: ∀ e ∈ es,e.key.2.2.length<=e.key.2.1/\e.key.2.1<=maxLen
 ok:cd (es.map En.ao)=0
theorem mL.new {w w':World} {T:Nat} {es:List En} (h:mL w T es) (k:aq No w w'):mL w' T es:=by
 obtain⟨A,c,g,h1,n,a1,a2,a3,a4,a5,a6,a7⟩:=h.box;exact⟨⟨A,c,g,h1,n,k.cell a1 id,k.cell a2 id,a3.new k,a4,a5,a6.new k,a7⟩,fun e he=>⟨(h.rd e he).1.new k,(h.rd e he).2.new k⟩,h.cap,h.ok⟩
def Lo (b:List UInt8) (w:World) (x:Ending) (w':World):Prop:=
 (fz b≠0/\x = .returned (.tuple #[.pointer none,.int .i64 (fz b:Nat)])/\aq No w w')\/
 (fz b=0/\ ∃ T es,x = .returned (.tuple #[.pointer (some ⟨T,0,none⟩),.int .i64 0])/\es.map En.ao=(kH b).1/\mL w' T es/\w.heap.size<=T/\aq No w w')
theorem fO {n:Nat} (a r:List UInt8) (h:a.length=n):cE n (a++r) false=(a,r,false):=by
 subst h;rw[yH (by simp)];simp
theorem xG (b:UInt8):bI [b]=b.toNat:=by simp[bI]
theorem El (al:List UInt8) (e:aw) (r:List UInt8) (hm:gM e=true) (hs:e.seq<9223372036854775808) (hal:al.length<=128):dx al (jY al e++r) false=(e,r,false):=by
 obtain⟨h1,h2,h3,h4⟩:=ir.1 hm;have hc:=mZ al e.key;obtain⟨n,hn⟩: ∃ n,bV al e.key=n:=⟨_,rfl⟩;have ht:=nI al e.key;unfold jY;rw[hn] at hc ht ⊢;have e1:[UInt8.ofNat n,UInt8.ofNat (e.key.length - n)]++(ai e.seq.toNat 8++([if e.dead then 1 else 0]++(ai e.value.length 2++(e.key.drop n++e.value))))++r
  =[UInt8.ofNat n]++([UInt8.ofNat (e.key.length - n)]++(ai e.seq.toNat 8++([if e.dead then 1 else 0]++(ai e.value.length 2++(e.key.drop n++(e.value++r)))))):=by simp
 rw[e1];have b1:bI [UInt8.ofNat n]=n:=by rw[xG,UInt8.toNat_ofNat',Nat.mod_eq_of_lt (by omega)]
 have b2:bI [UInt8.ofNat (e.key.length - n)]=e.key.length - n:=by rw[xG,UInt8.toNat_ofNat',Nat.mod_eq_of_lt (by omega)]
 have b3:IntKind.i64.wrap (bI (ai e.seq.toNat 8):Int)=e.seq:=by
  rw[jJ,Nat.mod_eq_of_lt (by omega),IntKind.wrap_i64];omega
 have b4:decide (bI [if e.dead then (1:UInt8) else 0]=1)=e.dead:=by cases e.dead<;>decide
 have b5:bI (ai e.value.length 2)=e.value.length:=by rw[jJ,Nat.mod_eq_of_lt (by omega)]
 unfold dx;simp only[fO _ _ (List.length_singleton),fO _ _ (aB _ _),b1,b2,b3,b4,b5];rw[decide_eq_false (by omega)];simp only[Bool.or_false];rw[fO (n:=e.key.length - n) _ _ (by simp)];simp only;rw[fO (n:=e.value.length) _ _ rfl];simp only[Bool.false_eq_true,if_false];rw[ht,List.take_append_drop]
theorem yh {L:List aw} {i:Nat} (h:i<=L.length):mO (L.take i)=lB L i:=by
 unfold mO lB;rw[List.length_take,Nat.min_eq_left h];split
 .rfl
 .rw[List.getElem?_take,if_pos (by omega)]
  cases L[i - 1]?<;>rfl
theorem yG {L:List aw} (h: ∀ e ∈ L,e.key.length<=128) (i:Nat):(lB L i).length<=128:=by
 unfold lB;split
 .simp
 .split
  .rename_i e he;exact h e (List.mem_of_getElem? he)
  .simp
theorem jS {L:List aw} (h:cd L=0): ∀ e ∈ L,gM e=true:=by
 intro e he;unfold cd at h;split at h
 .cases h
 .split at h
  .cases h
  .rename_i h1
   cases hm:gM e with
   | true=>rfl
   | false=>exact absurd (.inr (List.any_eq_true.2 ⟨e,he,by rw[hm];rfl⟩)) h1
theorem zT {L:List aw} (h:cd L=0): ∀ e ∈ L,e.key.length<=128:=fun e he=>(ir.1 (jS h e he)).1
theorem sK {L:List aw} (h:cd L=0):L.length<=65536:=by
 unfold cd at h;split at h
 .cases h
 .split at h
  .cases h
  .rename_i h1;rcases Nat.lt_or_ge 65536 L.length with h2 | h2
   .exact absurd (.inl h2) h1
   .exact h2
def ig (L:List aw) (i k:Nat):List UInt8:=((List.range' i k).map (kF L)).flatten
theorem tV (L:List aw) (r:List UInt8) (hb:cd L=0) (hs: ∀ e ∈ L,e.seq<9223372036854775808): ∀ (k i:Nat),i+k=L.length->pV k (L.take i,ig L i k++r,false)=(L,r,false)
 | 0,i,h=>by
  have e:L.take i=L:=List.take_of_length_le (by omega);unfold pV ig;rw[e];rfl
 | k+1,i,h=>by
  have hi:i<L.length:=by omega
  have ih:=tV L r hb hs k (i+1) (by omega);rw[tm _ rfl];have e2:ig L i (k+1)=jY (lB L i) L[i]++ig L (i+1) k:=by
   unfold ig;rw[List.range'_succ,List.map_cons,List.flatten_cons];congr 1
   unfold kF;rw[List.getElem?_eq_getElem hi]
  have e3:qt (L.take i,ig L i (k+1)++r,false)=(L.take (i+1),ig L (i+1) k++r,false):=by
   unfold qt;simp only;rw[yh (by omega),e2,List.append_assoc,El _ _ _ (jS hb _ (List.getElem_mem hi)) (hs _ (List.getElem_mem hi)) (yG (zT hb) i)];simp only;rw[List.take_succ_eq_append_getElem hi]
  rw[e3,ih]
theorem Bz (L:List aw):dp L L.length=dT++(ai L.length 4++ig L 0 L.length):=by
 unfold dp ig;rw[List.range_eq_range',List.append_assoc]
theorem ub (L:List aw): ∃ r,aR L=dT++(ai L.length 4++(ig L 0 L.length++r)):=by
 unfold aR Et;simp only;rw[Bz];refine⟨fL L L.length++(ai (gY L).length 4++(gY L++(ai (dT++(ai L.length 4++ig L 0 L.length)).length 4++(ai (dT++(ai L.length 4++ig L 0 L.length)++fL L L.length).length 4++ai (vZ (dT++(ai L.length 4++ig L 0 L.length)++fL L L.length++ai (gY L).length 4++gY L++ai (dT++(ai L.length 4++ig L 0 L.length)).length 4++ai (dT++(ai L.length 4++ig L 0 L.length)++fL L L.length).length 4)) 4)))),?_⟩;simp only[List.append_assoc]
theorem py {L:List aw} (hb:cd L=0) (hs: ∀ e ∈ L,e.seq<9223372036854775808):(kH (aR L)).1=L/\(kH (aR L)).2.2=false:=by
 obtain⟨r,hr⟩:=ub L;have hf:=sK hb;have e:kH (aR L)=(L,r,false):=by
  rw[hr];unfold kH;simp only;rw[fO (n:=4) dT _ rfl];simp only;rw[fO _ _ (aB _ _)];simp only;rw[jJ,Nat.mod_eq_of_lt (by omega)];exact tV L r hb hs L.length 0 (by omega)
 rw[e];exact⟨rfl,rfl⟩
theorem xY (L:List aw):sy (aR L)=true:=by
 unfold sy aR;rw[List.length_append,aB,Nat.add_sub_cancel,List.take_left,List.drop_left];simp
theorem zo {L:List aw} (hb:cd L=0) (hs: ∀ e ∈ L,e.seq<9223372036854775808):fz (aR L)=0:=by
 obtain⟨h1,h2⟩:=py hb hs;unfold fz;rw[if_neg (by rw[xY];simp),if_neg,if_neg]
 .rw[h1,h2];simp[hb]
 .obtain⟨r,hr⟩:=ub L;rw[hr,fO (n:=4) dT _ rfl];simp
theorem iN {w0 w:World} {F:SP} {ops:Array Oper} {o:Oper} {a:Act} {rest:List Oper} {Q:Exit->Act->World->Prop} (hgd:o.guard=none) (s x:Operand)
 (ho:o.op = .call { callee:= .builtin .append,args:= #[s,x],argTypes:= #[41, 41] })
 (A:Option Addr) (cA:Nat) (l:List UInt8) (hs:a.eval s = .slice A l.length cA) (hS:Sat w0 (Row 5 1 (.slice A l.length cA) l.length (l.map bv)*F) w)
 (B:Option Addr) (cB:Nat) (m:List UInt8) (hx:a.eval x = .slice B m.length cB) (hr:Rd w B m) (k:List UInt8) (hk:k=l++m) (hl:k.length<=140737488355328)
 (h: ∀ A' c' w',Sat w0 (Row 5 1 (.slice A' k.length c') k.length (k.map bv)*F) w'->wpList Tryz.prog ops Q rest (a.put o.dst (.slice A' k.length c')) w'):wpList Tryz.prog ops Q (o::rest) a w:=by
 subst hk;rw[List.length_append] at hl;obtain⟨j0,hj,hy0,hy1,hy2⟩:=info_parts gL;refine au hgd s x 41 ho 5 j0 _ 1 1 Tryz.underlying41 hj hy0 hy1 hy2 rfl (by decide) _ l.length (l.map bv) hs w0 F hS B m.length cB (m.map bv) hx hr (by simp) (dO _) (by unfold maxLen;omega) (by omega) ?_;intro A' c' w' h2;have h3:=h A' c' w';rw[List.length_append,List.map_append] at h3;exact h3 h2
theorem mh {w0 w:World} {F:SP} {ops:Array Oper} {o:Oper} {a:Act} {K:Act->World->Prop} {Q:Exit->Act->World->Prop} {E:Prop} (hgd:o.guard=none) (s x:Operand)
 (ho:o.op = .call { callee:= .builtin .append,args:= #[s,x],argTypes:= #[41, 41] })
 (A:Option Addr) (cA:Nat) (l:List UInt8) (hs:a.eval s = .slice A l.length cA) (hS:Sat w0 (Row 5 1 (.slice A l.length cA) l.length (l.map bv)*F) w)
 (B:Option Addr) (cB:Nat) (m:List UInt8) (hx:a.eval x = .slice B m.length cB) (hr:Rd w B m) (k:List UInt8) (hk:k=l++m) (hl:k.length<=140737488355328)
 (h: ∀ A' c' w',Sat w0 (Row 5 1 (.slice A' k.length c') k.length (k.map bv)*F) w'->K (a.put o.dst (.slice A' k.length c')) w'):
 if Region.wanted o (yielded ops a.tmps)=true then Oper.wp Tryz.prog o a w K Q else E:=by
 subst hk;rw[List.length_append] at hl;obtain⟨j0,hj,hy0,hy1,hy2⟩:=info_parts gL;refine aQ hgd s x 41 ho 5 j0 _ 1 1 Tryz.underlying41 hj hy0 hy1 hy2 rfl (by decide) _ l.length (l.map bv) hs w0 F hS B m.length cB (m.map bv) hx hr (by simp) (dO _) (by unfold maxLen;omega) (by omega) ?_;intro A' c' w' h2;have h3:=h A' c' w';rw[List.length_append,List.map_append] at h3;exact h3 h2
theorem G3 (e:En) (w:World) (hr:pJ w e) (hk:e.key.2.2.length<=140737488355328) (hv:e.value.2.2.length<=140737488355328):
 Calls Tryz.prog 153 #[jD e] w (jW w aV e):=by
 have h:=Sat.start w;obtain⟨⟨kA,kc,k⟩,⟨vA,vc,v⟩,seq,dead⟩:=e;have HRk:Hid (Rd w kA k):=hr.1;have HRv:Hid (Rd w vA v):=hr.2;have hk':k.length<=140737488355328:=hk;have hv':v.length<=140737488355328:=hv;have h1:=h.bG (b:=w.heap.size) 120 #[.slice kA k.length kc,.slice vA v.length vc,.int .i64 seq,.bool dead] rfl;have h2:=h1.bG (b:=w.heap.size+1) 120 #[.slice none 0 0,.slice none 0 0,.int .i64 0,.bool false] (by simp);have hc2:aq No w _:=((aq.refl No w).alloc (.cells #[.slice kA k.length kc,.slice vA v.length vc,.int .i64 seq,.bool dead] 120)).alloc (.cells #[.slice none 0 0,.slice none 0 0,.int .i64 0,.bool false] 120);clear hr h h1;unfold jD;go_enter Tryz.func153, Tryz.ntmps153;go_wp2_with fail;revert h2 hc2;generalize (w.alloc _).alloc _=W;intro h2 hc2;generalize w.heap.size+1=B at*
 generalize w.heap.size=E at*
 have c0:=h2.av.cell 0;have c1:=h2.av.cell 1;have c2:=h2.av.cell 2;have c3:=h2.av.cell 3;have HS0:=ah h2;have HC0:=ah hc2;clear h2 hc2;go_region_law (first
  | (go_simp;go_at_call 104;(with_reducible refine(ox kA kc k HS0.o.drew (HRk.o.new HC0.o.drew) hk').mono ?_);rintro x w1 ⟨A,c,rfl,k1,hs1⟩;have HS1:=ah hs1;have HC1:=ah (HC0.o.drew.tr k1);have c0:=hs1.bD.cell 0;have c1:=hs1.bD.cell 1;have c2:=hs1.bD.cell 2;have c3:=hs1.bD.cell 3;clear hs1 k1)
  | (go_simp;go_at_call 104;(with_reducible refine(ox vA vc v HS1.o (HRv.o.new HC1.o) hv').mono ?_);rintro x w2 ⟨B2,d,rfl,k2,hs2⟩;have HS2:=ah hs2;have HC2:=ah (HC1.o.tr k2);have c0:=hs2.bW.cell 0;have c1:=hs2.bW.cell 1;have c2:=hs2.bW.cell 2;have c3:=hs2.bW.cell 3;have f0:=hs2.bW.frozen 0;have f1:=hs2.bW.frozen 1;clear hs2 k2))
 all_goals
  have h5:=(HS2.o.bW.set 0 (.slice A k.length c)).set 1 (.slice B2 v.length d);clear f0 f1 c0 c1 c2 c3;revert h5;generalize World.setCell _ _ _=w3;intro h5;have c0:=h5.cell 0;have c1:=h5.cell 1;have c2:=h5.cell 2;have c3:=h5.cell 3;have d0:=h5.bW.cell 0;have d1:=h5.bW.cell 1;have d2:=h5.bW.cell 2;have d3:=h5.bW.cell 3;have f0:=h5.bW.frozen 0;have f1:=h5.bW.frozen 1;have f2:=h5.bW.frozen 2;have f3:=h5.bW.frozen 3;have h6:=(((h5.bW.set 0 (.slice A k.length c)).set 1 (.slice B2 v.length d)).set 2 (.int .i64 seq)).set 3 (.bool dead);go_wp2_with fail;revert h6;generalize World.setCell _ _ _=w4;intro h6;refine bodyPost_ret (results_cell_row (p:=2) (by kernel_rfl) _ _ B 120 _ (0,0) _ rfl h6.at Tryz.underlying120 rfl (by kernel_rfl)) rfl ?_;exact⟨A,c,B2,d,rfl,h6.right.right.av⟩
theorem xD (e:En) (w0 w:World) (F:SP) (h:Sat w0 F w) (hr:pJ w e) (hk:e.key.2.2.length<=140737488355328) (hv:e.value.2.2.length<=140737488355328):
 Calls Tryz.prog 153 #[jD e] w fun x w'=>jW w0 F e x w'/\aq No w w':=by
 refine(G3 e w hr hk hv).mono ?_;rintro x w' ⟨A,c,B,d,rfl,hs⟩;exact⟨⟨A,c,B,d,rfl,(h.join hs (bf (bM _ _ _ _ _) (bf (bM _ _ _ _ _) dt))).of (by rw[aj,aj,aX])⟩,hs.aP⟩
def ia (z:Value) (n:Nat):Array Value:=(List.replicate n z).toArray
theorem DZ (z:Value) (n:Nat):madeCells #[z] n=ia z n:=by
 apply Array.ext';apply List.ext_getElem?;intro j;simp[madeCells,ia,List.getElem?_replicate];by_cases h:j<n
 .simp[h];rw[Nat.mod_one];rfl
 .simp[h]
theorem Bl:(Tryz.prog.info? 4).map (fun i=>(i.zero,i.size,i.bytes))=some (some (.bool false),1,1):=by kernel_rfl
theorem yd (n:Nat) (hn:n<=1000000) (W:World):(Instr.makeSlice 34 (.int .i64 (n:Int)) (.int .i64 (n:Int))).run Tryz.prog W=
 .ok (.slice (some ⟨W.heap.size,0,none⟩) n n) (W.alloc (.cells (ia (.bool false) n) 4)):=by
 obtain⟨i0,hi,hz0,hz1,hz2⟩:=info_parts Bl;have hr:=run_make (P:= Tryz.prog) W 34 4 i0 _ Tryz.underlying34 hi hz0 .i64 .i64 n n (by omega) (by omega) (by rw[hz2];omega) (by omega);have hc:(Value.bool false).cells = #[.bool false]:=rfl;simpa [hz1,hc,DZ] using hr
theorem EW (bl bs:Nat) (A:Option Addr) (c:Nat) (es:List En) (s:Int) (i:Nat) (w:World) (h1:w.cell? ⟨bl,0,none⟩=some (.slice A es.length c)) (h2:w.cell? ⟨bs,0,none⟩=some (.int .i64 s)) (hr:aH w A (es.flatMap cu)) (hi:i<es.length):
 Calls Tryz.prog 186 #[.int .i64 (i:Int),.pointer (some ⟨bl,0,none⟩),.pointer (some ⟨bs,0,none⟩)] w fun x w'=>x = .returned (.bool (decide (es[i].seq<=s)))/\aq No w w':=by
 obtain⟨lb,lo,rfl,hq⟩:=eh hr (by omega);obtain⟨y0,y1,y2,y3⟩:=hq i hi;have hii:(i:Int)<es.length:=by omega
 have S0:w.cell? ⟨bl,0,none⟩=some (.slice (some ⟨lb,lo,none⟩) es.length c)/\w.cell? ⟨bs,0,none⟩=some (.int .i64 s)/\w.cell? ⟨lb,lo+i*4+2,none⟩=some (.int .i64 es[i].seq):=⟨h1,h2,y2⟩;have HS:=ah S0;clear hq y0 y1 y2 y3 h1 h2 hr S0;go_enter Tryz.func186, Tryz.ntmps186;go_upto_region 1 with fail;refine wp_region_held_drew (S:=fun w'=>w'.cell? ⟨bl,0,none⟩=some (.slice (some ⟨lb,lo,none⟩) es.length c)/\w'.cell? ⟨bs,0,none⟩=some (.int .i64 s)/\w'.cell? ⟨lb,lo+i*4+2,none⟩=some (.int .i64 es[i].seq)) (by kernel_rfl) HS.o ?_;intro hS0;refine an 0 1 2 3 ?_;refine an 4 5 6 7 ?_;refine wpAnyH_done (by kernel_rfl) ?_ _;go_wp2_with fail;go_ret;exact⟨rfl,(aq.refl No w).drew⟩
def mu (s:Int) (es:List En):Nat:=es.findIdx fun e=>decide (e.seq<=s)
structure M8 (w:World) (es:List En) (s:Int) (i j:Nat) (wr:World):Prop where
 lo: ∀ (m:Nat) (h:m<es.length),m<i->¬ es[m].seq<=s
 hi: ∀ (m:Nat) (h:m<es.length),j<=m->es[m].seq<=s
 aP:aq No w wr
theorem CV {s:Int} {es:List En} {k:Nat} (hk:k<=es.length) (lo: ∀ (m:Nat) (h:m<es.length),m<k->¬ es[m].seq<=s) (hi: ∀ h:k<es.length,es[k].seq<=s):mu s es=k:=by
 unfold mu;by_cases h:k<es.length
 .rw[List.findIdx_eq h];exact⟨by simpa using hi h,fun m hm=>by simpa using lo m (by omega) hm⟩
 .have:k=es.length:=by omega
  subst this;rw[List.findIdx_eq_length];intro x hx;obtain⟨m,hm,rfl⟩:=List.getElem_of_mem hx;simpa using lo m hm hm
theorem DG (bl bs:Nat) (A:Option Addr) (c:Nat) (es:List En) (s:Int) (w:World) (h1:w.cell? ⟨bl,0,none⟩=some (.slice A es.length c)) (h2:w.cell? ⟨bs,0,none⟩=some (.int .i64 s)) (hr:aH w A (es.flatMap cu)) (hn:es.length<=1000000)
 (hmono: ∀ (a b:Nat) (ha:a<es.length) (hb:b<es.length),a<=b->es[a].seq<=s->es[b].seq<=s):
 Calls Tryz.prog 183 #[.int .i64 (es.length:Int),.func (.func 186) #[] #[.pointer (some ⟨bl,0,none⟩),.pointer (some ⟨bs,0,none⟩)]] w fun x w'=>x = .returned (.int .i64 (mu s es:Nat))/\aq No w w':=by
 have H1:=ah h1;have H2:=ah h2;have HR:=ah hr;have HM:=ah hmono;clear h1 h2 hr hmono;go_enter Tryz.func183, Tryz.ntmps183;go_wp2_with fail;go_loopw [5,6] (fun iv jv wr=> ∃ i j:Nat,i<=j/\j<=es.length/\iv = .int .i64 i/\jv = .int .i64 j/\Hid (M8 w es s i j wr)) (fun iv jv _=>((intOf jv) - (intOf iv)).toNat)
 case atStart=>exact⟨0,es.length,by omega,by omega,rfl,rfl,fun m _ h=>by omega,fun m h h2=>by omega,aq.refl _ _⟩
 case round=>
  obtain⟨i,j,hij,hj,rfl,rfl,HD⟩:=hrel;by_cases hlt:i<j
  .obtain⟨m,hm⟩: ∃ m,m=(i+j) / 2:=⟨_,rfl⟩;have hmi:i<=m:=by omega
   have hmj:m<j:=by omega
   have hml:m<es.length:=by omega
   have hw1:IntKind.u64.wrap ((i:Int)+(j:Int))=(i:Int)+j:=by rw[IntKind.wrap_u64];omega
   have hsh:((i:Int)+j) / 2=m:=by omega
   have hw2:IntKind.i64.wrap (m:Int)=m:=by rw[IntKind.wrap_i64];omega
   have HMm:=ah hm;clear hm;obtain⟨Z,hZ⟩: ∃ Z,decide (es[m].seq<=s)=Z:=⟨_,rfl⟩;have HZ:=ah hZ;clear hZ
   cases Z
   all_goals
    go_wp2_with (go_at_call 186;refine(EW bl bs A c es s m _ (HD.o.aP.cell H1.o id) (HD.o.aP.cell H2.o id) (HR.o.new HD.o.aP) hml).mono ?_;rintro x w1 ⟨rfl,k1⟩;rw[HZ.o];have HK:=ah (HD.o.aP.tr k1);clear k1);go_roundw
   .exact⟨m+1,j,by omega,by omega,by push_cast;rfl,rfl,⟨fun a ha h2 h3=>of_decide_eq_false HZ.o (HM.o a m ha hml (by omega) h3),HD.o.hi,HK.o⟩⟩
   .simp[intOf];omega
   .exact⟨i,m,by omega,by omega,rfl,rfl,⟨HD.o.lo,fun a ha h2=>HM.o m a hml ha h2 (of_decide_eq_true HZ.o),HK.o⟩⟩
   .simp[intOf];omega
  .have hij2:i=j:=by omega
   subst hij2;go_wp2_with fail;go_ret;refine⟨?_,HD.o.aP⟩;rw[CV hj (fun a ha h2=>HD.o.lo a ha h2) (fun h=>HD.o.hi i h (Nat.le_refl _))];rfl
def iD (es:List En) (snaps:List Int):List Bool:=snaps.foldl (fun b s=>b.set (mu s es) true) ((List.replicate es.length false).set 0 true)
theorem CZ (es:List En): ∀ (snaps:List Int) (b:List Bool),(snaps.foldl (fun b s=>b.set (mu s es) true) b).length=b.length
 | [],b=>rfl
 | s::snaps,b=>by rw[List.foldl_cons,CZ es snaps,List.length_set]
theorem oO (es:List En) (snaps:List Int):(iD es snaps).length=es.length:=by unfold iD;rw[CZ,List.length_set,List.length_replicate]
theorem AJ (es:List En) (snaps:List Int) (s:Int):iD es (snaps++[s])=(iD es snaps).set (mu s es) true:=by unfold iD;rw[List.foldl_append];rfl
theorem uj (l:List Bool) (k:Nat) (b:Bool):(l.set k b).map Value.bool=(l.map Value.bool).set k (.bool b):=by rw[List.map_set]
section
variable {w0 w:World} {F:SP}
def Co (w0:World) (es:List En) (snaps:List Int) (k g:Nat) (bl:Nat) (A:Option Addr) (c:Nat) (wr:World):Prop:=Sat w0 (Row 4 1 (.slice (some ⟨g,0,none⟩) es.length es.length) es.length ((iD es (snaps.take k)).map Value.bool)*(Pt bl 116 #[.slice A es.length c]*aV)) wr
theorem MK (A:Option Addr) (c:Nat) (es:List En) (SA:Option Addr) (sc:Nat) (snaps:List Int) (w:World) (hr:aH w A (es.flatMap cu)) (hs:aH w SA (snaps.map fun x=> .int .i64 x)) (hn:1<=es.length/\es.length<=1000000) (hsn:snaps.length<=1000000)
 (hmono: ∀ (s:Int) (a b:Nat) (ha:a<es.length) (hb:b<es.length),a<=b->es[a].seq<=s->es[b].seq<=s):
 Calls Tryz.prog 152 #[.slice A es.length c,.slice SA snaps.length sc] w fun x w'=> ∃ g,x = .returned (.slice (some ⟨g,0,none⟩) es.length es.length)/\Sat w (Row 4 1 (.slice (some ⟨g,0,none⟩) es.length es.length) es.length ((iD es snaps).map Value.bool)*aV) w':=by
 have s1:=(Sat.start w).af 116 #[.slice A es.length c];have HR:=ah hr;have HSn:=ah hs;have HM:=ah hmono;have HMk:=ah (fun W=>yd es.length hn.2 W);obtain⟨hn1,hn2⟩:=hn;clear hr hs hmono;have s2:=s1.bG (b:=w.heap.size+1) 4 (ia (.bool false) es.length) (by simp);have s3:=s2.ef (n:=es.length) (cap:=es.length) (size:=1) (Nat.le_refl _) (by unfold maxLen;omega) (by unfold ia;simp);have e3:(ia (.bool false) es.length).toList.take (es.length*1)=(List.replicate es.length false).map Value.bool:=by unfold ia;simp
 rw[e3] at s3;have s5:=s1.bG (b:=w.heap.size+1) 4 ((ia (.bool false) es.length).setIfInBounds 0 (.bool true)) (by simp);have s4:=s5.ef (n:=es.length) (cap:=es.length) (size:=1) (Nat.le_refl _) (by unfold maxLen;omega) (by unfold ia;simp);have e4:((ia (.bool false) es.length).setIfInBounds 0 (.bool true)).toList.take (es.length*1)=((List.replicate es.length false).set 0 true).map Value.bool:=by
  unfold ia;rw[uj,List.map_replicate,Nat.mul_one,Array.toList_setIfInBounds,List.take_of_length_le (by simp)]
 rw[e4] at s4;have f0:=s3.jl 0;have c0:=s3.fW (j:=0) (by simp;omega);simp only[List.getElem_map,List.getElem_replicate] at c0;have q0:=HMk.o;have hne:¬ ((es.length:Int)=0):=by omega
 go_enter Tryz.func152, Tryz.ntmps152;go_upto_region 3 with fail;clear f0 c0 q0 hne s2 s3 e3 s5 e4 s1;revert s4;generalize World.alloc (World.alloc w _) _=w3;generalize w.heap.size+1=g;generalize w.heap.size=bl;intro s4;have HS4:Hid (Co w es snaps 0 g bl A c w3):=s4;clear s4;go_wp2_with fail;go_loopw [16] (fun iv wr=> ∃ k:Nat,k<=snaps.length/\iv = .int .i64 k/\Hid (Co w es snaps k g bl A c wr)) (fun iv _=>snaps.length - (intOf iv).toNat)
 case atStart=>exact⟨0,by omega,rfl,HS4.o⟩
 case round=>
  obtain⟨k,hk,rfl,HD⟩:=hrel;by_cases hlt:k<snaps.length
  .obtain⟨sb,so,rfl,hsc⟩:=(HSn.o.new (Sat.aP HD.o)).get (j:=k) (by simpa using hlt);simp only[List.getElem_map] at hsc;obtain⟨q,hq⟩: ∃ q,snaps[k]=q:=⟨_,rfl⟩;have HQe:Hid (snaps.take (k+1)=snaps.take k++[q]):=by
    unfold Hid;rw[List.take_add_one,List.getElem?_eq_getElem hlt,hq];rfl
   rw[hq] at hsc;clear hq;have s6:=Sat.af HD.o 3 #[.int .i64 q];have c1:=s6.bD.cell 0;have HSe:Hid (Calls Tryz.prog 183 #[.int .i64 (es.length:Int),.func (.func 186) #[] #[.pointer (some ⟨bl,0,none⟩),.pointer (some ⟨wr.heap.size,0,none⟩)]] (wr.alloc (.cells #[.int .i64 q] 3)) fun x w'=>x = .returned (.int .i64 (mu q es:Nat))/\aq No (wr.alloc (.cells #[.int .i64 q] 3)) w'):=
    DG bl wr.heap.size A c es q _ c1 (s6.cell 0) (HR.o.new s6.aP) hn2 (HM.o q)
   have HS6:=ah s6;have hf:mu q es<=es.length:=List.findIdx_le_length;obtain⟨z,hz⟩: ∃ z,mu q es=z:=⟨_,rfl⟩;have HNx:Hid (iD es (snaps.take (k+1))=(iD es (snaps.take k)).set z true):=by
    unfold Hid;rw[HQe.o,AJ,hz]
   rw[hz] at HSe hf;clear hz s6;have hml:=oO es (snaps.take k);by_cases hzn:z<es.length
   .have hzi:(z:Int)<es.length:=by omega
    go_wp2_with (go_at_call 183;(with_reducible refine HSe.o.mono ?_);rintro x w7 ⟨rfl,k7⟩;have HS7:=ah (HS6.o.new k7);have c2:=HS7.o.bD.cell 0;have c3:=HS7.o.av.fW (j:=z) (by rw[List.length_map,hml];exact hzn);have f3:=HS7.o.av.jl z;clear k7);have h9:=HS7.o.av.nu (j:=z) (.bool true);rw[<-uj, <-HNx.o] at h9;go_roundw
    .exact⟨k+1,by omega,by go_num,Sat.right (A:=Pt wr.heap.size 3 #[.int .i64 q]) (h9.of (by ac_rfl))⟩
    .simp[intOf];omega
   .have hzi:¬ (z:Int)<es.length:=by omega
    have HNy:Hid ((iD es (snaps.take k)).set z true=iD es (snaps.take k)):=List.set_eq_of_length_le (by omega);go_wp2_with (go_at_call 183;(with_reducible refine HSe.o.mono ?_);rintro x w7 ⟨rfl,k7⟩;have HS7:=ah (HS6.o.new k7);have c2:=HS7.o.bD.cell 0;clear k7);go_roundw
    .refine⟨k+1,by omega,by go_num,?_⟩;unfold Hid Co;rw[HNx.o,HNy.o];exact HS7.o.right
    .simp[intOf];omega
  .have hke:snaps.take k=snaps:=List.take_of_length_le (by omega);go_wp2_with fail;go_ret;refine⟨g,rfl,?_⟩;have h9:=HD.o;unfold Co at h9;rw[hke] at h9;exact Sat.right (A:=Pt bl 116 #[.slice A es.length c]) (h9.of (by ac_rfl))
theorem Gf (A:Option Addr) (c:Nat) (es:List En) (SA:Option Addr) (sc:Nat) (snaps:List Int) (h:Sat w0 F w) (hr:aH w A (es.flatMap cu)) (hs:aH w SA (snaps.map fun x=> .int .i64 x)) (hn:1<=es.length/\es.length<=1000000) (hsn:snaps.length<=1000000)
 (hmono: ∀ (s:Int) (a b:Nat) (ha:a<es.length) (hb:b<es.length),a<=b->es[a].seq<=s->es[b].seq<=s):
 Calls Tryz.prog 152 #[.slice A es.length c,.slice SA snaps.length sc] w fun x w'=> ∃ g,x = .returned (.slice (some ⟨g,0,none⟩) es.length es.length)/\Sat w0 (Row 4 1 (.slice (some ⟨g,0,none⟩) es.length es.length) es.length ((iD es snaps).map Value.bool)*F) w'/\aq No w w':=by
 refine(MK A c es SA sc snaps w hr hs hn hsn hmono).mono ?_;rintro x w' ⟨g,rfl,hs⟩;exact⟨g,rfl,(h.join hs (bf (bM _ _ _ _ _) dt)).of (by rw[aj,aX]),hs.aP⟩
end
def ny {α:Type}:List Bool->List α->List α
 | true::bs,x::l=>x::ny bs l
 | false::bs,x::l=>ny bs l
 | _,_=>[]
theorem rh {α:Type}: ∀ (bs:List Bool) (l:List α) (b:Bool) (x:α),bs.length=l.length->ny (bs++[b]) (l++[x])=ny bs l++(if b=true then [x] else [])
 | [],[],true,x,_=>rfl
 | [],[],false,x,_=>rfl
 | [],y::l,b,x,h=>by cases h
 | a::bs,[],b,x,h=>by cases h
 | true::bs,y::l,b,x,h=>by show y::ny (bs++[b]) (l++[x])=y::(ny bs l++_);rw[rh bs l b x (by simpa using h)]
 | false::bs,y::l,b,x,h=>rh bs l b x (by simpa using h)
theorem yC (snaps:List Int): ∀ (g:List aw) (q:Option Int) (bs:List Bool),bs.length=g.length->(∀ i (h:i<g.length) (h':i<bs.length),bs[i]=pt snaps (if hi:i=0 then q else some (g[i - 1]'(by omega)).seq) g[i])->ny bs g=df snaps q g
 | [],q,[],_,_=>rfl
 | [],q,b::bs,h,_=>by cases h
 | x::g,q,[],h,_=>by cases h
 | x::g,q,b::bs,h,hb=>by
  have h0:=hb 0 (by simp) (by simp);simp only[List.getElem_cons_zero,dif_pos] at h0;have ih:=yC snaps g (some x.seq) bs (by simpa using h) (fun i hi hi'=>by
   have h1:=hb (i+1) (by simp;omega) (by simp;omega);simp only[List.getElem_cons_succ] at h1;rw[h1];congr 1
   rw[dif_neg (by omega)];by_cases hz:i=0
   .subst hz;rw[dif_pos rfl];rfl
   .rw[dif_neg hz];obtain⟨j,rfl⟩: ∃ j,i=j+1:=⟨i - 1,by omega⟩;rfl)
  show ny (b::bs) (x::g)=if pt snaps q x=true then x::df snaps (some x.seq) g else df snaps (some x.seq) g
  rw[<-h0, <-ih]
  cases b<;>rfl
def BE (es:List En):Prop:= ∀ (a b:Nat) (ha:a<es.length) (hb:b<es.length),a<b->es[b].seq<es[a].seq
theorem GM (es:List En): ∀ (snaps:List Int) (b:List Bool) (i:Nat) (h:i<b.length) (h':i<(snaps.foldl (fun b s=>b.set (mu s es) true) b).length),(snaps.foldl (fun b s=>b.set (mu s es) true) b)[i]=(b[i] || snaps.any fun s=>decide (mu s es=i))
 | [],b,i,h,h'=>by simp
 | s::snaps,b,i,h,h'=>by
  simp only[List.foldl_cons];rw[GM es snaps _ i (by rw[List.length_set];exact h) (by simpa using h'),List.getElem_set,List.any_cons, <-Bool.or_assoc];congr 1
  by_cases hs:mu s es=i
  .rw[if_pos hs,decide_eq_true hs,Bool.or_true]
  .rw[if_neg hs,decide_eq_false hs,Bool.or_false]
theorem Jq {es:List En} (hd:BE es) {s:Int} {i:Nat} (hi:i+1<es.length):mu s es=i+1↔es[i+1].seq<=s/\s<es[i].seq:=by
 constructor
 .intro h;have h1:mu s es<es.length:=by omega
  have h2:decide (es[i+1].seq<=s)=true:=by
   have h5:=List.findIdx_getElem (xs:=es) (p:=fun e:En=>decide (e.seq<=s)) (w:=show List.findIdx (fun e:En=>decide (e.seq<=s)) es<es.length from h1);have e:List.findIdx (fun e:En=>decide (e.seq<=s)) es=i+1:=h;simp only[e] at h5;exact h5
  have h3:=List.not_of_lt_findIdx (p:=fun e=>decide (e.seq<=s)) (xs:=es) (i:=i) (by show i<mu s es;omega);exact⟨of_decide_eq_true h2,by simpa using h3⟩
 .rintro ⟨h1,h2⟩;refine CV (by omega) (fun m hm hmi=>?_) (fun _=>h1);rcases Nat.lt_or_ge m i with h3 | h3
  .have:=hd m i hm (by omega) h3;omega
  .obtain rfl:m=i:=by omega
   omega
theorem G1 {es:List En} (hd:BE es) (snaps:List Int):ny (iD es snaps) (es.map En.ao)=df snaps none (es.map En.ao):=by
 refine yC snaps _ none _ (by rw[oO,List.length_map]) (fun i h h'=>?_);have hl:i<es.length:=by simpa using h
 have e0:(iD es snaps)[i]=_:=GM es snaps ((List.replicate es.length false).set 0 true) i (by simpa using hl) h';rw[e0,List.getElem_set]
 cases i with
 | zero=>rw[if_pos rfl,dif_pos rfl];rfl
 | succ i=>
  rw[if_neg (by omega),List.getElem_replicate,dif_neg (by omega),Bool.false_or];show _=snaps.any fun s=>decide (((es.map En.ao)[i+1]).seq<=s) && decide (s<((es.map En.ao)[i+1 - 1]'(by simp;omega)).seq)
  congr 1
  funext s
  have h1:=Jq hd (s:=s) hl;simp only[List.getElem_map];rw[Bool.eq_iff_iff,Bool.and_eq_true,decide_eq_true_iff,decide_eq_true_iff,decide_eq_true_iff,h1];rfl
theorem DF {w:World} {A:Option Addr} {c n:Nat} {es:List En} (h:aH w A (es.flatMap cu)) (hn:n<=es.length) (hc:es.length<=c):aH w (if c=n then A else A.map (·.add (n*4))) ((es.drop n).flatMap cu):=by
 have h1:=aH.drop h (k:=n*4) (cap:=c*4) (by rw[dL fo];omega) (by rw[dL fo];omega);have h2:(es.flatMap cu).drop (n*4)=(es.drop n).flatMap cu:=by
  clear h h1 hc
  induction n generalizing es with
  | zero=>simp
  | succ n ih=>
   cases es with
   | nil=>simp
   | cons e es=>
    rw[List.flatMap_cons,List.drop_succ_cons,show (n+1)*4=(cu e).length+n*4 by rw[fo];omega, <-List.drop_drop,List.drop_left];exact ih (by simpa using hn)
 rw[h2] at h1;by_cases e:c=n
 .rw[if_pos e];rw[if_pos (by omega)] at h1;exact h1
 .rw[if_neg e];rw[if_neg (by omega)] at h1;exact h1
theorem DX {w:World} {A:Option Addr} {n:Nat} {es:List En} (h:aH w A (es.flatMap cu)) (hn:n<=es.length):aH w A ((es.take n).flatMap cu):=by
 have h1:=aH.take h (n*4);have h2:(es.flatMap cu).take (n*4)=(es.take n).flatMap cu:=by
  clear h h1
  induction n generalizing es with
  | zero=>simp
  | succ n ih=>
   cases es with
   | nil=>simp
   | cons e es=>
    rw[List.flatMap_cons,List.take_succ_cons,List.flatMap_cons,show (n+1)*4=(cu e).length+n*4 by rw[fo];omega,List.take_length_add_append];rw[ih (by simpa using hn)]
 rwa [h2] at h1
section
variable {key:List UInt8} {seq:Int} {L:List aw}
def IZ (key:List UInt8) (seq:Int) (L:List aw):Option aw:=match L.dropWhile (fun x=>aF x (da key seq)) with
 | x::_=>if x.key=key then some x else none
 | []=>none
theorem GD (key:List UInt8) (seq:Int) (ns:List Nd):AE key seq ns=IZ key seq ((gy ns).map (·.1)):=by
 have e:(gy ns).map (·.1)=ns.map fun n=>n.e.ao:=by unfold gy;rw[List.map_map];rfl
 rw[e];have h:(ns.map fun n=>n.e.ao).dropWhile (fun x=>aF x (da key seq))=(behind (da key seq) ns).map fun n=>n.e.ao:=by
  unfold behind
  induction ns with
  | nil=>rfl
  | cons n ns ih=>
   rw[List.map_cons,List.dropWhile_cons,List.dropWhile_cons];show (if aF n.e.ao (da key seq)=true then _ else _)=List.map _ (if aF n.e.ao (da key seq)=true then _ else _);split
   .exact ih (by unfold gy;rw[List.map_map];rfl)
   .rfl
 unfold AE IZ;rw[h]
 cases behind (da key seq) ns<;>rfl
theorem kT (f:aw->Bool) (L:List aw):L=L.takeWhile f++L.dropWhile f:=(List.takeWhile_append_dropWhile).symm
theorem Bk {f:aw->Bool}: ∀ {L:List aw} {x:aw},x ∈ L.takeWhile f->f x=true
 | [],_,h=>by simp at h
 | y::L,x,h=>by
  rw[List.takeWhile_cons] at h;split at h
  .rename_i hy;rcases List.mem_cons.1 h with rfl | h
   .exact hy
   .exact Bk h
  .simp at h
end
structure ep (ns:List Nd) (n:Nat):Prop where
 ok:xN ns
 len:ns.length<=n
 each: ∀ m ∈ ns,m.e.key.2.2.length<=200/\m.e.value.2.2.length<=20000/\m.e.seq<=fm
theorem BA: ∀ l:List Nd,(∀ m ∈ l,m.e.key.2.2.length<=200/\m.e.value.2.2.length<=20000/\m.e.seq<=fm)->kI l<=l.length*20200
 | [],_=>Nat.zero_le _
 | x::l,h=>by
  have h3:=BA l fun m hm=>h m (List.mem_cons_of_mem _ hm)
  have h4:=h x List.mem_cons_self;show x.e.key.2.2.length+x.e.value.2.2.length+kI l<=_;simp only[List.length_cons];omega
theorem ep.LV {ns:List Nd} {n:Nat} (h:ep ns n):kI ns<=n*20200:=by
 exact Nat.le_trans (BA ns h.each) (Nat.mul_le_mul_right _ h.len)
theorem ep.small {ns:List Nd} {n:Nat} (h:ep ns n) (hn:n<=100000):Small ns:=⟨by have:=h.len;omega,fun m hm=>by have:=h.each m hm;omega⟩
theorem yI (n:Nat):ep [] n:=⟨JD,Nat.zero_le _,by simp⟩
def MV (w0:World) (F:SP) (b hr:Nat) (ns:List Nd) (n:Nat) (e:aw) (H:Int) (x:Ending) (w':World):Prop:=
 ∃ ns',x = .returned (.int .i64 (if mT e (gy ns) then 50 else 0))/\ep ns' (n+1)/\gy ns'=Hh e (fj H) (gy ns)/\Sat w0 (bK b hr ns'*F) w'
theorem Iv (b hr:Nat) (ns:List Nd) (n:Nat) (H:Int) (e:En) (w0 w:World) (F:SP) (h:Sat w0 (bK b hr ns*F) w) (ht:ep ns n) (hn:n<=100000) (he:pJ w e)
 (hk:e.key.2.2.length<=200) (hv:e.value.2.2.length<=20000) (hsq:e.seq<=fm):
 Calls Tryz.prog 62 #[.pointer (some ⟨b,0,none⟩),jD e,.int .i64 H] w (MV w0 F b hr ns n e.ao H):=by
 have hb:0<=(kI ns:Int)/\(kI ns:Int)<=1000000000000:=by
  have:=ht.LV;generalize kI ns=q at*
  omega
 have hl:=ht.len;refine(Fo b hr ns ns.length (kI ns) H e w0 w F h ht.ok he (by omega) (by omega) (by omega) hb).mono ?_;rintro x w' (⟨h1,rfl,h2⟩ | ⟨h1,rfl,N,a1,a2,a3,h2⟩)
 .rw[um] at h1;exact⟨ns,by rw[h1];rfl,⟨ht.ok,by omega,ht.each⟩,by unfold Hh;rw[h1];rfl,h2⟩
 .have hok:=JE (H:=H) ht.ok h1 a1 a2 a3;have hab:=bN e.ao ns;have hlen:ns.length=(ahead e.ao ns).length+(behind e.ao ns).length:=by conv=>lhs;rw[hab,List.length_append]
  have hbyt:kI ns=kI (ahead e.ao ns)+kI (behind e.ao ns):=by
   conv=>lhs;rw[hab]
   unfold kI;rw[List.map_append,Cc]
  rw[um] at h1;refine⟨ahead e.ao ns++N::behind e.ao ns,by rw[h1];rfl,⟨hok,?_,?_⟩,?_,?_⟩
  .rw[List.length_append,List.length_cons];omega
  .intro m hm;rcases List.mem_append.1 hm with hm | hm
   .exact ht.each m (by rw[hab];exact List.mem_append_left _ hm)
   .rcases List.mem_cons.1 hm with rfl | hm
    .have k1:m.e.key.2.2=e.key.2.2:=congrArg aw.key a1;have k2:m.e.value.2.2=e.value.2.2:=congrArg aw.value a1;have k3:m.e.seq=e.seq:=congrArg aw.seq a1;rw[k1,k2,k3];exact⟨hk,hv,hsq⟩
    .exact ht.each m (by rw[hab];exact List.mem_append_right _ hm)
  .unfold Hh;rw[h1, <-EK, <-qI];show gy (_++N::_)=gy _++_::gy _;unfold gy;rw[List.map_append,List.map_cons];have:Fs N=(e.ao,fj H):=by unfold Fs;rw[a1,a3]
   rw[this]
  .refine h2.of ?_;unfold bK;have e1:((ahead e.ao ns++N::behind e.ao ns).length:Int)=(ns.length:Int)+1:=by rw[List.length_append,List.length_cons];omega
   have e2:(kI (ahead e.ao ns++N::behind e.ao ns):Int)=(kI ns:Int)+((e.ao.key.length+e.ao.value.length:Nat):Int):=by
    have:kI (ahead e.ao ns++N::behind e.ao ns)=kI (ahead e.ao ns)+(N.e.ao.key.length+N.e.ao.value.length+kI (behind e.ao ns)):=by
     unfold kI;rw[List.map_append,Cc];rfl
    rw[this,a1];omega
   rw[e1,e2]
def cG (ns:List Nd):List aw:=(gy ns).map (·.1)
theorem lM {ns:List Nd} (h:xN ns):(cG ns).Pairwise dJ:=by
 unfold cG gy;rw[List.map_map,List.pairwise_map];exact h.sort
theorem Ek (e:aw) (h:Nat) (L:List Pr) (hn:mT e L=false):(Hh e h L).map (·.1)=kK e (L.map (·.1)):=by
 unfold Hh;rw[if_neg (by rw[hn];simp)];unfold kK vM lU;rw[List.map_append,List.map_cons];have h1: ∀ L:List Pr,(L.takeWhile fun p=>aF p.1 e).map (·.1)=(L.map (·.1)).takeWhile fun x=>aF x e:=fun L=>by
  induction L with
  | nil=>rfl
  | cons p L ih=>
   rw[List.takeWhile_cons,List.map_cons,List.takeWhile_cons];split
   .rw[List.map_cons,ih]
   .rfl
 have h2: ∀ L:List Pr,(L.dropWhile fun p=>aF p.1 e).map (·.1)=(L.map (·.1)).dropWhile fun x=>aF x e:=fun L=>by
  induction L with
  | nil=>rfl
  | cons p L ih=>
   rw[List.dropWhile_cons,List.map_cons,List.dropWhile_cons];split
   .exact ih
   .rfl
 rw[h1,h2]
theorem EL {e:aw} {L:List Pr} (h: ∀ x ∈ L.map (·.1),¬ jm x e):mT e L=false:=by
 unfold mT;split
 .rename_i p s hp;rw[decide_eq_false_iff_not];intro h0;have hm:p ∈ lU e L:=by rw[hp];exact List.mem_cons_self
  exact h p.1 (List.mem_map_of_mem ((List.dropWhile_sublist _).mem hm)) (su.1 h0)
 .rfl
theorem Cn {key:List UInt8} {seq:Int}: ∀ {L:List aw},L.Pairwise dJ->IZ key seq L=mw key seq L
 | [],_=>rfl
 | x::L,h=>by
  obtain⟨h1,h2⟩:=List.pairwise_cons.1 h;have ih:=Cn (key:=key) (seq:=seq) h2;unfold IZ at ih ⊢;rw[List.dropWhile_cons];by_cases hx:aF x (da key seq)=true
  .rw[if_pos hx,ih,rV];rintro ⟨e1,e2⟩;rcases cU.1 (show dJ x (da key seq) from hx) with h3 | ⟨_,h3⟩
   .exact dG h3 e1
   .have h4:seq<x.seq:=h3;omega
  .rw[if_neg hx];simp only;by_cases hk:x.key=key
   .rw[if_pos hk,mM ⟨hk,?_⟩];rcases Int.lt_or_le seq x.seq with h3 | h3
    .exact absurd (show aF x (da key seq)=true from cU.2 (.inr ⟨hk,h3⟩)) hx
    .exact h3
   .rw[if_neg hk,BX];intro y hy e;have hlt:Lib.compareBytes key x.key<0:=by
     rcases wv key x.key with h3 | h3 | h3
     .exact h3
     .exact absurd h3.symm hk
     .exact absurd (show aF x (da key seq)=true from cU.2 (.inl h3)) hx
    rcases List.mem_cons.1 hy with rfl | hy
    .exact hk e
    .rcases cU.1 (h1 y hy) with h4 | ⟨h4,_⟩
     .have:=dI hlt h4;rw[e] at this;exact dG this rfl
     .exact hk (h4.trans e)
theorem rC (b hr:Nat) (ns:List Nd) (n:Nat) (H:Int) (e:En) (w0 w:World) (F:SP) (h:Sat w0 (bK b hr ns*F) w) (ht:ep ns n) (hn:n<=100000) (he:pJ w e)
 (hk:e.key.2.2.length<=200) (hv:e.value.2.2.length<=20000) (hsq:e.seq<=fm) (hnew: ∀ x ∈ cG ns,¬ jm x e.ao):
 Calls Tryz.prog 62 #[.pointer (some ⟨b,0,none⟩),jD e,.int .i64 H] w fun x w'=> ∃ ns',x = .returned (.int .i64 0)/\ep ns' (n+1)/\cG ns'=kK e.ao (cG ns)/\Sat w0 (bK b hr ns'*F) w':=by
 refine(Iv b hr ns n H e w0 w F h ht hn he hk hv hsq).mono ?_;rintro x w' ⟨ns',rfl,h1,h2,h3⟩;have h4:=EL (e:=e.ao) (L:=gy ns) hnew;refine⟨ns',by rw[h4];rfl,h1,?_,h3⟩;unfold cG;rw[h2,Ek _ _ _ h4]
end Go.Proofs.YtmbaiglpgaoogaaGreat
