/- Joined, as they were built one by one: TabBuild MemTab TabOpenP TabLaw AppG MemBest. -/
import Derived.Lib.SlBytesConst
import Derived.Test.YtmbaiglpgaoogaaGreatS02
import Derived.Test.YtmbaiglpgaoogaaGreatS15
import Derived.Test.YtmbaiglpgaoogaaGreatS16
import Derived.Test.YtmbaiglpgaoogaaGreatS18
namespace Go.Proofs.YtmbaiglpgaoogaaGreat
open Go.RowKit
set_option linter.unusedVariables false
set_option maxRecDepth 100000
theorem entB_len (al:List UInt8) (e:Ent) (hk:e.key.length≤128) (hv:e.value.length≤16384):(entB al e).length≤16525:=by
 unfold entB;simp[putB_len];omega
theorem entAt_len (L:List Ent) (i:Nat) (h: ∀ e ∈ L,e.key.length≤128∧e.value.length≤16384):(entAt L i).length≤16525:=by
 unfold entAt;split
 ·rename_i e he;have:=h e (List.mem_of_getElem? he);exact entB_len _ _ this.1 this.2
 ·simp
theorem bodyB_len (L:List Ent) (h: ∀ e ∈ L,e.key.length≤128∧e.value.length≤16384): ∀ k,(bodyB L k).length≤8+k*16525
 | 0=>by simp[bodyB,markB,putB_len]
 | k+1=>by
  have h1:=bodyB_len L h k;have h2:=entAt_len L k h;rw[bodyB_succ,List.length_append];omega
theorem idxAt_len (L:List Ent) (i:Nat) (h: ∀ e ∈ L,e.key.length≤128∧e.value.length≤16384):(idxAt L i).length≤133:=by
 unfold idxAt;split
 ·rw[List.length_append,List.length_append,putB_len]
  cases hq:L[i]? with
  | none=>simp
  | some e=>have:=h e (List.mem_of_getElem? hq);simp;omega
 ·simp
theorem idxB_len (L:List Ent) (h: ∀ e ∈ L,e.key.length≤128∧e.value.length≤16384): ∀ k,(idxB L k).length≤4+k*133
 | 0=>by simp[idxB,putB_len]
 | k+1=>by
  have h1:=idxB_len L h k;have h2:=idxAt_len L k h;rw[idxB_succ,List.length_append];omega
theorem bitsB_len (L:List Ent):(bitsB L).length=nbytes (unlike L L.length).length 10:=by
 unfold bitsB;rw[length_addAll,List.length_replicate]
theorem app_eqs {a b c:List UInt8} (h:c=a++b):a.length+b.length=c.length∧a.map bv++b.map bv=c.map bv:=by
 subst h;exact⟨List.length_append.symm,List.map_append.symm⟩
theorem mayE_iff {e:Ent}:mayE e=true↔e.key.length≤128∧e.value.length≤16384∧(e.dead=true→e.value.length=0)∧0≤e.seq:=by
 unfold mayE
 cases e.dead<;>simp
theorem map_at {es:List En} {i:Nat} (h:i<es.length):(es.map En.ent)[i]?=some es[i].ent:=by rw[List.getElem?_map,List.getElem?_eq_getElem h];rfl
theorem entAt_first {es:List En} {i:Nat} (h:i<es.length) (h8:i % 8=0):entAt (es.map En.ent) i=entB [] es[i].ent:=by
 unfold entAt aheadK;rw[map_at h,if_pos h8]
theorem entAt_next {es:List En} {i:Nat} (h:i+1<es.length) (h8:¬ (i+1) % 8=0):entAt (es.map En.ent) (i+1)=entB es[i].key.2.2 es[i+1].ent:=by
 unfold entAt aheadK;rw[map_at h,if_neg h8,Nat.add_sub_cancel,map_at (show i<es.length by omega)];rfl
theorem idxAt_first {es:List En} {i:Nat} (h:i<es.length) (h8:i % 8=0):idxAt (es.map En.ent) i=(putB (bodyB (es.map En.ent) i).length 4++[UInt8.ofNat es[i].key.2.2.length])++es[i].key.2.2:=by
 unfold idxAt;rw[if_pos h8,map_at h,List.append_assoc];rfl
theorem idxAt_next {es:List En} {i:Nat} (h8:¬ i % 8=0):idxAt (es.map En.ent) i=[]:=by
 unfold idxAt;rw[if_neg h8]
theorem entS (a:Slc) (e:En) (EB:List UInt8) (hEB:entB a.2.2 e.ent=EB) (w0 w:World) (F:SP) (h:Sat w0 F w) (ha:Rd w a.1 a.2.2) (he:EnR w e) (hal:a.2.2.length≤128) (hkl:e.key.2.2.length≤128) (hkc:e.key.2.2.length≤e.key.2.1) (hkm:e.key.2.1≤maxLen) (hvl:e.value.2.2.length≤16384) (hsq:0≤e.seq∧e.seq<9223372036854775808):
  Calls Tryz.prog 179 #[.slice a.1 a.2.2.length a.2.1,.agg #[.slice e.key.1 e.key.2.2.length e.key.2.1,.slice e.value.1 e.value.2.2.length e.value.2.1,.int .i64 e.seq,.bool e.dead]] w fun x w'=> ∃ A c,x = .returned (.slice A EB.length c)∧Sat w0 (Row 5 1 (.slice A EB.length c) EB.length (EB.map bv)*F) w':=by
 subst hEB;exact(entB_any a e w0 w F h ha he hal hkl hkc hkm hvl hsq).mono fun _ _ ⟨A,c,e,_,_,hs⟩=>⟨A,c,e,hs⟩
theorem two_rdl (w3:World) {a b:Nat} {A3:Option Addr} {c3:Nat} {l m:List UInt8} (h1:Rd w3 (some ⟨a,0,none⟩) l) (h2:Rd w3 A3 m):RdL (w3.alloc (.cells #[.slice (some ⟨a,0,none⟩) l.length b,.slice A3 m.length c3] 41)) (some ⟨w3.heap.size,0,none⟩) [(some ⟨a,0,none⟩,b,l),(A3,c3,m)]:=by
 refine⟨?_,fun x hx=>?_⟩
 ·have:=lit_rdv w3 #[.slice (some ⟨a,0,none⟩) l.length b,.slice A3 m.length c3] 41;simpa [slOf] using this
 ·simp only[List.mem_cons,List.not_mem_nil,or_false] at hx;rcases hx with rfl | rfl
  ·exact h1.alloc _
  ·exact h2.alloc _
theorem fourS (n:Nat) (hn:n<9223372036854775808) (w0 w:World) (F:SP) (h:Sat w0 F w):Calls Tryz.prog 178 #[.int .i64 (n:Int)] w fun e w'=> ∃ A c,e = .returned (.slice A (putB n 4).length c)∧Sat w0 (Row 5 1 (.slice A (putB n 4).length c) (putB n 4).length ((putB n 4).map bv)*F) w':=
 (four_any n hn w0 w F h).mono fun _ _ ⟨A,c,e,_,_,hs⟩=>⟨A,c,e,hs⟩
theorem one_rd {w0 w:World} {g:Nat} {F:SP} (n:Nat) (hn:n≤128) (h:Sat w0 (Pt g 5 #[.int .u8 (n:Int)]*F) w):Rd w (some ⟨g,0,none⟩) [UInt8.ofNat n]:=RdV.of_at h.at fun j hj=>by
 have hn:((UInt8.ofNat n).toNat:Int)=n:=by rw[UInt8.toNat_ofNat',Nat.mod_eq_of_lt (by omega)]
 have e:([UInt8.ofNat n].map bv)=[.int .u8 (n:Int)]:=by
  unfold bv;rw[List.map_cons,List.map_nil,hn]
 simp only[e];rw[←List.getElem?_eq_getElem (by rw[e] at hj;exact hj)];simp
theorem told_own {B:List UInt8} {w w':World} {e:Ending} (h:Told B w e w'): ∃ A c,e = .returned (.slice A B.length c)∧w'.ownsRow w.heap.size 5 1 (.slice A B.length c) B.length (B.map bv)∧Chg No w w':=by
 obtain⟨x,cap,cur,rfl,h1,h2,h3,h4,h5,h6,h7⟩:=h;refine⟨_,_,rfl,⟨by simp,.inr ⟨x,cap,cur,rfl,h1,h2,h4,h5,by rw[h3,Nat.mul_one],?_⟩⟩,h7⟩;have hc:cur.toList.length=cap:=by simp[h3]
 apply List.ext_getElem
 ·rw[List.length_take,hc,List.length_map];omega
 ·intro j hj hj2;rw[List.length_map] at hj2;obtain⟨_,e⟩:=Array.getElem?_eq_some_iff.1 (h6 j hj2);rw[List.getElem_take,List.getElem_map, ←e,Array.getElem_toList]
theorem bits_len (es:List En) (hn:es.length≤65536):(bitsB (es.map En.ent)).length≤262144:=by
 rw[bitsB_len];have:=unlike_len (es.map En.ent) (es.map En.ent).length;have e:(es.map En.ent).length≤65536:=by simpa using hn
 exact(nbytes_le _ 10 ⟨by omega,by omega,by omega,by omega⟩).2.2
theorem allB_eq {L:List Ent} {n:Nat} {b x c d1 d2 d3 d4:List UInt8} (hn:L.length=n) (hb:bodyB L n=b) (hx:idxB L n=x) (hc:c=b++x) (h1:d1=c++putB (bitsB L).length 4) (h2:d2=d1++bitsB L) (h3:d3=d2++putB b.length 4) (h4:d4=d3++putB c.length 4):buildB L=d4++putB (sumB d4) 4:=by
 subst hn hb hx hc h1 h2 h3 h4;rfl
def Built (L:List Ent) (w:World) (x:Ending) (w':World):Prop:=
 (buildE L≠0∧x = .returned (.tuple #[.slice none 0 0,.int .i64 (buildE L:Nat)])∧Chg No w w')∨
 (buildE L=0∧ ∃ A c,x = .returned (.tuple #[.slice A (buildB L).length c,.int .i64 0])∧(buildB L).length≤c∧c≤maxLen∧Sat w (Row 5 1 (.slice A (buildB L).length c) (buildB L).length ((buildB L).map bv)*Emp) w')
structure BldAt (w:World) (L:List Ent) (i:Nat) (vb vx:Value) (wr:World):Prop where
 sat:Sat w (Row 5 1 vb (bodyB L i).length ((bodyB L i).map bv)*(Row 5 1 vx (idxB L i).length ((idxB L i).map bv)*Emp)) wr
theorem body_zero (L:List Ent):bodyB L 0=markB++putB L.length 4:=by simp[bodyB]
theorem idx_zero (L:List Ent):idxB L 0=putB ((L.length+7) / 8) 4:=by simp[idxB]
set_option maxHeartbeats 4000000 in
theorem build_any (A:Option Addr) (c:Nat) (es:List En) (w:World) (h:RdV w A (es.flatMap enV)) (hr:EnsR w es) (hc:es.length≤c) (hm:c≤maxLen) (hsh: ∀ e ∈ es,e.key.2.2.length≤140737488355328∧e.value.2.2.length≤140737488355328∧e.key.2.2.length≤e.key.2.1∧e.key.2.1≤maxLen) (hi64: ∀ e ∈ es,e.seq<9223372036854775808):
  Calls Tryz.prog 142 #[.slice A es.length c] w (Built (es.map En.ent) w):=by
 obtain⟨j0,hj,hy0,hy1,hy2⟩:=info_parts info_u8;have Hj:=ah hj;have Hy0:=ah hy0;have Hy1:=ah hy1;have Hy2:=ah hy2;have HL:=ah h;have HR:=ah hr;have HM:=ah hm;have HI64:=ah hi64;have HSh:=ah hsh;have HSh2:Hid (∀ e ∈ es,e.key.2.2.length≤140737488355328∧e.value.2.2.length≤140737488355328):=fun e he=>⟨(hsh e he).1,(hsh e he).2.1⟩
 obtain⟨L,hLe⟩: ∃ L,L=es.map En.ent:=⟨_,rfl⟩;have HLe:=ah hLe;have hlen:L.length=es.length:=by rw[hLe,List.length_map]
 rw[←hLe];unfold maxLen at hm;clear h hr hsh hi64 hj hy0 hy1 hy2 hLe;obtain⟨Q,hQ⟩: ∃ Q,buildE L=Q:=⟨_,rfl⟩;have HQ:Hid (Built L w=fun x w'=>(Q≠0∧x = .returned (.tuple #[.slice none 0 0,.int .i64 (Q:Nat)])∧Chg No w w')∨(Q=0∧ ∃ A c,x = .returned (.tuple #[.slice A (buildB L).length c,.int .i64 0])∧(buildB L).length≤c∧c≤maxLen∧Sat w (Row 5 1 (.slice A (buildB L).length c) (buildB L).length ((buildB L).map bv)*Emp) w')):=by
  unfold Hid Built;rw[hQ]
 rw[HQ.out];have HBE:=ah hQ;have HLen:=ah hlen;clear hQ hlen;obtain⟨S,hS⟩: ∃ S,sortedB L=S:=⟨_,rfl⟩;have HSo:Hid (sortedB (es.map En.ent)=S):=by rw[←HLe.out];exact hS
 have HSo2:=ah hS;clear hS
 cases S
 ·have hq:Q=70:=by rw[←HBE.out];unfold buildE;rw[if_pos HSo2.out]
  subst hq;go_enter Tryz.func142, Tryz.ntmps142;go_wp2_with (go_at_call 151;refine(sorted_any A c es w HL.out HR.out hc HM.out).mono ?_;rintro x w1 ⟨rfl,k1⟩;rw[HSo.out];have HK:=ah k1;clear k1);go_ret2;exact .inl ⟨by decide,rfl,HK.out⟩
 ·by_cases hbig:65536<es.length
  ·have hq:Q=71:=by rw[←HBE.out];unfold buildE;rw[if_neg (by rw[HSo2.out];simp),if_pos (.inl (by rw[HLen.out];exact hbig))]
   subst hq;have hbi:(65536:Int)<es.length:=by omega
   go_enter Tryz.func142, Tryz.ntmps142;go_wp2_with (go_at_call 151;refine(sorted_any A c es w HL.out HR.out hc HM.out).mono ?_;rintro x w1 ⟨rfl,k1⟩;rw[HSo.out];have HK:=ah k1;clear k1);go_ret2;exact .inl ⟨by decide,rfl,HK.out⟩
  ·have hbi:¬ (65536:Int)<es.length:=by omega
   obtain⟨Y,hY⟩: ∃ Y,(es.map En.ent).any (fun e=> !mayE e)=Y:=⟨_,rfl⟩;have HY:=ah hY;clear hY
   cases Y
   case true=>
    have hq:Q=71:=by rw[←HBE.out];unfold buildE;rw[if_neg (by rw[HSo2.out];simp),if_pos (.inr (by rw[HLe.out];exact HY.out))]
    subst hq;go_enter Tryz.func142, Tryz.ntmps142;go_wp2_with (first
     | (go_at_call 151;refine(sorted_any A c es w HL.out HR.out hc HM.out).mono ?_;rintro x w1 ⟨rfl,k1⟩;rw[HSo.out];have HK:=ah k1;clear k1)
     | (go_at_call 175;refine(tcontains_any A c es w1 (HL.out.new HK.out) hc HM.out HSh2.out).mono ?_;rintro x w2 ⟨rfl,k2⟩;rw[HY.out];have HK2:=ah (HK.out.tr k2);clear k2))
    go_ret2;exact .inl ⟨by decide,rfl,HK2.out⟩
   case false=>
    have hq:Q=0:=by rw[←HBE.out];unfold buildE;rw[if_neg (by rw[HSo2.out];simp),if_neg (by rw[HLe.out,HY.out];rw[HLe.out] at HLen;have:=HLen.out;intro h;rcases h with h | h;omega;cases h)]
    have HMay:Hid (∀ e ∈ es,e.key.2.2.length≤128∧e.value.2.2.length≤16384∧0≤e.seq):=fun e he=>by
     have h1:=HY.out;rw[List.any_eq_false] at h1;have h2:=h1 e.ent (List.mem_map.2 ⟨e,he,rfl⟩);have h3:=mayE_iff.1 (by simpa using h2);exact⟨h3.1,h3.2.1,h3.2.2.2⟩
    have HMx:Hid (∀ e ∈ L,e.key.length≤128∧e.value.length≤16384):=fun e he=>by
     rw[HLe.out] at he;obtain⟨x,hx,rfl⟩:=List.mem_map.1 he;have:=HMay.out x hx;exact⟨this.1,this.2.1⟩
    subst hq;have hcv:=fun (W:World) (C:Array Value) (n c:Nat)=>Lib.run_convert_bytes_const (P:= Tryz.prog) W 41 5 C n c Tryz.underlying41 Tryz.underlying5
    have hLn:=HLen.out;have hq8:((es.length:Int)+8 - 1).tdiv 8=(((es.length+7) / 8:Nat):Int):=by
     rw[Int.tdiv_eq_ediv_of_nonneg (by omega)];omega
    have HZ0:Hid (bodyB L 0=markB++putB es.length 4):=by rw[←HLen.out];exact body_zero L
    have HZ1:Hid (idxB L 0=putB ((es.length+7) / 8) 4):=by rw[←HLen.out];exact idx_zero L
    clear hLn;go_enter Tryz.func142, Tryz.ntmps142;go_upto_region 5 with (first
     | (go_at_call 151;refine(sorted_any A c es w HL.out HR.out hc HM.out).mono ?_;rintro x w1 ⟨rfl,k1⟩;rw[HSo.out];have HK:=ah k1;clear k1)
     | (go_at_call 175;refine(tcontains_any A c es w1 (HL.out.new HK.out) hc HM.out HSh2.out).mono ?_;rintro x w2 ⟨rfl,k2⟩;rw[HY.out];have HK2:=ah (HK.out.tr k2);clear k2))
    have HMk:Hid (Rd (w2.alloc (.cells #[.int .u8 84,.int .u8 68,.int .u8 84,.int .u8 49] 5 (4,5))) (some ⟨w2.heap.size,0,none⟩) markB):=RdV.lit w2 #[.int .u8 84,.int .u8 68,.int .u8 84,.int .u8 49] 5 (4,5);have HKM:Hid (Chg No w (w2.alloc (.cells #[.int .u8 84,.int .u8 68,.int .u8 84,.int .u8 49] 5 (4,5)))):=HK2.out.alloc _;go_upto_region 6 with (first
     | (go_at_call 178;refine(fourS es.length (by omega) _ _ Emp (Sat.start _)).mono ?_;rintro x w3 ⟨A3,c3,rfl,hs3⟩;have HS3:=ah hs3;clear hs3)
     | (go_at_call 61;refine(join_any (some ⟨w3.heap.size,0,none⟩) 2 [(some ⟨w2.heap.size,0,none⟩,4,markB),(A3,c3,putB es.length 4)] _ (two_rdl w3 (HMk.out.new HS3.out.chg) (RdV.of_own HS3.out.row_own)) (by simp[txt,markB,putB_len]) (show 2≤140737488355328 by omega)).mono ?_;rintro x w4 ⟨vv,rfl,ho,k4⟩;rw[show (txt [(some ⟨w2.heap.size,0,none⟩,4,markB),(A3,c3,putB es.length 4)]).flatten=bodyB L 0 by rw[HZ0.out];simp[txt]] at ho;obtain⟨A4,c4,rfl, -⟩:=own_sl ho;have K4:=(HKM.out.tr HS3.out.chg).tr (((Chg.refl No w3).alloc _).tr k4);have HS4:=ah ((Sat.start w).gotRow K4 (own_base ho (by rw[World.size_alloc];have:=(HKM.out.tr HS3.out.chg).size;omega)));clear ho k4 K4))
    go_upto_region 7 with (go_at_call 178;refine(fourS ((es.length+7) / 8) (by omega) w _ _ HS4.out).mono ?_;rintro x w5 ⟨A5,c5,rfl,hs5⟩;rw[←HZ1.out] at hs5 ⊢;have HS5:=ah hs5.up2;clear hs5)
    go_wp2_with fail;go_loopw [4,5,37] (fun vb vx iv wr=> ∃ i:Nat,i≤es.length∧iv = .int .i64 i∧Hid (BldAt w L i vb vx wr)) (fun _ _ iv _=>es.length - (intOf iv).toNat)
    case atStart=>exact⟨0,by omega,rfl,⟨HS5.out⟩⟩
    case round=>
     obtain⟨i,hi,rfl,HD⟩:=hrel;obtain⟨AB,cb,rfl,hb1,hb2⟩:=HD.out.sat.row_sl;obtain⟨AX,cx,rfl,hx1,hx2⟩:=HD.out.sat.up2.row_sl;have hBl:=bodyB_len L HMx.out i;have hXl:=idxB_len L HMx.out i;by_cases hlt:i<es.length
     ·obtain⟨lb,lo,rfl,hq⟩:=ents_at HL.out (by omega);obtain⟨z0,z1,z2,z3⟩:=hq i hlt;have a0:=HD.out.sat.chg.cell z0 id;have a1:=HD.out.sat.chg.cell z1 id;have a2:=HD.out.sat.chg.cell z2 id;have a3:=HD.out.sat.chg.cell z3 id;unfold slv' at a0 a1;have HE:=ah (HR.out _ (List.getElem_mem hlt));have HMi:=ah (HMay.out _ (List.getElem_mem hlt));have HSi:=ah (HSh.out _ (List.getElem_mem hlt));have HSq:Hid (0≤es[i].seq∧es[i].seq<9223372036854775808):=⟨HMi.out.2.2,HI64.out _ (List.getElem_mem hlt)⟩;have HSE:=ah (HD.out.sat.allocPt 120 #[.slice es[i].key.1 es[i].key.2.2.length es[i].key.2.1,.slice es[i].value.1 es[i].value.2.2.length es[i].value.2.1,.int .i64 es[i].seq,.bool es[i].dead]);have e0:=HSE.out.cell 0;have e1:=HSE.out.cell 1;have e2:=HSE.out.cell 2;have e3:=HSE.out.cell 3;by_cases h8:i % 8=0
      ·have hm1:(i:Int) % 8=0:=by omega
       have hm2:(i:Int).tmod 8=0:=by rw[Int.tmod_eq_emod_of_nonneg (by omega)];exact hm1
       have HBn:Hid (bodyB L (i+1)=bodyB L i++entB [] es[i].ent):=by unfold Hid;rw[bodyB_succ,HLe.out,entAt_first hlt h8]
       have HXn:Hid (idxB L (i+1)=((idxB L i++putB (bodyB L i).length 4)++[UInt8.ofNat es[i].key.2.2.length])++es[i].key.2.2):=by unfold Hid;rw[idxB_succ,HLe.out,idxAt_first hlt h8];simp only[List.append_assoc]
       clear z0 z1 z2 z3 hq h8;generalize bodyB L i=B at*
       generalize idxB L i=X at*
       have hw8:IntKind.u8.wrap (es[i].key.2.2.length:Int)=es[i].key.2.2.length:=by have:=HMi.out.1;rw[IntKind.wrap_u8];omega
       obtain⟨P4,hP4⟩: ∃ P4,putB B.length 4=P4:=⟨_,rfl⟩;have hP4l:P4.length=4:=by rw[←hP4,putB_len]
       obtain⟨X1,hX1⟩: ∃ X1,X1=X++P4:=⟨_,rfl⟩;obtain⟨X2,hX2⟩: ∃ X2,X2=X1++[UInt8.ofNat es[i].key.2.2.length]:=⟨_,rfl⟩;have HXm:Hid (idxB L (i+1)=X2++es[i].key.2.2):=by unfold Hid;rw[hX2,hX1, ←hP4];exact HXn.out
       obtain⟨EB,hEB⟩: ∃ EB,entB [] es[i].ent=EB:=⟨_,rfl⟩;have HBm:Hid (bodyB L (i+1)=B++EB):=by unfold Hid;rw[←hEB];exact HBn.out
       have hEl:EB.length≤16525:=by rw[←hEB];exact entB_len _ _ HMi.out.1 HMi.out.2.1
       have HP4:=ah hP4;have HX1:=ah hX1;have HX2:=ah hX2;have HEB:=ah hEB;have hX1l:X1.length=X.length+4:=by rw[hX1,List.length_append,hP4l]
       have hX2l:X2.length=X.length+5:=by rw[hX2,List.length_append,hX1l];rfl
       have HX1l:=ah hX1l;have HX2l:=ah hX2l;have HP4l:=ah hP4l;clear hP4 hX1 hX2 hEB HXn HBn hX1l hX2l hP4l;go_upto_region 13 with fail;have HSV:=HSE;revert HSV;generalize World.alloc wr _=wq;generalize wr.heap.size=E;intro HSV;have HSW:Hid (Sat w (Pt E 120 #[.slice es[i].key.1 es[i].key.2.2.length es[i].key.2.1,.slice es[i].value.1 es[i].value.2.2.length es[i].value.2.1,.int .i64 es[i].seq,.bool es[i].dead]*(Row 5 1 (.slice AB B.length cb) B.length (B.map bv)*(Row 5 1 (.slice AX X.length cx) X.length (X.map bv)*Emp))) wq):=HSV;clear HSV HSE a0 a1 a2 a3 e0 e1 e2 e3;have HSd:=ah HSW.out.drew;refine wp_region_held_drew (S:=fun w'=>w'.cell? ⟨E,0,none⟩=some (.slice es[i].key.1 es[i].key.2.2.length es[i].key.2.1)) (by kernel_rfl) (HSd.out.cell 0) ?_;intro hS0;revert hS0 HSd;generalize wq.drew=wd;intro HS hS0;replace HS:Hid (Sat w (Pt E 120 #[.slice es[i].key.1 es[i].key.2.2.length es[i].key.2.1,.slice es[i].value.1 es[i].value.2.2.length es[i].value.2.1,.int .i64 es[i].seq,.bool es[i].dead]*(Row 5 1 (.slice AB B.length cb) B.length (B.map bv)*(Row 5 1 (.slice AX X.length cx) X.length (X.map bv)*Emp))) wd):=HS.out;refine rtk 0 ?_;refine rtk 1 ?_;refine rtk 2 ?_;refine rtk 5 ?_;refine rtk 6 ?_;refine rtk 7 ?_;refine rtk 8 ?_;refine rgn_both (i:=3) (j:=9) rfl rfl (by kernel_rfl) (fun K hK=>?_) (fun K hK=>?_)
       ·
        go_simp;go_at_call 178
        refine(fourS B.length (by omega) w _ _ HS.out).mono ?_;rintro x v3 ⟨A3',c3',rfl,hs⟩;rw[HP4.out] at hs ⊢;replace HS:Hid (Sat w (Pt E 120 #[.slice es[i].key.1 es[i].key.2.2.length es[i].key.2.1,.slice es[i].value.1 es[i].value.2.2.length es[i].value.2.1,.int .i64 es[i].seq,.bool es[i].dead]*(Row 5 1 (.slice AB B.length cb) B.length (B.map bv)*(Row 5 1 (.slice AX X.length cx) X.length (X.map bv)*(Row 5 1 (.slice A3' P4.length c3') P4.length (P4.map bv)*Emp)))) v3):=hs.of (by ac_rfl);clear hs;refine hK.out _ _ (HS.out.cell 0) (fun hS0=>?_);clear hK K;refine rgn_both (i:=4) (j:=9) rfl rfl (by kernel_rfl) (fun K hK=>?_) (fun K hK=>?_)
        ·
         have hA:Sat w (Row 5 1 (.slice AX X.length cx) X.length (X.map bv)*(Pt E 120 #[.slice es[i].key.1 es[i].key.2.2.length es[i].key.2.1,.slice es[i].value.1 es[i].value.2.2.length es[i].value.2.1,.int .i64 es[i].seq,.bool es[i].dead]*(Row 5 1 (.slice AB B.length cb) B.length (B.map bv)*(Row 5 1 (.slice A3' P4.length c3') P4.length (P4.map bv)*Emp)))) v3:=HS.out.of (by ac_rfl);have hR:Rd v3 A3' P4:=RdV.of_own HS.out.up4.row_own;have hA1:=HP4l.out;have hm:(P4.map bv).length=P4.length*1:=by simp
         refine step_appS rfl (.tmp 51) (.tmp 54) 41 rfl 5 j0 _ 1 1 Tryz.underlying41 Hj.out Hy0.out Hy1.out Hy2.out rfl (by decide) (.slice AX X.length cx) X.length (X.map bv) rfl w _ (by exact hA) A3' P4.length c3' (P4.map bv) rfl (by exact hR) hm (bv_one P4) (by unfold maxLen;omega) (by omega) ?_;intro A4 c4 v4 hs;have he:=app_eqs HX1.out;have he1:X.length+P4.length=_:=he.1;rw[he1,he.2] at hs;rw[he1];replace HS:Hid (Sat w (Pt E 120 #[.slice es[i].key.1 es[i].key.2.2.length es[i].key.2.1,.slice es[i].value.1 es[i].value.2.2.length es[i].value.2.1,.int .i64 es[i].seq,.bool es[i].dead]*(Row 5 1 (.slice AB B.length cb) B.length (B.map bv)*(Row 5 1 (.slice A4 X1.length c4) X1.length (X1.map bv)*(Row 5 1 (.slice A3' P4.length c3') P4.length (P4.map bv)*Emp)))) v4):=hs.of (by ac_rfl);clear hs hA hR hm he he1 hA1;refine hK.out _ _ (HS.out.cell 0) (fun hS0=>?_);clear hK K
         try simp only[Act.put,List.setIfInBounds_toArray,List.set_cons_zero,List.set_cons_succ]
         refine rck 9 fun K hK=>?_
         go_simp;have hs:=HS.out.allocPt 5 #[.int .u8 (es[i].key.2.2.length:Int)];revert hs;generalize World.alloc v4 _=v9;generalize v4.heap.size=g9;intro hs;replace HS:Hid (Sat w (Pt E 120 #[.slice es[i].key.1 es[i].key.2.2.length es[i].key.2.1,.slice es[i].value.1 es[i].value.2.2.length es[i].value.2.1,.int .i64 es[i].seq,.bool es[i].dead]*(Row 5 1 (.slice AB B.length cb) B.length (B.map bv)*(Row 5 1 (.slice A4 X1.length c4) X1.length (X1.map bv)*(Row 5 1 (.slice A3' P4.length c3') P4.length (P4.map bv)*(Pt g9 5 #[.int .u8 (es[i].key.2.2.length:Int)]*Emp))))) v9):=hs.of (by ac_rfl);clear hs;refine hK.out _ _ (HS.out.cell 0) (fun hS0=>?_);clear hK K;refine rck 10 fun K hK=>?_
         have hA:Sat w (Row 5 1 (.slice A4 X1.length c4) X1.length (X1.map bv)*(Pt E 120 #[.slice es[i].key.1 es[i].key.2.2.length es[i].key.2.1,.slice es[i].value.1 es[i].value.2.2.length es[i].value.2.1,.int .i64 es[i].seq,.bool es[i].dead]*(Row 5 1 (.slice AB B.length cb) B.length (B.map bv)*(Row 5 1 (.slice A3' P4.length c3') P4.length (P4.map bv)*(Pt g9 5 #[.int .u8 (es[i].key.2.2.length:Int)]*Emp))))) v9:=HS.out.of (by ac_rfl);have hR:Rd v9 (some ⟨g9,0,none⟩) [UInt8.ofNat es[i].key.2.2.length]:=one_rd _ HMi.out.1 HS.out.up5;have hA1:=HX1l.out;have hm:([UInt8.ofNat es[i].key.2.2.length].map bv).length=1*1:=by simp
         refine step_appS rfl (.tmp 55) (.tmp 60) 41 rfl 5 j0 _ 1 1 Tryz.underlying41 Hj.out Hy0.out Hy1.out Hy2.out rfl (by decide) (.slice A4 X1.length c4) X1.length (X1.map bv) rfl w _ (by exact hA) (some ⟨g9,0,none⟩) 1 1 ([UInt8.ofNat es[i].key.2.2.length].map bv) rfl (by exact hR) hm (bv_one [UInt8.ofNat es[i].key.2.2.length]) (by unfold maxLen;omega) (by omega) ?_;intro A10 c10 v10 hs;have he:=app_eqs HX2.out;have he1:X1.length+1=_:=he.1;rw[he1,he.2] at hs;rw[he1];replace HS:Hid (Sat w (Pt E 120 #[.slice es[i].key.1 es[i].key.2.2.length es[i].key.2.1,.slice es[i].value.1 es[i].value.2.2.length es[i].value.2.1,.int .i64 es[i].seq,.bool es[i].dead]*(Row 5 1 (.slice AB B.length cb) B.length (B.map bv)*(Row 5 1 (.slice A10 X2.length c10) X2.length (X2.map bv)*(Row 5 1 (.slice A3' P4.length c3') P4.length (P4.map bv)*(Pt g9 5 #[.int .u8 (es[i].key.2.2.length:Int)]*Emp))))) v10):=hs.of (by ac_rfl);clear hs hA hR hm he he1 hA1;refine hK.out _ _ (HS.out.cell 0) (fun hS0=>?_);clear hK K
         try simp only[Act.put,List.setIfInBounds_toArray,List.set_cons_zero,List.set_cons_succ]
         refine rtk 11 ?_;refine wpAnyH_done (by kernel_rfl) ?_ _;have hl2:=HX2l.out;have hkl:=HMi.out.1;go_wp2_with (first
          | (at_builtin;have he:=app_eqs HXm.out;refine wpList_appS rfl (.tmp 62) (.tmp 64) 41 rfl 5 j0 _ 1 1 Tryz.underlying41 Hj.out Hy0.out Hy1.out Hy2.out rfl (by decide) (.slice A10 X2.length c10) X2.length (X2.map bv) rfl w _ (by exact HS.out.up3) es[i].key.1 es[i].key.2.2.length es[i].key.2.1 (es[i].key.2.2.map bv) rfl (by exact HE.out.1.new HS.out.chg) (by simp) (bv_one es[i].key.2.2) (by unfold maxLen;omega) (by omega) ?_;intro A6 c6 w6 hs6;rw[he.1,he.2] at hs6;rw[he.1];have q0:=hs6.up2.cell 0;have q1:=hs6.up2.cell 1;have q2:=hs6.up2.cell 2;have q3:=hs6.up2.cell 3;have HS6:=ah hs6;clear hs6 he)
          | (go_at_call 179;refine(entS (none,0,[]) es[i] EB HEB.out w _ _ HS6.out (fun hx=>absurd rfl hx) ⟨HE.out.1.new HS6.out.chg,HE.out.2.new HS6.out.chg⟩ (by simp) HMi.out.1 HSi.out.2.2.1 HSi.out.2.2.2 HMi.out.2.1 HSq.out).mono ?_;rintro x w7 ⟨A7,c7,rfl,hs7⟩;have HS7:=ah hs7;clear hs7)
          | (at_builtin;have he:=app_eqs HBm.out;refine wpList_appS rfl (.tmp 66) (.tmp 69) 41 rfl 5 j0 _ 1 1 Tryz.underlying41 Hj.out Hy0.out Hy1.out Hy2.out rfl (by decide) (.slice AB B.length cb) B.length (B.map bv) rfl w _ (by exact HS7.out.up4) A7 EB.length c7 (EB.map bv) rfl (by exact RdV.of_own HS7.out.row_own) (by simp) (bv_one EB) (by unfold maxLen;omega) (by omega) ?_;intro A8 c8 w8 hs8;rw[he.1,he.2] at hs8;rw[he.1];have HS8:=ah hs8;clear hs8 he))
         go_roundw
         ·refine⟨i+1,by omega,by push_cast;rfl,⟨?_⟩⟩;have h9:=HS8.out.drop2;exact h9.up3.right.up3.right.up3.right
         ·simp[intOf];omega
        ·
         go_simp;have hs:=HS.out.allocPt 5 #[.int .u8 (es[i].key.2.2.length:Int)];revert hs;generalize World.alloc v3 _=v9;generalize v3.heap.size=g9;intro hs;replace HS:Hid (Sat w (Pt E 120 #[.slice es[i].key.1 es[i].key.2.2.length es[i].key.2.1,.slice es[i].value.1 es[i].value.2.2.length es[i].value.2.1,.int .i64 es[i].seq,.bool es[i].dead]*(Row 5 1 (.slice AB B.length cb) B.length (B.map bv)*(Row 5 1 (.slice AX X.length cx) X.length (X.map bv)*(Row 5 1 (.slice A3' P4.length c3') P4.length (P4.map bv)*(Pt g9 5 #[.int .u8 (es[i].key.2.2.length:Int)]*Emp))))) v9):=hs.of (by ac_rfl);clear hs;refine hK.out _ _ (HS.out.cell 0) (fun hS0=>?_);clear hK K;refine rck 4 fun K hK=>?_
         have hA:Sat w (Row 5 1 (.slice AX X.length cx) X.length (X.map bv)*(Pt E 120 #[.slice es[i].key.1 es[i].key.2.2.length es[i].key.2.1,.slice es[i].value.1 es[i].value.2.2.length es[i].value.2.1,.int .i64 es[i].seq,.bool es[i].dead]*(Row 5 1 (.slice AB B.length cb) B.length (B.map bv)*(Row 5 1 (.slice A3' P4.length c3') P4.length (P4.map bv)*(Pt g9 5 #[.int .u8 (es[i].key.2.2.length:Int)]*Emp))))) v9:=HS.out.of (by ac_rfl);have hR:Rd v9 A3' P4:=RdV.of_own HS.out.up4.row_own;have hA1:=HP4l.out;have hm:(P4.map bv).length=P4.length*1:=by simp
         refine step_appS rfl (.tmp 51) (.tmp 54) 41 rfl 5 j0 _ 1 1 Tryz.underlying41 Hj.out Hy0.out Hy1.out Hy2.out rfl (by decide) (.slice AX X.length cx) X.length (X.map bv) rfl w _ (by exact hA) A3' P4.length c3' (P4.map bv) rfl (by exact hR) hm (bv_one P4) (by unfold maxLen;omega) (by omega) ?_;intro A4 c4 v4 hs;have he:=app_eqs HX1.out;have he1:X.length+P4.length=_:=he.1;rw[he1,he.2] at hs;rw[he1];replace HS:Hid (Sat w (Pt E 120 #[.slice es[i].key.1 es[i].key.2.2.length es[i].key.2.1,.slice es[i].value.1 es[i].value.2.2.length es[i].value.2.1,.int .i64 es[i].seq,.bool es[i].dead]*(Row 5 1 (.slice AB B.length cb) B.length (B.map bv)*(Row 5 1 (.slice A4 X1.length c4) X1.length (X1.map bv)*(Row 5 1 (.slice A3' P4.length c3') P4.length (P4.map bv)*(Pt g9 5 #[.int .u8 (es[i].key.2.2.length:Int)]*Emp))))) v4):=hs.of (by ac_rfl);clear hs hA hR hm he he1 hA1;refine hK.out _ _ (HS.out.cell 0) (fun hS0=>?_);clear hK K
         try simp only[Act.put,List.setIfInBounds_toArray,List.set_cons_zero,List.set_cons_succ]
         refine rck 10 fun K hK=>?_
         have hA:Sat w (Row 5 1 (.slice A4 X1.length c4) X1.length (X1.map bv)*(Pt E 120 #[.slice es[i].key.1 es[i].key.2.2.length es[i].key.2.1,.slice es[i].value.1 es[i].value.2.2.length es[i].value.2.1,.int .i64 es[i].seq,.bool es[i].dead]*(Row 5 1 (.slice AB B.length cb) B.length (B.map bv)*(Row 5 1 (.slice A3' P4.length c3') P4.length (P4.map bv)*(Pt g9 5 #[.int .u8 (es[i].key.2.2.length:Int)]*Emp))))) v4:=HS.out.of (by ac_rfl);have hR:Rd v4 (some ⟨g9,0,none⟩) [UInt8.ofNat es[i].key.2.2.length]:=one_rd _ HMi.out.1 HS.out.up5;have hA1:=HX1l.out;have hm:([UInt8.ofNat es[i].key.2.2.length].map bv).length=1*1:=by simp
         refine step_appS rfl (.tmp 55) (.tmp 60) 41 rfl 5 j0 _ 1 1 Tryz.underlying41 Hj.out Hy0.out Hy1.out Hy2.out rfl (by decide) (.slice A4 X1.length c4) X1.length (X1.map bv) rfl w _ (by exact hA) (some ⟨g9,0,none⟩) 1 1 ([UInt8.ofNat es[i].key.2.2.length].map bv) rfl (by exact hR) hm (bv_one [UInt8.ofNat es[i].key.2.2.length]) (by unfold maxLen;omega) (by omega) ?_;intro A10 c10 v10 hs;have he:=app_eqs HX2.out;have he1:X1.length+1=_:=he.1;rw[he1,he.2] at hs;rw[he1];replace HS:Hid (Sat w (Pt E 120 #[.slice es[i].key.1 es[i].key.2.2.length es[i].key.2.1,.slice es[i].value.1 es[i].value.2.2.length es[i].value.2.1,.int .i64 es[i].seq,.bool es[i].dead]*(Row 5 1 (.slice AB B.length cb) B.length (B.map bv)*(Row 5 1 (.slice A10 X2.length c10) X2.length (X2.map bv)*(Row 5 1 (.slice A3' P4.length c3') P4.length (P4.map bv)*(Pt g9 5 #[.int .u8 (es[i].key.2.2.length:Int)]*Emp))))) v10):=hs.of (by ac_rfl);clear hs hA hR hm he he1 hA1;refine hK.out _ _ (HS.out.cell 0) (fun hS0=>?_);clear hK K
         try simp only[Act.put,List.setIfInBounds_toArray,List.set_cons_zero,List.set_cons_succ]
         refine rtk 11 ?_;refine wpAnyH_done (by kernel_rfl) ?_ _;have hl2:=HX2l.out;have hkl:=HMi.out.1;go_wp2_with (first
          | (at_builtin;have he:=app_eqs HXm.out;refine wpList_appS rfl (.tmp 62) (.tmp 64) 41 rfl 5 j0 _ 1 1 Tryz.underlying41 Hj.out Hy0.out Hy1.out Hy2.out rfl (by decide) (.slice A10 X2.length c10) X2.length (X2.map bv) rfl w _ (by exact HS.out.up3) es[i].key.1 es[i].key.2.2.length es[i].key.2.1 (es[i].key.2.2.map bv) rfl (by exact HE.out.1.new HS.out.chg) (by simp) (bv_one es[i].key.2.2) (by unfold maxLen;omega) (by omega) ?_;intro A6 c6 w6 hs6;rw[he.1,he.2] at hs6;rw[he.1];have q0:=hs6.up2.cell 0;have q1:=hs6.up2.cell 1;have q2:=hs6.up2.cell 2;have q3:=hs6.up2.cell 3;have HS6:=ah hs6;clear hs6 he)
          | (go_at_call 179;refine(entS (none,0,[]) es[i] EB HEB.out w _ _ HS6.out (fun hx=>absurd rfl hx) ⟨HE.out.1.new HS6.out.chg,HE.out.2.new HS6.out.chg⟩ (by simp) HMi.out.1 HSi.out.2.2.1 HSi.out.2.2.2 HMi.out.2.1 HSq.out).mono ?_;rintro x w7 ⟨A7,c7,rfl,hs7⟩;have HS7:=ah hs7;clear hs7)
          | (at_builtin;have he:=app_eqs HBm.out;refine wpList_appS rfl (.tmp 66) (.tmp 69) 41 rfl 5 j0 _ 1 1 Tryz.underlying41 Hj.out Hy0.out Hy1.out Hy2.out rfl (by decide) (.slice AB B.length cb) B.length (B.map bv) rfl w _ (by exact HS7.out.up4) A7 EB.length c7 (EB.map bv) rfl (by exact RdV.of_own HS7.out.row_own) (by simp) (bv_one EB) (by unfold maxLen;omega) (by omega) ?_;intro A8 c8 w8 hs8;rw[he.1,he.2] at hs8;rw[he.1];have HS8:=ah hs8;clear hs8 he))
         go_roundw
         ·refine⟨i+1,by omega,by push_cast;rfl,⟨?_⟩⟩;have h9:=HS8.out.drop2;exact h9.up3.right.up3.right.up3.right
         ·simp[intOf];omega
       ·
        go_simp;have hs:=HS.out.allocPt 5 #[.int .u8 (es[i].key.2.2.length:Int)];revert hs;generalize World.alloc wd _=v9;generalize wd.heap.size=g9;intro hs;replace HS:Hid (Sat w (Pt E 120 #[.slice es[i].key.1 es[i].key.2.2.length es[i].key.2.1,.slice es[i].value.1 es[i].value.2.2.length es[i].value.2.1,.int .i64 es[i].seq,.bool es[i].dead]*(Row 5 1 (.slice AB B.length cb) B.length (B.map bv)*(Row 5 1 (.slice AX X.length cx) X.length (X.map bv)*(Pt g9 5 #[.int .u8 (es[i].key.2.2.length:Int)]*Emp)))) v9):=hs.of (by ac_rfl);clear hs;refine hK.out _ _ (HS.out.cell 0) (fun hS0=>?_);clear hK K;refine rck 3 fun K hK=>?_
        go_simp;go_at_call 178
        refine(fourS B.length (by omega) w _ _ HS.out).mono ?_;rintro x v3 ⟨A3',c3',rfl,hs⟩;rw[HP4.out] at hs ⊢;replace HS:Hid (Sat w (Pt E 120 #[.slice es[i].key.1 es[i].key.2.2.length es[i].key.2.1,.slice es[i].value.1 es[i].value.2.2.length es[i].value.2.1,.int .i64 es[i].seq,.bool es[i].dead]*(Row 5 1 (.slice AB B.length cb) B.length (B.map bv)*(Row 5 1 (.slice AX X.length cx) X.length (X.map bv)*(Row 5 1 (.slice A3' P4.length c3') P4.length (P4.map bv)*(Pt g9 5 #[.int .u8 (es[i].key.2.2.length:Int)]*Emp))))) v3):=hs.of (by ac_rfl);clear hs;refine hK.out _ _ (HS.out.cell 0) (fun hS0=>?_);clear hK K;refine rck 4 fun K hK=>?_
        have hA:Sat w (Row 5 1 (.slice AX X.length cx) X.length (X.map bv)*(Pt E 120 #[.slice es[i].key.1 es[i].key.2.2.length es[i].key.2.1,.slice es[i].value.1 es[i].value.2.2.length es[i].value.2.1,.int .i64 es[i].seq,.bool es[i].dead]*(Row 5 1 (.slice AB B.length cb) B.length (B.map bv)*(Row 5 1 (.slice A3' P4.length c3') P4.length (P4.map bv)*(Pt g9 5 #[.int .u8 (es[i].key.2.2.length:Int)]*Emp))))) v3:=HS.out.of (by ac_rfl);have hR:Rd v3 A3' P4:=RdV.of_own HS.out.up4.row_own;have hA1:=HP4l.out;have hm:(P4.map bv).length=P4.length*1:=by simp
        refine step_appS rfl (.tmp 51) (.tmp 54) 41 rfl 5 j0 _ 1 1 Tryz.underlying41 Hj.out Hy0.out Hy1.out Hy2.out rfl (by decide) (.slice AX X.length cx) X.length (X.map bv) rfl w _ (by exact hA) A3' P4.length c3' (P4.map bv) rfl (by exact hR) hm (bv_one P4) (by unfold maxLen;omega) (by omega) ?_;intro A4 c4 v4 hs;have he:=app_eqs HX1.out;have he1:X.length+P4.length=_:=he.1;rw[he1,he.2] at hs;rw[he1];replace HS:Hid (Sat w (Pt E 120 #[.slice es[i].key.1 es[i].key.2.2.length es[i].key.2.1,.slice es[i].value.1 es[i].value.2.2.length es[i].value.2.1,.int .i64 es[i].seq,.bool es[i].dead]*(Row 5 1 (.slice AB B.length cb) B.length (B.map bv)*(Row 5 1 (.slice A4 X1.length c4) X1.length (X1.map bv)*(Row 5 1 (.slice A3' P4.length c3') P4.length (P4.map bv)*(Pt g9 5 #[.int .u8 (es[i].key.2.2.length:Int)]*Emp))))) v4):=hs.of (by ac_rfl);clear hs hA hR hm he he1 hA1;refine hK.out _ _ (HS.out.cell 0) (fun hS0=>?_);clear hK K
        try simp only[Act.put,List.setIfInBounds_toArray,List.set_cons_zero,List.set_cons_succ]
        refine rck 10 fun K hK=>?_
        have hA:Sat w (Row 5 1 (.slice A4 X1.length c4) X1.length (X1.map bv)*(Pt E 120 #[.slice es[i].key.1 es[i].key.2.2.length es[i].key.2.1,.slice es[i].value.1 es[i].value.2.2.length es[i].value.2.1,.int .i64 es[i].seq,.bool es[i].dead]*(Row 5 1 (.slice AB B.length cb) B.length (B.map bv)*(Row 5 1 (.slice A3' P4.length c3') P4.length (P4.map bv)*(Pt g9 5 #[.int .u8 (es[i].key.2.2.length:Int)]*Emp))))) v4:=HS.out.of (by ac_rfl);have hR:Rd v4 (some ⟨g9,0,none⟩) [UInt8.ofNat es[i].key.2.2.length]:=one_rd _ HMi.out.1 HS.out.up5;have hA1:=HX1l.out;have hm:([UInt8.ofNat es[i].key.2.2.length].map bv).length=1*1:=by simp
        refine step_appS rfl (.tmp 55) (.tmp 60) 41 rfl 5 j0 _ 1 1 Tryz.underlying41 Hj.out Hy0.out Hy1.out Hy2.out rfl (by decide) (.slice A4 X1.length c4) X1.length (X1.map bv) rfl w _ (by exact hA) (some ⟨g9,0,none⟩) 1 1 ([UInt8.ofNat es[i].key.2.2.length].map bv) rfl (by exact hR) hm (bv_one [UInt8.ofNat es[i].key.2.2.length]) (by unfold maxLen;omega) (by omega) ?_;intro A10 c10 v10 hs;have he:=app_eqs HX2.out;have he1:X1.length+1=_:=he.1;rw[he1,he.2] at hs;rw[he1];replace HS:Hid (Sat w (Pt E 120 #[.slice es[i].key.1 es[i].key.2.2.length es[i].key.2.1,.slice es[i].value.1 es[i].value.2.2.length es[i].value.2.1,.int .i64 es[i].seq,.bool es[i].dead]*(Row 5 1 (.slice AB B.length cb) B.length (B.map bv)*(Row 5 1 (.slice A10 X2.length c10) X2.length (X2.map bv)*(Row 5 1 (.slice A3' P4.length c3') P4.length (P4.map bv)*(Pt g9 5 #[.int .u8 (es[i].key.2.2.length:Int)]*Emp))))) v10):=hs.of (by ac_rfl);clear hs hA hR hm he he1 hA1;refine hK.out _ _ (HS.out.cell 0) (fun hS0=>?_);clear hK K
        try simp only[Act.put,List.setIfInBounds_toArray,List.set_cons_zero,List.set_cons_succ]
        refine rtk 11 ?_;refine wpAnyH_done (by kernel_rfl) ?_ _;have hl2:=HX2l.out;have hkl:=HMi.out.1;go_wp2_with (first
         | (at_builtin;have he:=app_eqs HXm.out;refine wpList_appS rfl (.tmp 62) (.tmp 64) 41 rfl 5 j0 _ 1 1 Tryz.underlying41 Hj.out Hy0.out Hy1.out Hy2.out rfl (by decide) (.slice A10 X2.length c10) X2.length (X2.map bv) rfl w _ (by exact HS.out.up3) es[i].key.1 es[i].key.2.2.length es[i].key.2.1 (es[i].key.2.2.map bv) rfl (by exact HE.out.1.new HS.out.chg) (by simp) (bv_one es[i].key.2.2) (by unfold maxLen;omega) (by omega) ?_;intro A6 c6 w6 hs6;rw[he.1,he.2] at hs6;rw[he.1];have q0:=hs6.up2.cell 0;have q1:=hs6.up2.cell 1;have q2:=hs6.up2.cell 2;have q3:=hs6.up2.cell 3;have HS6:=ah hs6;clear hs6 he)
         | (go_at_call 179;refine(entS (none,0,[]) es[i] EB HEB.out w _ _ HS6.out (fun hx=>absurd rfl hx) ⟨HE.out.1.new HS6.out.chg,HE.out.2.new HS6.out.chg⟩ (by simp) HMi.out.1 HSi.out.2.2.1 HSi.out.2.2.2 HMi.out.2.1 HSq.out).mono ?_;rintro x w7 ⟨A7,c7,rfl,hs7⟩;have HS7:=ah hs7;clear hs7)
         | (at_builtin;have he:=app_eqs HBm.out;refine wpList_appS rfl (.tmp 66) (.tmp 69) 41 rfl 5 j0 _ 1 1 Tryz.underlying41 Hj.out Hy0.out Hy1.out Hy2.out rfl (by decide) (.slice AB B.length cb) B.length (B.map bv) rfl w _ (by exact HS7.out.up4) A7 EB.length c7 (EB.map bv) rfl (by exact RdV.of_own HS7.out.row_own) (by simp) (bv_one EB) (by unfold maxLen;omega) (by omega) ?_;intro A8 c8 w8 hs8;rw[he.1,he.2] at hs8;rw[he.1];have HS8:=ah hs8;clear hs8 he))
        go_roundw
        ·refine⟨i+1,by omega,by push_cast;rfl,⟨?_⟩⟩;have h9:=HS8.out.drop2;exact h9.up3.right.up3.right.up3.right
        ·simp[intOf];omega
      ·obtain⟨p,hp⟩: ∃ p,i=p+1:=⟨i - 1,by cases i with | zero=>simp at h8 | succ n=>omega⟩;have hpl:p<es.length:=by omega
       obtain⟨m,hm1,hm2⟩: ∃ m:Nat,(i:Int).tmod 8=(m:Int)∧0<m:=⟨i % 8,by rw[Int.tmod_eq_emod_of_nonneg (by omega)];omega,by omega⟩;have hmi:(0:Int)<(m:Int):=by omega
       have hii:(i:Int) - 1=(p:Int):=by omega
       have hwi:IntKind.i64.wrap (p:Int)=(p:Int):=by rw[IntKind.wrap_i64];omega
       have hpi:(p:Int)<es.length:=by omega
       obtain⟨y0,_,_,_⟩:=hq p hpl;have b0:=HSE.out.chg.cell y0 id;unfold slv' at b0;have HEp:=ah (HR.out _ (List.getElem_mem hpl));have HMp:=ah (HMay.out _ (List.getElem_mem hpl));have HBn:Hid (bodyB L (i+1)=bodyB L i++entB es[p].key.2.2 es[i].ent):=by
        unfold Hid;rw[bodyB_succ,HLe.out];subst hp;rw[entAt_next hlt h8]
       have HXn:Hid (idxB L (i+1)=idxB L i):=by unfold Hid;rw[idxB_succ,HLe.out,idxAt_next h8,List.append_nil]
       have HP:=ah hp;clear z0 z1 z2 z3 hq h8 y0 hp hm2;generalize bodyB L i=B at*
       generalize idxB L i=X at*
       obtain⟨EB,hEB⟩: ∃ EB,entB es[p].key.2.2 es[i].ent=EB:=⟨_,rfl⟩;have HBm:Hid (bodyB L (i+1)=B++EB):=by unfold Hid;rw[←hEB];exact HBn.out
       have hEl:EB.length≤16525:=by rw[←hEB];exact entB_len _ _ HMi.out.1 HMi.out.2.1
       have HEB:=ah hEB;clear hEB HBn;go_wp2_with (first
        | (go_at_call 179;refine(entS es[p].key es[i] EB HEB.out w _ _ HSE.out (HEp.out.1.new HSE.out.chg) ⟨HE.out.1.new HSE.out.chg,HE.out.2.new HSE.out.chg⟩ HMp.out.1 HMi.out.1 HSi.out.2.2.1 HSi.out.2.2.2 HMi.out.2.1 HSq.out).mono ?_;rintro x w7 ⟨A7,c7,rfl,hs7⟩;have HS7:=ah hs7;clear hs7)
        | (at_builtin;have he:=app_eqs HBm.out;refine wpList_appS rfl (.tmp 66) (.tmp 69) 41 rfl 5 j0 _ 1 1 Tryz.underlying41 Hj.out Hy0.out Hy1.out Hy2.out rfl (by decide) (.slice AB B.length cb) B.length (B.map bv) rfl w _ (by exact HS7.out.up3) A7 EB.length c7 (EB.map bv) rfl (by exact RdV.of_own HS7.out.row_own) (by simp) (bv_one EB) (by unfold maxLen;omega) (by omega) ?_;intro A8 c8 w8 hs8;rw[he.1,he.2] at hs8;rw[he.1];have HS8:=ah hs8;clear hs8 he))
       go_roundw
       ·refine⟨i+1,by omega,by push_cast;rfl,⟨?_⟩⟩;rw[HXn.out];exact HS8.out.drop2.drop2
       ·simp[intOf];omega
     ·have hie:i=es.length:=by omega
      subst hie;obtain⟨bt,hbt⟩: ∃ bt,bitsB L=bt:=⟨_,rfl⟩;have hbtl:bt.length≤262144:=by rw[←hbt,HLe.out];exact bits_len es (by omega)
      have HSS:=ah HD.out.sat;obtain⟨Bd,hBd⟩: ∃ B,bodyB L es.length=B:=⟨_,rfl⟩;obtain⟨X,hX⟩: ∃ X,idxB L es.length=X:=⟨_,rfl⟩;rw[hBd] at HSS hBl;rw[hX] at HSS hXl;rw[hBd,hX];obtain⟨P1,hP1⟩: ∃ P,putB bt.length 4=P:=⟨_,rfl⟩;obtain⟨P2,hP2⟩: ∃ P,putB Bd.length 4=P:=⟨_,rfl⟩;obtain⟨C,hC⟩: ∃ C,C=Bd++X:=⟨_,rfl⟩;obtain⟨P3,hP3⟩: ∃ P,putB C.length 4=P:=⟨_,rfl⟩;obtain⟨D1,hD1⟩: ∃ D,D=C++P1:=⟨_,rfl⟩;obtain⟨D2,hD2⟩: ∃ D,D=D1++bt:=⟨_,rfl⟩;obtain⟨D3,hD3⟩: ∃ D,D=D2++P2:=⟨_,rfl⟩;obtain⟨D4,hD4⟩: ∃ D,D=D3++P3:=⟨_,rfl⟩;obtain⟨sm,hsm⟩: ∃ s,sumB D4=s:=⟨_,rfl⟩;obtain⟨P5,hP5⟩: ∃ P,putB sm 4=P:=⟨_,rfl⟩;have hD5:buildB L=D4++P5:=by
       rw[←hP5, ←hsm];exact allB_eq (b:=Bd) (x:=X) (c:=C) (d1:=D1) (d2:=D2) (d3:=D3) (d4:=D4) HLen.out hBd hX hC (by rw[hbt,hP1];exact hD1) (by rw[hbt];exact hD2) (by rw[hP2];exact hD3) (by rw[hP3];exact hD4)
      have hl1:P1.length=4:=by rw[←hP1,putB_len]
      have hl2:P2.length=4:=by rw[←hP2,putB_len]
      have hl3:P3.length=4:=by rw[←hP3,putB_len]
      have hl5:P5.length=4:=by rw[←hP5,putB_len]
      have hlC:C.length=Bd.length+X.length:=by rw[hC,List.length_append]
      have hlD1:D1.length=C.length+4:=by rw[hD1,List.length_append,hl1]
      have hlD2:D2.length=D1.length+bt.length:=by rw[hD2,List.length_append]
      have hlD3:D3.length=D2.length+4:=by rw[hD3,List.length_append,hl2]
      have hlD4:D4.length=D3.length+4:=by rw[hD4,List.length_append,hl3]
      have hB0:Bd.length≤1100000000:=by omega
      have hX0:X.length≤10000000:=by omega
      have hC0:C.length≤1110000000:=by omega
      have hD10:D1.length≤1110000004:=by omega
      have hD20:D2.length≤1110500000:=by omega
      have hD30:D3.length≤1110600000:=by omega
      have hD40:D4.length≤1110700000:=by omega
      have hsm0:sm<4294967296:=by rw[←hsm];exact sumB_lt _
      have hws:IntKind.u64.wrap (sm:Int)=sm:=by rw[IntKind.wrap_u64];omega
      have HP1:=ah hP1;have HP2:=ah hP2;have HP3:=ah hP3;have HP5:=ah hP5;have HBt:=ah hbt;have HSm:=ah hsm;have HC:=ah hC;have HD1:=ah hD1;have HD2:=ah hD2;have HD3:=ah hD3;have HD4:=ah hD4;have HD5:=ah hD5;have HL1:=ah hl1;have HL2:=ah hl2;have HL3:=ah hl3;have HL5:=ah hl5;have hq1:P1.length≤4:=by omega
      have hq2:P2.length≤4:=by omega
      have hq3:P3.length≤4:=by omega
      have hq5:P5.length≤4:=by omega
      clear hP1 hP2 hP3 hP5 hbt hsm hC hD1 hD2 hD3 hD4 hD5 hl1 hl2 hl3 hl5 hlC hlD1 hlD2 hlD3 hlD4 hBd hX hBl hXl;go_wp2_with (first
       | (at_builtin;have he:=app_eqs HC.out;refine wpList_appS rfl (.tmp 74) (.tmp 75) 41 rfl 5 j0 _ 1 1 Tryz.underlying41 Hj.out Hy0.out Hy1.out Hy2.out rfl (by decide) (.slice AB Bd.length cb) Bd.length (Bd.map bv) rfl w _ (by exact HSS.out) AX X.length cx (X.map bv) rfl (by exact RdV.of_own HSS.out.up2.row_own) (by simp) (bv_one X) (by unfold maxLen;omega) (by omega) ?_;intro A18 c18 w18 hs18;rw[he.1,he.2] at hs18;rw[he.1];have HS18:=ah hs18;clear hs18 he)
       | (go_at_call 143;refine(filtered_any A c es _ (HL.out.new HS18.out.chg) (fun e he=>⟨(HR.out e he).1.new HS18.out.chg,(HR.out e he).2.new HS18.out.chg⟩) hc HM.out (by omega) (fun e he=>(HSh2.out e he).1)).mono ?_;rintro x w20 ⟨g,h,n,rfl,hF, -, -,k20,hn1,hn2⟩;rw[←HLe.out,HBt.out] at hF;have HF:=ah hF;have HS20:=ah (HS18.out.new k20);have HN:=ah (And.intro hn1 hn2);clear hF k20 hn1 hn2)
       | (go_at_call 180;refine(fbytes_any g h n n bt w20 HF.out HN.out).mono ?_;rintro x w21 ht;obtain⟨A21,c21,rfl,ho,k21⟩:=told_own ht;have HS21:=ah (HS20.out.gotRow k21 ho);clear ht ho k21)
       | (go_at_call 178;refine(fourS bt.length (by omega) w _ _ HS21.out).mono ?_;rintro x w22 ⟨A22,c22,rfl,hs22⟩;rw[HP1.out] at hs22 ⊢;have HS22:=ah hs22;clear hs22)
       | (at_builtin;have he:=app_eqs HD1.out;refine wpList_appS rfl (.tmp 82) (.tmp 85) 41 rfl 5 j0 _ 1 1 Tryz.underlying41 Hj.out Hy0.out Hy1.out Hy2.out rfl (by decide) (.slice A18 C.length c18) C.length (C.map bv) rfl w _ (by exact HS22.out.up3) A22 P1.length c22 (P1.map bv) rfl (by exact RdV.of_own HS22.out.row_own) (by simp) (bv_one P1) (by unfold maxLen;omega) (by omega) ?_;intro A23 c23 w23 hs23;rw[he.1,he.2] at hs23;rw[he.1];have HS23:=ah hs23;clear hs23 he)
       | (at_builtin;have he:=app_eqs HD2.out;refine wpList_appS rfl (.tmp 86) (.tmp 87) 41 rfl 5 j0 _ 1 1 Tryz.underlying41 Hj.out Hy0.out Hy1.out Hy2.out rfl (by decide) (.slice A23 D1.length c23) D1.length (D1.map bv) rfl w _ (by exact HS23.out) A21 bt.length c21 (bt.map bv) rfl (by exact RdV.of_own HS23.out.up3.row_own) (by simp) (bv_one bt) (by unfold maxLen;omega) (by omega) ?_;intro A24 c24 w24 hs24;rw[he.1,he.2] at hs24;rw[he.1];have HS24:=ah hs24;clear hs24 he)
       | (go_at_call 178;refine(fourS Bd.length (by omega) w _ _ HS24.out).mono ?_;rintro x w25 ⟨A25,c25,rfl,hs25⟩;rw[HP2.out] at hs25 ⊢;have HS25:=ah hs25;clear hs25)
       | (at_builtin;have he:=app_eqs HD3.out;refine wpList_appS rfl (.tmp 89) (.tmp 91) 41 rfl 5 j0 _ 1 1 Tryz.underlying41 Hj.out Hy0.out Hy1.out Hy2.out rfl (by decide) (.slice A24 D2.length c24) D2.length (D2.map bv) rfl w _ (by exact HS25.out.up2) A25 P2.length c25 (P2.map bv) rfl (by exact RdV.of_own HS25.out.row_own) (by simp) (bv_one P2) (by unfold maxLen;omega) (by omega) ?_;intro A26 c26 w26 hs26;rw[he.1,he.2] at hs26;rw[he.1];have HS26:=ah hs26;clear hs26 he)
       | (go_at_call 178;refine(fourS C.length (by omega) w _ _ HS26.out).mono ?_;rintro x w27 ⟨A27,c27,rfl,hs27⟩;rw[HP3.out] at hs27 ⊢;have HS27:=ah hs27;clear hs27)
       | (at_builtin;have he:=app_eqs HD4.out;refine wpList_appS rfl (.tmp 92) (.tmp 94) 41 rfl 5 j0 _ 1 1 Tryz.underlying41 Hj.out Hy0.out Hy1.out Hy2.out rfl (by decide) (.slice A26 D3.length c26) D3.length (D3.map bv) rfl w _ (by exact HS27.out.up2) A27 P3.length c27 (P3.map bv) rfl (by exact RdV.of_own HS27.out.row_own) (by simp) (bv_one P3) (by unfold maxLen;omega) (by omega) ?_;intro A28 c28 w28 hs28;rw[he.1,he.2] at hs28;rw[he.1];have HS28:=ah hs28;clear hs28 he)
       | (go_at_call 138;refine(osum_any (some ⟨w28.heap.size,0,none⟩) 1 [(A28,c28,D4)] _ ⟨lit_rdv w28 #[.slice A28 D4.length c28] 41,fun y hy=>by rw[List.mem_singleton] at hy;subst hy;exact RdV.of_own (HS28.out.alloc' _).row_own⟩ (by simp) (by simp;omega)).mono ?_;rintro x w29 ⟨rfl,rfl⟩;rw[show (txt [(A28,c28,D4)]).flatten=D4 by simp[txt],HSm.out])
       | (go_at_call 117;refine(oput_any sm 4 (by omega) (by omega) (by omega) w _ _ (HS28.out.alloc' _)).mono ?_;rintro x w30 ⟨A30,c30,rfl, -, -,hs30⟩;rw[HP5.out] at hs30 ⊢;have HS30:=ah hs30;clear hs30)
       | (at_builtin;have he:=app_eqs HD5.out;refine wpList_appS rfl (.tmp 96) (.tmp 101) 41 rfl 5 j0 _ 1 1 Tryz.underlying41 Hj.out Hy0.out Hy1.out Hy2.out rfl (by decide) (.slice A28 D4.length c28) D4.length (D4.map bv) rfl w _ (by exact HS30.out.up2) A30 P5.length c30 (P5.map bv) rfl (by exact RdV.of_own HS30.out.row_own) (by simp) (bv_one P5) (by unfold maxLen;omega) (by omega) ?_;intro A31 c31 w31 hs31;rw[he.1,he.2] at hs31;rw[he.1];have HS31:=ah hs31;clear hs31 he))
      go_ret2;obtain⟨Az,cz,hz,h1,h2⟩:=HS31.out.row_sl;injection hz with e1 e2 e3
      subst e1 e3;refine .inr ⟨trivial,_,_,rfl,h1,h2,?_⟩;exact HS31.out.drop2.drop2.drop2.drop2.drop2.drop2
abbrev Pr:=Ent × Nat
def aheadM (e:Ent) (L:List Pr):List Pr:=L.takeWhile fun p=>lessE p.1 e
def behindM (e:Ent) (L:List Pr):List Pr:=L.dropWhile fun p=>lessE p.1 e
def twiceM (e:Ent) (L:List Pr):Bool:=match behindM e L with | p::_=>decide (ordE p.1 e=0) | []=>false
def insM (e:Ent) (h:Nat) (L:List Pr):List Pr:=if twiceM e L then L else aheadM e L++(e,h)::behindM e L
def absN (n:Nd):Pr:=(n.e.ent,n.h)
def absL (ns:List Nd):List Pr:=ns.map absN
theorem abs_ahead (e:Ent) (ns:List Nd):absL (ahead e ns)=aheadM e (absL ns):=by
 unfold absL aheadM ahead
 induction ns with
 | nil=>rfl
 | cons n ns ih=>
  rw[List.map_cons,List.takeWhile_cons,List.takeWhile_cons];show List.map absN (if lessE n.e.ent e=true then _ else _)=if lessE n.e.ent e=true then _ else _
  split
  ·rw[List.map_cons,ih]
  ·rfl
theorem abs_behind (e:Ent) (ns:List Nd):absL (behind e ns)=behindM e (absL ns):=by
 unfold absL behindM behind
 induction ns with
 | nil=>rfl
 | cons n ns ih=>
  rw[List.map_cons,List.dropWhile_cons,List.dropWhile_cons];show List.map absN (if lessE n.e.ent e=true then _ else _)=if lessE n.e.ent e=true then _ else _
  split
  ·exact ih
  ·rfl
theorem abs_twice (e:Ent) (ns:List Nd):twice e ns=twiceM e (absL ns):=by
 unfold twice twiceM;rw[←abs_behind]
 cases behind e ns<;>rfl
theorem byt_app (a b:List Ent):byt (a++b)=byt a+byt b:=by
 unfold byt
 induction a with
 | nil=>simp
 | cons x a ih=>simp only[List.cons_append,List.foldr_cons];omega
def topSeq:Int:=9223372036854775807
def bytN (ns:List Nd):Nat:=byt (ns.map fun n=>n.e.ent)
def SkipT (b hr:Nat) (ns:List Nd):SP:=SkipC b hr ns ns.length (bytN ns)
theorem ownE_r {w0 w:World} {F:SP}: ∀ {es:List En},Sat w0 (OwnE es*F) w→EnsR w es
 | [],_=>fun e he=>by simp at he
 | e::es,h=>by
  have h1:Sat w0 (Row 5 1 (slv' e.key) e.key.2.2.length (e.key.2.2.map bv)*(Row 5 1 (slv' e.value) e.value.2.2.length (e.value.2.2.map bv)*(OwnE es*F))) w:=h.of (by
   show Row _ _ _ _ _*(Row _ _ _ _ _*OwnE es)*F=_
   ac_rfl)
  intro x hx;rcases List.mem_cons.1 hx with rfl | hx
  ·obtain⟨A,c,e1,r1,_⟩:=Sat.row_rd (h:=h1);obtain⟨B,d,e2,r2,_⟩:=Sat.row_rd (h:=h1.up2);unfold slv' at e1 e2;injection e1 with e1
   injection e2 with e2
   exact⟨by rw[e1];exact r1,by rw[e2];exact r2⟩
  ·exact ownE_r h1.right.right x hx
abbrev StP:=List Ent × List UInt8 × Bool
def aheadS (L:List Ent):List UInt8:=if L.length % 8=0 then [] else match L[L.length - 1]? with | some e=>e.key | none=>[]
def stepP (st:StP):StP:=let p:=entP (aheadS st.1) st.2.1 st.2.2;(st.1++[p.1],p.2)
def runP:Nat→StP→StP
 | 0,st=>st
 | k+1,st=>if st.2.2=true then st else runP k (stepP st)
theorem runP_short (k:Nat) {st:StP} (h:st.2.2=true):runP k st=st:=by
 cases k with
 | zero=>rfl
 | succ k=>unfold runP;rw[if_pos h]
theorem runP_step (k:Nat) {st:StP} (h:st.2.2=false):runP (k+1) st=runP k (stepP st):=by
 conv=>lhs;unfold runP
 rw[if_neg (by rw[h];simp)]
def sumOk (b:List UInt8):Bool:=decide (4≤b.length) && decide (putB (sumB (b.take (b.length - 4))) 4=b.drop (b.length - 4))
def readP (b:List UInt8):StP:=let t:=takeP 4 b false;let c:=takeP 4 t.2.1 t.2.2;runP (getN c.1) ([],c.2)
def openE (b:List UInt8):Nat:=
 if sumOk b=false then 72 else if (takeP 4 b false).1≠markB then 73 else if (readP b).2.2=true∨buildE (readP b).1≠0∨buildB (readP b).1≠b then 73 else 0
theorem takeP_cap (n:Nat) (q:List UInt8) (s:Bool) (hn:n≤8):getN (takeP n q s).1<256 ^ n:=Nat.lt_of_lt_of_le (getN_lt _) (Nat.pow_le_pow_right (by omega) (takeP_len' n q s))
theorem entP_small (al q:List UInt8) (s:Bool):(entP al q s).1.key.length≤600∧(entP al q s).1.value.length≤65536∧(entP al q s).1.seq<9223372036854775808:=by
 unfold entP;refine⟨?_,?_,?_⟩
 ·simp only;split
  ·simp
  ·rw[List.length_append,List.length_take];have h1:=takeP_cap 1 q s (by omega);have h2:=takeP_cap 1 (takeP 1 q s).2.1 (takeP 1 q s).2.2 (by omega);have h3:=takeP_len' (getN (takeP 1 (takeP 1 q s).2.1 (takeP 1 q s).2.2).1);refine Nat.le_trans (Nat.add_le_add (Nat.min_le_left _ _) (h3 _ _)) ?_;omega
 ·simp only;refine Nat.le_trans (takeP_len' _ _ _) ?_;have h2:=takeP_cap 2;exact Nat.le_of_lt (h2 _ _ (by omega))
 ·simp only;rw[IntKind.wrap_i64];omega
theorem entP_len (al q:List UInt8) (s:Bool):(entP al q s).2.1.length≤q.length:=by
 unfold entP;simp only;refine Nat.le_trans (takeP_le _ _ _) (Nat.le_trans (takeP_le _ _ _) (Nat.le_trans (takeP_le _ _ _) (Nat.le_trans (takeP_le _ _ _) (Nat.le_trans (takeP_le _ _ _) (Nat.le_trans (takeP_le _ _ _) (takeP_le _ _ _))))))
theorem ownE_cap {w0 w:World} {F:SP}: ∀ {es:List En},Sat w0 (OwnE es*F) w→ ∀ e ∈ es,e.key.2.2.length≤e.key.2.1∧e.key.2.1≤maxLen
 | [],_=>by simp
 | e::es,h=>by
  have h0:Sat w0 (Row 5 1 (slv' e.key) e.key.2.2.length (e.key.2.2.map bv)*(Row 5 1 (slv' e.value) e.value.2.2.length (e.value.2.2.map bv)*OwnE es)*F) w:=h;have h1:=h0.of (show _=Row 5 1 (slv' e.key) e.key.2.2.length (e.key.2.2.map bv)*(Row 5 1 (slv' e.value) e.value.2.2.length (e.value.2.2.map bv)*(OwnE es*F)) by ac_rfl);intro x hx;rcases List.mem_cons.1 hx with rfl | hx
  ·obtain⟨A,c,e1,k1,k2⟩:=h1.row_sl;unfold slv' at e1;injection e1 with e2 e3 e4
   rw[e4];exact⟨k1,k2⟩
  ·exact ownE_cap h1.right.right x hx
structure TabR (w:World) (T:Nat) (es:List En):Prop where
 box: ∃ A c g h n,w.cell? ⟨T,0,none⟩=some (.slice A es.length c)∧w.cell? ⟨T,1,none⟩=some (.pointer (some ⟨g,0,none⟩))∧RdV w A (es.flatMap enV)∧es.length≤c∧c≤maxLen∧Filt w g h n n (bitsB (es.map En.ent))∧8≤n∧n≤262144
 rd:EnsR w es
 cap: ∀ e ∈ es,e.key.2.2.length≤e.key.2.1∧e.key.2.1≤maxLen
 ok:buildE (es.map En.ent)=0
theorem TabR.new {w w':World} {T:Nat} {es:List En} (h:TabR w T es) (k:Chg No w w'):TabR w' T es:=by
 obtain⟨A,c,g,h1,n,a1,a2,a3,a4,a5,a6,a7⟩:=h.box;exact⟨⟨A,c,g,h1,n,k.cell a1 id,k.cell a2 id,a3.new k,a4,a5,a6.new k,a7⟩,fun e he=>⟨(h.rd e he).1.new k,(h.rd e he).2.new k⟩,h.cap,h.ok⟩
def Opened (b:List UInt8) (w:World) (x:Ending) (w':World):Prop:=
 (openE b≠0∧x = .returned (.tuple #[.pointer none,.int .i64 (openE b:Nat)])∧Chg No w w')∨
 (openE b=0∧ ∃ T es,x = .returned (.tuple #[.pointer (some ⟨T,0,none⟩),.int .i64 0])∧es.map En.ent=(readP b).1∧TabR w' T es∧w.heap.size≤T∧Chg No w w')
theorem takeP_app {n:Nat} (a r:List UInt8) (h:a.length=n):takeP n (a++r) false=(a,r,false):=by
 subst h;rw[takeP_ok (by simp)];simp
theorem getN_one (b:UInt8):getN [b]=b.toNat:=by simp[getN]
theorem entP_entB (al:List UInt8) (e:Ent) (r:List UInt8) (hm:mayE e=true) (hs:e.seq<9223372036854775808) (hal:al.length≤128):entP al (entB al e++r) false=(e,r,false):=by
 obtain⟨h1,h2,h3,h4⟩:=mayE_iff.1 hm;have hc:=commonN_le al e.key;obtain⟨n,hn⟩: ∃ n,commonN al e.key=n:=⟨_,rfl⟩;have ht:=commonN_take al e.key;unfold entB;rw[hn] at hc ht ⊢;have e1:[UInt8.ofNat n,UInt8.ofNat (e.key.length - n)]++(putB e.seq.toNat 8++([if e.dead then 1 else 0]++(putB e.value.length 2++(e.key.drop n++e.value))))++r
   =[UInt8.ofNat n]++([UInt8.ofNat (e.key.length - n)]++(putB e.seq.toNat 8++([if e.dead then 1 else 0]++(putB e.value.length 2++(e.key.drop n++(e.value++r)))))):=by simp
 rw[e1];have b1:getN [UInt8.ofNat n]=n:=by rw[getN_one,UInt8.toNat_ofNat',Nat.mod_eq_of_lt (by omega)]
 have b2:getN [UInt8.ofNat (e.key.length - n)]=e.key.length - n:=by rw[getN_one,UInt8.toNat_ofNat',Nat.mod_eq_of_lt (by omega)]
 have b3:IntKind.i64.wrap (getN (putB e.seq.toNat 8):Int)=e.seq:=by
  rw[get_put,Nat.mod_eq_of_lt (by omega),IntKind.wrap_i64];omega
 have b4:decide (getN [if e.dead then (1:UInt8) else 0]=1)=e.dead:=by cases e.dead<;>decide
 have b5:getN (putB e.value.length 2)=e.value.length:=by rw[get_put,Nat.mod_eq_of_lt (by omega)]
 unfold entP;simp only[takeP_app _ _ (List.length_singleton),takeP_app _ _ (putB_len _ _),b1,b2,b3,b4,b5];rw[decide_eq_false (by omega)];simp only[Bool.or_false];rw[takeP_app (n:=e.key.length - n) _ _ (by simp)];simp only;rw[takeP_app (n:=e.value.length) _ _ rfl];simp only[Bool.false_eq_true,if_false];rw[ht,List.take_append_drop]
theorem aheadS_take {L:List Ent} {i:Nat} (h:i≤L.length):aheadS (L.take i)=aheadK L i:=by
 unfold aheadS aheadK;rw[List.length_take,Nat.min_eq_left h];split
 ·rfl
 ·rw[List.getElem?_take,if_pos (by omega)]
  cases L[i - 1]?<;>rfl
theorem ahead_short {L:List Ent} (h: ∀ e ∈ L,e.key.length≤128) (i:Nat):(aheadK L i).length≤128:=by
 unfold aheadK;split
 ·simp
 ·split
  ·rename_i e he;exact h e (List.mem_of_getElem? he)
  ·simp
theorem buildE_may {L:List Ent} (h:buildE L=0): ∀ e ∈ L,mayE e=true:=by
 intro e he;unfold buildE at h;split at h
 ·cases h
 ·split at h
  ·cases h
  ·rename_i h1
   cases hm:mayE e with
   | true=>rfl
   | false=>exact absurd (.inr (List.any_eq_true.2 ⟨e,he,by rw[hm];rfl⟩)) h1
theorem buildE_key {L:List Ent} (h:buildE L=0): ∀ e ∈ L,e.key.length≤128:=fun e he=>(mayE_iff.1 (buildE_may h e he)).1
theorem buildE_few {L:List Ent} (h:buildE L=0):L.length≤65536:=by
 unfold buildE at h;split at h
 ·cases h
 ·split at h
  ·cases h
  ·rename_i h1;rcases Nat.lt_or_ge 65536 L.length with h2 | h2
   ·exact absurd (.inl h2) h1
   ·exact h2
def restB (L:List Ent) (i k:Nat):List UInt8:=((List.range' i k).map (entAt L)).flatten
theorem runP_rest (L:List Ent) (r:List UInt8) (hb:buildE L=0) (hs: ∀ e ∈ L,e.seq<9223372036854775808): ∀ (k i:Nat),i+k=L.length→runP k (L.take i,restB L i k++r,false)=(L,r,false)
 | 0,i,h=>by
  have e:L.take i=L:=List.take_of_length_le (by omega);unfold runP restB;rw[e];rfl
 | k+1,i,h=>by
  have hi:i<L.length:=by omega
  have ih:=runP_rest L r hb hs k (i+1) (by omega);rw[runP_step _ rfl];have e2:restB L i (k+1)=entB (aheadK L i) L[i]++restB L (i+1) k:=by
   unfold restB;rw[List.range'_succ,List.map_cons,List.flatten_cons];congr 1
   unfold entAt;rw[List.getElem?_eq_getElem hi]
  have e3:stepP (L.take i,restB L i (k+1)++r,false)=(L.take (i+1),restB L (i+1) k++r,false):=by
   unfold stepP;simp only;rw[aheadS_take (by omega),e2,List.append_assoc,entP_entB _ _ _ (buildE_may hb _ (List.getElem_mem hi)) (hs _ (List.getElem_mem hi)) (ahead_short (buildE_key hb) i)];simp only;rw[List.take_succ_eq_append_getElem hi]
  rw[e3,ih]
theorem bodyB_rest (L:List Ent):bodyB L L.length=markB++(putB L.length 4++restB L 0 L.length):=by
 unfold bodyB restB;rw[List.range_eq_range',List.append_assoc]
theorem buildB_eq (L:List Ent): ∃ r,buildB L=markB++(putB L.length 4++(restB L 0 L.length++r)):=by
 unfold buildB allB;simp only;rw[bodyB_rest];refine⟨idxB L L.length++(putB (bitsB L).length 4++(bitsB L++(putB (markB++(putB L.length 4++restB L 0 L.length)).length 4++(putB (markB++(putB L.length 4++restB L 0 L.length)++idxB L L.length).length 4++putB (sumB (markB++(putB L.length 4++restB L 0 L.length)++idxB L L.length++putB (bitsB L).length 4++bitsB L++putB (markB++(putB L.length 4++restB L 0 L.length)).length 4++putB (markB++(putB L.length 4++restB L 0 L.length)++idxB L L.length).length 4)) 4)))),?_⟩;simp only[List.append_assoc]
theorem readP_build {L:List Ent} (hb:buildE L=0) (hs: ∀ e ∈ L,e.seq<9223372036854775808):(readP (buildB L)).1=L∧(readP (buildB L)).2.2=false:=by
 obtain⟨r,hr⟩:=buildB_eq L;have hf:=buildE_few hb;have e:readP (buildB L)=(L,r,false):=by
  rw[hr];unfold readP;simp only;rw[takeP_app (n:=4) markB _ rfl];simp only;rw[takeP_app _ _ (putB_len _ _)];simp only;rw[get_put,Nat.mod_eq_of_lt (by omega)];exact runP_rest L r hb hs L.length 0 (by omega)
 rw[e];exact⟨rfl,rfl⟩
theorem sumOk_build (L:List Ent):sumOk (buildB L)=true:=by
 unfold sumOk buildB;rw[List.length_append,putB_len,Nat.add_sub_cancel,List.take_left,List.drop_left];simp
theorem openE_build {L:List Ent} (hb:buildE L=0) (hs: ∀ e ∈ L,e.seq<9223372036854775808):openE (buildB L)=0:=by
 obtain⟨h1,h2⟩:=readP_build hb hs;unfold openE;rw[if_neg (by rw[sumOk_build];simp),if_neg,if_neg]
 ·rw[h1,h2];simp[hb]
 ·obtain⟨r,hr⟩:=buildB_eq L;rw[hr,takeP_app (n:=4) markB _ rfl];simp
theorem wpList_appB {w0 w:World} {F:SP} {ops:Array Oper} {o:Oper} {a:Act} {rest:List Oper} {Q:Exit→Act→World→Prop} (hgd:o.guard=none) (s x:Operand)
  (ho:o.op = .call { callee:= .builtin .append,args:= #[s,x],argTypes:= #[41, 41] })
  (A:Option Addr) (cA:Nat) (l:List UInt8) (hs:a.eval s = .slice A l.length cA) (hS:Sat w0 (Row 5 1 (.slice A l.length cA) l.length (l.map bv)*F) w)
  (B:Option Addr) (cB:Nat) (m:List UInt8) (hx:a.eval x = .slice B m.length cB) (hr:Rd w B m) (k:List UInt8) (hk:k=l++m) (hl:k.length≤140737488355328)
  (h: ∀ A' c' w',Sat w0 (Row 5 1 (.slice A' k.length c') k.length (k.map bv)*F) w'→wpList Tryz.prog ops Q rest (a.put o.dst (.slice A' k.length c')) w'):wpList Tryz.prog ops Q (o::rest) a w:=by
 subst hk;rw[List.length_append] at hl;obtain⟨j0,hj,hy0,hy1,hy2⟩:=info_parts info_u8;refine wpList_appS hgd s x 41 ho 5 j0 _ 1 1 Tryz.underlying41 hj hy0 hy1 hy2 rfl (by decide) _ l.length (l.map bv) hs w0 F hS B m.length cB (m.map bv) hx hr (by simp) (bv_one _) (by unfold maxLen;omega) (by omega) ?_;intro A' c' w' h2;have h3:=h A' c' w';rw[List.length_append,List.map_append] at h3;exact h3 h2
theorem step_appB {w0 w:World} {F:SP} {ops:Array Oper} {o:Oper} {a:Act} {K:Act→World→Prop} {Q:Exit→Act→World→Prop} {E:Prop} (hgd:o.guard=none) (s x:Operand)
  (ho:o.op = .call { callee:= .builtin .append,args:= #[s,x],argTypes:= #[41, 41] })
  (A:Option Addr) (cA:Nat) (l:List UInt8) (hs:a.eval s = .slice A l.length cA) (hS:Sat w0 (Row 5 1 (.slice A l.length cA) l.length (l.map bv)*F) w)
  (B:Option Addr) (cB:Nat) (m:List UInt8) (hx:a.eval x = .slice B m.length cB) (hr:Rd w B m) (k:List UInt8) (hk:k=l++m) (hl:k.length≤140737488355328)
  (h: ∀ A' c' w',Sat w0 (Row 5 1 (.slice A' k.length c') k.length (k.map bv)*F) w'→K (a.put o.dst (.slice A' k.length c')) w'):
  if Region.wanted o (yielded ops a.tmps)=true then Oper.wp Tryz.prog o a w K Q else E:=by
 subst hk;rw[List.length_append] at hl;obtain⟨j0,hj,hy0,hy1,hy2⟩:=info_parts info_u8;refine step_appS hgd s x 41 ho 5 j0 _ 1 1 Tryz.underlying41 hj hy0 hy1 hy2 rfl (by decide) _ l.length (l.map bv) hs w0 F hS B m.length cB (m.map bv) hx hr (by simp) (bv_one _) (by unfold maxLen;omega) (by omega) ?_;intro A' c' w' h2;have h3:=h A' c' w';rw[List.length_append,List.map_append] at h3;exact h3 h2
section
variable {key:List UInt8} {seq:Int} {L:List Ent}
def getL (key:List UInt8) (seq:Int) (L:List Ent):Option Ent:=match L.dropWhile (fun x=>lessE x (seekE key seq)) with
 | x::_=>if x.key=key then some x else none
 | []=>none
theorem get_list (key:List UInt8) (seq:Int) (ns:List Nd):getE key seq ns=getL key seq ((absL ns).map (·.1)):=by
 have e:(absL ns).map (·.1)=ns.map fun n=>n.e.ent:=by unfold absL;rw[List.map_map];rfl
 rw[e];have h:(ns.map fun n=>n.e.ent).dropWhile (fun x=>lessE x (seekE key seq))=(behind (seekE key seq) ns).map fun n=>n.e.ent:=by
  unfold behind
  induction ns with
  | nil=>rfl
  | cons n ns ih=>
   rw[List.map_cons,List.dropWhile_cons,List.dropWhile_cons];show (if lessE n.e.ent (seekE key seq)=true then _ else _)=List.map _ (if lessE n.e.ent (seekE key seq)=true then _ else _);split
   ·exact ih (by unfold absL;rw[List.map_map];rfl)
   ·rfl
 unfold getE getL;rw[h]
 cases behind (seekE key seq) ns<;>rfl
theorem split_at (f:Ent→Bool) (L:List Ent):L=L.takeWhile f++L.dropWhile f:=(List.takeWhile_append_dropWhile).symm
theorem tw_mem {f:Ent→Bool}: ∀ {L:List Ent} {x:Ent},x ∈ L.takeWhile f→f x=true
 | [],_,h=>by simp at h
 | y::L,x,h=>by
  rw[List.takeWhile_cons] at h;split at h
  ·rename_i hy;rcases List.mem_cons.1 h with rfl | h
   ·exact hy
   ·exact tw_mem h
  ·simp at h
end
end Go.Proofs.YtmbaiglpgaoogaaGreat
