/- Joined, as they were built one by one: TabBuild MemTab. -/
import Derived.Lib.SlBytesConst
import Derived.Test.YtmbaiglpgaoogaaGreatV20
import Derived.Test.YtmbaiglpgaoogaaGreatV22
set_option maxHeartbeats 16000000
namespace Go.Proofs.YtmbaiglpgaoogaaGreat
open Go.RowKit
set_option linter.unusedVariables false
set_option maxRecDepth 100000
theorem entB_len (al:List UInt8) (e:Ent) (hk:e.key.length<=128) (hv:e.value.length<=16384):(entB al e).length<=16525:=by
 unfold entB;simp[putB_len];omega
theorem entAt_len (L:List Ent) (i:Nat) (h: ∀ e ∈ L,e.key.length<=128/\e.value.length<=16384):(entAt L i).length<=16525:=by
 unfold entAt;split
 .rename_i e he;have:=h e (List.mem_of_getElem? he);exact entB_len _ _ this.1 this.2
 .simp
theorem bodyB_len (L:List Ent) (h: ∀ e ∈ L,e.key.length<=128/\e.value.length<=16384): ∀ k,(bodyB L k).length<=8+k*16525
 | 0=>by simp[bodyB,markB,putB_len]
 | k+1=>by
  have h1:=bodyB_len L h k;have h2:=entAt_len L k h;rw[bodyB_succ,List.length_append];omega
theorem idxAt_len (L:List Ent) (i:Nat) (h: ∀ e ∈ L,e.key.length<=128/\e.value.length<=16384):(idxAt L i).length<=133:=by
 unfold idxAt;split
 .rw[List.length_append,List.length_append,putB_len]
  cases hq:L[i]? with
  | none=>simp
  | some e=>have:=h e (List.mem_of_getElem? hq);simp;omega
 .simp
theorem idxB_len (L:List Ent) (h: ∀ e ∈ L,e.key.length<=128/\e.value.length<=16384): ∀ k,(idxB L k).length<=4+k*133
 | 0=>by simp[idxB,putB_len]
 | k+1=>by
  have h1:=idxB_len L h k;have h2:=idxAt_len L k h;rw[idxB_succ,List.length_append];omega
theorem bitsB_len (L:List Ent):(bitsB L).length=nbytes (unlike L L.length).length 10:=by
 unfold bitsB;rw[length_addAll,List.length_replicate]
theorem app_eqs {a b c:List UInt8} (h:c=a++b):a.length+b.length=c.length/\a.map bv++b.map bv=c.map bv:=by
 subst h;exact⟨List.length_append.symm,List.map_append.symm⟩
theorem mayE_iff {e:Ent}:mayE e=true↔e.key.length<=128/\e.value.length<=16384/\(e.dead=true->e.value.length=0)/\0<=e.seq:=by
 unfold mayE
 cases e.dead<;>simp
theorem map_at {es:List En} {i:Nat} (h:i<es.length):(es.map En.ent)[i]?=some es[i].ent:=by rw[List.getElem?_map,List.getElem?_eq_getElem h];rfl
theorem entAt_first {es:List En} {i:Nat} (h:i<es.length) (h8:i % 8=0):entAt (es.map En.ent) i=entB [] es[i].ent:=by
 unfold entAt aheadK;rw[map_at h,if_pos h8]
theorem entAt_next {es:List En} {i:Nat} (h:i+1<es.length) (h8:¬ (i+1) % 8=0):entAt (es.map En.ent) (i+1)=entB es[i].key.2.2 es[i+1].ent:=by
 unfold entAt aheadK;rw[map_at h,if_neg h8,Nat.add_sub_cancel,map_at (show i<es.length by omega)];rfl
theorem idxAt_first {es:List En} {i:Nat} (h:i<es.length) (h8:i % 8=0):idxAt (es.map En.ent) i=(putB (bodyB (es.map En.ent) i).length 4++[UInt8.ofNat es[i].key.2.2.length])++es[i].key.2.2:=by
 unfold idxAt;rw[if_pos h8,map_at h,List.append_assoc];rfl
theorem idxAt_next {es:List En} {i:Nat} (h8:¬ i % 8=0):idxAt (es.map En.ent) i=[]:=by
 unfold idxAt;rw[if_neg h8]
theorem entS (a:Slc) (e:En) (EB:List UInt8) (hEB:entB a.2.2 e.ent=EB) (w0 w:World) (F:SP) (h:Sat w0 F w) (ha:Rd w a.1 a.2.2) (he:EnR w e) (hal:a.2.2.length<=128) (hkl:e.key.2.2.length<=128) (hkc:e.key.2.2.length<=e.key.2.1) (hkm:e.key.2.1<=maxLen) (hvl:e.value.2.2.length<=16384) (hsq:0<=e.seq/\e.seq<9223372036854775808):
  Calls Tryz.prog 179 #[.slice a.1 a.2.2.length a.2.1,.agg #[.slice e.key.1 e.key.2.2.length e.key.2.1,.slice e.value.1 e.value.2.2.length e.value.2.1,.int .i64 e.seq,.bool e.dead]] w fun x w'=> ∃ A c,x = .returned (.slice A EB.length c)/\Sat w0 (Row 5 1 (.slice A EB.length c) EB.length (EB.map bv)*F) w':=by
 subst hEB;exact(entB_any a e w0 w F h ha he hal hkl hkc hkm hvl hsq).mono fun _ _ ⟨A,c,e,_,_,hs⟩=>⟨A,c,e,hs⟩
theorem two_rdl (w3:World) {a b:Nat} {A3:Option Addr} {c3:Nat} {l m:List UInt8} (h1:Rd w3 (some ⟨a,0,none⟩) l) (h2:Rd w3 A3 m):RdL (w3.alloc (.cells #[.slice (some ⟨a,0,none⟩) l.length b,.slice A3 m.length c3] 41)) (some ⟨w3.heap.size,0,none⟩) [(some ⟨a,0,none⟩,b,l),(A3,c3,m)]:=by
 refine⟨?_,fun x hx=>?_⟩
 .have:=lit_rdv w3 #[.slice (some ⟨a,0,none⟩) l.length b,.slice A3 m.length c3] 41;simpa [slOf] using this
 .simp only[List.mem_cons,List.not_mem_nil,or_false] at hx;rcases hx with rfl | rfl
  .exact h1.alloc _
  .exact h2.alloc _
theorem fourS (n:Nat) (hn:n<9223372036854775808) (w0 w:World) (F:SP) (h:Sat w0 F w):Calls Tryz.prog 178 #[.int .i64 (n:Int)] w fun e w'=> ∃ A c,e = .returned (.slice A (putB n 4).length c)/\Sat w0 (Row 5 1 (.slice A (putB n 4).length c) (putB n 4).length ((putB n 4).map bv)*F) w':=
 (four_any n hn w0 w F h).mono fun _ _ ⟨A,c,e,_,_,hs⟩=>⟨A,c,e,hs⟩
theorem one_rd {w0 w:World} {g:Nat} {F:SP} (n:Nat) (hn:n<=128) (h:Sat w0 (Pt g 5 #[.int .u8 (n:Int)]*F) w):Rd w (some ⟨g,0,none⟩) [UInt8.ofNat n]:=RdV.of_at h.at fun j hj=>by
 have hn:((UInt8.ofNat n).toNat:Int)=n:=by rw[UInt8.toNat_ofNat',Nat.mod_eq_of_lt (by omega)]
 have e:([UInt8.ofNat n].map bv)=[.int .u8 (n:Int)]:=by
  unfold bv;rw[List.map_cons,List.map_nil,hn]
 simp only[e];rw[<-List.getElem?_eq_getElem (by rw[e] at hj;exact hj)];simp
theorem told_own {B:List UInt8} {w w':World} {e:Ending} (h:Told B w e w'): ∃ A c,e = .returned (.slice A B.length c)/\w'.ownsRow w.heap.size 5 1 (.slice A B.length c) B.length (B.map bv)/\Chg No w w':=by
 obtain⟨x,cap,cur,rfl,h1,h2,h3,h4,h5,h6,h7⟩:=h;refine⟨_,_,rfl,⟨by simp,.inr ⟨x,cap,cur,rfl,h1,h2,h4,h5,by rw[h3,Nat.mul_one],?_⟩⟩,h7⟩;have hc:cur.toList.length=cap:=by simp[h3]
 apply List.ext_getElem
 .rw[List.length_take,hc,List.length_map];omega
 .intro j hj hj2;rw[List.length_map] at hj2;obtain⟨_,e⟩:=Array.getElem?_eq_some_iff.1 (h6 j hj2);rw[List.getElem_take,List.getElem_map, <-e,Array.getElem_toList]
theorem bits_len (es:List En) (hn:es.length<=65536):(bitsB (es.map En.ent)).length<=262144:=by
 rw[bitsB_len];have:=unlike_len (es.map En.ent) (es.map En.ent).length;have e:(es.map En.ent).length<=65536:=by simpa using hn
 exact(nbytes_le _ 10 ⟨by omega,by omega,by omega,by omega⟩).2.2
theorem allB_eq {L:List Ent} {n:Nat} {b x c d1 d2 d3 d4:List UInt8} (hn:L.length=n) (hb:bodyB L n=b) (hx:idxB L n=x) (hc:c=b++x) (h1:d1=c++putB (bitsB L).length 4) (h2:d2=d1++bitsB L) (h3:d3=d2++putB b.length 4) (h4:d4=d3++putB c.length 4):buildB L=d4++putB (sumB d4) 4:=by
 subst hn hb hx hc h1 h2 h3 h4;rfl
def Built (L:List Ent) (w:World) (x:Ending) (w':World):Prop:=
 (buildE L≠0/\x = .returned (.tuple #[.slice none 0 0,.int .i64 (buildE L:Nat)])/\Chg No w w')\/
 (buildE L=0/\ ∃ A c,x = .returned (.tuple #[.slice A (buildB L).length c,.int .i64 0])/\(buildB L).length<=c/\c<=maxLen/\Sat w (Row 5 1 (.slice A (buildB L).length c) (buildB L).length ((buildB L).map bv)*Emp) w')
structure BldAt (w:World) (L:List Ent) (i:Nat) (vb vx:Value) (wr:World):Prop where
 sat:Sat w (Row 5 1 vb (bodyB L i).length ((bodyB L i).map bv)*(Row 5 1 vx (idxB L i).length ((idxB L i).map bv)*Emp)) wr
theorem body_zero (L:List Ent):bodyB L 0=markB++putB L.length 4:=by simp[bodyB]
theorem idx_zero (L:List Ent):idxB L 0=putB ((L.length+7) / 8) 4:=by simp[idxB]
theorem build_any (A:Option Addr) (c:Nat) (es:List En) (w:World) (h:RdV w A (es.flatMap enV)) (hr:EnsR w es) (hc:es.length<=c) (hm:c<=maxLen) (hsh: ∀ e ∈ es,e.key.2.2.length<=140737488355328/\e.value.2.2.length<=140737488355328/\e.key.2.2.length<=e.key.2.1/\e.key.2.1<=maxLen) (hi64: ∀ e ∈ es,e.seq<9223372036854775808):
  Calls Tryz.prog 142 #[.slice A es.length c] w (Built (es.map En.ent) w):=by
 obtain⟨j0,hj,hy0,hy1,hy2⟩:=info_parts info_u8;have Hj:=ah hj;have Hy0:=ah hy0;have Hy1:=ah hy1;have Hy2:=ah hy2;have HL:=ah h;have HR:=ah hr;have HM:=ah hm;have HI64:=ah hi64;have HSh:=ah hsh;have HSh2:Hid (∀ e ∈ es,e.key.2.2.length<=140737488355328/\e.value.2.2.length<=140737488355328):=fun e he=>⟨(hsh e he).1,(hsh e he).2.1⟩
 obtain⟨L,hLe⟩: ∃ L,L=es.map En.ent:=⟨_,rfl⟩;have HLe:=ah hLe;have hlen:L.length=es.length:=by rw[hLe,List.length_map]
 rw[<-hLe];unfold maxLen at hm;clear h hr hsh hi64 hj hy0 hy1 hy2 hLe;obtain⟨Q,hQ⟩: ∃ Q,buildE L=Q:=⟨_,rfl⟩;have HQ:Hid (Built L w=fun x w'=>(Q≠0/\x = .returned (.tuple #[.slice none 0 0,.int .i64 (Q:Nat)])/\Chg No w w')\/(Q=0/\ ∃ A c,x = .returned (.tuple #[.slice A (buildB L).length c,.int .i64 0])/\(buildB L).length<=c/\c<=maxLen/\Sat w (Row 5 1 (.slice A (buildB L).length c) (buildB L).length ((buildB L).map bv)*Emp) w')):=by
  unfold Hid Built;rw[hQ]
 rw[HQ.o];have HBE:=ah hQ;have HLen:=ah hlen;clear hQ hlen;obtain⟨S,hS⟩: ∃ S,sortedB L=S:=⟨_,rfl⟩;have HSo:Hid (sortedB (es.map En.ent)=S):=by rw[<-HLe.o];exact hS
 have HSo2:=ah hS;clear hS
 cases S
 .have hq:Q=70:=by rw[<-HBE.o];unfold buildE;rw[if_pos HSo2.o]
  subst hq;go_enter Tryz.func142, Tryz.ntmps142;go_wp2_with (go_at_call 151;refine(sorted_any A c es w HL.o HR.o hc HM.o).mono ?_;rintro x w1 ⟨rfl,k1⟩;rw[HSo.o];have HK:=ah k1;clear k1);go_ret2;exact .inl ⟨by decide,rfl,HK.o⟩
 .by_cases hbig:65536<es.length
  .have hq:Q=71:=by rw[<-HBE.o];unfold buildE;rw[if_neg (by rw[HSo2.o];simp),if_pos (.inl (by rw[HLen.o];exact hbig))]
   subst hq;have hbi:(65536:Int)<es.length:=by omega
   go_enter Tryz.func142, Tryz.ntmps142;go_wp2_with (go_at_call 151;refine(sorted_any A c es w HL.o HR.o hc HM.o).mono ?_;rintro x w1 ⟨rfl,k1⟩;rw[HSo.o];have HK:=ah k1;clear k1);go_ret2;exact .inl ⟨by decide,rfl,HK.o⟩
  .have hbi:¬ (65536:Int)<es.length:=by omega
   obtain⟨Y,hY⟩: ∃ Y,(es.map En.ent).any (fun e=> !mayE e)=Y:=⟨_,rfl⟩;have HY:=ah hY;clear hY
   cases Y
   case true=>
    have hq:Q=71:=by rw[<-HBE.o];unfold buildE;rw[if_neg (by rw[HSo2.o];simp),if_pos (.inr (by rw[HLe.o];exact HY.o))]
    subst hq;go_enter Tryz.func142, Tryz.ntmps142;go_wp2_with (first
     | (go_at_call 151;refine(sorted_any A c es w HL.o HR.o hc HM.o).mono ?_;rintro x w1 ⟨rfl,k1⟩;rw[HSo.o];have HK:=ah k1;clear k1)
     | (go_at_call 175;refine(tcontains_any A c es w1 (HL.o.new HK.o) hc HM.o HSh2.o).mono ?_;rintro x w2 ⟨rfl,k2⟩;rw[HY.o];have HK2:=ah (HK.o.tr k2);clear k2))
    go_ret2;exact .inl ⟨by decide,rfl,HK2.o⟩
   case false=>
    have hq:Q=0:=by rw[<-HBE.o];unfold buildE;rw[if_neg (by rw[HSo2.o];simp),if_neg (by rw[HLe.o,HY.o];rw[HLe.o] at HLen;have:=HLen.o;intro h;rcases h with h | h;omega;cases h)]
    have HMay:Hid (∀ e ∈ es,e.key.2.2.length<=128/\e.value.2.2.length<=16384/\0<=e.seq):=fun e he=>by
     have h1:=HY.o;rw[List.any_eq_false] at h1;have h2:=h1 e.ent (List.mem_map.2 ⟨e,he,rfl⟩);have h3:=mayE_iff.1 (by simpa using h2);exact⟨h3.1,h3.2.1,h3.2.2.2⟩
    have HMx:Hid (∀ e ∈ L,e.key.length<=128/\e.value.length<=16384):=fun e he=>by
     rw[HLe.o] at he;obtain⟨x,hx,rfl⟩:=List.mem_map.1 he;have:=HMay.o x hx;exact⟨this.1,this.2.1⟩
    subst hq;have hcv:=fun (W:World) (C:Array Value) (n c:Nat)=>Lib.run_convert_bytes_const (P:= Tryz.prog) W 41 5 C n c Tryz.underlying41 Tryz.underlying5
    have hLn:=HLen.o;have hq8:((es.length:Int)+8 - 1).tdiv 8=(((es.length+7) / 8:Nat):Int):=by
     rw[Int.tdiv_eq_ediv_of_nonneg (by omega)];omega
    have HZ0:Hid (bodyB L 0=markB++putB es.length 4):=by rw[<-HLen.o];exact body_zero L
    have HZ1:Hid (idxB L 0=putB ((es.length+7) / 8) 4):=by rw[<-HLen.o];exact idx_zero L
    clear hLn;go_enter Tryz.func142, Tryz.ntmps142;go_upto_region 5 with (first
     | (go_at_call 151;refine(sorted_any A c es w HL.o HR.o hc HM.o).mono ?_;rintro x w1 ⟨rfl,k1⟩;rw[HSo.o];have HK:=ah k1;clear k1)
     | (go_at_call 175;refine(tcontains_any A c es w1 (HL.o.new HK.o) hc HM.o HSh2.o).mono ?_;rintro x w2 ⟨rfl,k2⟩;rw[HY.o];have HK2:=ah (HK.o.tr k2);clear k2))
    have HMk:Hid (Rd (w2.alloc (.cells #[.int .u8 84,.int .u8 68,.int .u8 84,.int .u8 49] 5 (4,5))) (some ⟨w2.heap.size,0,none⟩) markB):=RdV.lit w2 #[.int .u8 84,.int .u8 68,.int .u8 84,.int .u8 49] 5 (4,5);have HKM:Hid (Chg No w (w2.alloc (.cells #[.int .u8 84,.int .u8 68,.int .u8 84,.int .u8 49] 5 (4,5)))):=HK2.o.alloc _;go_upto_region 6 with (first
     | (go_at_call 178;refine(fourS es.length (by omega) _ _ Emp (Sat.start _)).mono ?_;rintro x w3 ⟨A3,c3,rfl,hs3⟩;have HS3:=ah hs3;clear hs3)
     | (go_at_call 61;refine(join_any (some ⟨w3.heap.size,0,none⟩) 2 [(some ⟨w2.heap.size,0,none⟩,4,markB),(A3,c3,putB es.length 4)] _ (two_rdl w3 (HMk.o.new HS3.o.chg) (RdV.of_own HS3.o.row_own)) (by simp[txt,markB,putB_len]) (show 2<=140737488355328 by omega)).mono ?_;rintro x w4 ⟨vv,rfl,ho,k4⟩;rw[show (txt [(some ⟨w2.heap.size,0,none⟩,4,markB),(A3,c3,putB es.length 4)]).flatten=bodyB L 0 by rw[HZ0.o];simp[txt]] at ho;obtain⟨A4,c4,rfl, -⟩:=own_sl ho;have K4:=(HKM.o.tr HS3.o.chg).tr (((Chg.refl No w3).alloc _).tr k4);have HS4:=ah ((Sat.start w).gotRow K4 (own_base ho (by rw[World.size_alloc];have:=(HKM.o.tr HS3.o.chg).size;omega)));clear ho k4 K4))
    go_upto_region 7 with (go_at_call 178;refine(fourS ((es.length+7) / 8) (by omega) w _ _ HS4.o).mono ?_;rintro x w5 ⟨A5,c5,rfl,hs5⟩;rw[<-HZ1.o] at hs5 ⊢;have HS5:=ah hs5.up2;clear hs5)
    go_wp2_with fail;go_loopw [4,5,37] (fun vb vx iv wr=> ∃ i:Nat,i<=es.length/\iv = .int .i64 i/\Hid (BldAt w L i vb vx wr)) (fun _ _ iv _=>es.length - (intOf iv).toNat)
    case atStart=>exact⟨0,by omega,rfl,⟨HS5.o⟩⟩
    case round=>
     obtain⟨i,hi,rfl,HD⟩:=hrel;obtain⟨AB,cb,rfl,hb1,hb2⟩:=HD.o.sat.row_sl;obtain⟨AX,cx,rfl,hx1,hx2⟩:=HD.o.sat.up2.row_sl;have hBl:=bodyB_len L HMx.o i;have hXl:=idxB_len L HMx.o i;by_cases hlt:i<es.length
     .obtain⟨lb,lo,rfl,hq⟩:=ents_at HL.o (by omega);obtain⟨z0,z1,z2,z3⟩:=hq i hlt;have a0:=HD.o.sat.chg.cell z0 id;have a1:=HD.o.sat.chg.cell z1 id;have a2:=HD.o.sat.chg.cell z2 id;have a3:=HD.o.sat.chg.cell z3 id;unfold slv' at a0 a1;have HE:=ah (HR.o _ (List.getElem_mem hlt));have HMi:=ah (HMay.o _ (List.getElem_mem hlt));have HSi:=ah (HSh.o _ (List.getElem_mem hlt));have HSq:Hid (0<=es[i].seq/\es[i].seq<9223372036854775808):=⟨HMi.o.2.2,HI64.o _ (List.getElem_mem hlt)⟩;have HSE:=ah (HD.o.sat.allocPt 120 #[.slice es[i].key.1 es[i].key.2.2.length es[i].key.2.1,.slice es[i].value.1 es[i].value.2.2.length es[i].value.2.1,.int .i64 es[i].seq,.bool es[i].dead]);have e0:=HSE.o.cell 0;have e1:=HSE.o.cell 1;have e2:=HSE.o.cell 2;have e3:=HSE.o.cell 3;by_cases h8:i % 8=0
      .have hm1:(i:Int) % 8=0:=by omega
       have hm2:(i:Int).tmod 8=0:=by rw[Int.tmod_eq_emod_of_nonneg (by omega)];exact hm1
       have HBn:Hid (bodyB L (i+1)=bodyB L i++entB [] es[i].ent):=by unfold Hid;rw[bodyB_succ,HLe.o,entAt_first hlt h8]
       have HXn:Hid (idxB L (i+1)=((idxB L i++putB (bodyB L i).length 4)++[UInt8.ofNat es[i].key.2.2.length])++es[i].key.2.2):=by unfold Hid;rw[idxB_succ,HLe.o,idxAt_first hlt h8];simp only[List.append_assoc]
       clear z0 z1 z2 z3 hq h8;generalize bodyB L i=B at*
       generalize idxB L i=X at*
       have hw8:IntKind.u8.wrap (es[i].key.2.2.length:Int)=es[i].key.2.2.length:=by have:=HMi.o.1;rw[IntKind.wrap_u8];omega
       obtain⟨P4,hP4⟩: ∃ P4,putB B.length 4=P4:=⟨_,rfl⟩;have hP4l:P4.length=4:=by rw[<-hP4,putB_len]
       obtain⟨X1,hX1⟩: ∃ X1,X1=X++P4:=⟨_,rfl⟩;obtain⟨X2,hX2⟩: ∃ X2,X2=X1++[UInt8.ofNat es[i].key.2.2.length]:=⟨_,rfl⟩;have HXm:Hid (idxB L (i+1)=X2++es[i].key.2.2):=by unfold Hid;rw[hX2,hX1, <-hP4];exact HXn.o
       obtain⟨EB,hEB⟩: ∃ EB,entB [] es[i].ent=EB:=⟨_,rfl⟩;have HBm:Hid (bodyB L (i+1)=B++EB):=by unfold Hid;rw[<-hEB];exact HBn.o
       have hEl:EB.length<=16525:=by rw[<-hEB];exact entB_len _ _ HMi.o.1 HMi.o.2.1
       have HP4:=ah hP4;have HX1:=ah hX1;have HX2:=ah hX2;have HEB:=ah hEB;have hX1l:X1.length=X.length+4:=by rw[hX1,List.length_append,hP4l]
       have hX2l:X2.length=X.length+5:=by rw[hX2,List.length_append,hX1l];rfl
       have HX1l:=ah hX1l;have HX2l:=ah hX2l;have HP4l:=ah hP4l;clear hP4 hX1 hX2 hEB HXn HBn hX1l hX2l hP4l;go_upto_region 13 with fail;have HSV:=HSE;revert HSV;generalize World.alloc wr _=wq;generalize wr.heap.size=E;intro HSV;have HSW:Hid (Sat w (Pt E 120 #[.slice es[i].key.1 es[i].key.2.2.length es[i].key.2.1,.slice es[i].value.1 es[i].value.2.2.length es[i].value.2.1,.int .i64 es[i].seq,.bool es[i].dead]*(Row 5 1 (.slice AB B.length cb) B.length (B.map bv)*(Row 5 1 (.slice AX X.length cx) X.length (X.map bv)*Emp))) wq):=HSV;clear HSV HSE a0 a1 a2 a3 e0 e1 e2 e3;have HSd:=ah HSW.o.drew;refine wp_region_held_drew (S:=fun w'=>w'.cell? ⟨E,0,none⟩=some (.slice es[i].key.1 es[i].key.2.2.length es[i].key.2.1)) (by kernel_rfl) (HSd.o.cell 0) ?_;intro hS0;revert hS0 HSd;generalize wq.drew=wd;intro HS hS0;replace HS:Hid (Sat w (Pt E 120 #[.slice es[i].key.1 es[i].key.2.2.length es[i].key.2.1,.slice es[i].value.1 es[i].value.2.2.length es[i].value.2.1,.int .i64 es[i].seq,.bool es[i].dead]*(Row 5 1 (.slice AB B.length cb) B.length (B.map bv)*(Row 5 1 (.slice AX X.length cx) X.length (X.map bv)*Emp))) wd):=HS.o;refine rtk 0 ?_;refine rtk 1 ?_;refine rtk 2 ?_;refine rtk 5 ?_;refine rtk 6 ?_;refine rtk 7 ?_;refine rtk 8 ?_;refine rgn_both (i:=3) (j:=9) rfl rfl (by kernel_rfl) (fun K hK=>?_) (fun K hK=>?_)
       ·
        go_simp;go_at_call 178
        refine(fourS B.length (by omega) w _ _ HS.o).mono ?_;rintro x v3 ⟨A3',c3',rfl,hs⟩;rw[HP4.o] at hs ⊢;replace HS:Hid (Sat w (Pt E 120 #[.slice es[i].key.1 es[i].key.2.2.length es[i].key.2.1,.slice es[i].value.1 es[i].value.2.2.length es[i].value.2.1,.int .i64 es[i].seq,.bool es[i].dead]*(Row 5 1 (.slice AB B.length cb) B.length (B.map bv)*(Row 5 1 (.slice AX X.length cx) X.length (X.map bv)*(Row 5 1 (.slice A3' P4.length c3') P4.length (P4.map bv)*Emp)))) v3):=hs.of (by ac_rfl);clear hs;refine hK.out _ _ (HS.o.cell 0) (fun hS0=>?_);clear hK K;refine rgn_both (i:=4) (j:=9) rfl rfl (by kernel_rfl) (fun K hK=>?_) (fun K hK=>?_)
        ·
         have hA:Sat w (Row 5 1 (.slice AX X.length cx) X.length (X.map bv)*(Pt E 120 #[.slice es[i].key.1 es[i].key.2.2.length es[i].key.2.1,.slice es[i].value.1 es[i].value.2.2.length es[i].value.2.1,.int .i64 es[i].seq,.bool es[i].dead]*(Row 5 1 (.slice AB B.length cb) B.length (B.map bv)*(Row 5 1 (.slice A3' P4.length c3') P4.length (P4.map bv)*Emp)))) v3:=HS.o.of (by ac_rfl);have hR:Rd v3 A3' P4:=RdV.of_own HS.o.up4.row_own;have hA1:=HP4l.o;have hm:(P4.map bv).length=P4.length*1:=by simp
         refine step_appS rfl (.tmp 51) (.tmp 54) 41 rfl 5 j0 _ 1 1 Tryz.underlying41 Hj.o Hy0.o Hy1.o Hy2.o rfl (by decide) (.slice AX X.length cx) X.length (X.map bv) rfl w _ (by exact hA) A3' P4.length c3' (P4.map bv) rfl (by exact hR) hm (bv_one P4) (by unfold maxLen;omega) (by omega) ?_;intro A4 c4 v4 hs;have he:=app_eqs HX1.o;have he1:X.length+P4.length=_:=he.1;rw[he1,he.2] at hs;rw[he1];replace HS:Hid (Sat w (Pt E 120 #[.slice es[i].key.1 es[i].key.2.2.length es[i].key.2.1,.slice es[i].value.1 es[i].value.2.2.length es[i].value.2.1,.int .i64 es[i].seq,.bool es[i].dead]*(Row 5 1 (.slice AB B.length cb) B.length (B.map bv)*(Row 5 1 (.slice A4 X1.length c4) X1.length (X1.map bv)*(Row 5 1 (.slice A3' P4.length c3') P4.length (P4.map bv)*Emp)))) v4):=hs.of (by ac_rfl);clear hs hA hR hm he he1 hA1;refine hK.out _ _ (HS.o.cell 0) (fun hS0=>?_);clear hK K
         try simp only[Act.put,List.setIfInBounds_toArray,List.set_cons_zero,List.set_cons_succ]
         refine rck 9 fun K hK=>?_
         go_simp;have hs:=HS.o.allocPt 5 #[.int .u8 (es[i].key.2.2.length:Int)];revert hs;generalize World.alloc v4 _=v9;generalize v4.heap.size=g9;intro hs;replace HS:Hid (Sat w (Pt E 120 #[.slice es[i].key.1 es[i].key.2.2.length es[i].key.2.1,.slice es[i].value.1 es[i].value.2.2.length es[i].value.2.1,.int .i64 es[i].seq,.bool es[i].dead]*(Row 5 1 (.slice AB B.length cb) B.length (B.map bv)*(Row 5 1 (.slice A4 X1.length c4) X1.length (X1.map bv)*(Row 5 1 (.slice A3' P4.length c3') P4.length (P4.map bv)*(Pt g9 5 #[.int .u8 (es[i].key.2.2.length:Int)]*Emp))))) v9):=hs.of (by ac_rfl);clear hs;refine hK.out _ _ (HS.o.cell 0) (fun hS0=>?_);clear hK K;refine rck 10 fun K hK=>?_
         have hA:Sat w (Row 5 1 (.slice A4 X1.length c4) X1.length (X1.map bv)*(Pt E 120 #[.slice es[i].key.1 es[i].key.2.2.length es[i].key.2.1,.slice es[i].value.1 es[i].value.2.2.length es[i].value.2.1,.int .i64 es[i].seq,.bool es[i].dead]*(Row 5 1 (.slice AB B.length cb) B.length (B.map bv)*(Row 5 1 (.slice A3' P4.length c3') P4.length (P4.map bv)*(Pt g9 5 #[.int .u8 (es[i].key.2.2.length:Int)]*Emp))))) v9:=HS.o.of (by ac_rfl);have hR:Rd v9 (some ⟨g9,0,none⟩) [UInt8.ofNat es[i].key.2.2.length]:=one_rd _ HMi.o.1 HS.o.up5;have hA1:=HX1l.o;have hm:([UInt8.ofNat es[i].key.2.2.length].map bv).length=1*1:=by simp
         refine step_appS rfl (.tmp 55) (.tmp 60) 41 rfl 5 j0 _ 1 1 Tryz.underlying41 Hj.o Hy0.o Hy1.o Hy2.o rfl (by decide) (.slice A4 X1.length c4) X1.length (X1.map bv) rfl w _ (by exact hA) (some ⟨g9,0,none⟩) 1 1 ([UInt8.ofNat es[i].key.2.2.length].map bv) rfl (by exact hR) hm (bv_one [UInt8.ofNat es[i].key.2.2.length]) (by unfold maxLen;omega) (by omega) ?_;intro A10 c10 v10 hs;have he:=app_eqs HX2.o;have he1:X1.length+1=_:=he.1;rw[he1,he.2] at hs;rw[he1];replace HS:Hid (Sat w (Pt E 120 #[.slice es[i].key.1 es[i].key.2.2.length es[i].key.2.1,.slice es[i].value.1 es[i].value.2.2.length es[i].value.2.1,.int .i64 es[i].seq,.bool es[i].dead]*(Row 5 1 (.slice AB B.length cb) B.length (B.map bv)*(Row 5 1 (.slice A10 X2.length c10) X2.length (X2.map bv)*(Row 5 1 (.slice A3' P4.length c3') P4.length (P4.map bv)*(Pt g9 5 #[.int .u8 (es[i].key.2.2.length:Int)]*Emp))))) v10):=hs.of (by ac_rfl);clear hs hA hR hm he he1 hA1;refine hK.out _ _ (HS.o.cell 0) (fun hS0=>?_);clear hK K
         try simp only[Act.put,List.setIfInBounds_toArray,List.set_cons_zero,List.set_cons_succ]
         refine rtk 11 ?_;refine wpAnyH_done (by kernel_rfl) ?_ _;have hl2:=HX2l.o;have hkl:=HMi.o.1;go_wp2_with (first
          | (at_builtin;have he:=app_eqs HXm.o;refine wpList_appS rfl (.tmp 62) (.tmp 64) 41 rfl 5 j0 _ 1 1 Tryz.underlying41 Hj.o Hy0.o Hy1.o Hy2.o rfl (by decide) (.slice A10 X2.length c10) X2.length (X2.map bv) rfl w _ (by exact HS.o.up3) es[i].key.1 es[i].key.2.2.length es[i].key.2.1 (es[i].key.2.2.map bv) rfl (by exact HE.o.1.new HS.o.chg) (by simp) (bv_one es[i].key.2.2) (by unfold maxLen;omega) (by omega) ?_;intro A6 c6 w6 hs6;rw[he.1,he.2] at hs6;rw[he.1];have q0:=hs6.up2.cell 0;have q1:=hs6.up2.cell 1;have q2:=hs6.up2.cell 2;have q3:=hs6.up2.cell 3;have HS6:=ah hs6;clear hs6 he)
          | (go_at_call 179;refine(entS (none,0,[]) es[i] EB HEB.o w _ _ HS6.o (fun hx=>absurd rfl hx) ⟨HE.o.1.new HS6.o.chg,HE.o.2.new HS6.o.chg⟩ (by simp) HMi.o.1 HSi.o.2.2.1 HSi.o.2.2.2 HMi.o.2.1 HSq.o).mono ?_;rintro x w7 ⟨A7,c7,rfl,hs7⟩;have HS7:=ah hs7;clear hs7)
          | (at_builtin;have he:=app_eqs HBm.o;refine wpList_appS rfl (.tmp 66) (.tmp 69) 41 rfl 5 j0 _ 1 1 Tryz.underlying41 Hj.o Hy0.o Hy1.o Hy2.o rfl (by decide) (.slice AB B.length cb) B.length (B.map bv) rfl w _ (by exact HS7.o.up4) A7 EB.length c7 (EB.map bv) rfl (by exact RdV.of_own HS7.o.row_own) (by simp) (bv_one EB) (by unfold maxLen;omega) (by omega) ?_;intro A8 c8 w8 hs8;rw[he.1,he.2] at hs8;rw[he.1];have HS8:=ah hs8;clear hs8 he))
         go_roundw
         .refine⟨i+1,by omega,by push_cast;rfl,⟨?_⟩⟩;have h9:=HS8.o.drop2;exact h9.up3.right.up3.right.up3.right
         .simp[intOf];omega
        ·
         go_simp;have hs:=HS.o.allocPt 5 #[.int .u8 (es[i].key.2.2.length:Int)];revert hs;generalize World.alloc v3 _=v9;generalize v3.heap.size=g9;intro hs;replace HS:Hid (Sat w (Pt E 120 #[.slice es[i].key.1 es[i].key.2.2.length es[i].key.2.1,.slice es[i].value.1 es[i].value.2.2.length es[i].value.2.1,.int .i64 es[i].seq,.bool es[i].dead]*(Row 5 1 (.slice AB B.length cb) B.length (B.map bv)*(Row 5 1 (.slice AX X.length cx) X.length (X.map bv)*(Row 5 1 (.slice A3' P4.length c3') P4.length (P4.map bv)*(Pt g9 5 #[.int .u8 (es[i].key.2.2.length:Int)]*Emp))))) v9):=hs.of (by ac_rfl);clear hs;refine hK.out _ _ (HS.o.cell 0) (fun hS0=>?_);clear hK K;refine rck 4 fun K hK=>?_
         have hA:Sat w (Row 5 1 (.slice AX X.length cx) X.length (X.map bv)*(Pt E 120 #[.slice es[i].key.1 es[i].key.2.2.length es[i].key.2.1,.slice es[i].value.1 es[i].value.2.2.length es[i].value.2.1,.int .i64 es[i].seq,.bool es[i].dead]*(Row 5 1 (.slice AB B.length cb) B.length (B.map bv)*(Row 5 1 (.slice A3' P4.length c3') P4.length (P4.map bv)*(Pt g9 5 #[.int .u8 (es[i].key.2.2.length:Int)]*Emp))))) v9:=HS.o.of (by ac_rfl);have hR:Rd v9 A3' P4:=RdV.of_own HS.o.up4.row_own;have hA1:=HP4l.o;have hm:(P4.map bv).length=P4.length*1:=by simp
         refine step_appS rfl (.tmp 51) (.tmp 54) 41 rfl 5 j0 _ 1 1 Tryz.underlying41 Hj.o Hy0.o Hy1.o Hy2.o rfl (by decide) (.slice AX X.length cx) X.length (X.map bv) rfl w _ (by exact hA) A3' P4.length c3' (P4.map bv) rfl (by exact hR) hm (bv_one P4) (by unfold maxLen;omega) (by omega) ?_;intro A4 c4 v4 hs;have he:=app_eqs HX1.o;have he1:X.length+P4.length=_:=he.1;rw[he1,he.2] at hs;rw[he1];replace HS:Hid (Sat w (Pt E 120 #[.slice es[i].key.1 es[i].key.2.2.length es[i].key.2.1,.slice es[i].value.1 es[i].value.2.2.length es[i].value.2.1,.int .i64 es[i].seq,.bool es[i].dead]*(Row 5 1 (.slice AB B.length cb) B.length (B.map bv)*(Row 5 1 (.slice A4 X1.length c4) X1.length (X1.map bv)*(Row 5 1 (.slice A3' P4.length c3') P4.length (P4.map bv)*(Pt g9 5 #[.int .u8 (es[i].key.2.2.length:Int)]*Emp))))) v4):=hs.of (by ac_rfl);clear hs hA hR hm he he1 hA1;refine hK.out _ _ (HS.o.cell 0) (fun hS0=>?_);clear hK K
         try simp only[Act.put,List.setIfInBounds_toArray,List.set_cons_zero,List.set_cons_succ]
         refine rck 10 fun K hK=>?_
         have hA:Sat w (Row 5 1 (.slice A4 X1.length c4) X1.length (X1.map bv)*(Pt E 120 #[.slice es[i].key.1 es[i].key.2.2.length es[i].key.2.1,.slice es[i].value.1 es[i].value.2.2.length es[i].value.2.1,.int .i64 es[i].seq,.bool es[i].dead]*(Row 5 1 (.slice AB B.length cb) B.length (B.map bv)*(Row 5 1 (.slice A3' P4.length c3') P4.length (P4.map bv)*(Pt g9 5 #[.int .u8 (es[i].key.2.2.length:Int)]*Emp))))) v4:=HS.o.of (by ac_rfl);have hR:Rd v4 (some ⟨g9,0,none⟩) [UInt8.ofNat es[i].key.2.2.length]:=one_rd _ HMi.o.1 HS.o.up5;have hA1:=HX1l.o;have hm:([UInt8.ofNat es[i].key.2.2.length].map bv).length=1*1:=by simp
         refine step_appS rfl (.tmp 55) (.tmp 60) 41 rfl 5 j0 _ 1 1 Tryz.underlying41 Hj.o Hy0.o Hy1.o Hy2.o rfl (by decide) (.slice A4 X1.length c4) X1.length (X1.map bv) rfl w _ (by exact hA) (some ⟨g9,0,none⟩) 1 1 ([UInt8.ofNat es[i].key.2.2.length].map bv) rfl (by exact hR) hm (bv_one [UInt8.ofNat es[i].key.2.2.length]) (by unfold maxLen;omega) (by omega) ?_;intro A10 c10 v10 hs;have he:=app_eqs HX2.o;have he1:X1.length+1=_:=he.1;rw[he1,he.2] at hs;rw[he1];replace HS:Hid (Sat w (Pt E 120 #[.slice es[i].key.1 es[i].key.2.2.length es[i].key.2.1,.slice es[i].value.1 es[i].value.2.2.length es[i].value.2.1,.int .i64 es[i].seq,.bool es[i].dead]*(Row 5 1 (.slice AB B.length cb) B.length (B.map bv)*(Row 5 1 (.slice A10 X2.length c10) X2.length (X2.map bv)*(Row 5 1 (.slice A3' P4.length c3') P4.length (P4.map bv)*(Pt g9 5 #[.int .u8 (es[i].key.2.2.length:Int)]*Emp))))) v10):=hs.of (by ac_rfl);clear hs hA hR hm he he1 hA1;refine hK.out _ _ (HS.o.cell 0) (fun hS0=>?_);clear hK K
         try simp only[Act.put,List.setIfInBounds_toArray,List.set_cons_zero,List.set_cons_succ]
         refine rtk 11 ?_;refine wpAnyH_done (by kernel_rfl) ?_ _;have hl2:=HX2l.o;have hkl:=HMi.o.1;go_wp2_with (first
          | (at_builtin;have he:=app_eqs HXm.o;refine wpList_appS rfl (.tmp 62) (.tmp 64) 41 rfl 5 j0 _ 1 1 Tryz.underlying41 Hj.o Hy0.o Hy1.o Hy2.o rfl (by decide) (.slice A10 X2.length c10) X2.length (X2.map bv) rfl w _ (by exact HS.o.up3) es[i].key.1 es[i].key.2.2.length es[i].key.2.1 (es[i].key.2.2.map bv) rfl (by exact HE.o.1.new HS.o.chg) (by simp) (bv_one es[i].key.2.2) (by unfold maxLen;omega) (by omega) ?_;intro A6 c6 w6 hs6;rw[he.1,he.2] at hs6;rw[he.1];have q0:=hs6.up2.cell 0;have q1:=hs6.up2.cell 1;have q2:=hs6.up2.cell 2;have q3:=hs6.up2.cell 3;have HS6:=ah hs6;clear hs6 he)
          | (go_at_call 179;refine(entS (none,0,[]) es[i] EB HEB.o w _ _ HS6.o (fun hx=>absurd rfl hx) ⟨HE.o.1.new HS6.o.chg,HE.o.2.new HS6.o.chg⟩ (by simp) HMi.o.1 HSi.o.2.2.1 HSi.o.2.2.2 HMi.o.2.1 HSq.o).mono ?_;rintro x w7 ⟨A7,c7,rfl,hs7⟩;have HS7:=ah hs7;clear hs7)
          | (at_builtin;have he:=app_eqs HBm.o;refine wpList_appS rfl (.tmp 66) (.tmp 69) 41 rfl 5 j0 _ 1 1 Tryz.underlying41 Hj.o Hy0.o Hy1.o Hy2.o rfl (by decide) (.slice AB B.length cb) B.length (B.map bv) rfl w _ (by exact HS7.o.up4) A7 EB.length c7 (EB.map bv) rfl (by exact RdV.of_own HS7.o.row_own) (by simp) (bv_one EB) (by unfold maxLen;omega) (by omega) ?_;intro A8 c8 w8 hs8;rw[he.1,he.2] at hs8;rw[he.1];have HS8:=ah hs8;clear hs8 he))
         go_roundw
         .refine⟨i+1,by omega,by push_cast;rfl,⟨?_⟩⟩;have h9:=HS8.o.drop2;exact h9.up3.right.up3.right.up3.right
         .simp[intOf];omega
       ·
        go_simp;have hs:=HS.o.allocPt 5 #[.int .u8 (es[i].key.2.2.length:Int)];revert hs;generalize World.alloc wd _=v9;generalize wd.heap.size=g9;intro hs;replace HS:Hid (Sat w (Pt E 120 #[.slice es[i].key.1 es[i].key.2.2.length es[i].key.2.1,.slice es[i].value.1 es[i].value.2.2.length es[i].value.2.1,.int .i64 es[i].seq,.bool es[i].dead]*(Row 5 1 (.slice AB B.length cb) B.length (B.map bv)*(Row 5 1 (.slice AX X.length cx) X.length (X.map bv)*(Pt g9 5 #[.int .u8 (es[i].key.2.2.length:Int)]*Emp)))) v9):=hs.of (by ac_rfl);clear hs;refine hK.out _ _ (HS.o.cell 0) (fun hS0=>?_);clear hK K;refine rck 3 fun K hK=>?_
        go_simp;go_at_call 178
        refine(fourS B.length (by omega) w _ _ HS.o).mono ?_;rintro x v3 ⟨A3',c3',rfl,hs⟩;rw[HP4.o] at hs ⊢;replace HS:Hid (Sat w (Pt E 120 #[.slice es[i].key.1 es[i].key.2.2.length es[i].key.2.1,.slice es[i].value.1 es[i].value.2.2.length es[i].value.2.1,.int .i64 es[i].seq,.bool es[i].dead]*(Row 5 1 (.slice AB B.length cb) B.length (B.map bv)*(Row 5 1 (.slice AX X.length cx) X.length (X.map bv)*(Row 5 1 (.slice A3' P4.length c3') P4.length (P4.map bv)*(Pt g9 5 #[.int .u8 (es[i].key.2.2.length:Int)]*Emp))))) v3):=hs.of (by ac_rfl);clear hs;refine hK.out _ _ (HS.o.cell 0) (fun hS0=>?_);clear hK K;refine rck 4 fun K hK=>?_
        have hA:Sat w (Row 5 1 (.slice AX X.length cx) X.length (X.map bv)*(Pt E 120 #[.slice es[i].key.1 es[i].key.2.2.length es[i].key.2.1,.slice es[i].value.1 es[i].value.2.2.length es[i].value.2.1,.int .i64 es[i].seq,.bool es[i].dead]*(Row 5 1 (.slice AB B.length cb) B.length (B.map bv)*(Row 5 1 (.slice A3' P4.length c3') P4.length (P4.map bv)*(Pt g9 5 #[.int .u8 (es[i].key.2.2.length:Int)]*Emp))))) v3:=HS.o.of (by ac_rfl);have hR:Rd v3 A3' P4:=RdV.of_own HS.o.up4.row_own;have hA1:=HP4l.o;have hm:(P4.map bv).length=P4.length*1:=by simp
        refine step_appS rfl (.tmp 51) (.tmp 54) 41 rfl 5 j0 _ 1 1 Tryz.underlying41 Hj.o Hy0.o Hy1.o Hy2.o rfl (by decide) (.slice AX X.length cx) X.length (X.map bv) rfl w _ (by exact hA) A3' P4.length c3' (P4.map bv) rfl (by exact hR) hm (bv_one P4) (by unfold maxLen;omega) (by omega) ?_;intro A4 c4 v4 hs;have he:=app_eqs HX1.o;have he1:X.length+P4.length=_:=he.1;rw[he1,he.2] at hs;rw[he1];replace HS:Hid (Sat w (Pt E 120 #[.slice es[i].key.1 es[i].key.2.2.length es[i].key.2.1,.slice es[i].value.1 es[i].value.2.2.length es[i].value.2.1,.int .i64 es[i].seq,.bool es[i].dead]*(Row 5 1 (.slice AB B.length cb) B.length (B.map bv)*(Row 5 1 (.slice A4 X1.length c4) X1.length (X1.map bv)*(Row 5 1 (.slice A3' P4.length c3') P4.length (P4.map bv)*(Pt g9 5 #[.int .u8 (es[i].key.2.2.length:Int)]*Emp))))) v4):=hs.of (by ac_rfl);clear hs hA hR hm he he1 hA1;refine hK.out _ _ (HS.o.cell 0) (fun hS0=>?_);clear hK K
        try simp only[Act.put,List.setIfInBounds_toArray,List.set_cons_zero,List.set_cons_succ]
        refine rck 10 fun K hK=>?_
        have hA:Sat w (Row 5 1 (.slice A4 X1.length c4) X1.length (X1.map bv)*(Pt E 120 #[.slice es[i].key.1 es[i].key.2.2.length es[i].key.2.1,.slice es[i].value.1 es[i].value.2.2.length es[i].value.2.1,.int .i64 es[i].seq,.bool es[i].dead]*(Row 5 1 (.slice AB B.length cb) B.length (B.map bv)*(Row 5 1 (.slice A3' P4.length c3') P4.length (P4.map bv)*(Pt g9 5 #[.int .u8 (es[i].key.2.2.length:Int)]*Emp))))) v4:=HS.o.of (by ac_rfl);have hR:Rd v4 (some ⟨g9,0,none⟩) [UInt8.ofNat es[i].key.2.2.length]:=one_rd _ HMi.o.1 HS.o.up5;have hA1:=HX1l.o;have hm:([UInt8.ofNat es[i].key.2.2.length].map bv).length=1*1:=by simp
        refine step_appS rfl (.tmp 55) (.tmp 60) 41 rfl 5 j0 _ 1 1 Tryz.underlying41 Hj.o Hy0.o Hy1.o Hy2.o rfl (by decide) (.slice A4 X1.length c4) X1.length (X1.map bv) rfl w _ (by exact hA) (some ⟨g9,0,none⟩) 1 1 ([UInt8.ofNat es[i].key.2.2.length].map bv) rfl (by exact hR) hm (bv_one [UInt8.ofNat es[i].key.2.2.length]) (by unfold maxLen;omega) (by omega) ?_;intro A10 c10 v10 hs;have he:=app_eqs HX2.o;have he1:X1.length+1=_:=he.1;rw[he1,he.2] at hs;rw[he1];replace HS:Hid (Sat w (Pt E 120 #[.slice es[i].key.1 es[i].key.2.2.length es[i].key.2.1,.slice es[i].value.1 es[i].value.2.2.length es[i].value.2.1,.int .i64 es[i].seq,.bool es[i].dead]*(Row 5 1 (.slice AB B.length cb) B.length (B.map bv)*(Row 5 1 (.slice A10 X2.length c10) X2.length (X2.map bv)*(Row 5 1 (.slice A3' P4.length c3') P4.length (P4.map bv)*(Pt g9 5 #[.int .u8 (es[i].key.2.2.length:Int)]*Emp))))) v10):=hs.of (by ac_rfl);clear hs hA hR hm he he1 hA1;refine hK.out _ _ (HS.o.cell 0) (fun hS0=>?_);clear hK K
        try simp only[Act.put,List.setIfInBounds_toArray,List.set_cons_zero,List.set_cons_succ]
        refine rtk 11 ?_;refine wpAnyH_done (by kernel_rfl) ?_ _;have hl2:=HX2l.o;have hkl:=HMi.o.1;go_wp2_with (first
         | (at_builtin;have he:=app_eqs HXm.o;refine wpList_appS rfl (.tmp 62) (.tmp 64) 41 rfl 5 j0 _ 1 1 Tryz.underlying41 Hj.o Hy0.o Hy1.o Hy2.o rfl (by decide) (.slice A10 X2.length c10) X2.length (X2.map bv) rfl w _ (by exact HS.o.up3) es[i].key.1 es[i].key.2.2.length es[i].key.2.1 (es[i].key.2.2.map bv) rfl (by exact HE.o.1.new HS.o.chg) (by simp) (bv_one es[i].key.2.2) (by unfold maxLen;omega) (by omega) ?_;intro A6 c6 w6 hs6;rw[he.1,he.2] at hs6;rw[he.1];have q0:=hs6.up2.cell 0;have q1:=hs6.up2.cell 1;have q2:=hs6.up2.cell 2;have q3:=hs6.up2.cell 3;have HS6:=ah hs6;clear hs6 he)
         | (go_at_call 179;refine(entS (none,0,[]) es[i] EB HEB.o w _ _ HS6.o (fun hx=>absurd rfl hx) ⟨HE.o.1.new HS6.o.chg,HE.o.2.new HS6.o.chg⟩ (by simp) HMi.o.1 HSi.o.2.2.1 HSi.o.2.2.2 HMi.o.2.1 HSq.o).mono ?_;rintro x w7 ⟨A7,c7,rfl,hs7⟩;have HS7:=ah hs7;clear hs7)
         | (at_builtin;have he:=app_eqs HBm.o;refine wpList_appS rfl (.tmp 66) (.tmp 69) 41 rfl 5 j0 _ 1 1 Tryz.underlying41 Hj.o Hy0.o Hy1.o Hy2.o rfl (by decide) (.slice AB B.length cb) B.length (B.map bv) rfl w _ (by exact HS7.o.up4) A7 EB.length c7 (EB.map bv) rfl (by exact RdV.of_own HS7.o.row_own) (by simp) (bv_one EB) (by unfold maxLen;omega) (by omega) ?_;intro A8 c8 w8 hs8;rw[he.1,he.2] at hs8;rw[he.1];have HS8:=ah hs8;clear hs8 he))
        go_roundw
        .refine⟨i+1,by omega,by push_cast;rfl,⟨?_⟩⟩;have h9:=HS8.o.drop2;exact h9.up3.right.up3.right.up3.right
        .simp[intOf];omega
      .obtain⟨p,hp⟩: ∃ p,i=p+1:=⟨i - 1,by cases i with | zero=>simp at h8 | succ n=>omega⟩;have hpl:p<es.length:=by omega
       obtain⟨m,hm1,hm2⟩: ∃ m:Nat,(i:Int).tmod 8=(m:Int)/\0<m:=⟨i % 8,by rw[Int.tmod_eq_emod_of_nonneg (by omega)];omega,by omega⟩;have hmi:(0:Int)<(m:Int):=by omega
       have hii:(i:Int) - 1=(p:Int):=by omega
       have hwi:IntKind.i64.wrap (p:Int)=(p:Int):=by rw[IntKind.wrap_i64];omega
       have hpi:(p:Int)<es.length:=by omega
       obtain⟨y0,_,_,_⟩:=hq p hpl;have b0:=HSE.o.chg.cell y0 id;unfold slv' at b0;have HEp:=ah (HR.o _ (List.getElem_mem hpl));have HMp:=ah (HMay.o _ (List.getElem_mem hpl));have HBn:Hid (bodyB L (i+1)=bodyB L i++entB es[p].key.2.2 es[i].ent):=by
        unfold Hid;rw[bodyB_succ,HLe.o];subst hp;rw[entAt_next hlt h8]
       have HXn:Hid (idxB L (i+1)=idxB L i):=by unfold Hid;rw[idxB_succ,HLe.o,idxAt_next h8,List.append_nil]
       have HP:=ah hp;clear z0 z1 z2 z3 hq h8 y0 hp hm2;generalize bodyB L i=B at*
       generalize idxB L i=X at*
       obtain⟨EB,hEB⟩: ∃ EB,entB es[p].key.2.2 es[i].ent=EB:=⟨_,rfl⟩;have HBm:Hid (bodyB L (i+1)=B++EB):=by unfold Hid;rw[<-hEB];exact HBn.o
       have hEl:EB.length<=16525:=by rw[<-hEB];exact entB_len _ _ HMi.o.1 HMi.o.2.1
       have HEB:=ah hEB;clear hEB HBn;go_wp2_with (first
        | (go_at_call 179;refine(entS es[p].key es[i] EB HEB.o w _ _ HSE.o (HEp.o.1.new HSE.o.chg) ⟨HE.o.1.new HSE.o.chg,HE.o.2.new HSE.o.chg⟩ HMp.o.1 HMi.o.1 HSi.o.2.2.1 HSi.o.2.2.2 HMi.o.2.1 HSq.o).mono ?_;rintro x w7 ⟨A7,c7,rfl,hs7⟩;have HS7:=ah hs7;clear hs7)
        | (at_builtin;have he:=app_eqs HBm.o;refine wpList_appS rfl (.tmp 66) (.tmp 69) 41 rfl 5 j0 _ 1 1 Tryz.underlying41 Hj.o Hy0.o Hy1.o Hy2.o rfl (by decide) (.slice AB B.length cb) B.length (B.map bv) rfl w _ (by exact HS7.o.up3) A7 EB.length c7 (EB.map bv) rfl (by exact RdV.of_own HS7.o.row_own) (by simp) (bv_one EB) (by unfold maxLen;omega) (by omega) ?_;intro A8 c8 w8 hs8;rw[he.1,he.2] at hs8;rw[he.1];have HS8:=ah hs8;clear hs8 he))
       go_roundw
       .refine⟨i+1,by omega,by push_cast;rfl,⟨?_⟩⟩;rw[HXn.o];exact HS8.o.drop2.drop2
       .simp[intOf];omega
     .have hie:i=es.length:=by omega
      subst hie;obtain⟨bt,hbt⟩: ∃ bt,bitsB L=bt:=⟨_,rfl⟩;have hbtl:bt.length<=262144:=by rw[<-hbt,HLe.o];exact bits_len es (by omega)
      have HSS:=ah HD.o.sat;obtain⟨Bd,hBd⟩: ∃ B,bodyB L es.length=B:=⟨_,rfl⟩;obtain⟨X,hX⟩: ∃ X,idxB L es.length=X:=⟨_,rfl⟩;rw[hBd] at HSS hBl;rw[hX] at HSS hXl;rw[hBd,hX];obtain⟨P1,hP1⟩: ∃ P,putB bt.length 4=P:=⟨_,rfl⟩;obtain⟨P2,hP2⟩: ∃ P,putB Bd.length 4=P:=⟨_,rfl⟩;obtain⟨C,hC⟩: ∃ C,C=Bd++X:=⟨_,rfl⟩;obtain⟨P3,hP3⟩: ∃ P,putB C.length 4=P:=⟨_,rfl⟩;obtain⟨D1,hD1⟩: ∃ D,D=C++P1:=⟨_,rfl⟩;obtain⟨D2,hD2⟩: ∃ D,D=D1++bt:=⟨_,rfl⟩;obtain⟨D3,hD3⟩: ∃ D,D=D2++P2:=⟨_,rfl⟩;obtain⟨D4,hD4⟩: ∃ D,D=D3++P3:=⟨_,rfl⟩;obtain⟨sm,hsm⟩: ∃ s,sumB D4=s:=⟨_,rfl⟩;obtain⟨P5,hP5⟩: ∃ P,putB sm 4=P:=⟨_,rfl⟩;have hD5:buildB L=D4++P5:=by
       rw[<-hP5, <-hsm];exact allB_eq (b:=Bd) (x:=X) (c:=C) (d1:=D1) (d2:=D2) (d3:=D3) (d4:=D4) HLen.o hBd hX hC (by rw[hbt,hP1];exact hD1) (by rw[hbt];exact hD2) (by rw[hP2];exact hD3) (by rw[hP3];exact hD4)
      have hl1:P1.length=4:=by rw[<-hP1,putB_len]
      have hl2:P2.length=4:=by rw[<-hP2,putB_len]
      have hl3:P3.length=4:=by rw[<-hP3,putB_len]
      have hl5:P5.length=4:=by rw[<-hP5,putB_len]
      have hlC:C.length=Bd.length+X.length:=by rw[hC,List.length_append]
      have hlD1:D1.length=C.length+4:=by rw[hD1,List.length_append,hl1]
      have hlD2:D2.length=D1.length+bt.length:=by rw[hD2,List.length_append]
      have hlD3:D3.length=D2.length+4:=by rw[hD3,List.length_append,hl2]
      have hlD4:D4.length=D3.length+4:=by rw[hD4,List.length_append,hl3]
      have hB0:Bd.length<=1100000000:=by omega
      have hX0:X.length<=10000000:=by omega
      have hC0:C.length<=1110000000:=by omega
      have hD10:D1.length<=1110000004:=by omega
      have hD20:D2.length<=1110500000:=by omega
      have hD30:D3.length<=1110600000:=by omega
      have hD40:D4.length<=1110700000:=by omega
      have hsm0:sm<4294967296:=by rw[<-hsm];exact sumB_lt _
      have hws:IntKind.u64.wrap (sm:Int)=sm:=by rw[IntKind.wrap_u64];omega
      have HP1:=ah hP1;have HP2:=ah hP2;have HP3:=ah hP3;have HP5:=ah hP5;have HBt:=ah hbt;have HSm:=ah hsm;have HC:=ah hC;have HD1:=ah hD1;have HD2:=ah hD2;have HD3:=ah hD3;have HD4:=ah hD4;have HD5:=ah hD5;have HL1:=ah hl1;have HL2:=ah hl2;have HL3:=ah hl3;have HL5:=ah hl5;have hq1:P1.length<=4:=by omega
      have hq2:P2.length<=4:=by omega
      have hq3:P3.length<=4:=by omega
      have hq5:P5.length<=4:=by omega
      clear hP1 hP2 hP3 hP5 hbt hsm hC hD1 hD2 hD3 hD4 hD5 hl1 hl2 hl3 hl5 hlC hlD1 hlD2 hlD3 hlD4 hBd hX hBl hXl;go_wp2_with (first
       | (at_builtin;have he:=app_eqs HC.o;refine wpList_appS rfl (.tmp 74) (.tmp 75) 41 rfl 5 j0 _ 1 1 Tryz.underlying41 Hj.o Hy0.o Hy1.o Hy2.o rfl (by decide) (.slice AB Bd.length cb) Bd.length (Bd.map bv) rfl w _ (by exact HSS.o) AX X.length cx (X.map bv) rfl (by exact RdV.of_own HSS.o.up2.row_own) (by simp) (bv_one X) (by unfold maxLen;omega) (by omega) ?_;intro A18 c18 w18 hs18;rw[he.1,he.2] at hs18;rw[he.1];have HS18:=ah hs18;clear hs18 he)
       | (go_at_call 143;refine(filtered_any A c es _ (HL.o.new HS18.o.chg) (fun e he=>⟨(HR.o e he).1.new HS18.o.chg,(HR.o e he).2.new HS18.o.chg⟩) hc HM.o (by omega) (fun e he=>(HSh2.o e he).1)).mono ?_;rintro x w20 ⟨g,h,n,rfl,hF, -, -,k20,hn1,hn2⟩;rw[<-HLe.o,HBt.o] at hF;have HF:=ah hF;have HS20:=ah (HS18.o.new k20);have HN:=ah (And.intro hn1 hn2);clear hF k20 hn1 hn2)
       | (go_at_call 180;refine(fbytes_any g h n n bt w20 HF.o HN.o).mono ?_;rintro x w21 ht;obtain⟨A21,c21,rfl,ho,k21⟩:=told_own ht;have HS21:=ah (HS20.o.gotRow k21 ho);clear ht ho k21)
       | (go_at_call 178;refine(fourS bt.length (by omega) w _ _ HS21.o).mono ?_;rintro x w22 ⟨A22,c22,rfl,hs22⟩;rw[HP1.o] at hs22 ⊢;have HS22:=ah hs22;clear hs22)
       | (at_builtin;have he:=app_eqs HD1.o;refine wpList_appS rfl (.tmp 82) (.tmp 85) 41 rfl 5 j0 _ 1 1 Tryz.underlying41 Hj.o Hy0.o Hy1.o Hy2.o rfl (by decide) (.slice A18 C.length c18) C.length (C.map bv) rfl w _ (by exact HS22.o.up3) A22 P1.length c22 (P1.map bv) rfl (by exact RdV.of_own HS22.o.row_own) (by simp) (bv_one P1) (by unfold maxLen;omega) (by omega) ?_;intro A23 c23 w23 hs23;rw[he.1,he.2] at hs23;rw[he.1];have HS23:=ah hs23;clear hs23 he)
       | (at_builtin;have he:=app_eqs HD2.o;refine wpList_appS rfl (.tmp 86) (.tmp 87) 41 rfl 5 j0 _ 1 1 Tryz.underlying41 Hj.o Hy0.o Hy1.o Hy2.o rfl (by decide) (.slice A23 D1.length c23) D1.length (D1.map bv) rfl w _ (by exact HS23.o) A21 bt.length c21 (bt.map bv) rfl (by exact RdV.of_own HS23.o.up3.row_own) (by simp) (bv_one bt) (by unfold maxLen;omega) (by omega) ?_;intro A24 c24 w24 hs24;rw[he.1,he.2] at hs24;rw[he.1];have HS24:=ah hs24;clear hs24 he)
       | (go_at_call 178;refine(fourS Bd.length (by omega) w _ _ HS24.o).mono ?_;rintro x w25 ⟨A25,c25,rfl,hs25⟩;rw[HP2.o] at hs25 ⊢;have HS25:=ah hs25;clear hs25)
       | (at_builtin;have he:=app_eqs HD3.o;refine wpList_appS rfl (.tmp 89) (.tmp 91) 41 rfl 5 j0 _ 1 1 Tryz.underlying41 Hj.o Hy0.o Hy1.o Hy2.o rfl (by decide) (.slice A24 D2.length c24) D2.length (D2.map bv) rfl w _ (by exact HS25.o.up2) A25 P2.length c25 (P2.map bv) rfl (by exact RdV.of_own HS25.o.row_own) (by simp) (bv_one P2) (by unfold maxLen;omega) (by omega) ?_;intro A26 c26 w26 hs26;rw[he.1,he.2] at hs26;rw[he.1];have HS26:=ah hs26;clear hs26 he)
       | (go_at_call 178;refine(fourS C.length (by omega) w _ _ HS26.o).mono ?_;rintro x w27 ⟨A27,c27,rfl,hs27⟩;rw[HP3.o] at hs27 ⊢;have HS27:=ah hs27;clear hs27)
       | (at_builtin;have he:=app_eqs HD4.o;refine wpList_appS rfl (.tmp 92) (.tmp 94) 41 rfl 5 j0 _ 1 1 Tryz.underlying41 Hj.o Hy0.o Hy1.o Hy2.o rfl (by decide) (.slice A26 D3.length c26) D3.length (D3.map bv) rfl w _ (by exact HS27.o.up2) A27 P3.length c27 (P3.map bv) rfl (by exact RdV.of_own HS27.o.row_own) (by simp) (bv_one P3) (by unfold maxLen;omega) (by omega) ?_;intro A28 c28 w28 hs28;rw[he.1,he.2] at hs28;rw[he.1];have HS28:=ah hs28;clear hs28 he)
       | (go_at_call 138;refine(osum_any (some ⟨w28.heap.size,0,none⟩) 1 [(A28,c28,D4)] _ ⟨lit_rdv w28 #[.slice A28 D4.length c28] 41,fun y hy=>by rw[List.mem_singleton] at hy;subst hy;exact RdV.of_own (HS28.o.alloc' _).row_own⟩ (by simp) (by simp;omega)).mono ?_;rintro x w29 ⟨rfl,rfl⟩;rw[show (txt [(A28,c28,D4)]).flatten=D4 by simp[txt],HSm.o])
       | (go_at_call 117;refine(oput_any sm 4 (by omega) (by omega) (by omega) w _ _ (HS28.o.alloc' _)).mono ?_;rintro x w30 ⟨A30,c30,rfl, -, -,hs30⟩;rw[HP5.o] at hs30 ⊢;have HS30:=ah hs30;clear hs30)
       | (at_builtin;have he:=app_eqs HD5.o;refine wpList_appS rfl (.tmp 96) (.tmp 101) 41 rfl 5 j0 _ 1 1 Tryz.underlying41 Hj.o Hy0.o Hy1.o Hy2.o rfl (by decide) (.slice A28 D4.length c28) D4.length (D4.map bv) rfl w _ (by exact HS30.o.up2) A30 P5.length c30 (P5.map bv) rfl (by exact RdV.of_own HS30.o.row_own) (by simp) (bv_one P5) (by unfold maxLen;omega) (by omega) ?_;intro A31 c31 w31 hs31;rw[he.1,he.2] at hs31;rw[he.1];have HS31:=ah hs31;clear hs31 he))
      go_ret2;obtain⟨Az,cz,hz,h1,h2⟩:=HS31.o.row_sl;injection hz with e1 e2 e3
      subst e1 e3;refine .inr ⟨trivial,_,_,rfl,h1,h2,?_⟩;exact HS31.o.drop2.drop2.drop2.drop2.drop2.drop2
abbrev Pr:=Ent × Nat
def aheadM (e:Ent) (L:List Pr):List Pr:=L.takeWhile fun p=>lessE p.1 e
def behindM (e:Ent) (L:List Pr):List Pr:=L.dropWhile fun p=>lessE p.1 e
def twiceM (e:Ent) (L:List Pr):Bool:=match behindM e L with | p::_=>decide (ordE p.1 e=0) | []=>false
def insM (e:Ent) (h:Nat) (L:List Pr):List Pr:=if twiceM e L then L else aheadM e L++(e,h)::behindM e L
def absN (n:Nd):Pr:=(n.e.ent,n.h)
def absL (ns:List Nd):List Pr:=ns.map absN
theorem abs_ahead (e:Ent) (ns:List Nd):absL (ahead e ns)=aheadM e (absL ns):=by
 unfold absL aheadM ahead
 induction ns with
 | nil=>rfl
 | cons n ns ih=>
  rw[List.map_cons,List.takeWhile_cons,List.takeWhile_cons];show List.map absN (if lessE n.e.ent e=true then _ else _)=if lessE n.e.ent e=true then _ else _
  split
  .rw[List.map_cons,ih]
  .rfl
theorem abs_behind (e:Ent) (ns:List Nd):absL (behind e ns)=behindM e (absL ns):=by
 unfold absL behindM behind
 induction ns with
 | nil=>rfl
 | cons n ns ih=>
  rw[List.map_cons,List.dropWhile_cons,List.dropWhile_cons];show List.map absN (if lessE n.e.ent e=true then _ else _)=if lessE n.e.ent e=true then _ else _
  split
  .exact ih
  .rfl
theorem abs_twice (e:Ent) (ns:List Nd):twice e ns=twiceM e (absL ns):=by
 unfold twice twiceM;rw[<-abs_behind]
 cases behind e ns<;>rfl
theorem byt_app (a b:List Ent):byt (a++b)=byt a+byt b:=by
 unfold byt
 induction a with
 | nil=>simp
 | cons x a ih=>simp only[List.cons_append,List.foldr_cons];omega
def topSeq:Int:=9223372036854775807
def bytN (ns:List Nd):Nat:=byt (ns.map fun n=>n.e.ent)
def SkipT (b hr:Nat) (ns:List Nd):SP:=SkipC b hr ns ns.length (bytN ns)
theorem ownE_r {w0 w:World} {F:SP}: ∀ {es:List En},Sat w0 (OwnE es*F) w->EnsR w es
 | [],_=>fun e he=>by simp at he
 | e::es,h=>by
  have h1:Sat w0 (Row 5 1 (slv' e.key) e.key.2.2.length (e.key.2.2.map bv)*(Row 5 1 (slv' e.value) e.value.2.2.length (e.value.2.2.map bv)*(OwnE es*F))) w:=h.of (by
   show Row _ _ _ _ _*(Row _ _ _ _ _*OwnE es)*F=_
   ac_rfl)
  intro x hx;rcases List.mem_cons.1 hx with rfl | hx
  .obtain⟨A,c,e1,r1,_⟩:=Sat.row_rd (h:=h1);obtain⟨B,d,e2,r2,_⟩:=Sat.row_rd (h:=h1.up2);unfold slv' at e1 e2;injection e1 with e1
   injection e2 with e2
   exact⟨by rw[e1];exact r1,by rw[e2];exact r2⟩
  .exact ownE_r h1.right.right x hx
end Go.Proofs.YtmbaiglpgaoogaaGreat
