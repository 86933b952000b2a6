/- Joined, as they were built one by one: TabRd3 TabFlt TabCont Mrg1 Mrg2. -/
import Derived.Test.YtmbaiglpgaoogaaGreatS01
import Derived.Test.YtmbaiglpgaoogaaGreatS02
import Derived.Test.YtmbaiglpgaoogaaGreatS05
import Derived.Test.YtmbaiglpgaoogaaGreatS07
import Derived.Test.YtmbaiglpgaoogaaGreatS15
import Derived.Test.YtmbaiglpgaoogaaGreatS16
import Derived.Test.YtmbaiglpgaoogaaGreatS17
namespace Go.Proofs.YtmbaiglpgaoogaaGreat
open Go.RowKit
set_option linter.unusedVariables false
set_option maxRecDepth 100000
def ReadE (w0:World) (R:Nat) (F:SP) (p:Ent × List UInt8 × Bool) (x:Ending) (w':World):Prop:=
 ∃ g:En,x = .returned (enA g)∧g.ent=p.1∧Rdr w0 R (Row 5 1 (slv' g.key) g.key.2.2.length (g.key.2.2.map bv)*(Row 5 1 (slv' g.value) g.value.2.2.length (g.value.2.2.map bv)*F)) p.2.1 p.2.2 w'
theorem two_rd {w':World} {A B:Option Addr} {c d:Nat} {l m:List UInt8} (g:Nat) (h:RdV w' (some ⟨g,0,none⟩) [.slice A l.length c,.slice B m.length d]) (h1:Rd w' A l) (h2:Rd w' B m):RdL w' (some ⟨g,0,none⟩) [(A,c,l),(B,d,m)]:=by
 refine⟨h,fun x hx=>?_⟩;simp only[List.mem_cons,List.not_mem_nil,or_false] at hx;rcases hx with rfl | rfl
 ·exact h1
 ·exact h2
set_option maxHeartbeats 2000000 in
theorem rentry_any (aA:Option Addr) (ac:Nat) (al:List UInt8) (R:Nat) (F:SP) (q:List UInt8) (s:Bool) (w0 w:World) (h:Rdr w0 R F q s w) (hql:q.length≤140737488355328)
  (hal: ∀ (X:SP) (W:World),Sat w0 (X*F) W→Rd W aA al) (hac:al.length≤ac) (ham:ac≤maxLen) (hall:al.length≤100000000000000):
  Calls Tryz.prog 141 #[.pointer (some ⟨R,0,none⟩),.slice aA al.length ac] w (ReadE w0 R F (entP al q s)):=by
 obtain⟨T1,hT1⟩: ∃ T,takeP 1 q s=T:=⟨_,rfl⟩;obtain⟨T2,hT2⟩: ∃ T,takeP 1 T1.2.1 T1.2.2=T:=⟨_,rfl⟩;obtain⟨T3,hT3⟩: ∃ T,takeP 8 T2.2.1 T2.2.2=T:=⟨_,rfl⟩;obtain⟨T4,hT4⟩: ∃ T,takeP 1 T3.2.1 T3.2.2=T:=⟨_,rfl⟩;obtain⟨T5,hT5⟩: ∃ T,takeP 2 T4.2.1 T4.2.2=T:=⟨_,rfl⟩;obtain⟨s6,hs6⟩: ∃ b,(T5.2.2 || decide (al.length<getN T1.1))=b:=⟨_,rfl⟩;obtain⟨T6,hT6⟩: ∃ T,takeP (getN T2.1) T5.2.1 s6=T:=⟨_,rfl⟩;obtain⟨T7,hT7⟩: ∃ T,takeP (getN T5.1) T6.2.1 T6.2.2=T:=⟨_,rfl⟩;obtain⟨z3,hz3⟩: ∃ z,IntKind.i64.wrap (getN T3.1:Int)=z:=⟨_,rfl⟩;obtain⟨dd,hdd⟩: ∃ b,decide ((getN T4.1:Int)=1)=b:=⟨_,rfl⟩;have HP:Hid (entP al q s=(⟨if T6.2.2 then [] else al.take (getN T1.1)++T6.1,T7.1,z3,dd⟩,T7.2)):=by
  unfold Hid entP;simp only[hT1,hT2,hT3,hT4,hT5,hs6,hT6,hT7,hz3];rw[←hdd];rw[show decide (getN T4.1=1)=decide ((getN T4.1:Int)=1) by apply decide_eq_decide.2;omega]
 have b1:getN T1.1<256:=by have:=takeP_len 1 (by omega) q s;rw[hT1] at this;exact Nat.lt_of_lt_of_le (getN_lt _) (Nat.pow_le_pow_right (by omega) this)
 have b2:getN T2.1<256:=by have:=takeP_len 1 (by omega) T1.2.1 T1.2.2;rw[hT2] at this;exact Nat.lt_of_lt_of_le (getN_lt _) (Nat.pow_le_pow_right (by omega) this)
 have b5:getN T5.1<65536:=by have:=takeP_len 2 (by omega) T4.2.1 T4.2.2;rw[hT5] at this;exact Nat.lt_of_lt_of_le (getN_lt _) (Nat.pow_le_pow_right (by omega) this)
 have y1:T1.2.1.length≤140737488355328:=by have:=takeP_le 1 q s;rw[hT1] at this;omega
 have y2:T2.2.1.length≤140737488355328:=by have:=takeP_le 1 T1.2.1 T1.2.2;rw[hT2] at this;omega
 have y3:T3.2.1.length≤140737488355328:=by have:=takeP_le 8 T2.2.1 T2.2.2;rw[hT3] at this;omega
 have y4:T4.2.1.length≤140737488355328:=by have:=takeP_le 1 T3.2.1 T3.2.2;rw[hT4] at this;omega
 have y5:T5.2.1.length≤140737488355328:=by have:=takeP_le 2 T4.2.1 T4.2.2;rw[hT5] at this;omega
 have y6:T6.2.1.length≤140737488355328:=by have:=takeP_le (getN T2.1) T5.2.1 s6;rw[hT6] at this;omega
 have HW1:=ah (wrap_num (by omega) hT1);have HW2:=ah (wrap_num (by omega) hT2);have HW4:=ah (wrap_num (by omega) hT4);have HW5:=ah (wrap_num (by omega) hT5);have HW3:=ah hz3;have HT1:=ah hT1;have HT2:=ah hT2;have HT3:=ah hT3;have HT4:=ah hT4;have HT5:=ah hT5;have HT6:=ah hT6;have HT7:=ah hT7;have HS6:=ah hs6;have HDD:=ah hdd;have HAL:=ah hal;obtain⟨n1,hn1⟩: ∃ n,getN T1.1=n:=⟨_,rfl⟩;obtain⟨n2,hn2⟩: ∃ n,getN T2.1=n:=⟨_,rfl⟩;obtain⟨n4,hn4⟩: ∃ n,getN T4.1=n:=⟨_,rfl⟩;obtain⟨n5,hn5⟩: ∃ n,getN T5.1=n:=⟨_,rfl⟩;rw[hn1] at HW1 HP HS6 b1;rw[hn2] at HW2 HT6 b2;rw[hn4] at HW4 HDD;rw[hn5] at HW5 HT7 b5;obtain⟨kk,hkk⟩: ∃ k,(if T6.2.2=true then [] else al.take n1++T6.1)=k:=⟨_,rfl⟩;rw[HP.out,hkk];have HKK:=ah hkk;clear hkk;have H0:=ah (h.allocP 120 #[.slice none 0 0,.slice none 0 0,.int .i64 0,.bool false]);unfold maxLen at ham;clear h hT1 hT2 hT3 hT4 hT5 hs6 hT6 hT7 hz3 hdd hal;have HN1:=ah hn1;have HN2:=ah hn2;have HN4:=ah hn4;have HN5:=ah hn5;clear hn1 hn2 hn4 hn5;have hwa:IntKind.i64.wrap (n1:Int)=n1:=HW1.out;have hwb:IntKind.i64.wrap (n2:Int)=n2:=HW2.out;have hdz:((n4:Int)==1)=dd:=by rw[←HDD.out];exact rfl
 go_enter Tryz.func141, Tryz.ntmps141;go_upto_if 25 with (first
  | (go_at_call 140;with_reducible refine(number_any 1 1 rfl (by omega) R _ q s T1 n1 w0 _ H0.out HT1.out (by rw[HN1.out];exact HW1.out) hql).mono ?_;rintro x w1 ⟨rfl,h1⟩;have H1:=ah h1;clear h1)
  | (go_at_call 140;with_reducible refine(number_any 1 1 rfl (by omega) R _ T1.2.1 T1.2.2 T2 n2 w0 _ H1.out HT2.out (by rw[HN2.out];exact HW2.out) y1).mono ?_;rintro x w2 ⟨rfl,h1⟩;have H2:=ah h1;clear h1)
  | (go_at_call 140;with_reducible refine(number_any 8 8 rfl (by omega) R _ T2.2.1 T2.2.2 T3 z3 w0 _ H2.out HT3.out HW3.out y2).mono ?_;rintro x w3 ⟨rfl,h1⟩;have H3:=ah h1;clear h1)
  | (go_at_call 140;with_reducible refine(number_any 1 1 rfl (by omega) R _ T3.2.1 T3.2.2 T4 n4 w0 _ H3.out HT4.out (by rw[HN4.out];exact HW4.out) y3).mono ?_;rintro x w4 ⟨rfl,h1⟩;have H4:=ah (h1.allocP 120 #[.slice none 0 0,.slice none 0 0,.int .i64 z3,.bool dd]);clear h1)
  | (go_at_call 140;with_reducible refine(number_any 2 2 rfl (by omega) R _ T4.2.1 T4.2.2 T5 n5 w0 _ H4.out HT5.out (by rw[HN5.out];exact HW5.out) y4).mono ?_;rintro x w5 ⟨rfl,h1⟩;have H5:=ah h1;clear h1))
 have H5a:=H5;revert H5a;generalize w4.heap.size=E;generalize w.heap.size=G;intro H5a;have HF:Hid (Rdr w0 R (Pt E 120 #[.slice none 0 0,.slice none 0 0,.int .i64 z3,.bool dd]*(Pt G 120 #[.slice none 0 0,.slice none 0 0,.int .i64 0,.bool false]*F)) T5.2.1 T5.2.2 w5):=H5a;clear H5 H5a;have l6:T6.1.length≤n2:=by rw[←HT6.out];exact takeP_len' _ _ _
 have l7:T7.1.length≤n5:=by rw[←HT7.out];exact takeP_len' _ _ _
 go_cut [5] from 10 (fun nv wx=> ∃ m:Nat,nv = .int .i64 (m:Int)∧Hid (s6=false→m=n1∧n1≤al.length)∧Hid (Rdr w0 R (Pt E 120 #[.slice none 0 0,.slice none 0 0,.int .i64 z3,.bool dd]*(Pt G 120 #[.slice none 0 0,.slice none 0 0,.int .i64 0,.bool false]*F)) T5.2.1 s6 wx))
 case first=>
  by_cases hlt:al.length<n1
  ·obtain⟨A,c,hs,ho⟩:=HF.out;have f1:=hs.frozen 1;have c1:=hs.cell 1;have HSt:=ah hs;have HO:=ah ho;clear hs ho;go_wp2_with fail;go_meet
   refine⟨0,rfl,fun h=>?_,⟨A,c,?_,HO.out⟩⟩
   ·rw[←HS6.out] at h;simp[hlt] at h
   ·have h9:=HSt.out.set 1 (.bool true);rw[←HS6.out,decide_eq_true hlt,Bool.or_true];exact h9
  ·go_wp2_with fail;go_meet
   refine⟨n1,rfl,fun h=>⟨rfl,by omega⟩,?_⟩;rw[←HS6.out,decide_eq_false hlt,Bool.or_false];exact HF.out
 case rest=>
  obtain⟨m,rfl,HM,HX⟩:=hcut;have HX1:=HX;have k6:HX1=HX1:=rfl;clear k6 HX1;go_upto_region 8 with (go_at_call 139;(with_reducible refine(take_any n2 (by omega) R _ T5.2.1 s6 w0 _ HX.out y5).mono ?_);rw[HT6.out];rintro x w6 ⟨B6,d6,rfl, -,hr6,hd6,hm6,h6⟩;have HR6:=ah hr6;have H6:=ah h6;clear hr6 h6)
  obtain⟨A6,c6,hs6,hq6⟩:=H6.out;have r1:=hs6.cell 1;have e0:=hs6.up2.cell 0;have e1:=hs6.up2.cell 1;have e2:=hs6.up2.cell 2;have e3:=hs6.up2.cell 3;have q0:=hs6.up2.frozen 0;have HS6':=ah hs6;have HQ6:=ah hq6;clear hs6 hq6;have hsb: ∃ b,T6.2.2=b:=⟨_,rfl⟩;obtain⟨b6,hb6⟩:=hsb;rw[hb6] at r1;have HB6:=ah hb6;clear hb6;go_upto_if 36 with fail
  go_cut [9] from 10 (fun kv wx=> ∃ kA kc,Hid (Rdr w0 R (Row 5 1 (.slice kA kk.length kc) kk.length (kk.map bv)*(Pt E 120 #[.slice kA kk.length kc,.slice none 0 0,.int .i64 z3,.bool dd]*(Pt G 120 #[.slice none 0 0,.slice none 0 0,.int .i64 0,.bool false]*F))) T6.2.1 T6.2.2 wx))
  case first=>
   cases b6
   ·have hm:=HM.out (by
     have h1:=HT6.out;have h2:=HB6.out
     cases hs:s6 with
     | false=>rfl
     | true=>rw[hs,takeP_short (.inl rfl)] at h1;rw[←h1] at h2;cases h2)
    obtain⟨rfl,hle⟩:=hm;have hle2:(m:Int)≤al.length:=by omega
    have hle3:(m:Int)≤ac:=by omega
    have htk:(al.take m).length=m:=by simp;omega
    have HTk:=ah htk;have HKe:Hid (kk=al.take m++T6.1):=by have h1:=HKK.out;rw[HB6.out] at h1;exact h1.symm
    have hkl:kk.length=m+T6.1.length:=by rw[HKe.out,List.length_append,htk]
    clear htk;have hc6:=HQ6.out.2.1;have HKl:Hid (kk.length≤140737488355328):=by unfold Hid;omega
    clear hkl hc6;have hjr:RdL (w6.alloc (.cells #[.slice aA m ac,.slice B6 T6.1.length d6] 41)) (some ⟨w6.heap.size,0,none⟩) [(aA,ac,al.take m),(B6,d6,T6.1)]:=two_rd w6.heap.size (by rw[HTk.out];exact lit_rdv w6 #[.slice aA m ac,.slice B6 T6.1.length d6] 41) (Rd.take (HAL.out _ _ ((HS6'.out.alloc' _).of (show _=(Pt R 223 #[.slice A6 T6.2.1.length c6,.bool T6.2.2]*(Pt E 120 #[.slice none 0 0,.slice none 0 0,.int .i64 z3,.bool dd]*Pt G 120 #[.slice none 0 0,.slice none 0 0,.int .i64 0,.bool false]))*F by ac_rfl))) m) ((HR6.out HB6.out).new (HS6'.out.alloc' _).chg);have HJR:=ah hjr;clear hjr;go_wp2_with fail;go_at_call 61
    refine(join_any (some ⟨w6.heap.size,0,none⟩) 2 [(aA,ac,al.take m),(B6,d6,T6.1)] _ HJR.out (by have:=HKl.out;rw[HKe.out] at this;simpa [txt] using this) (show 2≤140737488355328 by omega)).mono ?_;rintro x w7 ⟨vv,rfl,ho,k7⟩;rw[show (txt [(aA,ac,al.take m),(B6,d6,T6.1)]).flatten=kk by rw[HKe.out];simp[txt]] at ho;obtain⟨A7,c7,rfl, -⟩:=own_sl ho;have hs7:=(HS6'.out.alloc' _).gotRow k7 ho;have z0:=hs7.up3.frozen 0;have z1:=hs7.up3.cell 0;have HS7:=ah hs7;clear ho k7 hs7;go_wp2_with fail;go_meet
    have h9:=HS7.out.up3.set 0 (.slice A7 kk.length c7);exact⟨A7,c7,A6,c6,h9.of (by ac_rfl),HQ6.out⟩
   ·go_wp2_with fail;go_meet
    have HKe:kk=[]:=by have h1:=HKK.out;rw[HB6.out] at h1;exact h1.symm
    subst HKe;refine⟨none,0,A6,c6,?_,HQ6.out⟩;exact(HS6'.out.row_nil 5 1).of (by ac_rfl)
  case rest=>
   obtain⟨kA,kc,HX7⟩:=hcut;go_upto_region 11 with (first
    | (go_at_call 139;(with_reducible refine(take_any n5 (by omega) R _ T6.2.1 T6.2.2 w0 _ HX7.out y6).mono ?_);rw[HT7.out];rintro x w8 ⟨B8,d8,rfl,hr8, -,hd8,hm8,h8⟩;obtain⟨A8,c8,hs8,hq8⟩:=h8;have HQ8:=ah hq8;have HS8:=ah hs8;have HR8:=ah hr8;clear hs8 hr8 hq8)
    | (go_at_call 61;refine(join_any (some ⟨w8.heap.size,0,none⟩) 1 [(B8,d8,T7.1)] _ ⟨lit_rdv w8 #[.slice B8 T7.1.length d8] 41,fun y hy=>by rw[List.mem_singleton] at hy;subst hy;exact HR8.out.alloc _⟩ (by simp[txt];omega) (show 1≤140737488355328 by omega)).mono ?_;rintro x w9 ⟨vv,rfl,ho,k9⟩;rw[show (txt [(B8,d8,T7.1)]).flatten=T7.1 by simp[txt]] at ho;obtain⟨A9,c9,rfl, -⟩:=own_sl ho;have hs9:=(HS8.out.alloc' _).gotRow k9 ho;have z0:=hs9.up4.frozen 1;have z1:=hs9.up4.cell 1;have HS9:=ah hs9;clear ho k9 hs9))
   have h10:=HS9.out.up4.set 1 (.slice A9 T7.1.length c9);clear z0 z1;revert h10;generalize World.setCell w9 _ _=w10;intro h10;have c0:=h10.cell 0;have c1:=h10.cell 1;have c2:=h10.cell 2;have c3:=h10.cell 3;have d0:=h10.up5.cell 0;have d1:=h10.up5.cell 1;have d2:=h10.up5.cell 2;have d3:=h10.up5.cell 3;have f0:=h10.up5.frozen 0;have f1:=h10.up5.frozen 1;have f2:=h10.up5.frozen 2;have f3:=h10.up5.frozen 3;have h11:=(((h10.up5.set 0 (.slice kA kk.length kc)).set 1 (.slice A9 T7.1.length c9)).set 2 (.int .i64 z3)).set 3 (.bool dd);have H11:=ah h11;clear h10 h11;go_wp2_with fail;have h12:=H11.out;revert h12;generalize World.setCell _ _ _=w12;intro h12;refine bodyPost_ret (results_cell_row (p:=4) (by kernel_rfl) _ _ G 120 _ (0,0) _ rfl h12.at Tryz.underlying120 rfl (by kernel_rfl)) rfl ?_;refine⟨⟨(kA,kc,kk),(A9,c9,T7.1),z3,dd⟩,rfl,rfl,A8,c8,?_,HQ8.out⟩;have h13:=h12.right.right;exact h13.of (by unfold slv';ac_rfl)
theorem unlike_len (L:List Ent): ∀ k,(unlike L k).length≤k
 | 0=>by simp[unlike]
 | k+1=>by
  have h:=unlike_len L k;unfold unlike;split
  ·omega
  ·split
   ·rw[List.length_append,List.length_singleton];omega
   ·split
    ·split
     ·omega
     ·rw[List.length_append,List.length_singleton];omega
    ·rw[List.length_append,List.length_singleton];omega
def Filtered (L:List Ent) (w:World) (e:Ending) (w':World):Prop:= ∃ g h n,e = .returned (.pointer (some ⟨g,0,none⟩))∧Filt w' g h n n (bitsB L)∧w.heap.size≤g∧w.heap.size≤h∧Chg No w w'∧8≤n∧n≤262144
structure FltAt (w:World) (es:List En) (i:Nat) (v:Value) (ks:Rows_) (wr:World):Prop where
 say:txt ks=unlike (es.map En.ent) i
 mem: ∀ x ∈ ks, ∃ e ∈ es,x=e.key
 few:ks.length≤i
 sat:Sat w (Row 41 1 v ks.length (ks.map slOf)*Emp) wr
theorem map_get {es:List En} {i:Nat} (h:i<es.length):(es.map En.ent)[i]?=some es[i].ent:=by rw[List.getElem?_map,List.getElem?_eq_getElem h];rfl
theorem unlike_zero (es:List En) (h:0<es.length):unlike (es.map En.ent) 1=[es[0].key.2.2]:=by
 unfold unlike;rw[map_get h];rfl
theorem unlike_same (es:List En) (i:Nat) (h:i+1<es.length) (hk:es[i].key.2.2=es[i+1].key.2.2):unlike (es.map En.ent) (i+2)=unlike (es.map En.ent) (i+1):=by
 conv=>lhs;unfold unlike
 rw[map_get h];simp only[Nat.add_sub_cancel];rw[map_get (show i<es.length by omega)];simp only;rw[if_neg (by omega),if_pos (show es[i].ent.key=es[i+1].ent.key from hk)]
theorem unlike_new (es:List En) (i:Nat) (h:i+1<es.length) (hk:es[i].key.2.2≠es[i+1].key.2.2):unlike (es.map En.ent) (i+2)=unlike (es.map En.ent) (i+1)++[es[i+1].key.2.2]:=by
 conv=>lhs;unfold unlike
 rw[map_get h];simp only[Nat.add_sub_cancel];rw[map_get (show i<es.length by omega)];simp only;rw[if_neg (by omega),if_neg (show ¬ es[i].ent.key=es[i+1].ent.key from hk)];rfl
theorem stay_rdl {wr w8:World} {KA:Option Addr} {ks:Rows_} {h:Nat} (hk:RdL wr KA ks) (k8:Chg No wr w8) (hh:wr.heap.size≤h):Stay (One h) w8 (RdL · KA ks):=fun w' k=>by
 have hno: ∀ b,b<wr.heap.size→¬ One h b:=fun b hb e=>by have e:b=h:=e;omega
 refine⟨(hk.1.new k8).chg k fun b o hx e=>?_,fun x hx=>((hk.2 x hx).new k8).chg k fun b o hx' e=>?_⟩
 ·obtain⟨b',o',e',hlt⟩:=hk.1.lt hx;rw[e'] at e;injection e with e
  injection e with e1
  subst e1;exact hno _ hlt
 ·obtain⟨b',o',e',hlt⟩:=(hk.2 x hx).lt hx';rw[e'] at e;injection e with e
  injection e with e1
  subst e1;exact hno _ hlt
set_option maxHeartbeats 4000000 in
theorem filtered_any (A:Option Addr) (c:Nat) (es:List En) (w:World) (h:RdV w A (es.flatMap enV)) (hr:EnsR w es) (hc:es.length≤c) (hm:c≤maxLen) (hn:es.length≤65536) (hsh: ∀ e ∈ es,e.key.2.2.length≤140737488355328):
  Calls Tryz.prog 143 #[.slice A es.length c] w (Filtered (es.map En.ent) w):=by
 obtain⟨i0,hi,hz0,hz1,hz2⟩:=info_parts info_sl;have Hi:=ah hi;have Hz0:=ah hz0;have Hz1:=ah hz1;have Hz2:=ah hz2;have HL:=ah h;have HR:=ah hr;have HSh:=ah hsh;unfold maxLen at hm;clear h hr hsh hi hz0 hz1 hz2;go_enter Tryz.func143, Tryz.ntmps143;go_wp2_with fail;go_loopw [3,10] (fun v iv wr=> ∃ (i:Nat) (ks:Rows_),i≤es.length∧iv = .int .i64 i∧Hid (FltAt w es i v ks wr)) (fun _ iv _=>es.length - (intOf iv).toNat)
 case atStart=>exact⟨0,[],by omega,rfl,⟨rfl,by simp,by simp,((Sat.start w).row_nil 41 1)⟩⟩
 case round=>
  obtain⟨i,ks,hi,rfl,HD⟩:=hrel;obtain⟨KA,kc,rfl,hk1,hk2⟩:=HD.out.sat.row_sl;unfold maxLen at hk2;have hfew:=HD.out.few;by_cases hlt:i<es.length
  ·obtain⟨lb,lo,rfl,hq⟩:=ents_at HL.out (by omega);obtain⟨z0,z1,z2,z3⟩:=hq i hlt;have a0:=HD.out.sat.chg.cell z0 id;have a1:=HD.out.sat.chg.cell z1 id;have a2:=HD.out.sat.chg.cell z2 id;have a3:=HD.out.sat.chg.cell z3 id;unfold slv' at a0 a1;have HE:=ah (HR.out _ (List.getElem_mem hlt));have HSE:=ah (HD.out.sat.allocPt 120 #[.slice es[i].key.1 es[i].key.2.2.length es[i].key.2.1,.slice es[i].value.1 es[i].value.2.2.length es[i].value.2.1,.int .i64 es[i].seq,.bool es[i].dead]);rcases i with _ | i
   ·clear z0 z1 z2 z3 hq;simp only[Nat.zero_mul,Nat.add_zero] at a0 a1 a2 a3;go_upto_region 5 with fail;have HSV:=HSE;revert HSV;generalize World.alloc wr _=w5;generalize wr.heap.size=E;intro HSV;have HSW:Hid (Sat w (Pt E 120 #[.slice es[0].key.1 es[0].key.2.2.length es[0].key.2.1,.slice es[0].value.1 es[0].value.2.2.length es[0].value.2.1,.int .i64 es[0].seq,.bool es[0].dead]*(Row 41 1 (.slice KA ks.length kc) ks.length (ks.map slOf)*Emp)) w5):=HSV;clear HSV HSE a0 a1 a2 a3;refine wp_region_held_drew (S:=fun _=>True) (by kernel_rfl) trivial ?_;intro hS0;have HSD:=ah HSW.out.drew;revert HSD;generalize w5.drew=w6;intro HSD;refine rtk 0 ?_;refine rtk 1 ?_;refine rtk 2 ?_;refine rsk 3 ?_;refine rsk 4 ?_;refine rsk 5 ?_;refine rsk 6 ?_;refine rsk 7 ?_;refine rsk 8 ?_;refine rsk 9 ?_;refine rsk 10 ?_;refine rsk 11 ?_;refine rsk 12 ?_;refine rtk 13 ?_;refine wpAnyH_done (by kernel_rfl) ?_ _;have e0:=HSD.out.cell 0;go_wp2_with (at_builtin;refine wpList_appS rfl (.tmp 29) (.tmp 32) 87 rfl 41 i0 _ 1 24 Tryz.underlying87 Hi.out Hz0.out Hz1.out Hz2.out rfl (by decide) (.slice KA ks.length kc) ks.length (ks.map slOf) rfl w _ (by exact(HSD.out.alloc' _).up2) (some ⟨w6.heap.size,0,none⟩) 1 1 [slOf es[0].key] rfl (lit_rdv _ _ _) rfl (slOf_one [es[0].key]) (by unfold maxLen;omega) (by omega) ?_;intro A7 c7 w7 hs7;have HS7:=ah hs7;clear hs7);go_roundw
    ·refine⟨0+1,ks++[es[0].key],by omega,by push_cast;rfl,⟨?_,?_,by rw[List.length_append,List.length_singleton];omega,?_⟩⟩
     ·rw[txt_append,HD.out.say,unlike_zero es hlt];rfl
     ·intro x hx;rcases List.mem_append.1 hx with hx | hx
      ·exact HD.out.mem x hx
      ·exact⟨es[0],List.getElem_mem _,List.mem_singleton.1 hx⟩
     ·have h9:=HS7.out.drop2;rw[List.length_append,List.map_append];exact h9
    ·simp[intOf];omega
   ·obtain⟨y0,_,_,_⟩:=hq i (by omega);have b0:=HD.out.sat.chg.cell y0 id;unfold slv' at b0;have hpr:i<es.length:=by omega
    have HEp:=ah (HR.out _ (List.getElem_mem hpr));clear z0 z1 z2 z3 hq;have Y0:=ah y0;clear y0;have hii:((i+1:Nat):Int) - 1=(i:Int):=by omega
    have hwi:IntKind.i64.wrap (i:Int)=(i:Int):=by rw[IntKind.wrap_i64];omega
    have hpi:(i:Int)<es.length:=by omega
    have hne0:((i:Int)+1==0)=false:=by rw[beq_eq_false_iff_ne];omega
    have hne1:¬ (i:Int)+1=0:=by omega
    go_upto_region 5 with fail;have HSV:=HSE;revert HSV;generalize World.alloc wr _=w5;generalize wr.heap.size=E;intro HSV;have HSW:Hid (Sat w (Pt E 120 #[.slice es[i+1].key.1 es[i+1].key.2.2.length es[i+1].key.2.1,.slice es[i+1].value.1 es[i+1].value.2.2.length es[i+1].value.2.1,.int .i64 es[i+1].seq,.bool es[i+1].dead]*(Row 41 1 (.slice KA ks.length kc) ks.length (ks.map slOf)*Emp)) w5):=HSV;clear HSV HSE a0 a1 a2 a3 b0;by_cases hsame:es[i].key.2.2=es[i+1].key.2.2
    ·have HDec:Hid (decide (es[i].key.2.2=es[i+1].key.2.2)=true):=decide_eq_true hsame;have HSm:=ah (unlike_same es i hlt hsame);clear hsame;refine wp_region_held_drew (S:=fun w'=>w'.cell? ⟨lb,lo+i*4,none⟩=some (.slice es[i].key.1 es[i].key.2.2.length es[i].key.2.1)∧w'.cell? ⟨E,0,none⟩=some (.slice es[i+1].key.1 es[i+1].key.2.2.length es[i+1].key.2.1)) (by kernel_rfl) ⟨HSW.out.drew.chg.cell Y0.out id,HSW.out.drew.cell 0⟩ ?_;intro hS0;have HSD:=ah HSW.out.drew;revert HSD hS0;generalize w5.drew=w6;intro hS0 HSD;refine rtk 0 ?_;refine rtk 1 ?_;refine rtk 2 ?_;refine rtk 3 ?_;refine rtk 4 ?_;refine rtk 5 ?_;refine rtk 6 ?_;refine rtk 7 ?_;refine rtk 8 ?_;refine rtk 9 ?_;refine rtk 10 ?_;refine rck 11 fun K hK=>?_
     go_simp;go_at_call 126;refine(beq_any es[i].key es[i+1].key w6 (HEp.out.1.new HSD.out.chg) (HE.out.1.new HSD.out.chg)).mono ?_;rintro x w' ⟨rfl,hw'⟩;rw[hw',HDec.out];clear hw' w'
     refine hK.out _ _ ⟨HSD.out.chg.cell Y0.out id,HSD.out.cell 0⟩ (fun hS0=>?_);clear hK K;refine rtk 12 ?_;refine rtk 13 ?_;refine wpAnyH_done (by kernel_rfl) ?_ _;go_wp2_with fail;go_roundw
     ·exact⟨i+2,ks,by omega,by push_cast;rfl,⟨by rw[HD.out.say,HSm.out],HD.out.mem,by omega,HSD.out.right⟩⟩
     ·simp[intOf];omega
    ·have HDec:Hid (decide (es[i].key.2.2=es[i+1].key.2.2)=false):=decide_eq_false hsame;have HSm:=ah (unlike_new es i hlt hsame);clear hsame;refine wp_region_held_drew (S:=fun w'=>w'.cell? ⟨lb,lo+i*4,none⟩=some (.slice es[i].key.1 es[i].key.2.2.length es[i].key.2.1)∧w'.cell? ⟨E,0,none⟩=some (.slice es[i+1].key.1 es[i+1].key.2.2.length es[i+1].key.2.1)) (by kernel_rfl) ⟨HSW.out.drew.chg.cell Y0.out id,HSW.out.drew.cell 0⟩ ?_;intro hS0;have HSD:=ah HSW.out.drew;revert HSD hS0;generalize w5.drew=w6;intro hS0 HSD;refine rtk 0 ?_;refine rtk 1 ?_;refine rtk 2 ?_;refine rtk 3 ?_;refine rtk 4 ?_;refine rtk 5 ?_;refine rtk 6 ?_;refine rtk 7 ?_;refine rtk 8 ?_;refine rtk 9 ?_;refine rtk 10 ?_;refine rck 11 fun K hK=>?_
     go_simp;go_at_call 126;refine(beq_any es[i].key es[i+1].key w6 (HEp.out.1.new HSD.out.chg) (HE.out.1.new HSD.out.chg)).mono ?_;rintro x w' ⟨rfl,hw'⟩;rw[hw',HDec.out];clear hw' w'
     refine hK.out _ _ ⟨HSD.out.chg.cell Y0.out id,HSD.out.cell 0⟩ (fun hS0=>?_);clear hK K;refine rtk 12 ?_;refine rtk 13 ?_;refine wpAnyH_done (by kernel_rfl) ?_ _;have e0:=HSD.out.cell 0;go_wp2_with (at_builtin;refine wpList_appS rfl (.tmp 29) (.tmp 32) 87 rfl 41 i0 _ 1 24 Tryz.underlying87 Hi.out Hz0.out Hz1.out Hz2.out rfl (by decide) (.slice KA ks.length kc) ks.length (ks.map slOf) rfl w _ (by exact(HSD.out.alloc' _).up2) (some ⟨w6.heap.size,0,none⟩) 1 1 [slOf es[i+1].key] rfl (lit_rdv _ _ _) rfl (slOf_one [es[i+1].key]) (by unfold maxLen;omega) (by omega) ?_;intro A7 c7 w7 hs7;have HS7:=ah hs7;clear hs7);go_roundw
     ·refine⟨i+2,ks++[es[i+1].key],by omega,by push_cast;rfl,⟨?_,?_,by rw[List.length_append,List.length_singleton];omega,?_⟩⟩
      ·rw[txt_append,HD.out.say,HSm.out];rfl
      ·intro x hx;rcases List.mem_append.1 hx with hx | hx
       ·exact HD.out.mem x hx
       ·exact⟨es[i+1],List.getElem_mem _,List.mem_singleton.1 hx⟩
      ·have h9:=HS7.out.drop2;rw[List.length_append,List.map_append];exact h9
     ·simp[intOf];omega
  ·have hie:i=es.length:=by omega
   subst hie;have hsay:=HD.out.say;have hul:=unlike_len (es.map En.ent) es.length;have hN:nbytes (ks.length:Int) 10=nbytes (unlike (es.map En.ent) (es.map En.ent).length).length 10:=by
    rw[List.length_map, ←hsay];unfold txt;rw[List.length_map]
   have HN:=ah hN;have HB:=nbytes_le (ks.length:Int) 10 ⟨by omega,by omega,by omega,by omega⟩;have HBs:=ah HB.2;have HKs:Hid (RdL wr KA ks):=by
    obtain⟨A',c',e,h1,_⟩:=HD.out.sat.row_rd;injection e with e
    subst e;exact⟨h1,fun x hx=>by obtain⟨e,he,rfl⟩:=HD.out.mem x hx;exact(HR.out e he).1.new HD.out.sat.chg⟩
   have HKl:Hid (∀ x ∈ ks,x.2.2.length≤140737488355328):=fun x hx=>by obtain⟨e,he,rfl⟩:=HD.out.mem x hx;exact HSh.out e he
   clear hsay hul hN HB;go_wp2_with (go_at_call 181;refine(new_yes (ks.length:Int) 10 wr ⟨by omega,by omega,by omega,by omega⟩).mono ?_;rintro x w8 ⟨g,h,rfl,hF,hg,hh,k8⟩;have HF:=ah hF;have HG:=ah hg;have HH:=ah hh;have HK8:=ah k8;clear hF hg hh k8);have hst:=stay_rdl HKs.out HK8.out HH.out;have hkk:ks.length≤140737488355328:=by omega
   refine(add_any g h (nbytes (ks.length:Int) 10) (nbytes (ks.length:Int) 10) kc (List.replicate (nbytes (ks.length:Int) 10) 0) KA ks w8 HF.out HBs.out hst HKl.out hkk).mono ?_;rintro x w9 ⟨rfl,hF9,k9⟩;have HF9:=ah hF9;have HK9:=ah k9;clear hF9 k9;go_wp2_with fail;go_ret;have hs:=HD.out.sat.chg;have hsz:=hs.size;refine⟨g,h,nbytes (ks.length:Int) 10,rfl,?_,by have:=HG.out;omega,by have:=HH.out;omega,(hs.tr HK8.out).own HK9.out (fun q hq=>by have e:q=h:=hq;have:=HH.out;omega),HBs.out⟩;have h9:=HF9.out;rw[HD.out.say] at h9;unfold bitsB;rw[←HN.out,List.length_map];exact h9
theorem notmay_any (e:En) (w:World) (hk:e.key.2.2.length≤140737488355328) (hv:e.value.2.2.length≤140737488355328):
  Calls Tryz.prog 176 #[.agg #[.slice e.key.1 e.key.2.2.length e.key.2.1,.slice e.value.1 e.value.2.2.length e.value.2.1,.int .i64 e.seq,.bool e.dead]] w fun x w'=>x = .returned (.bool (!mayE e.ent))∧Chg No w w':=by
 have hs:=(Sat.start w).allocPt 120 #[.slice e.key.1 e.key.2.2.length e.key.2.1,.slice e.value.1 e.value.2.2.length e.value.2.1,.int .i64 e.seq,.bool e.dead];have c0:=hs.cell 0;have c1:=hs.cell 1;have c2:=hs.cell 2;have c3:=hs.cell 3;have HS:=ah hs;clear hs;go_enter Tryz.func176, Tryz.ntmps176;go_wp2_with (go_at_call 177;refine(lmay_any e _ hk hv).mono ?_;rintro x w1 ⟨rfl,k1⟩;have HK:=ah (HS.out.chg.tr k1);clear k1);go_ret;exact⟨rfl,HK.out⟩
theorem tindex_any (A:Option Addr) (c:Nat) (es:List En) (w:World) (h:RdV w A (es.flatMap enV)) (hc:es.length≤c) (hm:c≤maxLen) (hsh: ∀ e ∈ es,e.key.2.2.length≤140737488355328∧e.value.2.2.length≤140737488355328):
  Calls Tryz.prog 196 #[.slice A es.length c,.func (.func 176) #[] #[]] w fun x w'=>(∃ r:Int,x = .returned (.int .i64 r)∧decide (0≤r)=(es.map En.ent).any (fun e=> !mayE e))∧Chg No w w':=by
 have HL:=ah h;have HSh:=ah hsh;unfold maxLen at hm;clear h hsh;go_enter Tryz.func196, Tryz.ntmps196;go_wp2_with fail;go_loopw [8] (fun iv wr=> ∃ i:Nat,i≤es.length∧iv = .int .i64 i∧Hid ((∀ j (h:j<es.length),j<i→mayE es[j].ent=true)∧Chg No w wr)) (fun iv _=>es.length - (intOf iv).toNat)
 case atStart=>exact⟨0,by omega,rfl,fun j _ h=>by omega,Chg.refl _ _⟩
 case round=>
  obtain⟨i,hi,rfl,HD⟩:=hrel;by_cases hlt:i<es.length
  ·obtain⟨lb,lo,rfl,hq⟩:=ents_at HL.out (by omega);obtain⟨z0,z1,z2,z3⟩:=hq i hlt;have a0:=HD.out.2.cell z0 id;have a1:=HD.out.2.cell z1 id;have a2:=HD.out.2.cell z2 id;have a3:=HD.out.2.cell z3 id;unfold slv' at a0 a1;have hs:=HSh.out _ (List.getElem_mem hlt);clear z0 z1 z2 z3 hq;obtain⟨B,hB⟩: ∃ B,mayE es[i].ent=B:=⟨_,rfl⟩;have HB:=ah hB;clear hB
   cases B
   ·go_wp2_with (go_at_call 176;refine(notmay_any es[i] _ hs.1 hs.2).mono ?_;rintro x w1 ⟨rfl,k1⟩;rw[HB.out];have HK:=ah (HD.out.2.tr k1);clear k1);go_ret;refine⟨⟨i,rfl,?_⟩,HK.out⟩;rw[decide_eq_true (by omega)];exact(List.any_eq_true.2 ⟨es[i].ent,List.mem_map.2 ⟨es[i],List.getElem_mem _,rfl⟩,by rw[HB.out];rfl⟩).symm
   ·go_wp2_with (go_at_call 176;refine(notmay_any es[i] _ hs.1 hs.2).mono ?_;rintro x w1 ⟨rfl,k1⟩;rw[HB.out];have HK:=ah (HD.out.2.tr k1);clear k1);go_roundw
    ·refine⟨i+1,by omega,by push_cast;rfl,fun j h hj=>?_,HK.out⟩;by_cases e:j=i
     ·subst e;exact HB.out
     ·exact HD.out.1 j h (by omega)
    ·simp[intOf];omega
  ·go_wp2_with fail;go_ret;refine⟨⟨-1,rfl,?_⟩,HD.out.2⟩;rw[decide_eq_false (by omega)];symm;rw[List.any_eq_false];intro x hx;obtain⟨e,he,rfl⟩:=List.mem_map.1 hx;obtain⟨j,hj,rfl⟩:=List.getElem_of_mem he;rw[HD.out.1 j hj (by omega)];simp
theorem tcontains_any (A:Option Addr) (c:Nat) (es:List En) (w:World) (h:RdV w A (es.flatMap enV)) (hc:es.length≤c) (hm:c≤maxLen) (hsh: ∀ e ∈ es,e.key.2.2.length≤140737488355328∧e.value.2.2.length≤140737488355328):
  Calls Tryz.prog 175 #[.slice A es.length c,.func (.func 176) #[] #[]] w fun x w'=>x = .returned (.bool ((es.map En.ent).any (fun e=> !mayE e)))∧Chg No w w':=by
 have HL:=ah h;have HM:=ah hm;have HSh:=ah hsh;clear h hsh hm;go_enter Tryz.func175, Tryz.ntmps175;go_wp2_with (go_at_call 196;refine(tindex_any A c es _ HL.out hc HM.out HSh.out).mono ?_;rintro x w1 ⟨⟨r,rfl,hr⟩,k1⟩;have HR:=ah hr;have HK:=ah k1;clear hr k1);go_ret;refine⟨?_,HK.out⟩;rw[←HR.out];rfl
set_option maxHeartbeats 1000000 in
theorem gcopied0 (e:En) (w:World) (hr:EnR w e) (hk:e.key.2.2.length≤140737488355328) (hv:e.value.2.2.length≤140737488355328):
  Calls Tryz.prog 153 #[enA e] w (CopiedS w Emp e):=by
 have h:=Sat.start w;obtain⟨⟨kA,kc,k⟩,⟨vA,vc,v⟩,seq,dead⟩:=e;have HRk:Hid (Rd w kA k):=hr.1;have HRv:Hid (Rd w vA v):=hr.2;have hk':k.length≤140737488355328:=hk;have hv':v.length≤140737488355328:=hv;have h1:=h.allocAt (b:=w.heap.size) 120 #[.slice kA k.length kc,.slice vA v.length vc,.int .i64 seq,.bool dead] rfl;have h2:=h1.allocAt (b:=w.heap.size+1) 120 #[.slice none 0 0,.slice none 0 0,.int .i64 0,.bool false] (by simp);have hc2:Chg No w _:=((Chg.refl No w).alloc (.cells #[.slice kA k.length kc,.slice vA v.length vc,.int .i64 seq,.bool dead] 120)).alloc (.cells #[.slice none 0 0,.slice none 0 0,.int .i64 0,.bool false] 120);clear hr h h1;unfold enA;go_enter Tryz.func153, Tryz.ntmps153;go_wp2_with fail;revert h2 hc2;generalize (w.alloc _).alloc _=W;intro h2 hc2;generalize w.heap.size+1=B at*
 generalize w.heap.size=E at*
 have c0:=h2.up2.cell 0;have c1:=h2.up2.cell 1;have c2:=h2.up2.cell 2;have c3:=h2.up2.cell 3;have HS0:=ah h2;have HC0:=ah hc2;clear h2 hc2;go_region_law (first
  | (go_simp;go_at_call 104;(with_reducible refine(cloneS kA kc k HS0.out.drew (HRk.out.new HC0.out.drew) hk').mono ?_);rintro x w1 ⟨A,c,rfl,k1,hs1⟩;have HS1:=ah hs1;have HC1:=ah (HC0.out.drew.tr k1);have c0:=hs1.up3.cell 0;have c1:=hs1.up3.cell 1;have c2:=hs1.up3.cell 2;have c3:=hs1.up3.cell 3;clear hs1 k1)
  | (go_simp;go_at_call 104;(with_reducible refine(cloneS vA vc v HS1.out (HRv.out.new HC1.out) hv').mono ?_);rintro x w2 ⟨B2,d,rfl,k2,hs2⟩;have HS2:=ah hs2;have HC2:=ah (HC1.out.tr k2);have c0:=hs2.up4.cell 0;have c1:=hs2.up4.cell 1;have c2:=hs2.up4.cell 2;have c3:=hs2.up4.cell 3;have f0:=hs2.up4.frozen 0;have f1:=hs2.up4.frozen 1;clear hs2 k2))
 all_goals
  have h5:=(HS2.out.up4.set 0 (.slice A k.length c)).set 1 (.slice B2 v.length d);clear f0 f1 c0 c1 c2 c3;revert h5;generalize World.setCell _ _ _=w3;intro h5;have c0:=h5.cell 0;have c1:=h5.cell 1;have c2:=h5.cell 2;have c3:=h5.cell 3;have d0:=h5.up4.cell 0;have d1:=h5.up4.cell 1;have d2:=h5.up4.cell 2;have d3:=h5.up4.cell 3;have f0:=h5.up4.frozen 0;have f1:=h5.up4.frozen 1;have f2:=h5.up4.frozen 2;have f3:=h5.up4.frozen 3;have h6:=(((h5.up4.set 0 (.slice A k.length c)).set 1 (.slice B2 v.length d)).set 2 (.int .i64 seq)).set 3 (.bool dead);go_wp2_with fail;revert h6;generalize World.setCell _ _ _=w4;intro h6;refine bodyPost_ret (results_cell_row (p:=2) (by kernel_rfl) _ _ B 120 _ (0,0) _ rfl h6.at Tryz.underlying120 rfl (by kernel_rfl)) rfl ?_;exact⟨A,c,B2,d,rfl,h6.right.right.up2⟩
theorem gcopied_any (e:En) (w0 w:World) (F:SP) (h:Sat w0 F w) (hr:EnR w e) (hk:e.key.2.2.length≤140737488355328) (hv:e.value.2.2.length≤140737488355328):
  Calls Tryz.prog 153 #[enA e] w fun x w'=>CopiedS w0 F e x w'∧Chg No w w':=by
 refine(gcopied0 e w hr hk hv).mono ?_;rintro x w' ⟨A,c,B,d,rfl,hs⟩;exact⟨⟨A,c,B,d,rfl,(h.join hs (owned_star (owned_row _ _ _ _ _) (owned_star (owned_row _ _ _ _ _) owned_emp))).of (by rw[star_assoc,star_assoc,emp_star])⟩,hs.chg⟩
def plainG (z:Value) (n:Nat):Array Value:=(List.replicate n z).toArray
theorem made_oneG (z:Value) (n:Nat):madeCells #[z] n=plainG z n:=by
 apply Array.ext';apply List.ext_getElem?;intro j;simp[madeCells,plainG,List.getElem?_replicate];by_cases h:j<n
 ·simp[h];rw[Nat.mod_one];rfl
 ·simp[h]
theorem infoG_bool:(Tryz.prog.info? 4).map (fun i=>(i.zero,i.size,i.bytes))=some (some (.bool false),1,1):=by kernel_rfl
theorem gmake_bools (n:Nat) (hn:n≤1000000) (W:World):(Instr.makeSlice 34 (.int .i64 (n:Int)) (.int .i64 (n:Int))).run Tryz.prog W=
  .ok (.slice (some ⟨W.heap.size,0,none⟩) n n) (W.alloc (.cells (plainG (.bool false) n) 4)):=by
 obtain⟨i0,hi,hz0,hz1,hz2⟩:=info_parts infoG_bool;have hr:=run_make (P:= Tryz.prog) W 34 4 i0 _ Tryz.underlying34 hi hz0 .i64 .i64 n n (by omega) (by omega) (by rw[hz2];omega) (by omega);have hc:(Value.bool false).cells = #[.bool false]:=rfl;simpa [hz1,hc,made_oneG] using hr
theorem seen1_any (bl bs:Nat) (A:Option Addr) (c:Nat) (es:List En) (s:Int) (i:Nat) (w:World) (h1:w.cell? ⟨bl,0,none⟩=some (.slice A es.length c)) (h2:w.cell? ⟨bs,0,none⟩=some (.int .i64 s)) (hr:RdV w A (es.flatMap enV)) (hi:i<es.length):
  Calls Tryz.prog 186 #[.int .i64 (i:Int),.pointer (some ⟨bl,0,none⟩),.pointer (some ⟨bs,0,none⟩)] w fun x w'=>x = .returned (.bool (decide (es[i].seq≤s)))∧Chg No w w':=by
 obtain⟨lb,lo,rfl,hq⟩:=ents_at hr (by omega);obtain⟨y0,y1,y2,y3⟩:=hq i hi;have hii:(i:Int)<es.length:=by omega
 have S0:w.cell? ⟨bl,0,none⟩=some (.slice (some ⟨lb,lo,none⟩) es.length c)∧w.cell? ⟨bs,0,none⟩=some (.int .i64 s)∧w.cell? ⟨lb,lo+i*4+2,none⟩=some (.int .i64 es[i].seq):=⟨h1,h2,y2⟩;have HS:=ah S0;clear hq y0 y1 y2 y3 h1 h2 hr S0;go_enter Tryz.func186, Tryz.ntmps186;go_upto_region 1 with fail;refine wp_region_held_drew (S:=fun w'=>w'.cell? ⟨bl,0,none⟩=some (.slice (some ⟨lb,lo,none⟩) es.length c)∧w'.cell? ⟨bs,0,none⟩=some (.int .i64 s)∧w'.cell? ⟨lb,lo+i*4+2,none⟩=some (.int .i64 es[i].seq)) (by kernel_rfl) HS.out ?_;intro hS0;refine rtk 0 ?_;refine rtk 1 ?_;refine rtk 2 ?_;refine rtk 3 ?_;refine rtk 4 ?_;refine rtk 5 ?_;refine rtk 6 ?_;refine rtk 7 ?_;refine wpAnyH_done (by kernel_rfl) ?_ _;go_wp2_with fail;go_ret;exact⟨rfl,(Chg.refl No w).drew⟩
def fstS (s:Int) (es:List En):Nat:=es.findIdx fun e=>decide (e.seq≤s)
structure SeAt (w:World) (es:List En) (s:Int) (i j:Nat) (wr:World):Prop where
 lo: ∀ (m:Nat) (h:m<es.length),m<i→¬ es[m].seq≤s
 hi: ∀ (m:Nat) (h:m<es.length),j≤m→es[m].seq≤s
 chg:Chg No w wr
theorem fstS_is {s:Int} {es:List En} {k:Nat} (hk:k≤es.length) (lo: ∀ (m:Nat) (h:m<es.length),m<k→¬ es[m].seq≤s) (hi: ∀ h:k<es.length,es[k].seq≤s):fstS s es=k:=by
 unfold fstS;by_cases h:k<es.length
 ·rw[List.findIdx_eq h];exact⟨by simpa using hi h,fun m hm=>by simpa using lo m (by omega) hm⟩
 ·have:k=es.length:=by omega
  subst this;rw[List.findIdx_eq_length];intro x hx;obtain⟨m,hm,rfl⟩:=List.getElem_of_mem hx;simpa using lo m hm hm
set_option maxHeartbeats 2000000 in
theorem seenS_any (bl bs:Nat) (A:Option Addr) (c:Nat) (es:List En) (s:Int) (w:World) (h1:w.cell? ⟨bl,0,none⟩=some (.slice A es.length c)) (h2:w.cell? ⟨bs,0,none⟩=some (.int .i64 s)) (hr:RdV w A (es.flatMap enV)) (hn:es.length≤1000000)
  (hmono: ∀ (a b:Nat) (ha:a<es.length) (hb:b<es.length),a≤b→es[a].seq≤s→es[b].seq≤s):
  Calls Tryz.prog 183 #[.int .i64 (es.length:Int),.func (.func 186) #[] #[.pointer (some ⟨bl,0,none⟩),.pointer (some ⟨bs,0,none⟩)]] w fun x w'=>x = .returned (.int .i64 (fstS s es:Nat))∧Chg No w w':=by
 have H1:=ah h1;have H2:=ah h2;have HR:=ah hr;have HM:=ah hmono;clear h1 h2 hr hmono;go_enter Tryz.func183, Tryz.ntmps183;go_wp2_with fail;go_loopw [5,6] (fun iv jv wr=> ∃ i j:Nat,i≤j∧j≤es.length∧iv = .int .i64 i∧jv = .int .i64 j∧Hid (SeAt w es s i j wr)) (fun iv jv _=>((intOf jv) - (intOf iv)).toNat)
 case atStart=>exact⟨0,es.length,by omega,by omega,rfl,rfl,fun m _ h=>by omega,fun m h h2=>by omega,Chg.refl _ _⟩
 case round=>
  obtain⟨i,j,hij,hj,rfl,rfl,HD⟩:=hrel;by_cases hlt:i<j
  ·obtain⟨m,hm⟩: ∃ m,m=(i+j) / 2:=⟨_,rfl⟩;have hmi:i≤m:=by omega
   have hmj:m<j:=by omega
   have hml:m<es.length:=by omega
   have hw1:IntKind.u64.wrap ((i:Int)+(j:Int))=(i:Int)+j:=by rw[IntKind.wrap_u64];omega
   have hsh:((i:Int)+j) / 2=m:=by omega
   have hw2:IntKind.i64.wrap (m:Int)=m:=by rw[IntKind.wrap_i64];omega
   have HMm:=ah hm;clear hm;obtain⟨Z,hZ⟩: ∃ Z,decide (es[m].seq≤s)=Z:=⟨_,rfl⟩;have HZ:=ah hZ;clear hZ
   cases Z
   all_goals
    go_wp2_with (go_at_call 186;refine(seen1_any bl bs A c es s m _ (HD.out.chg.cell H1.out id) (HD.out.chg.cell H2.out id) (HR.out.new HD.out.chg) hml).mono ?_;rintro x w1 ⟨rfl,k1⟩;rw[HZ.out];have HK:=ah (HD.out.chg.tr k1);clear k1);go_roundw
   ·exact⟨m+1,j,by omega,by omega,by push_cast;rfl,rfl,⟨fun a ha h2 h3=>of_decide_eq_false HZ.out (HM.out a m ha hml (by omega) h3),HD.out.hi,HK.out⟩⟩
   ·simp[intOf];omega
   ·exact⟨i,m,by omega,by omega,rfl,rfl,⟨HD.out.lo,fun a ha h2=>HM.out m a hml ha h2 (of_decide_eq_true HZ.out),HK.out⟩⟩
   ·simp[intOf];omega
  ·have hij2:i=j:=by omega
   subst hij2;go_wp2_with fail;go_ret;refine⟨?_,HD.out.chg⟩;rw[fstS_is hj (fun a ha h2=>HD.out.lo a ha h2) (fun h=>HD.out.hi i h (Nat.le_refl _))];rfl
def mrkTo (es:List En) (snaps:List Int):List Bool:=snaps.foldl (fun b s=>b.set (fstS s es) true) ((List.replicate es.length false).set 0 true)
theorem mrk_len (es:List En): ∀ (snaps:List Int) (b:List Bool),(snaps.foldl (fun b s=>b.set (fstS s es) true) b).length=b.length
 | [],b=>rfl
 | s::snaps,b=>by rw[List.foldl_cons,mrk_len es snaps,List.length_set]
theorem mrkTo_len (es:List En) (snaps:List Int):(mrkTo es snaps).length=es.length:=by unfold mrkTo;rw[mrk_len,List.length_set,List.length_replicate]
theorem mrkTo_snoc (es:List En) (snaps:List Int) (s:Int):mrkTo es (snaps++[s])=(mrkTo es snaps).set (fstS s es) true:=by unfold mrkTo;rw[List.foldl_append];rfl
theorem bools_set (l:List Bool) (k:Nat) (b:Bool):(l.set k b).map Value.bool=(l.map Value.bool).set k (.bool b):=by rw[List.map_set]
section
variable {w0 w:World} {F:SP}
def SeenS (w0:World) (es:List En) (snaps:List Int) (k g:Nat) (bl:Nat) (A:Option Addr) (c:Nat) (wr:World):Prop:=Sat w0 (Row 4 1 (.slice (some ⟨g,0,none⟩) es.length es.length) es.length ((mrkTo es (snaps.take k)).map Value.bool)*(Pt bl 116 #[.slice A es.length c]*Emp)) wr
set_option maxHeartbeats 2000000 in
theorem seen0 (A:Option Addr) (c:Nat) (es:List En) (SA:Option Addr) (sc:Nat) (snaps:List Int) (w:World) (hr:RdV w A (es.flatMap enV)) (hs:RdV w SA (snaps.map fun x=> .int .i64 x)) (hn:1≤es.length∧es.length≤1000000) (hsn:snaps.length≤1000000)
  (hmono: ∀ (s:Int) (a b:Nat) (ha:a<es.length) (hb:b<es.length),a≤b→es[a].seq≤s→es[b].seq≤s):
  Calls Tryz.prog 152 #[.slice A es.length c,.slice SA snaps.length sc] w fun x w'=> ∃ g,x = .returned (.slice (some ⟨g,0,none⟩) es.length es.length)∧Sat w (Row 4 1 (.slice (some ⟨g,0,none⟩) es.length es.length) es.length ((mrkTo es snaps).map Value.bool)*Emp) w':=by
 have s1:=(Sat.start w).allocPt 116 #[.slice A es.length c];have HR:=ah hr;have HSn:=ah hs;have HM:=ah hmono;have HMk:=ah (fun W=>gmake_bools es.length hn.2 W);obtain⟨hn1,hn2⟩:=hn;clear hr hs hmono;have s2:=s1.allocAt (b:=w.heap.size+1) 4 (plainG (.bool false) es.length) (by simp);have s3:=s2.row_pt (n:=es.length) (cap:=es.length) (size:=1) (Nat.le_refl _) (by unfold maxLen;omega) (by unfold plainG;simp);have e3:(plainG (.bool false) es.length).toList.take (es.length*1)=(List.replicate es.length false).map Value.bool:=by unfold plainG;simp
 rw[e3] at s3;have s5:=s1.allocAt (b:=w.heap.size+1) 4 ((plainG (.bool false) es.length).setIfInBounds 0 (.bool true)) (by simp);have s4:=s5.row_pt (n:=es.length) (cap:=es.length) (size:=1) (Nat.le_refl _) (by unfold maxLen;omega) (by unfold plainG;simp);have e4:((plainG (.bool false) es.length).setIfInBounds 0 (.bool true)).toList.take (es.length*1)=((List.replicate es.length false).set 0 true).map Value.bool:=by
  unfold plainG;rw[bools_set,List.map_replicate,Nat.mul_one,Array.toList_setIfInBounds,List.take_of_length_le (by simp)]
 rw[e4] at s4;have f0:=s3.row_free 0;have c0:=s3.row_cell (j:=0) (by simp;omega);simp only[List.getElem_map,List.getElem_replicate] at c0;have q0:=HMk.out;have hne:¬ ((es.length:Int)=0):=by omega
 go_enter Tryz.func152, Tryz.ntmps152;go_upto_region 3 with fail;clear f0 c0 q0 hne s2 s3 e3 s5 e4 s1;revert s4;generalize World.alloc (World.alloc w _) _=w3;generalize w.heap.size+1=g;generalize w.heap.size=bl;intro s4;have HS4:Hid (SeenS w es snaps 0 g bl A c w3):=s4;clear s4;go_wp2_with fail;go_loopw [16] (fun iv wr=> ∃ k:Nat,k≤snaps.length∧iv = .int .i64 k∧Hid (SeenS w es snaps k g bl A c wr)) (fun iv _=>snaps.length - (intOf iv).toNat)
 case atStart=>exact⟨0,by omega,rfl,HS4.out⟩
 case round=>
  obtain⟨k,hk,rfl,HD⟩:=hrel;by_cases hlt:k<snaps.length
  ·obtain⟨sb,so,rfl,hsc⟩:=(HSn.out.new (Sat.chg HD.out)).get (j:=k) (by simpa using hlt);simp only[List.getElem_map] at hsc;obtain⟨q,hq⟩: ∃ q,snaps[k]=q:=⟨_,rfl⟩;have HQe:Hid (snaps.take (k+1)=snaps.take k++[q]):=by
    unfold Hid;rw[List.take_add_one,List.getElem?_eq_getElem hlt,hq];rfl
   rw[hq] at hsc;clear hq;have s6:=Sat.allocPt HD.out 3 #[.int .i64 q];have c1:=s6.up3.cell 0;have HSe:Hid (Calls Tryz.prog 183 #[.int .i64 (es.length:Int),.func (.func 186) #[] #[.pointer (some ⟨bl,0,none⟩),.pointer (some ⟨wr.heap.size,0,none⟩)]] (wr.alloc (.cells #[.int .i64 q] 3)) fun x w'=>x = .returned (.int .i64 (fstS q es:Nat))∧Chg No (wr.alloc (.cells #[.int .i64 q] 3)) w'):=
    seenS_any bl wr.heap.size A c es q _ c1 (s6.cell 0) (HR.out.new s6.chg) hn2 (HM.out q)
   have HS6:=ah s6;have hf:fstS q es≤es.length:=List.findIdx_le_length;obtain⟨z,hz⟩: ∃ z,fstS q es=z:=⟨_,rfl⟩;have HNx:Hid (mrkTo es (snaps.take (k+1))=(mrkTo es (snaps.take k)).set z true):=by
    unfold Hid;rw[HQe.out,mrkTo_snoc,hz]
   rw[hz] at HSe hf;clear hz s6;have hml:=mrkTo_len es (snaps.take k);by_cases hzn:z<es.length
   ·have hzi:(z:Int)<es.length:=by omega
    go_wp2_with (go_at_call 183;(with_reducible refine HSe.out.mono ?_);rintro x w7 ⟨rfl,k7⟩;have HS7:=ah (HS6.out.new k7);have c2:=HS7.out.up3.cell 0;have c3:=HS7.out.up2.row_cell (j:=z) (by rw[List.length_map,hml];exact hzn);have f3:=HS7.out.up2.row_free z;clear k7);have h9:=HS7.out.up2.row_setj (j:=z) (.bool true);rw[←bools_set, ←HNx.out] at h9;go_roundw
    ·exact⟨k+1,by omega,by go_num,Sat.right (A:=Pt wr.heap.size 3 #[.int .i64 q]) (h9.of (by ac_rfl))⟩
    ·simp[intOf];omega
   ·have hzi:¬ (z:Int)<es.length:=by omega
    have HNy:Hid ((mrkTo es (snaps.take k)).set z true=mrkTo es (snaps.take k)):=List.set_eq_of_length_le (by omega);go_wp2_with (go_at_call 183;(with_reducible refine HSe.out.mono ?_);rintro x w7 ⟨rfl,k7⟩;have HS7:=ah (HS6.out.new k7);have c2:=HS7.out.up3.cell 0;clear k7);go_roundw
    ·refine⟨k+1,by omega,by go_num,?_⟩;unfold Hid SeenS;rw[HNx.out,HNy.out];exact HS7.out.right
    ·simp[intOf];omega
  ·have hke:snaps.take k=snaps:=List.take_of_length_le (by omega);go_wp2_with fail;go_ret;refine⟨g,rfl,?_⟩;have h9:=HD.out;unfold SeenS at h9;rw[hke] at h9;exact Sat.right (A:=Pt bl 116 #[.slice A es.length c]) (h9.of (by ac_rfl))
theorem seen_any (A:Option Addr) (c:Nat) (es:List En) (SA:Option Addr) (sc:Nat) (snaps:List Int) (h:Sat w0 F w) (hr:RdV w A (es.flatMap enV)) (hs:RdV w SA (snaps.map fun x=> .int .i64 x)) (hn:1≤es.length∧es.length≤1000000) (hsn:snaps.length≤1000000)
  (hmono: ∀ (s:Int) (a b:Nat) (ha:a<es.length) (hb:b<es.length),a≤b→es[a].seq≤s→es[b].seq≤s):
  Calls Tryz.prog 152 #[.slice A es.length c,.slice SA snaps.length sc] w fun x w'=> ∃ g,x = .returned (.slice (some ⟨g,0,none⟩) es.length es.length)∧Sat w0 (Row 4 1 (.slice (some ⟨g,0,none⟩) es.length es.length) es.length ((mrkTo es snaps).map Value.bool)*F) w'∧Chg No w w':=by
 refine(seen0 A c es SA sc snaps w hr hs hn hsn hmono).mono ?_;rintro x w' ⟨g,rfl,hs⟩;exact⟨g,rfl,(h.join hs (owned_star (owned_row _ _ _ _ _) owned_emp)).of (by rw[star_assoc,emp_star]),hs.chg⟩
end
def selE {α:Type}:List Bool→List α→List α
 | true::bs,x::l=>x::selE bs l
 | false::bs,x::l=>selE bs l
 | _,_=>[]
theorem sel_snoc {α:Type}: ∀ (bs:List Bool) (l:List α) (b:Bool) (x:α),bs.length=l.length→selE (bs++[b]) (l++[x])=selE bs l++(if b=true then [x] else [])
 | [],[],true,x,_=>rfl
 | [],[],false,x,_=>rfl
 | [],y::l,b,x,h=>by cases h
 | a::bs,[],b,x,h=>by cases h
 | true::bs,y::l,b,x,h=>by show y::selE (bs++[b]) (l++[x])=y::(selE bs l++_);rw[sel_snoc bs l b x (by simpa using h)]
 | false::bs,y::l,b,x,h=>sel_snoc bs l b x (by simpa using h)
theorem sel_kept (snaps:List Int): ∀ (g:List Ent) (q:Option Int) (bs:List Bool),bs.length=g.length→(∀ i (h:i<g.length) (h':i<bs.length),bs[i]=seenX snaps (if hi:i=0 then q else some (g[i - 1]'(by omega)).seq) g[i])→selE bs g=keptX snaps q g
 | [],q,[],_,_=>rfl
 | [],q,b::bs,h,_=>by cases h
 | x::g,q,[],h,_=>by cases h
 | x::g,q,b::bs,h,hb=>by
  have h0:=hb 0 (by simp) (by simp);simp only[List.getElem_cons_zero,dif_pos] at h0;have ih:=sel_kept snaps g (some x.seq) bs (by simpa using h) (fun i hi hi'=>by
   have h1:=hb (i+1) (by simp;omega) (by simp;omega);simp only[List.getElem_cons_succ] at h1;rw[h1];congr 1
   rw[dif_neg (by omega)];by_cases hz:i=0
   ·subst hz;rw[dif_pos rfl];rfl
   ·rw[dif_neg hz];obtain⟨j,rfl⟩: ∃ j,i=j+1:=⟨i - 1,by omega⟩;rfl)
  show selE (b::bs) (x::g)=if seenX snaps q x=true then x::keptX snaps (some x.seq) g else keptX snaps (some x.seq) g
  rw[←h0, ←ih]
  cases b<;>rfl
def descS (es:List En):Prop:= ∀ (a b:Nat) (ha:a<es.length) (hb:b<es.length),a<b→es[b].seq<es[a].seq
theorem mrk_at (es:List En): ∀ (snaps:List Int) (b:List Bool) (i:Nat) (h:i<b.length) (h':i<(snaps.foldl (fun b s=>b.set (fstS s es) true) b).length),(snaps.foldl (fun b s=>b.set (fstS s es) true) b)[i]=(b[i] || snaps.any fun s=>decide (fstS s es=i))
 | [],b,i,h,h'=>by simp
 | s::snaps,b,i,h,h'=>by
  simp only[List.foldl_cons];rw[mrk_at es snaps _ i (by rw[List.length_set];exact h) (by simpa using h'),List.getElem_set,List.any_cons, ←Bool.or_assoc];congr 1
  by_cases hs:fstS s es=i
  ·rw[if_pos hs,decide_eq_true hs,Bool.or_true]
  ·rw[if_neg hs,decide_eq_false hs,Bool.or_false]
theorem fst_iff {es:List En} (hd:descS es) {s:Int} {i:Nat} (hi:i+1<es.length):fstS s es=i+1↔es[i+1].seq≤s∧s<es[i].seq:=by
 constructor
 ·intro h;have h1:fstS s es<es.length:=by omega
  have h2:decide (es[i+1].seq≤s)=true:=by
   have h5:=List.findIdx_getElem (xs:=es) (p:=fun e:En=>decide (e.seq≤s)) (w:=show List.findIdx (fun e:En=>decide (e.seq≤s)) es<es.length from h1);have e:List.findIdx (fun e:En=>decide (e.seq≤s)) es=i+1:=h;simp only[e] at h5;exact h5
  have h3:=List.not_of_lt_findIdx (p:=fun e=>decide (e.seq≤s)) (xs:=es) (i:=i) (by show i<fstS s es;omega);exact⟨of_decide_eq_true h2,by simpa using h3⟩
 ·rintro ⟨h1,h2⟩;refine fstS_is (by omega) (fun m hm hmi=>?_) (fun _=>h1);rcases Nat.lt_or_ge m i with h3 | h3
  ·have:=hd m i hm (by omega) h3;omega
  ·obtain rfl:m=i:=by omega
   omega
theorem mrk_kept {es:List En} (hd:descS es) (snaps:List Int):selE (mrkTo es snaps) (es.map En.ent)=keptX snaps none (es.map En.ent):=by
 refine sel_kept snaps _ none _ (by rw[mrkTo_len,List.length_map]) (fun i h h'=>?_);have hl:i<es.length:=by simpa using h
 have e0:(mrkTo es snaps)[i]=_:=mrk_at es snaps ((List.replicate es.length false).set 0 true) i (by simpa using hl) h';rw[e0,List.getElem_set]
 cases i with
 | zero=>rw[if_pos rfl,dif_pos rfl];rfl
 | succ i=>
  rw[if_neg (by omega),List.getElem_replicate,dif_neg (by omega),Bool.false_or];show _=snaps.any fun s=>decide (((es.map En.ent)[i+1]).seq≤s) && decide (s<((es.map En.ent)[i+1 - 1]'(by simp;omega)).seq)
  congr 1
  funext s
  have h1:=fst_iff hd (s:=s) hl;simp only[List.getElem_map];rw[Bool.eq_iff_iff,Bool.and_eq_true,decide_eq_true_iff,decide_eq_true_iff,decide_eq_true_iff,h1];rfl
theorem ents_drop {w:World} {A:Option Addr} {c n:Nat} {es:List En} (h:RdV w A (es.flatMap enV)) (hn:n≤es.length) (hc:es.length≤c):RdV w (if c=n then A else A.map (·.add (n*4))) ((es.drop n).flatMap enV):=by
 have h1:=RdV.drop h (k:=n*4) (cap:=c*4) (by rw[flatK_len enV_len];omega) (by rw[flatK_len enV_len];omega);have h2:(es.flatMap enV).drop (n*4)=(es.drop n).flatMap enV:=by
  clear h h1 hc
  induction n generalizing es with
  | zero=>simp
  | succ n ih=>
   cases es with
   | nil=>simp
   | cons e es=>
    rw[List.flatMap_cons,List.drop_succ_cons,show (n+1)*4=(enV e).length+n*4 by rw[enV_len];omega, ←List.drop_drop,List.drop_left];exact ih (by simpa using hn)
 rw[h2] at h1;by_cases e:c=n
 ·rw[if_pos e];rw[if_pos (by omega)] at h1;exact h1
 ·rw[if_neg e];rw[if_neg (by omega)] at h1;exact h1
theorem ents_take {w:World} {A:Option Addr} {n:Nat} {es:List En} (h:RdV w A (es.flatMap enV)) (hn:n≤es.length):RdV w A ((es.take n).flatMap enV):=by
 have h1:=RdV.take h (n*4);have h2:(es.flatMap enV).take (n*4)=(es.take n).flatMap enV:=by
  clear h h1
  induction n generalizing es with
  | zero=>simp
  | succ n ih=>
   cases es with
   | nil=>simp
   | cons e es=>
    rw[List.flatMap_cons,List.take_succ_cons,List.flatMap_cons,show (n+1)*4=(enV e).length+n*4 by rw[enV_len];omega,List.take_length_add_append];rw[ih (by simpa using hn)]
 rwa [h2] at h1
end Go.Proofs.YtmbaiglpgaoogaaGreat
