/- Joined, as they were built one by one: TabRd2 TabRd3 TabFlt TabCont. -/
import Derived.Test.YtmbaiglpgaoogaaGreatV08
import Derived.Test.YtmbaiglpgaoogaaGreatV20
import Derived.Test.YtmbaiglpgaoogaaGreatV21
set_option maxHeartbeats 16000000
namespace Go.Proofs.YtmbaiglpgaoogaaGreat
open Go.RowKit
set_option linter.unusedVariables false
set_option maxRecDepth 100000
theorem takeP_len' (n:Nat) (q:List UInt8) (s:Bool):(takeP n q s).1.length<=n:=by
 unfold takeP;split
 .simp;omega
 .simp;omega
theorem takeP_len (n:Nat) (hn:n<=8) (q:List UInt8) (s:Bool):(takeP n q s).1.length<=n:=by
 unfold takeP;split
 .simp;omega
 .simp;omega
theorem takeP_le (n:Nat) (q:List UInt8) (s:Bool):(takeP n q s).2.1.length<=q.length:=by
 unfold takeP;split
 .simp
 .simp
theorem Rdr.allocP {w0 w:World} {R:Nat} {F:SP} {q:List UInt8} {s:Bool} (h:Rdr w0 R F q s w) (t:TypeId) (cs:Array Value):Rdr w0 R (Pt w.heap.size t cs*F) q s (w.alloc (.cells cs t)):=by
 obtain⟨A,c,hs,h1,h2⟩:=h;exact⟨A,c,(hs.allocPt t cs).up2,h1,h2⟩
theorem wrap_num {n:Nat} (hn:n<=7) {q:List UInt8} {s:Bool} {T:List UInt8 × List UInt8 × Bool} (h:takeP n q s=T):IntKind.i64.wrap (getN T.1:Int)=(getN T.1:Int):=by
 have h1:=takeP_len n (by omega) q s;rw[h] at h1;have h2:=getN_lt56 T.1 (by omega);rw[IntKind.wrap_i64];omega
theorem number_any (n:Nat) (m:Int) (hm:m=n) (hn:n<=8) (R:Nat) (F:SP) (q:List UInt8) (s:Bool) (T:List UInt8 × List UInt8 × Bool) (z:Int) (w0 w:World) (h:Rdr w0 R F q s w) (hT:takeP n q s=T) (hz:IntKind.i64.wrap (getN T.1:Int)=z) (hql:q.length<=140737488355328):
  Calls Tryz.prog 140 #[.pointer (some ⟨R,0,none⟩),.int .i64 m] w fun e w'=>e = .returned (.int .i64 z)/\Rdr w0 R F T.2.1 T.2.2 w':=by
 subst hm;have H:=ah h;have HZ:=ah hz;have hl:=takeP_len n hn q s;have HT:=ah hT;rw[hT] at hl;clear h hz hT;have hw:IntKind.i64.wrap (getN T.1:Int)=z:=HZ.o;go_enter Tryz.func140, Tryz.ntmps140;go_wp2_with (first
  | (go_at_call 139;refine(take_any n (by omega) R F q s w0 w H.o hql).mono ?_;rintro x w1 ⟨B,d,rfl,hr, -, -, -,hR⟩;rw[HT.o] at hr hR ⊢;have HR:=ah hr;have HW:=ah hR;clear hr hR)
  | (go_at_call 105;refine(oget_any B d T.1 w1 HR.o (by omega)).mono ?_;rintro x w2 ⟨rfl,rfl⟩))
 go_ret;exact⟨rfl,HW.o⟩
def entP (al:List UInt8) (q:List UInt8) (s:Bool):Ent × List UInt8 × Bool:=
 let t1:=takeP 1 q s;let t2:=takeP 1 t1.2.1 t1.2.2;let t3:=takeP 8 t2.2.1 t2.2.2;let t4:=takeP 1 t3.2.1 t3.2.2;let t5:=takeP 2 t4.2.1 t4.2.2;let t6:=takeP (getN t2.1) t5.2.1 (t5.2.2 || decide (al.length<getN t1.1));let t7:=takeP (getN t5.1) t6.2.1 t6.2.2
 (⟨if t6.2.2 then [] else al.take (getN t1.1)++t6.1,t7.1,IntKind.i64.wrap (getN t3.1:Int),decide (getN t4.1=1)⟩,t7.2)
def ReadE (w0:World) (R:Nat) (F:SP) (p:Ent × List UInt8 × Bool) (x:Ending) (w':World):Prop:=
 ∃ g:En,x = .returned (enA g)/\g.ent=p.1/\Rdr w0 R (Row 5 1 (slv' g.key) g.key.2.2.length (g.key.2.2.map bv)*(Row 5 1 (slv' g.value) g.value.2.2.length (g.value.2.2.map bv)*F)) p.2.1 p.2.2 w'
theorem two_rd {w':World} {A B:Option Addr} {c d:Nat} {l m:List UInt8} (g:Nat) (h:RdV w' (some ⟨g,0,none⟩) [.slice A l.length c,.slice B m.length d]) (h1:Rd w' A l) (h2:Rd w' B m):RdL w' (some ⟨g,0,none⟩) [(A,c,l),(B,d,m)]:=by
 refine⟨h,fun x hx=>?_⟩;simp only[List.mem_cons,List.not_mem_nil,or_false] at hx;rcases hx with rfl | rfl
 .exact h1
 .exact h2
theorem rentry_any (aA:Option Addr) (ac:Nat) (al:List UInt8) (R:Nat) (F:SP) (q:List UInt8) (s:Bool) (w0 w:World) (h:Rdr w0 R F q s w) (hql:q.length<=140737488355328)
  (hal: ∀ (X:SP) (W:World),Sat w0 (X*F) W->Rd W aA al) (hac:al.length<=ac) (ham:ac<=maxLen) (hall:al.length<=100000000000000):
  Calls Tryz.prog 141 #[.pointer (some ⟨R,0,none⟩),.slice aA al.length ac] w (ReadE w0 R F (entP al q s)):=by
 obtain⟨T1,hT1⟩: ∃ T,takeP 1 q s=T:=⟨_,rfl⟩;obtain⟨T2,hT2⟩: ∃ T,takeP 1 T1.2.1 T1.2.2=T:=⟨_,rfl⟩;obtain⟨T3,hT3⟩: ∃ T,takeP 8 T2.2.1 T2.2.2=T:=⟨_,rfl⟩;obtain⟨T4,hT4⟩: ∃ T,takeP 1 T3.2.1 T3.2.2=T:=⟨_,rfl⟩;obtain⟨T5,hT5⟩: ∃ T,takeP 2 T4.2.1 T4.2.2=T:=⟨_,rfl⟩;obtain⟨s6,hs6⟩: ∃ b,(T5.2.2 || decide (al.length<getN T1.1))=b:=⟨_,rfl⟩;obtain⟨T6,hT6⟩: ∃ T,takeP (getN T2.1) T5.2.1 s6=T:=⟨_,rfl⟩;obtain⟨T7,hT7⟩: ∃ T,takeP (getN T5.1) T6.2.1 T6.2.2=T:=⟨_,rfl⟩;obtain⟨z3,hz3⟩: ∃ z,IntKind.i64.wrap (getN T3.1:Int)=z:=⟨_,rfl⟩;obtain⟨dd,hdd⟩: ∃ b,decide ((getN T4.1:Int)=1)=b:=⟨_,rfl⟩;have HP:Hid (entP al q s=(⟨if T6.2.2 then [] else al.take (getN T1.1)++T6.1,T7.1,z3,dd⟩,T7.2)):=by
  unfold Hid entP;simp only[hT1,hT2,hT3,hT4,hT5,hs6,hT6,hT7,hz3];rw[<-hdd];rw[show decide (getN T4.1=1)=decide ((getN T4.1:Int)=1) by apply decide_eq_decide.2;omega]
 have b1:getN T1.1<256:=by have:=takeP_len 1 (by omega) q s;rw[hT1] at this;exact Nat.lt_of_lt_of_le (getN_lt _) (Nat.pow_le_pow_right (by omega) this)
 have b2:getN T2.1<256:=by have:=takeP_len 1 (by omega) T1.2.1 T1.2.2;rw[hT2] at this;exact Nat.lt_of_lt_of_le (getN_lt _) (Nat.pow_le_pow_right (by omega) this)
 have b5:getN T5.1<65536:=by have:=takeP_len 2 (by omega) T4.2.1 T4.2.2;rw[hT5] at this;exact Nat.lt_of_lt_of_le (getN_lt _) (Nat.pow_le_pow_right (by omega) this)
 have y1:T1.2.1.length<=140737488355328:=by have:=takeP_le 1 q s;rw[hT1] at this;omega
 have y2:T2.2.1.length<=140737488355328:=by have:=takeP_le 1 T1.2.1 T1.2.2;rw[hT2] at this;omega
 have y3:T3.2.1.length<=140737488355328:=by have:=takeP_le 8 T2.2.1 T2.2.2;rw[hT3] at this;omega
 have y4:T4.2.1.length<=140737488355328:=by have:=takeP_le 1 T3.2.1 T3.2.2;rw[hT4] at this;omega
 have y5:T5.2.1.length<=140737488355328:=by have:=takeP_le 2 T4.2.1 T4.2.2;rw[hT5] at this;omega
 have y6:T6.2.1.length<=140737488355328:=by have:=takeP_le (getN T2.1) T5.2.1 s6;rw[hT6] at this;omega
 have HW1:=ah (wrap_num (by omega) hT1);have HW2:=ah (wrap_num (by omega) hT2);have HW4:=ah (wrap_num (by omega) hT4);have HW5:=ah (wrap_num (by omega) hT5);have HW3:=ah hz3;have HT1:=ah hT1;have HT2:=ah hT2;have HT3:=ah hT3;have HT4:=ah hT4;have HT5:=ah hT5;have HT6:=ah hT6;have HT7:=ah hT7;have HS6:=ah hs6;have HDD:=ah hdd;have HAL:=ah hal;obtain⟨n1,hn1⟩: ∃ n,getN T1.1=n:=⟨_,rfl⟩;obtain⟨n2,hn2⟩: ∃ n,getN T2.1=n:=⟨_,rfl⟩;obtain⟨n4,hn4⟩: ∃ n,getN T4.1=n:=⟨_,rfl⟩;obtain⟨n5,hn5⟩: ∃ n,getN T5.1=n:=⟨_,rfl⟩;rw[hn1] at HW1 HP HS6 b1;rw[hn2] at HW2 HT6 b2;rw[hn4] at HW4 HDD;rw[hn5] at HW5 HT7 b5;obtain⟨kk,hkk⟩: ∃ k,(if T6.2.2=true then [] else al.take n1++T6.1)=k:=⟨_,rfl⟩;rw[HP.o,hkk];have HKK:=ah hkk;clear hkk;have H0:=ah (h.allocP 120 #[.slice none 0 0,.slice none 0 0,.int .i64 0,.bool false]);unfold maxLen at ham;clear h hT1 hT2 hT3 hT4 hT5 hs6 hT6 hT7 hz3 hdd hal;have HN1:=ah hn1;have HN2:=ah hn2;have HN4:=ah hn4;have HN5:=ah hn5;clear hn1 hn2 hn4 hn5;have hwa:IntKind.i64.wrap (n1:Int)=n1:=HW1.o;have hwb:IntKind.i64.wrap (n2:Int)=n2:=HW2.o;have hdz:((n4:Int)==1)=dd:=by rw[<-HDD.o];exact rfl
 go_enter Tryz.func141, Tryz.ntmps141;go_upto_if 25 with (first
  | (go_at_call 140;with_reducible refine(number_any 1 1 rfl (by omega) R _ q s T1 n1 w0 _ H0.o HT1.o (by rw[HN1.o];exact HW1.o) hql).mono ?_;rintro x w1 ⟨rfl,h1⟩;have H1:=ah h1;clear h1)
  | (go_at_call 140;with_reducible refine(number_any 1 1 rfl (by omega) R _ T1.2.1 T1.2.2 T2 n2 w0 _ H1.o HT2.o (by rw[HN2.o];exact HW2.o) y1).mono ?_;rintro x w2 ⟨rfl,h1⟩;have H2:=ah h1;clear h1)
  | (go_at_call 140;with_reducible refine(number_any 8 8 rfl (by omega) R _ T2.2.1 T2.2.2 T3 z3 w0 _ H2.o HT3.o HW3.o y2).mono ?_;rintro x w3 ⟨rfl,h1⟩;have H3:=ah h1;clear h1)
  | (go_at_call 140;with_reducible refine(number_any 1 1 rfl (by omega) R _ T3.2.1 T3.2.2 T4 n4 w0 _ H3.o HT4.o (by rw[HN4.o];exact HW4.o) y3).mono ?_;rintro x w4 ⟨rfl,h1⟩;have H4:=ah (h1.allocP 120 #[.slice none 0 0,.slice none 0 0,.int .i64 z3,.bool dd]);clear h1)
  | (go_at_call 140;with_reducible refine(number_any 2 2 rfl (by omega) R _ T4.2.1 T4.2.2 T5 n5 w0 _ H4.o HT5.o (by rw[HN5.o];exact HW5.o) y4).mono ?_;rintro x w5 ⟨rfl,h1⟩;have H5:=ah h1;clear h1))
 have H5a:=H5;revert H5a;generalize w4.heap.size=E;generalize w.heap.size=G;intro H5a;have HF:Hid (Rdr w0 R (Pt E 120 #[.slice none 0 0,.slice none 0 0,.int .i64 z3,.bool dd]*(Pt G 120 #[.slice none 0 0,.slice none 0 0,.int .i64 0,.bool false]*F)) T5.2.1 T5.2.2 w5):=H5a;clear H5 H5a;have l6:T6.1.length<=n2:=by rw[<-HT6.o];exact takeP_len' _ _ _
 have l7:T7.1.length<=n5:=by rw[<-HT7.o];exact takeP_len' _ _ _
 go_cut [5] from 10 (fun nv wx=> ∃ m:Nat,nv = .int .i64 (m:Int)/\Hid (s6=false->m=n1/\n1<=al.length)/\Hid (Rdr w0 R (Pt E 120 #[.slice none 0 0,.slice none 0 0,.int .i64 z3,.bool dd]*(Pt G 120 #[.slice none 0 0,.slice none 0 0,.int .i64 0,.bool false]*F)) T5.2.1 s6 wx))
 case first=>
  by_cases hlt:al.length<n1
  .obtain⟨A,c,hs,ho⟩:=HF.o;have f1:=hs.frozen 1;have c1:=hs.cell 1;have HSt:=ah hs;have HO:=ah ho;clear hs ho;go_wp2_with fail;go_meet
   refine⟨0,rfl,fun h=>?_,⟨A,c,?_,HO.o⟩⟩
   .rw[<-HS6.o] at h;simp[hlt] at h
   .have h9:=HSt.o.set 1 (.bool true);rw[<-HS6.o,decide_eq_true hlt,Bool.or_true];exact h9
  .go_wp2_with fail;go_meet
   refine⟨n1,rfl,fun h=>⟨rfl,by omega⟩,?_⟩;rw[<-HS6.o,decide_eq_false hlt,Bool.or_false];exact HF.o
 case rest=>
  obtain⟨m,rfl,HM,HX⟩:=hcut;have HX1:=HX;have k6:HX1=HX1:=rfl;clear k6 HX1;go_upto_region 8 with (go_at_call 139;(with_reducible refine(take_any n2 (by omega) R _ T5.2.1 s6 w0 _ HX.o y5).mono ?_);rw[HT6.o];rintro x w6 ⟨B6,d6,rfl, -,hr6,hd6,hm6,h6⟩;have HR6:=ah hr6;have H6:=ah h6;clear hr6 h6)
  obtain⟨A6,c6,hs6,hq6⟩:=H6.o;have r1:=hs6.cell 1;have e0:=hs6.up2.cell 0;have e1:=hs6.up2.cell 1;have e2:=hs6.up2.cell 2;have e3:=hs6.up2.cell 3;have q0:=hs6.up2.frozen 0;have HS6':=ah hs6;have HQ6:=ah hq6;clear hs6 hq6;have hsb: ∃ b,T6.2.2=b:=⟨_,rfl⟩;obtain⟨b6,hb6⟩:=hsb;rw[hb6] at r1;have HB6:=ah hb6;clear hb6;go_upto_if 36 with fail
  go_cut [9] from 10 (fun kv wx=> ∃ kA kc,Hid (Rdr w0 R (Row 5 1 (.slice kA kk.length kc) kk.length (kk.map bv)*(Pt E 120 #[.slice kA kk.length kc,.slice none 0 0,.int .i64 z3,.bool dd]*(Pt G 120 #[.slice none 0 0,.slice none 0 0,.int .i64 0,.bool false]*F))) T6.2.1 T6.2.2 wx))
  case first=>
   cases b6
   .have hm:=HM.o (by
     have h1:=HT6.o;have h2:=HB6.o
     cases hs:s6 with
     | false=>rfl
     | true=>rw[hs,takeP_short (.inl rfl)] at h1;rw[<-h1] at h2;cases h2)
    obtain⟨rfl,hle⟩:=hm;have hle2:(m:Int)<=al.length:=by omega
    have hle3:(m:Int)<=ac:=by omega
    have htk:(al.take m).length=m:=by simp;omega
    have HTk:=ah htk;have HKe:Hid (kk=al.take m++T6.1):=by have h1:=HKK.o;rw[HB6.o] at h1;exact h1.symm
    have hkl:kk.length=m+T6.1.length:=by rw[HKe.o,List.length_append,htk]
    clear htk;have hc6:=HQ6.o.2.1;have HKl:Hid (kk.length<=140737488355328):=by unfold Hid;omega
    clear hkl hc6;have hjr:RdL (w6.alloc (.cells #[.slice aA m ac,.slice B6 T6.1.length d6] 41)) (some ⟨w6.heap.size,0,none⟩) [(aA,ac,al.take m),(B6,d6,T6.1)]:=two_rd w6.heap.size (by rw[HTk.o];exact lit_rdv w6 #[.slice aA m ac,.slice B6 T6.1.length d6] 41) (Rd.take (HAL.o _ _ ((HS6'.o.alloc' _).of (show _=(Pt R 223 #[.slice A6 T6.2.1.length c6,.bool T6.2.2]*(Pt E 120 #[.slice none 0 0,.slice none 0 0,.int .i64 z3,.bool dd]*Pt G 120 #[.slice none 0 0,.slice none 0 0,.int .i64 0,.bool false]))*F by ac_rfl))) m) ((HR6.o HB6.o).new (HS6'.o.alloc' _).chg);have HJR:=ah hjr;clear hjr;go_wp2_with fail;go_at_call 61
    refine(join_any (some ⟨w6.heap.size,0,none⟩) 2 [(aA,ac,al.take m),(B6,d6,T6.1)] _ HJR.o (by have:=HKl.o;rw[HKe.o] at this;simpa [txt] using this) (show 2<=140737488355328 by omega)).mono ?_;rintro x w7 ⟨vv,rfl,ho,k7⟩;rw[show (txt [(aA,ac,al.take m),(B6,d6,T6.1)]).flatten=kk by rw[HKe.o];simp[txt]] at ho;obtain⟨A7,c7,rfl, -⟩:=own_sl ho;have hs7:=(HS6'.o.alloc' _).gotRow k7 ho;have z0:=hs7.up3.frozen 0;have z1:=hs7.up3.cell 0;have HS7:=ah hs7;clear ho k7 hs7;go_wp2_with fail;go_meet
    have h9:=HS7.o.up3.set 0 (.slice A7 kk.length c7);exact⟨A7,c7,A6,c6,h9.of (by ac_rfl),HQ6.o⟩
   .go_wp2_with fail;go_meet
    have HKe:kk=[]:=by have h1:=HKK.o;rw[HB6.o] at h1;exact h1.symm
    subst HKe;refine⟨none,0,A6,c6,?_,HQ6.o⟩;exact(HS6'.o.row_nil 5 1).of (by ac_rfl)
  case rest=>
   obtain⟨kA,kc,HX7⟩:=hcut;go_upto_region 11 with (first
    | (go_at_call 139;(with_reducible refine(take_any n5 (by omega) R _ T6.2.1 T6.2.2 w0 _ HX7.o y6).mono ?_);rw[HT7.o];rintro x w8 ⟨B8,d8,rfl,hr8, -,hd8,hm8,h8⟩;obtain⟨A8,c8,hs8,hq8⟩:=h8;have HQ8:=ah hq8;have HS8:=ah hs8;have HR8:=ah hr8;clear hs8 hr8 hq8)
    | (go_at_call 61;refine(join_any (some ⟨w8.heap.size,0,none⟩) 1 [(B8,d8,T7.1)] _ ⟨lit_rdv w8 #[.slice B8 T7.1.length d8] 41,fun y hy=>by rw[List.mem_singleton] at hy;subst hy;exact HR8.o.alloc _⟩ (by simp[txt];omega) (show 1<=140737488355328 by omega)).mono ?_;rintro x w9 ⟨vv,rfl,ho,k9⟩;rw[show (txt [(B8,d8,T7.1)]).flatten=T7.1 by simp[txt]] at ho;obtain⟨A9,c9,rfl, -⟩:=own_sl ho;have hs9:=(HS8.o.alloc' _).gotRow k9 ho;have z0:=hs9.up4.frozen 1;have z1:=hs9.up4.cell 1;have HS9:=ah hs9;clear ho k9 hs9))
   have h10:=HS9.o.up4.set 1 (.slice A9 T7.1.length c9);clear z0 z1;revert h10;generalize World.setCell w9 _ _=w10;intro h10;have c0:=h10.cell 0;have c1:=h10.cell 1;have c2:=h10.cell 2;have c3:=h10.cell 3;have d0:=h10.up5.cell 0;have d1:=h10.up5.cell 1;have d2:=h10.up5.cell 2;have d3:=h10.up5.cell 3;have f0:=h10.up5.frozen 0;have f1:=h10.up5.frozen 1;have f2:=h10.up5.frozen 2;have f3:=h10.up5.frozen 3;have h11:=(((h10.up5.set 0 (.slice kA kk.length kc)).set 1 (.slice A9 T7.1.length c9)).set 2 (.int .i64 z3)).set 3 (.bool dd);have H11:=ah h11;clear h10 h11;go_wp2_with fail;have h12:=H11.o;revert h12;generalize World.setCell _ _ _=w12;intro h12;refine bodyPost_ret (results_cell_row (p:=4) (by kernel_rfl) _ _ G 120 _ (0,0) _ rfl h12.at Tryz.underlying120 rfl (by kernel_rfl)) rfl ?_;refine⟨⟨(kA,kc,kk),(A9,c9,T7.1),z3,dd⟩,rfl,rfl,A8,c8,?_,HQ8.o⟩;have h13:=h12.right.right;exact h13.of (by unfold slv';ac_rfl)
theorem unlike_len (L:List Ent): ∀ k,(unlike L k).length<=k
 | 0=>by simp[unlike]
 | k+1=>by
  have h:=unlike_len L k;unfold unlike;split
  .omega
  .split
   .rw[List.length_append,List.length_singleton];omega
   .split
    .split
     .omega
     .rw[List.length_append,List.length_singleton];omega
    .rw[List.length_append,List.length_singleton];omega
def Filtered (L:List Ent) (w:World) (e:Ending) (w':World):Prop:= ∃ g h n,e = .returned (.pointer (some ⟨g,0,none⟩))/\Filt w' g h n n (bitsB L)/\w.heap.size<=g/\w.heap.size<=h/\Chg No w w'/\8<=n/\n<=262144
structure FltAt (w:World) (es:List En) (i:Nat) (v:Value) (ks:Rows_) (wr:World):Prop where
 say:txt ks=unlike (es.map En.ent) i
 mem: ∀ x ∈ ks, ∃ e ∈ es,x=e.key
 few:ks.length<=i
 sat:Sat w (Row 41 1 v ks.length (ks.map slOf)*Emp) wr
theorem map_get {es:List En} {i:Nat} (h:i<es.length):(es.map En.ent)[i]?=some es[i].ent:=by rw[List.getElem?_map,List.getElem?_eq_getElem h];rfl
theorem unlike_zero (es:List En) (h:0<es.length):unlike (es.map En.ent) 1=[es[0].key.2.2]:=by
 unfold unlike;rw[map_get h];rfl
theorem unlike_same (es:List En) (i:Nat) (h:i+1<es.length) (hk:es[i].key.2.2=es[i+1].key.2.2):unlike (es.map En.ent) (i+2)=unlike (es.map En.ent) (i+1):=by
 conv=>lhs;unfold unlike
 rw[map_get h];simp only[Nat.add_sub_cancel];rw[map_get (show i<es.length by omega)];simp only;rw[if_neg (by omega),if_pos (show es[i].ent.key=es[i+1].ent.key from hk)]
theorem unlike_new (es:List En) (i:Nat) (h:i+1<es.length) (hk:es[i].key.2.2≠es[i+1].key.2.2):unlike (es.map En.ent) (i+2)=unlike (es.map En.ent) (i+1)++[es[i+1].key.2.2]:=by
 conv=>lhs;unfold unlike
 rw[map_get h];simp only[Nat.add_sub_cancel];rw[map_get (show i<es.length by omega)];simp only;rw[if_neg (by omega),if_neg (show ¬ es[i].ent.key=es[i+1].ent.key from hk)];rfl
theorem stay_rdl {wr w8:World} {KA:Option Addr} {ks:Rows_} {h:Nat} (hk:RdL wr KA ks) (k8:Chg No wr w8) (hh:wr.heap.size<=h):Stay (One h) w8 (RdL · KA ks):=fun w' k=>by
 have hno: ∀ b,b<wr.heap.size->¬ One h b:=fun b hb e=>by have e:b=h:=e;omega
 refine⟨(hk.1.new k8).chg k fun b o hx e=>?_,fun x hx=>((hk.2 x hx).new k8).chg k fun b o hx' e=>?_⟩
 .obtain⟨b',o',e',hlt⟩:=hk.1.lt hx;rw[e'] at e;injection e with e
  injection e with e1
  subst e1;exact hno _ hlt
 .obtain⟨b',o',e',hlt⟩:=(hk.2 x hx).lt hx';rw[e'] at e;injection e with e
  injection e with e1
  subst e1;exact hno _ hlt
theorem filtered_any (A:Option Addr) (c:Nat) (es:List En) (w:World) (h:RdV w A (es.flatMap enV)) (hr:EnsR w es) (hc:es.length<=c) (hm:c<=maxLen) (hn:es.length<=65536) (hsh: ∀ e ∈ es,e.key.2.2.length<=140737488355328):
  Calls Tryz.prog 143 #[.slice A es.length c] w (Filtered (es.map En.ent) w):=by
 obtain⟨i0,hi,hz0,hz1,hz2⟩:=info_parts info_sl;have Hi:=ah hi;have Hz0:=ah hz0;have Hz1:=ah hz1;have Hz2:=ah hz2;have HL:=ah h;have HR:=ah hr;have HSh:=ah hsh;unfold maxLen at hm;clear h hr hsh hi hz0 hz1 hz2;go_enter Tryz.func143, Tryz.ntmps143;go_wp2_with fail;go_loopw [3,10] (fun v iv wr=> ∃ (i:Nat) (ks:Rows_),i<=es.length/\iv = .int .i64 i/\Hid (FltAt w es i v ks wr)) (fun _ iv _=>es.length - (intOf iv).toNat)
 case atStart=>exact⟨0,[],by omega,rfl,⟨rfl,by simp,by simp,((Sat.start w).row_nil 41 1)⟩⟩
 case round=>
  obtain⟨i,ks,hi,rfl,HD⟩:=hrel;obtain⟨KA,kc,rfl,hk1,hk2⟩:=HD.o.sat.row_sl;unfold maxLen at hk2;have hfew:=HD.o.few;by_cases hlt:i<es.length
  .obtain⟨lb,lo,rfl,hq⟩:=ents_at HL.o (by omega);obtain⟨z0,z1,z2,z3⟩:=hq i hlt;have a0:=HD.o.sat.chg.cell z0 id;have a1:=HD.o.sat.chg.cell z1 id;have a2:=HD.o.sat.chg.cell z2 id;have a3:=HD.o.sat.chg.cell z3 id;unfold slv' at a0 a1;have HE:=ah (HR.o _ (List.getElem_mem hlt));have HSE:=ah (HD.o.sat.allocPt 120 #[.slice es[i].key.1 es[i].key.2.2.length es[i].key.2.1,.slice es[i].value.1 es[i].value.2.2.length es[i].value.2.1,.int .i64 es[i].seq,.bool es[i].dead]);rcases i with _ | i
   .clear z0 z1 z2 z3 hq;simp only[Nat.zero_mul,Nat.add_zero] at a0 a1 a2 a3;go_upto_region 5 with fail;have HSV:=HSE;revert HSV;generalize World.alloc wr _=w5;generalize wr.heap.size=E;intro HSV;have HSW:Hid (Sat w (Pt E 120 #[.slice es[0].key.1 es[0].key.2.2.length es[0].key.2.1,.slice es[0].value.1 es[0].value.2.2.length es[0].value.2.1,.int .i64 es[0].seq,.bool es[0].dead]*(Row 41 1 (.slice KA ks.length kc) ks.length (ks.map slOf)*Emp)) w5):=HSV;clear HSV HSE a0 a1 a2 a3;refine wp_region_held_drew (S:=fun _=>True) (by kernel_rfl) trivial ?_;intro hS0;have HSD:=ah HSW.o.drew;revert HSD;generalize w5.drew=w6;intro HSD;refine rtk 0 ?_;refine rtk 1 ?_;refine rtk 2 ?_;refine rsk 3 ?_;refine rsk 4 ?_;refine rsk 5 ?_;refine rsk 6 ?_;refine rsk 7 ?_;refine rsk 8 ?_;refine rsk 9 ?_;refine rsk 10 ?_;refine rsk 11 ?_;refine rsk 12 ?_;refine rtk 13 ?_;refine wpAnyH_done (by kernel_rfl) ?_ _;have e0:=HSD.o.cell 0;go_wp2_with (at_builtin;refine wpList_appS rfl (.tmp 29) (.tmp 32) 87 rfl 41 i0 _ 1 24 Tryz.underlying87 Hi.o Hz0.o Hz1.o Hz2.o rfl (by decide) (.slice KA ks.length kc) ks.length (ks.map slOf) rfl w _ (by exact(HSD.o.alloc' _).up2) (some ⟨w6.heap.size,0,none⟩) 1 1 [slOf es[0].key] rfl (lit_rdv _ _ _) rfl (slOf_one [es[0].key]) (by unfold maxLen;omega) (by omega) ?_;intro A7 c7 w7 hs7;have HS7:=ah hs7;clear hs7);go_roundw
    .refine⟨0+1,ks++[es[0].key],by omega,by push_cast;rfl,⟨?_,?_,by rw[List.length_append,List.length_singleton];omega,?_⟩⟩
     .rw[txt_append,HD.o.say,unlike_zero es hlt];rfl
     .intro x hx;rcases List.mem_append.1 hx with hx | hx
      .exact HD.o.mem x hx
      .exact⟨es[0],List.getElem_mem _,List.mem_singleton.1 hx⟩
     .have h9:=HS7.o.drop2;rw[List.length_append,List.map_append];exact h9
    .simp[intOf];omega
   .obtain⟨y0,_,_,_⟩:=hq i (by omega);have b0:=HD.o.sat.chg.cell y0 id;unfold slv' at b0;have hpr:i<es.length:=by omega
    have HEp:=ah (HR.o _ (List.getElem_mem hpr));clear z0 z1 z2 z3 hq;have Y0:=ah y0;clear y0;have hii:((i+1:Nat):Int) - 1=(i:Int):=by omega
    have hwi:IntKind.i64.wrap (i:Int)=(i:Int):=by rw[IntKind.wrap_i64];omega
    have hpi:(i:Int)<es.length:=by omega
    have hne0:((i:Int)+1==0)=false:=by rw[beq_eq_false_iff_ne];omega
    have hne1:¬ (i:Int)+1=0:=by omega
    go_upto_region 5 with fail;have HSV:=HSE;revert HSV;generalize World.alloc wr _=w5;generalize wr.heap.size=E;intro HSV;have HSW:Hid (Sat w (Pt E 120 #[.slice es[i+1].key.1 es[i+1].key.2.2.length es[i+1].key.2.1,.slice es[i+1].value.1 es[i+1].value.2.2.length es[i+1].value.2.1,.int .i64 es[i+1].seq,.bool es[i+1].dead]*(Row 41 1 (.slice KA ks.length kc) ks.length (ks.map slOf)*Emp)) w5):=HSV;clear HSV HSE a0 a1 a2 a3 b0;by_cases hsame:es[i].key.2.2=es[i+1].key.2.2
    .have HDec:Hid (decide (es[i].key.2.2=es[i+1].key.2.2)=true):=decide_eq_true hsame;have HSm:=ah (unlike_same es i hlt hsame);clear hsame;refine wp_region_held_drew (S:=fun w'=>w'.cell? ⟨lb,lo+i*4,none⟩=some (.slice es[i].key.1 es[i].key.2.2.length es[i].key.2.1)/\w'.cell? ⟨E,0,none⟩=some (.slice es[i+1].key.1 es[i+1].key.2.2.length es[i+1].key.2.1)) (by kernel_rfl) ⟨HSW.o.drew.chg.cell Y0.o id,HSW.o.drew.cell 0⟩ ?_;intro hS0;have HSD:=ah HSW.o.drew;revert HSD hS0;generalize w5.drew=w6;intro hS0 HSD;refine rtk 0 ?_;refine rtk 1 ?_;refine rtk 2 ?_;refine rtk 3 ?_;refine rtk 4 ?_;refine rtk 5 ?_;refine rtk 6 ?_;refine rtk 7 ?_;refine rtk 8 ?_;refine rtk 9 ?_;refine rtk 10 ?_;refine rck 11 fun K hK=>?_
     go_simp;go_at_call 126;refine(beq_any es[i].key es[i+1].key w6 (HEp.o.1.new HSD.o.chg) (HE.o.1.new HSD.o.chg)).mono ?_;rintro x w' ⟨rfl,hw'⟩;rw[hw',HDec.o];clear hw' w'
     refine hK.out _ _ ⟨HSD.o.chg.cell Y0.o id,HSD.o.cell 0⟩ (fun hS0=>?_);clear hK K;refine rtk 12 ?_;refine rtk 13 ?_;refine wpAnyH_done (by kernel_rfl) ?_ _;go_wp2_with fail;go_roundw
     .exact⟨i+2,ks,by omega,by push_cast;rfl,⟨by rw[HD.o.say,HSm.o],HD.o.mem,by omega,HSD.o.right⟩⟩
     .simp[intOf];omega
    .have HDec:Hid (decide (es[i].key.2.2=es[i+1].key.2.2)=false):=decide_eq_false hsame;have HSm:=ah (unlike_new es i hlt hsame);clear hsame;refine wp_region_held_drew (S:=fun w'=>w'.cell? ⟨lb,lo+i*4,none⟩=some (.slice es[i].key.1 es[i].key.2.2.length es[i].key.2.1)/\w'.cell? ⟨E,0,none⟩=some (.slice es[i+1].key.1 es[i+1].key.2.2.length es[i+1].key.2.1)) (by kernel_rfl) ⟨HSW.o.drew.chg.cell Y0.o id,HSW.o.drew.cell 0⟩ ?_;intro hS0;have HSD:=ah HSW.o.drew;revert HSD hS0;generalize w5.drew=w6;intro hS0 HSD;refine rtk 0 ?_;refine rtk 1 ?_;refine rtk 2 ?_;refine rtk 3 ?_;refine rtk 4 ?_;refine rtk 5 ?_;refine rtk 6 ?_;refine rtk 7 ?_;refine rtk 8 ?_;refine rtk 9 ?_;refine rtk 10 ?_;refine rck 11 fun K hK=>?_
     go_simp;go_at_call 126;refine(beq_any es[i].key es[i+1].key w6 (HEp.o.1.new HSD.o.chg) (HE.o.1.new HSD.o.chg)).mono ?_;rintro x w' ⟨rfl,hw'⟩;rw[hw',HDec.o];clear hw' w'
     refine hK.out _ _ ⟨HSD.o.chg.cell Y0.o id,HSD.o.cell 0⟩ (fun hS0=>?_);clear hK K;refine rtk 12 ?_;refine rtk 13 ?_;refine wpAnyH_done (by kernel_rfl) ?_ _;have e0:=HSD.o.cell 0;go_wp2_with (at_builtin;refine wpList_appS rfl (.tmp 29) (.tmp 32) 87 rfl 41 i0 _ 1 24 Tryz.underlying87 Hi.o Hz0.o Hz1.o Hz2.o rfl (by decide) (.slice KA ks.length kc) ks.length (ks.map slOf) rfl w _ (by exact(HSD.o.alloc' _).up2) (some ⟨w6.heap.size,0,none⟩) 1 1 [slOf es[i+1].key] rfl (lit_rdv _ _ _) rfl (slOf_one [es[i+1].key]) (by unfold maxLen;omega) (by omega) ?_;intro A7 c7 w7 hs7;have HS7:=ah hs7;clear hs7);go_roundw
     .refine⟨i+2,ks++[es[i+1].key],by omega,by push_cast;rfl,⟨?_,?_,by rw[List.length_append,List.length_singleton];omega,?_⟩⟩
      .rw[txt_append,HD.o.say,HSm.o];rfl
      .intro x hx;rcases List.mem_append.1 hx with hx | hx
       .exact HD.o.mem x hx
       .exact⟨es[i+1],List.getElem_mem _,List.mem_singleton.1 hx⟩
      .have h9:=HS7.o.drop2;rw[List.length_append,List.map_append];exact h9
     .simp[intOf];omega
  .have hie:i=es.length:=by omega
   subst hie;have hsay:=HD.o.say;have hul:=unlike_len (es.map En.ent) es.length;have hN:nbytes (ks.length:Int) 10=nbytes (unlike (es.map En.ent) (es.map En.ent).length).length 10:=by
    rw[List.length_map, <-hsay];unfold txt;rw[List.length_map]
   have HN:=ah hN;have HB:=nbytes_le (ks.length:Int) 10 ⟨by omega,by omega,by omega,by omega⟩;have HBs:=ah HB.2;have HKs:Hid (RdL wr KA ks):=by
    obtain⟨A',c',e,h1,_⟩:=HD.o.sat.row_rd;injection e with e
    subst e;exact⟨h1,fun x hx=>by obtain⟨e,he,rfl⟩:=HD.o.mem x hx;exact(HR.o e he).1.new HD.o.sat.chg⟩
   have HKl:Hid (∀ x ∈ ks,x.2.2.length<=140737488355328):=fun x hx=>by obtain⟨e,he,rfl⟩:=HD.o.mem x hx;exact HSh.o e he
   clear hsay hul hN HB;go_wp2_with (go_at_call 181;refine(new_yes (ks.length:Int) 10 wr ⟨by omega,by omega,by omega,by omega⟩).mono ?_;rintro x w8 ⟨g,h,rfl,hF,hg,hh,k8⟩;have HF:=ah hF;have HG:=ah hg;have HH:=ah hh;have HK8:=ah k8;clear hF hg hh k8);have hst:=stay_rdl HKs.o HK8.o HH.o;have hkk:ks.length<=140737488355328:=by omega
   refine(add_any g h (nbytes (ks.length:Int) 10) (nbytes (ks.length:Int) 10) kc (List.replicate (nbytes (ks.length:Int) 10) 0) KA ks w8 HF.o HBs.o hst HKl.o hkk).mono ?_;rintro x w9 ⟨rfl,hF9,k9⟩;have HF9:=ah hF9;have HK9:=ah k9;clear hF9 k9;go_wp2_with fail;go_ret;have hs:=HD.o.sat.chg;have hsz:=hs.size;refine⟨g,h,nbytes (ks.length:Int) 10,rfl,?_,by have:=HG.o;omega,by have:=HH.o;omega,(hs.tr HK8.o).own HK9.o (fun q hq=>by have e:q=h:=hq;have:=HH.o;omega),HBs.o⟩;have h9:=HF9.o;rw[HD.o.say] at h9;unfold bitsB;rw[<-HN.o,List.length_map];exact h9
theorem notmay_any (e:En) (w:World) (hk:e.key.2.2.length<=140737488355328) (hv:e.value.2.2.length<=140737488355328):
  Calls Tryz.prog 176 #[.agg #[.slice e.key.1 e.key.2.2.length e.key.2.1,.slice e.value.1 e.value.2.2.length e.value.2.1,.int .i64 e.seq,.bool e.dead]] w fun x w'=>x = .returned (.bool (!mayE e.ent))/\Chg No w w':=by
 have hs:=(Sat.start w).allocPt 120 #[.slice e.key.1 e.key.2.2.length e.key.2.1,.slice e.value.1 e.value.2.2.length e.value.2.1,.int .i64 e.seq,.bool e.dead];have c0:=hs.cell 0;have c1:=hs.cell 1;have c2:=hs.cell 2;have c3:=hs.cell 3;have HS:=ah hs;clear hs;go_enter Tryz.func176, Tryz.ntmps176;go_wp2_with (go_at_call 177;refine(lmay_any e _ hk hv).mono ?_;rintro x w1 ⟨rfl,k1⟩;have HK:=ah (HS.o.chg.tr k1);clear k1);go_ret;exact⟨rfl,HK.o⟩
theorem tindex_any (A:Option Addr) (c:Nat) (es:List En) (w:World) (h:RdV w A (es.flatMap enV)) (hc:es.length<=c) (hm:c<=maxLen) (hsh: ∀ e ∈ es,e.key.2.2.length<=140737488355328/\e.value.2.2.length<=140737488355328):
  Calls Tryz.prog 196 #[.slice A es.length c,.func (.func 176) #[] #[]] w fun x w'=>(∃ r:Int,x = .returned (.int .i64 r)/\decide (0<=r)=(es.map En.ent).any (fun e=> !mayE e))/\Chg No w w':=by
 have HL:=ah h;have HSh:=ah hsh;unfold maxLen at hm;clear h hsh;go_enter Tryz.func196, Tryz.ntmps196;go_wp2_with fail;go_loopw [8] (fun iv wr=> ∃ i:Nat,i<=es.length/\iv = .int .i64 i/\Hid ((∀ j (h:j<es.length),j<i->mayE es[j].ent=true)/\Chg No w wr)) (fun iv _=>es.length - (intOf iv).toNat)
 case atStart=>exact⟨0,by omega,rfl,fun j _ h=>by omega,Chg.refl _ _⟩
 case round=>
  obtain⟨i,hi,rfl,HD⟩:=hrel;by_cases hlt:i<es.length
  .obtain⟨lb,lo,rfl,hq⟩:=ents_at HL.o (by omega);obtain⟨z0,z1,z2,z3⟩:=hq i hlt;have a0:=HD.o.2.cell z0 id;have a1:=HD.o.2.cell z1 id;have a2:=HD.o.2.cell z2 id;have a3:=HD.o.2.cell z3 id;unfold slv' at a0 a1;have hs:=HSh.o _ (List.getElem_mem hlt);clear z0 z1 z2 z3 hq;obtain⟨B,hB⟩: ∃ B,mayE es[i].ent=B:=⟨_,rfl⟩;have HB:=ah hB;clear hB
   cases B
   .go_wp2_with (go_at_call 176;refine(notmay_any es[i] _ hs.1 hs.2).mono ?_;rintro x w1 ⟨rfl,k1⟩;rw[HB.o];have HK:=ah (HD.o.2.tr k1);clear k1);go_ret;refine⟨⟨i,rfl,?_⟩,HK.o⟩;rw[decide_eq_true (by omega)];exact(List.any_eq_true.2 ⟨es[i].ent,List.mem_map.2 ⟨es[i],List.getElem_mem _,rfl⟩,by rw[HB.o];rfl⟩).symm
   .go_wp2_with (go_at_call 176;refine(notmay_any es[i] _ hs.1 hs.2).mono ?_;rintro x w1 ⟨rfl,k1⟩;rw[HB.o];have HK:=ah (HD.o.2.tr k1);clear k1);go_roundw
    .refine⟨i+1,by omega,by push_cast;rfl,fun j h hj=>?_,HK.o⟩;by_cases e:j=i
     .subst e;exact HB.o
     .exact HD.o.1 j h (by omega)
    .simp[intOf];omega
  .go_wp2_with fail;go_ret;refine⟨⟨-1,rfl,?_⟩,HD.o.2⟩;rw[decide_eq_false (by omega)];symm;rw[List.any_eq_false];intro x hx;obtain⟨e,he,rfl⟩:=List.mem_map.1 hx;obtain⟨j,hj,rfl⟩:=List.getElem_of_mem he;rw[HD.o.1 j hj (by omega)];simp
theorem tcontains_any (A:Option Addr) (c:Nat) (es:List En) (w:World) (h:RdV w A (es.flatMap enV)) (hc:es.length<=c) (hm:c<=maxLen) (hsh: ∀ e ∈ es,e.key.2.2.length<=140737488355328/\e.value.2.2.length<=140737488355328):
  Calls Tryz.prog 175 #[.slice A es.length c,.func (.func 176) #[] #[]] w fun x w'=>x = .returned (.bool ((es.map En.ent).any (fun e=> !mayE e)))/\Chg No w w':=by
 have HL:=ah h;have HM:=ah hm;have HSh:=ah hsh;clear h hsh hm;go_enter Tryz.func175, Tryz.ntmps175;go_wp2_with (go_at_call 196;refine(tindex_any A c es _ HL.o hc HM.o HSh.o).mono ?_;rintro x w1 ⟨⟨r,rfl,hr⟩,k1⟩;have HR:=ah hr;have HK:=ah k1;clear hr k1);go_ret;refine⟨?_,HK.o⟩;rw[<-HR.o];rfl
end Go.Proofs.YtmbaiglpgaoogaaGreat
