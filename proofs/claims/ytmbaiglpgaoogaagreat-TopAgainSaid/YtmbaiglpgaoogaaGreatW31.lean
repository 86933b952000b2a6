/- Joined, as they were built one by one: Sto17 Sto18 Sto21. -/
import Derived.Test.YtmbaiglpgaoogaaGreatW12
import Derived.Test.YtmbaiglpgaoogaaGreatW15
import Derived.Test.YtmbaiglpgaoogaaGreatW18
import Derived.Test.YtmbaiglpgaoogaaGreatW21
import Derived.Test.YtmbaiglpgaoogaaGreatW24
import Derived.Test.YtmbaiglpgaoogaaGreatW27
import Derived.Test.YtmbaiglpgaoogaaGreatW28
import Derived.Test.YtmbaiglpgaoogaaGreatW29
import Derived.Test.YtmbaiglpgaoogaaGreatW30
set_option maxHeartbeats 16000000
set_option linter.unusedVariables false
set_option maxRecDepth 100000
namespace Go.Proofs.YtmbaiglpgaoogaaGreat
open Go.RowKit Go.Shelf Z
def J6 (Q:Exit->Act->World->Prop):Exit->Act->World->Prop
 | .panic _,_,_=>False
 | .normal,a,w=>Q .normal a w
 | .ret,a,w=>Q .ret a w
 | .exit i,a,w=>Q (.exit i) a w
 | .goto i,a,w=>Q (.goto i) a w
 | .outgrown,a,w=>Q .outgrown a w
theorem DF {Q:Exit->Act->World->Prop}: ∀ e a w,J6 Q e a w->Q e a w:=fun e a w h=>by
 cases e with
 | panic=>exact h.elim
 | _=>exact h
theorem ao.KM {w B:World} (h9:ao (C7 w.heap.size) w B) {Ad:Option Addr} {xs:List Value} (hr:aF w Ad xs):aF B Ad xs:=fun hx=>by
 obtain⟨b',o',e',hcell⟩:=hr hx;refine⟨b',o',e',fun j hj=>h9.cell (hcell j hj) (fun q=>?_)⟩;have h1:=World.block_lt_of_cell? w _ (hcell j hj);have h2:w.heap.size<=b':=q;have h3:b'<w.heap.size:=h1;omega
theorem Kept.rd {n:Nat} {A B:World} (k:Kept n A B) {Ad:Option Addr} {xs:List Value} (h:aF A Ad xs):aF B Ad xs:=fun hx=>by
 obtain⟨b,o,e,hc⟩:=h hx;exact⟨b,o,e,fun j hj=>k.cell (hc j hj)⟩
theorem Db (A:Option Addr) (n c:Nat) (w0 w:World) (F:SP) (h:Sat w0 F w):
 Calls Tryz.prog 155 #[.slice A n c,.int .i64 1024] w fun x w'=> ∃ bs bk,x = .returned (.func (.func 187) #[] #[.pointer (some ⟨bs,0,none⟩),.pointer (some ⟨bk,0,none⟩)])/\
  Sat w0 (Pt bk 3 #[.int .i64 1024]*(Pt bs 116 #[.slice A n c]*F)) w':=by
 have hs1:=h.ab 116 #[.slice A n c];have hs2:=hs1.bO (b:=w.heap.size+1) 3 #[.int .i64 1024] (by simp);have c0:=hs2.cell 0;have HS:=ah hs2;clear h hs1 hs2;go_enter Tryz.func155, Tryz.ntmps155;go_wp2_with fail;go_ret;exact⟨_,_,rfl,HS.o⟩
theorem sQ: ∀ l:List aq,(∀ e ∈ l,AO e)->oO l<=l.length*16512:=fun l=>by
 induction l with
 | nil=>intro _;exact Nat.le_refl _
 | cons e l ih=>
  intro h;have h1:=ih fun x hx=>h x (List.mem_cons_of_mem _ hx)
  have h2:=h e List.mem_cons_self;have h3:=h2.key;have h4:=h2.val;unfold oO at h1 ⊢;rw[List.map_cons,List.sum_cons,List.length_cons];omega
structure Lh (bb:Nat) (W:World) (T:List UInt8) (pre:List Jv) (B:World):Prop where
 aL:ao (fun i=>i=bb\/W.heap.size<=i) W B
 fro:B.frozen? ⟨bb,0,none⟩=false
 none_:pre=[]->B.cell? ⟨bb,0,none⟩=some (.slice none 0 0)
 some_:pre≠[]-> ∃ g cap cur,B.cell? ⟨bb,0,none⟩=some (.slice (some ⟨g,0,none⟩) T.length cap)/\B.heap[g]?=some (.cells cur 5 (0,0))/\W.heap.size<=g/\T.length<=cap/\cap<=maxLen/\cur.size=cap*1/\cur.toList.take (T.length*1)=T.map bv
 lt:bb<W.heap.size
attribute [local go_sem] Oper.semAt_some
theorem yQ (A:Option Addr) (c:Nat) (es:List En) (L:List aq) (w:World) (hL:es.map En.ak=L) (hI:fC L) (hn:es.length<=1024) (h:aF w A (es.flatMap bV)) (hr:jG w es) (hc:es.length<=c) (hm:c<=maxLen) (hcap: ∀ y ∈ es,G2 y):
 Calls Tryz.prog 123 #[.slice A es.length c] w fun x w'=> ∃ (B:Option Addr) (d:Nat),x = .returned (.tuple #[.slice B (ae L).length d,.int .i64 0])/\(ae L).length<=d/\d<=maxLen/\Sat w (Row 5 1 (.slice B (ae L).length d) (ae L).length ((ae L).map bv)*bF) w':=by
 have hs0:=(((Sat.start w).ab 41 #[.slice none 0 0]).bO (b:=w.heap.size+1) 24 #[.int .i64 0] (by simp)).bO (b:=w.heap.size+1+1) 41 #[.slice none 0 0] (by simp);obtain⟨W0,hW0⟩: ∃ W0,W0=((w.alloc (.cells #[.slice none 0 0] 41)).alloc (.cells #[.int .i64 0] 24)).alloc (.cells #[.slice none 0 0] 41):=⟨_,rfl⟩;rw[<-hW0] at hs0;obtain⟨r2,hr2⟩: ∃ r2,r2=w.heap.size:=⟨_,rfl⟩;obtain⟨r3,hr3⟩: ∃ r3,r3=w.heap.size+1:=⟨_,rfl⟩;obtain⟨bb,hbb⟩: ∃ bb,bb=w.heap.size+1+1:=⟨_,rfl⟩;rw[<-hbb, <-hr3, <-hr2] at hs0;have HS0:=ah hs0;have HW0:=ah hW0;have HR2:=ah hr2;have HR3:=ah hr3;have HBB:=ah hbb;clear hW0 hr2 hr3 hbb;have HL:=ah hL;have HI:=ah hI;have HR:=ah h;have HE:=ah hr;have HCap:=ah hcap;clear hs0 hL hI h hr hcap;refine(callsIn_wide (n:=12)).1 (callsIn_of_wp_marks Tryz.func123 rfl trivial (wpIn_wide.2 (wp_mono ?_ DF)) rfl);simp only[Tryz.ntmps123,List.size_toArray,List.length_cons,List.length_nil,Nat.reduceAdd,Nat.reduceSub,Array.replicate_succ,Array.replicate_zero,List.push_toArray,List.append_toArray,List.nil_append,List.cons_append];go_upto_region 2 with fail;rw[<-HW0.o, <-HBB.o, <-HR3.o, <-HR2.o];clear HW0 HBB HR3 HR2;go_wp2_with (go_at_call 155;(with_reducible refine(Db A es.length c w _ _ HS0.o).mono ?_);rintro e W ⟨bs,bk,rfl,hs⟩;have HS4:=ah hs;clear hs);have hsz:bb<W.heap.size:=(HS4.o.bp.lt);have b0:W.cell? ⟨bb,0,none⟩=some (.slice none 0 0):=HS4.o.bp.cell 0;have b1:W.frozen? ⟨bb,0,none⟩=false:=HS4.o.bp.frozen 0;have HB0:=ah b0;have HB1:=ah b1;obtain⟨T,hT⟩: ∃ T,T=ai (aM L).length 4++aM L:=⟨_,rfl⟩;have HT:=ah hT;obtain⟨N,hN⟩: ∃ N,N=if es.length=0 then 0 else 1:=⟨_,rfl⟩;have HN:=ah hN;have hbd:=HI.o.build (by have:=congrArg List.length HL.o;rw[List.length_map] at this;omega);have HBd:=ah hbd;clear b0 b1 hT hN hbd HS0;refine(wpIn_wide (n:=12)).1 (DS (ps:=_) (gf:= 187) (lb:= #[.pointer (some ⟨bs,0,none⟩),.pointer (some ⟨bk,0,none⟩)]) bb hsz rfl (enters_of Tryz.func187 (by kernel_rfl) rfl) (encs:=fun x:Jv=> #[.slice x.1 es.length x.2]) (fun _=>rfl)
  (fun pre x B=>pre=[]/\aF B x.1 (es.flatMap bV)/\jG B es/\es.length<=x.2/\x.2<=maxLen) (fun xs=>xs.length=N) ?seq
  (fun pre B=>Hid (Lh bb W T pre B)) ?hI ?h0 ?round ?done)
 case seq=>
  intro l J V hl kV hJ hY h0;refine CZ bs bk A c es V (fun B=>ao (fun i=>i=bb\/W.heap.size<=i) W B) (fun B hB=>?_) hc hm hn N HN.o bb l (fun A' B hA k=>?_) J (kV.mono fun i _ h=>h.elim) hJ hY h0
  .have hbs:bs<W.heap.size:=HS4.o.ay.lt;have hbk:bk<W.heap.size:=HS4.o.lt;have hbs2:bs≠bb:=HS4.o.right.ay.ne.symm;have hbk2:bk≠bb:=HS4.o.bo.ne;have hwo:w.heap.size<=bb:=HS4.o.bp.base;refine⟨hB.cell (HS4.o.ay.cell 0) (fun h=>?_),hB.cell (HS4.o.cell 0) (fun h=>?_),?_,?_⟩
   .rcases h with h | h
    .exact hbs2 h
    .have:W.heap.size<=bs:=h;omega
   .rcases h with h | h
    .exact hbk2 h
    .have:W.heap.size<=bk:=h;omega
   .have h9:ao (C7 w.heap.size) w B:=(HS4.o.aL.no).tr (hB.mono fun i _ hi=>by
     rcases hi with hi | hi
     .show w.heap.size<=i;omega
     .have:=HS4.o.size;show w.heap.size<=i;omega)
    exact h9.KM HR.o
   .have h9:ao (C7 w.heap.size) w B:=(HS4.o.aL.no).tr (hB.mono fun i _ hi=>by
     rcases hi with hi | hi
     .show w.heap.size<=i;omega
     .have:=HS4.o.size;show w.heap.size<=i;omega)
    exact fun e he=>⟨h9.KM (HE.o e he).1,h9.KM (HE.o e he).2⟩
  .exact hA.tr (k.mono fun i _ h=>by
    rcases h with h | h
    .exact .inl h
    .exact .inr (by have:=kV.size;omega))
 case hI=>
  intro pre A' B h k;obtain⟨h1,h2,h3,h4,h5⟩:=h.o;have hno:¬ C7 W.heap.size bb:=fun q=>by have:W.heap.size<=bb:=q;omega
  refine⟨h1.tr (k.aL.mono fun i _ h=> .inr h),(k.aL.frozen (p:=⟨bb,0,none⟩) (by have:=h1.size;show bb<_;omega) hno).trans h2,fun hp=>k.aL.cell (h3 hp) hno,fun hp=>?_,h5⟩;obtain⟨g,cap,cur,g1,g2,g3⟩:=h4 hp;exact⟨g,cap,cur,k.aL.cell g1 hno,k.rows _ _ _ _ g2,g3⟩
 case h0=>exact⟨ao.refl _ _,HB1.o,fun _=>HB0.o,fun h=>absurd rfl h,hsz⟩
 case round=>
  intro l pre x A1 hl hi hok;obtain⟨hp0,hx1,hx2,hx3,hx4⟩:=hok;subst hp0;obtain⟨xa,xc⟩:=x;dsimp only at hx1 hx3 hx4;have HI1:=ah hi.o;have HX1:=ah hx1;have HX2:=ah hx2;have hxc:=hx4;unfold maxLen at hxc;have HX4:=ah hx4;clear hi hx1 hx2 hx4;dsimp only
  gi_wp2
  refine⟨ao.refl No _,?_⟩;intro A2 k2 hc2;have hno:¬ C7 W.heap.size bb:=fun q=>by have:W.heap.size<=bb:=q;omega
  have hbA1:bb<A1.heap.size:=by have:=HI1.o.aL.size;omega
  have m0:A2.cell? ⟨bb,0,none⟩=some (.slice none 0 0):=k2.aL.cell (HI1.o.none_ rfl) hno;have m1:A2.frozen? ⟨bb,0,none⟩=false:=(k2.aL.frozen (p:=⟨bb,0,none⟩) hbA1 hno).trans HI1.o.fro;have hbA2:bb<A2.heap.size:=by have:=k2.aL.size;omega
  have HBl:=ah (KQ xa xc es L HL.o HBd.o HI.o.seq A2 (k2.rd HX1.o) (fun e he=>⟨k2.rd (HX2.o e he).1,k2.rd (HX2.o e he).2⟩) hx3 HX4.o HCap.o);have HK2:Hid (ao (fun i=>i=bb\/W.heap.size<=i) W A2):=HI1.o.aL.tr (k2.aL.mono fun i _ h=> .inr h);have hmix: Tryz.prog.follows Departure.mixedOrders=true:=by kernel_rfl
  clear k2 hc2 hbA1
  gi_wp2_with (refine⟨trivial,?_⟩;gi_at_call 142;refine(CallsIn.inRound l (callsIn_wide.2 HBl.o)).mono ?_;rintro y w5 ⟨B5,d5,rfl,hb5,hd5,hs5⟩;have HS5:=ah hs5;have HB5:=ah hb5;have HD5:=ah hd5;clear hs5 hb5 hd5)
  obtain⟨t,ht⟩: ∃ t,t=(aM L).length:=⟨_,rfl⟩;have HTt:=ah ht;have htb:t<=140737488355328:=by rw[ht];exact pr HBd.o
  have htb2:t<=4000000000:=by
   have h1:=nH L fun e he=>⟨(HI.o.each e he).1.key.2,(HI.o.each e he).1.val⟩
   have h2:=sQ L fun e he=>(HI.o.each e he).1
   have h3:=congrArg List.length HL.o;rw[List.length_map] at h3;omega
  have hw:IntKind.u64.wrap (t:Int)=t:=by rw[IntKind.wrap_u64];omega
  rw[<-ht] at HS5 HB5;rw[<-ht];clear ht;have m0':w5.cell? ⟨bb,0,none⟩=some (.slice none 0 0):=HS5.o.aL.cell m0 id;have m1':w5.frozen? ⟨bb,0,none⟩=false:=(HS5.o.aL.frozen (p:=⟨bb,0,none⟩) hbA2 id).trans m1;obtain⟨P4,hP4⟩: ∃ P4,P4=ai t 4:=⟨_,rfl⟩;have HP4:=ah hP4;have hp4:P4.length=4:=by rw[hP4,aw]
  have HPl:=ah hp4;have HPu:Hid (∀ W',ao No w5 W'->Calls Tryz.prog 117 #[.int .u64 (t:Int),.int .i64 4] W' (xz A2 (Row 5 1 (.slice B5 t d5) t ((aM L).map bv)*bF) P4)):=fun W' k=>by rw[hP4];exact bS t 4 (by omega) (by omega) (by omega) A2 W' _ (HS5.o.new k)
  have HDrew:Hid (ao No w5 w5.drew):=(ao.refl No w5).drew;have M0:=ah m0';have M1:=ah m1';have HbA:=ah hbA2;have HC5:=ah HS5.o.aL;have M00:=ah m0;have M11:=ah m1;clear hP4 hp4 m0 m1;obtain⟨j0,hj,hy0,hy1,hy2⟩:=info_parts iw;have hfl: ∀ l:List UInt8,(l.map bv).length=l.length*1:=fun l=>by rw[List.length_map,Nat.mul_one]
  have hone: ∀ l:List UInt8, ∀ u ∈ l.map bv,u.oneCell'=true:=fun l u hu=>by obtain⟨x,_,rfl⟩:=List.mem_map.1 hu;rfl
  have Hj:=ah hj;have Hy0:=ah hy0;have Hy1:=ah hy1;have Hy2:=ah hy2;have Hfl:=ah hfl;have Hone:=ah hone;have hp44:P4.length<=4:=Nat.le_of_eq HPl.o;clear hj hy0 hy1 hy2 hfl hone;refine rj (z:=8) (S:=fun w'=>w'.cell? ⟨bb,0,none⟩=some (.slice none 0 0)) (by kernel_rfl) (by kernel_rfl) (by rintro ⟨a',w',h'⟩;exact h') (by exact m0') ?_;intro hS0;refine mW 0 ?_;refine mW 1 ?_;refine mW 2 ?_;refine mW 3 ?_;refine mW 6 ?_;refine Gm 4 fun K hK=>?_
  go_simp;go_at_call 117;(with_reducible refine(HPu.o _ HDrew.o).mono ?_);rintro y w6 ⟨B6,d6,rfl,hl6,hx6,hs6⟩;have HS6:=ah hs6;clear hl6 hx6 hs6
  refine hK.out _ _ (HS6.o.aL.cell M00.o id) (fun hS0=>?_);clear hK K;refine Gm 5 fun K hK=>?_
  refine aQ rfl (.tmp 19) (.tmp 23) 41 rfl 5 j0 _ 1 1 Tryz.underlying41 Hj.o Hy0.o Hy1.o Hy2.o rfl (by decide) (.slice none 0 0) 0 [] rfl A2 _ (by exact HS6.o.aN 5 1) B6 P4.length d6 (P4.map bv) rfl (by exact HS6.o.cj) (by exact Hfl.o P4) (by exact Hone.o P4) (by unfold maxLen;omega) (by omega) ?_;intro A7 c7 w7 hs7;rw[Nat.zero_add,List.nil_append] at hs7;rw[Nat.zero_add];have HS7:=ah hs7;clear hs7;refine hK.out _ _ (HS7.o.aL.cell M00.o id) (fun hS0=>?_);clear hK K
  try simp only[Act.put,et,eh,ep]
  refine Gm 7 fun K hK=>?_
  refine aQ rfl (.tmp 24) (.tmp 25) 41 rfl 5 j0 _ 1 1 Tryz.underlying41 Hj.o Hy0.o Hy1.o Hy2.o rfl (by decide) (.slice A7 P4.length c7) P4.length (P4.map bv) rfl A2 _ (by exact HS7.o) B5 t d5 ((aM L).map bv) rfl (by exact HS7.o.bp.cj) (by rw[Hfl.o, <-HTt.o]) (by exact Hone.o _) (by unfold maxLen;omega) (by omega) ?_;intro A8 c8 w8 hs8;have HS8:=ah hs8.bo.bo;have m8:=hs8.aL.cell M00.o id;have g8:=(hs8.aL.frozen (p:=⟨bb,0,none⟩) HbA.o id).trans M11.o;clear hs8;refine hK.out _ _ (HS8.o.aL.cell M00.o id) (fun hS0=>?_);clear hK K
  try simp only[Act.put,et,eh,ep]
  refine te rfl (by kernel_rfl) (by kernel_rfl) (fun K hK=>?_);go_simp;refine hK.out _ _ ?_;clear hK K;have hk8:ao (One bb) A2 (w8.setCell ⟨bb,0,none⟩ (.slice A8 (P4.length+t) c8)):=ao.setCell (S:=One bb) (HS8.o.aL.mono fun _ _ h=>h.elim) (p:=⟨bb,0,none⟩) (fun _=>rfl) _;refine⟨hk8,HK2.o.tr (hk8.mono fun i _ h=> .inl h),by rw[World.frozen?_setCell];exact g8,fun h=>absurd h (by simp),fun _=>?_,HI1.o.lt⟩;have hTl:P4.length+t=T.length:=by rw[HT.o,HPl.o,HTt.o,List.length_append,aw]
  rcases HS8.o.aO with ⟨hl8,⟨_,h0⟩ | ⟨g,cap,cur,hv,hg,hb8,h1,h2,h3,h4⟩⟩
  .have:=HPl.o;omega
  .injection hv with hv1 hv2 hv3
   subst hv1;subst hv3;refine⟨g,c8,cur,?_,?_,?_,?_,h2,h3,?_⟩
   .rw[<-hTl];exact World.cell?_setCell_same' w8 ⟨bb,0,none⟩ _ (by rw[m8];rfl)
   .have hne:g≠bb:=by have:=hbA2;omega
    exact(Below.heap_setCell w8 ⟨bb,0,none⟩ _ g hne).trans hb8
   .have:=HK2.o.size;omega
   .rw[<-hTl];exact h1
   .rw[<-hTl,h4, <-List.map_append,HT.o,HP4.o,HTt.o]
 case done=>
  intro D xs B hD hS hI hK;have hbA:bb<B.heap.size:=by have:=hI.o.aL.size;omega
  have hNl:xs=[]↔es.length=0:=by
   have h1:=HN.o;rw[<-List.length_eq_zero_iff,hS,h1];by_cases hq:es.length=0
   .rw[if_pos hq];exact⟨fun _=>hq,fun _=>rfl⟩
   .rw[if_neg hq];exact⟨fun h=>absurd h (by decide),fun h=>absurd h hq⟩
  have hLl:L.length=es.length:=by rw[<-HL.o,List.length_map]
  have hbase:w.heap.size<=bb:=HS4.o.bp.base;have hr2s:w.heap.size<=r2:=HS4.o.fN.base;have hr3s:w.heap.size<=r3:=HS4.o.bL.base;have hr2w:r2<W.heap.size:=HS4.o.fN.lt;have hr3w:r3<W.heap.size:=HS4.o.bL.lt;have hne23:r3≠r2:=HS4.o.right.right.right.ne;have hb3:bb≠r3:=HS4.o.right.right.ne;have hb2:bb≠r2:=HS4.o.right.right.bo.ne;have hws:w.heap.size<=W.heap.size:=HS4.o.size;have hDW:W.heap.size<=D:=hD;have hWB:W.heap.size<=B.heap.size:=hI.o.aL.size;have hDB:D<B.heap.size:=lt_of_block hK;have hkB:ao No w B:=HS4.o.aL.own hI.o.aL fun i hi=>by
   rcases hi with hi | hi
   .omega
   .have:W.heap.size<=i:=hi;omega
  have c2:B.cell? ⟨r2,0,none⟩=some (.slice none 0 0):=hI.o.aL.cell (HS4.o.fN.cell 0) (fun h=>by
   rcases h with h | h
   .exact hb2 h.symm
   .have:W.heap.size<=r2:=h;omega)
  have f2:B.frozen? ⟨r2,0,none⟩=false:=(hI.o.aL.frozen (p:=⟨r2,0,none⟩) hr2w (fun h=>by
   rcases h with h | h
   .exact hb2 h.symm
   .have:W.heap.size<=r2:=h;omega)).trans (HS4.o.fN.frozen 0)
  have c3:B.cell? ⟨r3,0,none⟩=some (.int .i64 0):=hI.o.aL.cell (HS4.o.bL.cell 0) (fun h=>by
   rcases h with h | h
   .exact hb3 h.symm
   .have:W.heap.size<=r3:=h;omega)
  have f3:B.frozen? ⟨r3,0,none⟩=false:=(hI.o.aL.frozen (p:=⟨r3,0,none⟩) hr3w (fun h=>by
   rcases h with h | h
   .exact hb3 h.symm
   .have:W.heap.size<=r3:=h;omega)).trans (HS4.o.bL.frozen 0)
  obtain⟨Bd,d,hVB,hd1,hd2,hV⟩: ∃ Bd d,B.cell? ⟨bb,0,none⟩=some (.slice Bd (ae L).length d)/\(ae L).length<=d/\d<=maxLen/\ ∀ C,ao (fun i=>i=r2\/i=r3\/i=D) B C->ao No w C->Sat w (Row 5 1 (.slice Bd (ae L).length d) (ae L).length ((ae L).map bv)*bF) C:=by
   by_cases hq:xs=[]
   .have hL0:L=[]:=List.eq_nil_of_length_eq_zero (by rw[hLl];exact hNl.1 hq);rw[hL0];exact⟨none,0,hI.o.none_ hq,Nat.le_refl _,Nat.zero_le _,fun C _ k=>(Sat.start w |>.dP k ⟨by rfl,.inl ⟨rfl,rfl⟩⟩)⟩
   .obtain⟨g,cap,cur,h1,h2,h3,h4,h5,h6,h7⟩:=hI.o.some_ hq;have hpk:ae L=T:=by
     rw[HT.o]
     cases hL1:L with
     | nil=>exact absurd (hNl.2 (by rw[<-hLl,hL1];rfl)) hq
     | cons e L'=>rfl
    rw[hpk];refine⟨_,cap,h1,h4,h5,fun C k1 k2=>Sat.start w |>.dP k2 ⟨by rw[List.length_map,Nat.mul_one],.inr ⟨g,cap,cur,rfl,by omega,?_,h4,h5,h6,h7⟩⟩⟩;refine(k1.block g (lt_of_block h2) ?_).trans h2;rintro (h | h | h)
    .omega
    .omega
    .rw[h,hK] at h2;cases h2
  have HHV:=ah hV;have HKD:=ah hK;have HKB:=ah hkB;have HD1:=ah hd1;have HD2:=ah hd2;clear hI hV hK hkB hd1 hd2 hNl hLl;go_wp2_with fail;obtain⟨C,hC⟩: ∃ C,(B.setCell ⟨r2,0,none⟩ (.slice Bd (ae L).length d)).setCell ⟨r3,0,none⟩ (.int .i64 0)=C:=⟨_,rfl⟩;rw[hC];have k1:ao (fun i=>i=r2\/i=r3\/i=D) B C:=by
   rw[<-hC];exact ao.setCell (ao.setCell (ao.refl _ _) (p:=⟨r2,0,none⟩) (fun _=> .inl rfl) _) (p:=⟨r3,0,none⟩) (fun _=> .inr (.inl rfl)) _
  have k2:ao (fun i=>i=r2\/i=r3) B C:=by
   rw[<-hC];exact ao.setCell (ao.setCell (ao.refl _ _) (p:=⟨r2,0,none⟩) (fun _=> .inl rfl) _) (p:=⟨r3,0,none⟩) (fun _=> .inr rfl) _
  have hK':=(k2.block D hDB (fun e=>by rcases e with e | e<;>omega)).trans HKD.o;have g3:C.cell? ⟨r3,0,none⟩=some (.int .i64 0):=by
   rw[<-hC];exact World.cell?_setCell_same' _ ⟨r3,0,none⟩ _ (by rw[show (B.setCell ⟨r2,0,none⟩ _).cell? ⟨r3,0,none⟩=some (.int .i64 0) from (ao.setCell (S:=One r2) (ao.refl _ _) (p:=⟨r2,0,none⟩) (fun _=>rfl) _).cell c3 (fun e=>hne23 e)];rfl)
  have g2:C.cell? ⟨r2,0,none⟩=some (.slice Bd (ae L).length d):=by
   rw[<-hC];exact(ao.setCell (S:=One r3) (ao.refl _ _) (p:=⟨r3,0,none⟩) (fun _=>rfl) _).cell (World.cell?_setCell_same' B ⟨r2,0,none⟩ _ (by rw[c2];rfl)) (fun e=>hne23 e.symm)
  refine⟨by simp,.inl ⟨_,_,rfl,run_takeDeferred hK',?_⟩⟩;have e2:=(pg hK' rfl rfl (o':= .deferred none) ⟨r2,0,none⟩).trans g2;have e3:=(pg hK' rfl rfl (o':= .deferred none) ⟨r3,0,none⟩).trans g3;refine⟨.tuple #[.slice Bd (ae L).length d,.int .i64 0],?_,Bd,d,rfl,HD1.o,HD2.o,HHV.o _ (k1.tr ((lC C D (.deferred none)).mono fun i _ (hi:i=D)=> .inr (.inr hi))) ((HKB.o.own k1 fun i hi=>by rcases hi with hi | hi | hi<;>omega).own (lC C D _) fun i hi=>by have e':i=D:=hi;omega)⟩;simp[results, Tryz.f123,go_sem,e2,e3]
end Go.Proofs.YtmbaiglpgaoogaaGreat
namespace Go.Proofs.YtmbaiglpgaoogaaGreat
open Go.RowKit Z
theorem vG {w0 w:World} {F:SP}: ∀ {es:List En},Sat w0 (aT es*F) w-> ∀ e ∈ es,G2 e
 | [],_=>by simp
 | e::es,h=>by
  have h1:Sat w0 (Row 5 1 (aJ e.key) e.key.2.2.length (e.key.2.2.map bv)*(Row 5 1 (aJ e.value) e.value.2.2.length (e.value.2.2.map bv)*(aT es*F))) w:=h.of (by
   show Row _ _ _ _ _*(Row _ _ _ _ _*aT es)*F=_
   ac_rfl)
  intro x hx;rcases List.mem_cons.1 hx with rfl | hx
  .exact EV h1 x.seq x.dead
  .exact vG h1.right.right x hx
theorem iL {w0 w:World} {F:SP} {g o:Nat} {t:TypeId} {cs:Array Value} (h:Sat w0 (Pt g t cs*F) w) {xs:List Value} (hx: ∀ j (hj:j<xs.length),cs[o+j]?=some xs[j]):aF w (some ⟨g,o,none⟩) xs:=
 fun _=>⟨g,o,rfl,fun j hj=>by rw[h.cell (o+j)];exact hx j hj⟩
section
variable {w0 w:World} {F:SP}
def zP (w0:World) (F:SP) (b d s:Nat) (v:Sd) (n:Nat) (D:Dk) (lim i:Nat) (E:List aq) (bs:List (List cE)) (x:Ending) (w':World):Prop:=
 (∃ sl tu lo' a' b' D' sf',x = .returned (.int .i64 0)/\iI n D' sl tu lo' a' b' [] none sf' (lim+2) (i+2) (cR v.L) [] 0/\(∀ m,dq D m->dq D' (m+9000))/\D'.armed<=D.armed/\Sat w0 (dG b d s { v with log:=v.log+2 }*(ag s d (bU sl tu n (i+2) lo' a' b' (aj (ae (cR v.L))) [] none)*(af d D'*F))) w')\/
 (∃ S' D',x = .returned (.int .i64 21)/\D.armed≠0/\D'.off=true/\Eb n D' (lim+3) i E (cR v.L) bs/\(∀ m,dq D m->dq D' (m+9000))/\D'.cells.length=n/\Sat w0 (dG b d s v*(ag s d S'*(af d D'*F))) w')
theorem AS (b d s:Nat) (v:Sd) (n slot turn:Nat) (D:Dk) (lo:Bool) (fa fb:Nat × Nat) (LF:List (List UInt8)) (sf:Nat->Nat) (lim i:Nat) (E:List aq) (bs:List (List cE)) (M:List Kv) (t m:Nat)
 (hd:iI n D slot turn lo fa fb LF none sf lim i E bs bs.length) (hm:cG v.L v.seq M t) (ht:t<=1024) (hlog:v.log=i+1) (hsz:cI M+400<=aC n*480) (hlim:lim+4<=1000000000) (hi:i<=1000000000) (hc:dq D m) (hmm:m<=900000000) (ha:D.armed<=9223372036854775807)
 (h:Sat w0 (dG b d s v*(ag s d (bU slot turn n i lo fa fb (aj (ae E)) LF none)*(af d D*F))) w):
 Calls Tryz.prog 73 #[.pointer (some ⟨b,0,none⟩)] w (zP w0 F b d s v n D lim i E bs):=by
 obtain⟨lg,L,sq,sn,bP,nx⟩:=v;obtain⟨tb,hr,mb,ns,⟨hT,he⟩,hs0⟩:=h.db;dsimp only at hm hlog hT he;have hs:=hs0.of (eM ..);dsimp only at hs;obtain⟨hi1,hi2,hi3,hi4⟩:=hm.uL;have hfr:=oT.aa (n:=n) (t:=t) (q:=sq) (bs:=[]) (E:=cR L) (by rw[hi2];exact hsz) hi1;have hLl:=hm.len;have hpw:L.Pairwise dE:=hm.sort;have hln: ∀ x ∈ L,x.key.length<=200/\x.value.length<=20000:=fun x hx=>by
  have h1:=(hm.each x hx).key;have h2:=(hm.each x hx).val;omega
 have c3:w.cell? ⟨b,3,none⟩=some (.pointer (some ⟨tb,0,none⟩)):=hs.cell 3;have hlv:=tz 0 tb hr ns w (hs.ay.view hT.ok) hT.ok (hT.small (by omega));rw[wQ hT,he] at hlv;obtain⟨G,hG⟩: ∃ G,G=Pt b 113 (ef d s lg tb sq mb nx false)*(bE tb hr ns*(bT Tryz.prog 3 mb bP (iH sn)*(ag s d (bU slot turn n i lo fa fb (aj (ae E)) LF none)*(af d D*F)))):=⟨_,rfl⟩;rw[<-hG] at hs;have HLl:Hid (L.length<=1024):=Nat.le_trans hLl ht;have HLv:=ah hlv;have HS:=ah hs;have HT:=ah hT;have HE:=ah he;have HPw:=ah hpw;have HLn:=ah hln;have HG:=ah hG;have HI1:=ah hi1;have HFr:=ah hfr;have HI3:=ah hi3;have HDs:=ah hd;have HCn:=ah hc;have HAr:=ah ha;have HLg:=ah hlog;have HI:=ah hi;have HLim:=ah hlim;have HM:=ah hmm;have HMost:=ah (And.intro hd.big hd.aG);have HLen:=ah hd.len;have HThA:Hid (∀ (es:List En) A c W,es.map En.ak=L->Sat w0 (Row 120 4 (.slice A es.length c) es.length (es.flatMap bV)*(aT es*G)) W->Calls Tryz.prog 121 #[.slice A es.length c,.bool true,.slice none 0 0] W (E5 W (cR L))):=fun es A c W hes hW=>by
  obtain⟨A',c',hsl,hc1,hc2⟩:=hW.bm;injection hsl with e1 e2 e3
  subst e1;subst e3;have hel:es.length=L.length:=by rw[<-hes,List.length_map]
  have h9:=vT true A c es none 0 [] W hW.cj (fO hW.right) hc1 hc2 (by omega) (fun e he=>(by have:=HLn.o e.ak (by rw[<-hes];exact List.mem_map_of_mem he);have h1:e.key.2.2.length<=200:=this.1;have h2:e.value.2.2.length<=20000:=this.2;omega)) (fun hne=>absurd rfl hne) (by simp) (by rw[hes];exact HPw.o);rw[hes] at h9;exact h9
 have HPk:Hid (∀ (ts:List En) A c W,ts.map En.ak=cR L->Sat w0 (Row 120 4 (.slice A ts.length c) ts.length (ts.flatMap bV)*(aT ts*G)) W->Calls Tryz.prog 123 #[.slice A ts.length c] W fun x w'=> ∃ (B:Option Addr) (bc:Nat),x = .returned (.tuple #[.slice B (ae (cR L)).length bc,.int .i64 0])/\(ae (cR L)).length<=bc/\bc<=maxLen/\Sat w0 (Row 5 1 (.slice B (ae (cR L)).length bc) (ae (cR L)).length ((ae (cR L)).map bv)*G) w'):=fun ts A c W hts hW=>by
  obtain⟨A',c',hsl,hc1,hc2⟩:=hW.bm;injection hsl with e1 e2 e3
  subst e1;subst e3;have hel:ts.length=(cR L).length:=by rw[<-hts,List.length_map]
  refine(yQ A c ts (cR L) W hts HI1.o (by have:=HI3.o;omega) hW.cj (fO hW.right) hc1 hc2 (vG hW.right)).mono ?_;rintro x w' ⟨B,bc,rfl,hb1,hb2,hs'⟩;refine⟨B,bc,rfl,hb1,hb2,?_⟩;have h8:=hW.join hs' (ba (bH _ _ _ _ _) df);exact(h8.of (show _=Row 120 4 (.slice A ts.length c) ts.length (ts.flatMap bV)*(aT ts*(Row 5 1 (.slice B (ae (cR L)).length bc) (ae (cR L)).length ((ae (cR L)).map bv)*G)) by rw[cD _ bF,bf];ac_rfl)).right.right
 show Calls _ _ _ _ (zP w0 F b d s ⟨lg,L,sq,sn,bP,nx⟩ n D lim i E bs);have hlg:lg<=1000000001:=by omega
 have hlg1:1<=lg:=by omega
 have hw2:IntKind.i64.wrap ((lg:Int)+2)=(lg:Int)+2:=by rw[IntKind.wrap_i64];omega
 have hw1:IntKind.i64.wrap ((lg:Int) - 1)=(lg:Int) - 1:=by rw[IntKind.wrap_i64];omega
 obtain⟨bl,hbl⟩: ∃ bl,bl=(ae (cR L)).length:=⟨_,rfl⟩;rw[<-hbl] at HPk;have HBl:=ah hbl;clear h hs0 hs hpw hln hlv hT he hm hd hc ha hlog hsz hi1 hi2 hi3 hi4 hfr hlim hi hmm hLl hG ht hbl;go_enter Tryz.func73, Tryz.ntmps73;go_upto_region 2 with (first
  | (go_at_call 122;(with_reducible refine HLv.o.mono ?_);rintro e w1 ⟨es,A,c,rfl,hes,hs1⟩;have HS1:=ah ((HS.o.join hs1 (ba (bH _ _ _ _ _) (cN _))).of (aB _ _ _));have HES:=ah hes;clear hes hs1)
  | (go_at_call 121;(with_reducible refine(HThA.o _ _ _ _ HES.o HS1.o).mono ?_);rintro e w3 ⟨ts,TA,tc,rfl,hts,hs3⟩;have HS3:=ah (HS1.o.join hs3 (ba (bH _ _ _ _ _) (ba (cN _) df)));have HTs:=ah hts;clear hts hs3))
 have HS4:Hid (Sat w0 (Row 120 4 (.slice TA ts.length tc) ts.length (ts.flatMap bV)*(aT ts*G)) w3):=(HS3.o.of (show _=Row 120 4 (.slice A es.length c) es.length (es.flatMap bV)*(aT es*(Row 120 4 (.slice TA ts.length tc) ts.length (ts.flatMap bV)*(aT ts*G))) by rw[cD _ bF,bf];ac_rfl)).right.right;clear c3 HLv HS HS1 HS3 HThA HES HLn HPw;go_upto_region 5 with (go_at_call 123;(with_reducible refine(HPk.o _ _ _ _ HTs.o HS4.o).mono ?_);rintro e w5 ⟨B,bc,rfl,hb1,hb2,hs5⟩;have HS5:=ah hs5;have HB1:=ah hb1;have HB2:=ah hb2;clear hb1 hb2 hs5)
 obtain⟨H,hH⟩: ∃ H,H=Row 5 1 (.slice B bl bc) bl ((ae (cR L)).map bv)*(bE tb hr ns*(bT Tryz.prog 3 mb bP (iH sn)*F)):=⟨_,rfl⟩;have HHe:=ah hH;have HS6:Hid (Sat w0 (Pt b 113 (ef d s lg tb sq mb nx false)*(ag s d (bU slot turn n i lo fa fb (aj (ae E)) LF none)*(af d D*H))) w5):=HS5.o.of (by rw[HG.o,hH];ac_rfl);have HRb:Hid (∀ W,Sat w0 H W->Rd W B (ae (cR L))):=fun W hW=>by rw[hH] at hW;exact hW.cj
 have hbl4:bl<=4200000:=by
  have h1:=HFr.o;rw[qS, <-HBl.o] at h1;have:=(jA HMost.o.2).2.1;omega
 have HFi:Hid (∀ W,ao No w5 W->Calls Tryz.prog 54 #[.pointer (some ⟨d,0,none⟩),.int .i64 ((lg:Int)+2)] W fun e w'=> ∃ g,e = .returned (.slice (some ⟨g,0,none⟩) 2 2)/\Sat w0 (Pt g 128 #[.int .i64 ((i:Int)+2),.int .i64 0,.int .i64 (aC n:Nat),.int .i64 ((i:Int)+3),.int .i64 0,.int .i64 (bj n:Nat)]*(Pt b 113 (ef d s lg tb sq mb nx false)*(ag s d (bU slot turn n i lo fa fb (aj (ae E)) LF none)*(af d D*H)))) w'):=fun W k=>by
  refine(vq n (lg+2) HMost.o HLen.o (by omega) (HS6.o.new k).bp).mono ?_;rintro e w' ⟨g,rfl,hs'⟩;refine⟨g,rfl,?_⟩;have e1:((lg+2:Nat):Int)=(i:Int)+3:=by have:=HLg.o;omega
  have e2:(i:Int)+3 - 1=(i:Int)+2:=by omega
  rw[e1,e2] at hs';exact hs'.of (by ac_rfl)
 have HDrew5:Hid (ao No w5 w5.drew):=(ao.refl No w5).drew;have C0:=ah (HS6.o.cell 0);have C2:=ah (HS6.o.cell 2);clear hH HPk HS4 HS5 HTs HI1 HI3;refine wp_region_held_drew (S:=fun w'=>w'.cell? ⟨b,0,none⟩=some (.pointer (some ⟨d,0,none⟩))/\w'.cell? ⟨b,2,none⟩=some (.int .i64 (lg:Int))) (by kernel_rfl) ⟨(by exact C0.o),(by exact C2.o)⟩ ?_;intro hS0;refine an 0 1 2 3 ?_;refine an 4 5 6 7 ?_;refine ca 8 ?_;refine bC 9 fun K hK=>?_
 go_simp;go_at_call 54;(with_reducible refine(HFi.o _ HDrew5.o).mono ?_);rintro e w7 ⟨g,rfl,hs7⟩;have HS7:=ah hs7;clear hs7
 refine hK.out _ _ ⟨HS7.o.ay.cell 0,HS7.o.ay.cell 2⟩ (fun hS0=>?_);clear hK K;refine ca 10 ?_;refine wpAnyH_done (by kernel_rfl) ?_ _;go_upto_region 6 with fail;have hswt: ∀ W,Sat w0 (Pt g 128 #[.int .i64 ((i:Int)+2),.int .i64 0,.int .i64 (aC n:Nat),.int .i64 ((i:Int)+3),.int .i64 0,.int .i64 (bj n:Nat)]*(Pt b 113 (ef d s lg tb sq mb nx false)*(ag s d (bU slot turn n i lo fa fb (aj (ae E)) LF none)*(af d D*H)))) W->Calls Tryz.prog 55 #[.pointer (some ⟨s,0,none⟩),.slice (some ⟨g,0,none⟩) 1 2,.slice none 0 0] W (Jx w0 (Pt g 128 #[.int .i64 ((i:Int)+2),.int .i64 0,.int .i64 (aC n:Nat),.int .i64 ((i:Int)+3),.int .i64 0,.int .i64 (bj n:Nat)]*(Pt b 113 (ef d s lg tb sq mb nx false)*H)) s d ((bU slot turn n i lo fa fb (aj (ae E)) LF none).switch [⟨(i:Int)+2,0,aC n⟩] [] D)):=fun W hW=>by
  refine iS (some ⟨g,0,none⟩) 2 [⟨(i:Int)+2,0,aC n⟩] none 0 [] HDs.o.good (by have:=HLim.o;omega) (hW.of (by ac_rfl)) (fun W' hW'=>iL hW' (fun j hj=>?_)) (fun _ _ hne=>absurd rfl hne) (by simp) (by simp) (by simp) (fun f hf=>?_) (by simp) (by have:=HCn.o.writes;have:=HM.o;omega) (by have:=HCn.o.pend;have:=HM.o;omega) HAr.o
  .match j,hj with
   | 0,_=>rfl
   | 1,_=>rfl
   | 2,_=>rfl
  .rw[List.mem_singleton] at hf;subst hf;have:=HI.o;have:=(jA HMost.o.2).2.1;show (_<=(i:Int)+2/\(i:Int)+2<=_)/\(_<=((aC n:Nat):Int)/\((aC n:Nat):Int)<=_);omega
 have hsr:=HDs.o.Li (by have:=HLim.o;omega) (by have:=HI.o;omega);have C1:=ah (HS7.o.ay.cell 1)
 cases hsr with
 | off ha1 S1 D1 e1 o1 cr1 cn1 ln1=>
  rw[e1] at hswt;have HSwt:=ah hswt;have HCr:=ah cr1;have HCn1:=ah cn1;clear hswt cr1 cn1 e1;refine wp_region_held_drew (S:=fun w'=>w'.cell? ⟨b,1,none⟩=some (.pointer (some ⟨s,0,none⟩))) (by kernel_rfl) (by exact C1.o) ?_;intro hS0;refine an 0 1 2 3 ?_;refine cw 4 5 ?_;refine bC 6 fun K hK=>?_
  go_simp;go_at_call 55;(with_reducible refine(HSwt.o _ (HS7.o.new (ao.refl No _).drew)).mono ?_);rintro e w8 ⟨rfl,hs8⟩;have HS8:=ah hs8;clear hs8
  refine hK.out _ _ (HS8.o.bL.cell 1) (fun hS0=>?_);clear hK K;refine ca 7 ?_;refine wpAnyH_done (by kernel_rfl) ?_ _;go_wp2_with fail;go_ret;refine .inr ⟨S1,D1,rfl,ha1,o1,gC.ei (HCr.o.up (by omega) (by have:=HLim.o;omega)) _,fun m hm=>(HCn1.o m hm).mono (by omega),ln1,?_⟩;refine Sat.zX (v:=⟨lg,L,sq,sn,bP,nx⟩) (tb:=tb) (hr:=hr) (mb:=mb) (ns:=ns) HT.o HE.o ?_;rw[eM];have h8:=HS8.o;rw[HHe.o] at h8;exact(h8.of (show _=Pt g 128 #[.int .i64 ((i:Int)+2),.int .i64 0,.int .i64 (aC n:Nat),.int .i64 ((i:Int)+3),.int .i64 0,.int .i64 (bj n:Nat)]*(Row 5 1 (.slice B bl bc) bl ((ae (cR L)).map bv)*(Pt b 113 (ef d s lg tb sq mb nx false)*(bE tb hr ns*(bT Tryz.prog 3 mb bP (iH sn)*(ag s d S1*(af d D1*F)))))) by ac_rfl)).right.right
 | ok D1 sf1 e1 h1 cn1 ar1=>
  rw[e1] at hswt;have HSwt:=ah hswt;have HDs1:=ah h1;have HCn1:=ah (cn1 m HCn.o);have HAr1:=ah (Nat.le_trans ar1 HAr.o);clear hswt e1 h1;refine wp_region_held_drew (S:=fun w'=>w'.cell? ⟨b,1,none⟩=some (.pointer (some ⟨s,0,none⟩))) (by kernel_rfl) (by exact C1.o) ?_;intro hS0;refine an 0 1 2 3 ?_;refine cw 4 5 ?_;refine bC 6 fun K hK=>?_
  go_simp;go_at_call 55;(with_reducible refine(HSwt.o _ (HS7.o.new (ao.refl No _).drew)).mono ?_);rintro e w8 ⟨rfl,hs8⟩;have HS8:=ah hs8;clear hs8
  refine hK.out _ _ (HS8.o.bL.cell 1) (fun hS0=>?_);clear hK K;refine ca 7 ?_;refine wpAnyH_done (by kernel_rfl) ?_ _;go_upto_region 9 with fail;have hfl:Calls Tryz.prog 124 #[.pointer (some ⟨s,0,none⟩),.int .i64 ((i:Int)+2),.slice B bl bc] w8.drew fun e w'=>e = .returned (.int .i64 (jX ((i:Int)+2) (aj (ae (cR L))) (bU (1 - slot) (turn+1) n i lo fa fb (aj (ae E)) LF (some (turn+1,1,[]))) D1).2.2)/\Sat w0 (ag s d (jX ((i:Int)+2) (aj (ae (cR L))) (bU (1 - slot) (turn+1) n i lo fa fb (aj (ae E)) LF (some (turn+1,1,[]))) D1).1*(af d (jX ((i:Int)+2) (aj (ae (cR L))) (bU (1 - slot) (turn+1) n i lo fa fb (aj (ae E)) LF (some (turn+1,1,[]))) D1).2.1*(Pt g 128 #[.int .i64 ((i:Int)+2),.int .i64 0,.int .i64 (aC n:Nat),.int .i64 ((i:Int)+3),.int .i64 0,.int .i64 (bj n:Nat)]*(Pt b 113 (ef d s lg tb sq mb nx false)*H)))) w':=by
   have h9:=GD (w0:=w0) (w:=w8.drew) (F:=(Pt g 128 #[.int .i64 ((i:Int)+2),.int .i64 0,.int .i64 (aC n:Nat),.int .i64 ((i:Int)+3),.int .i64 0,.int .i64 (bj n:Nat)]*(Pt b 113 (ef d s lg tb sq mb nx false)*H))) ((i:Int)+2) B bc (b:=ae (cR L)) HDs1.o.good HCn1.o (by rw[<-HBl.o];have:=HM.o;omega) HAr1.o (HS8.o.new (ao.refl No _).drew) (fun W hW=>HRb.o W hW.right.right) (by rw[<-HBl.o];exact HB1.o) (by have:=HB2.o;unfold maxLen at this;omega);rw[<-HBl.o] at h9;exact h9
  have hfr:=HDs1.o.Lp (by have:=HLim.o;omega) (ps:=aj (ae (cR L))) (fun p hp=>CI hp) HFr.o;have C1b:=ah (HS8.o.bL.cell 1);have G0:=ah (HS8.o.bp.cell 0);have hcl8:(aj (ae (cR L))).length<=8672:=by have:=HFr.o;have:=(jA HMost.o.2).2.1;omega
  cases hfr with
  | off ha2 S2 D2 e2 o2 cr2 cn2 ln2=>
   rw[e2] at hfl;have HFl:=ah hfl;have HCr:=ah cr2;have HCn2:=ah cn2;have HArm:Hid (D.armed≠0):=(fun h0=>ha2 (by omega));have HCn0:=ah cn1;clear hfl cr2 cn2 e2 ha2 cn1 ar1;refine wp_region_held_drew (S:=fun w'=>w'.cell? ⟨b,1,none⟩=some (.pointer (some ⟨s,0,none⟩))/\w'.cell? ⟨g,0,none⟩=some (.int .i64 ((i:Int)+2))) (by kernel_rfl) ⟨(by exact C1b.o),(by exact G0.o)⟩ ?_;intro hS0;refine an 0 1 2 3 ?_;refine an 4 5 6 7 ?_;refine ca 8 ?_;refine bC 9 fun K hK=>?_
   go_simp;go_at_call 124;(with_reducible refine HFl.o.mono ?_);rintro e w9 ⟨rfl,hs9⟩;have HS9:=ah hs9;clear hs9
   refine hK.out _ _ ⟨HS9.o.bL.cell 1,HS9.o.bp.cell 0⟩ (fun hS0=>?_);clear hK K;refine ca 10 ?_;refine wpAnyH_done (by kernel_rfl) ?_ _;go_wp2_with fail;go_ret;refine .inr ⟨S2,D2,rfl,HArm.o,o2,gC.ei (HCr.o.up (by omega) (by have:=HLim.o;omega)) _,fun m hm=>(HCn2.o _ (HCn0.o m hm)).mono (by omega),ln2,?_⟩;refine Sat.zX (v:=⟨lg,L,sq,sn,bP,nx⟩) (tb:=tb) (hr:=hr) (mb:=mb) (ns:=ns) HT.o HE.o ?_;rw[eM];have h8:=HS9.o;rw[HHe.o] at h8;exact(h8.of (show _=Pt g 128 #[.int .i64 ((i:Int)+2),.int .i64 0,.int .i64 (aC n:Nat),.int .i64 ((i:Int)+3),.int .i64 0,.int .i64 (bj n:Nat)]*(Row 5 1 (.slice B bl bc) bl ((ae (cR L)).map bv)*(Pt b 113 (ef d s lg tb sq mb nx false)*(bE tb hr ns*(bT Tryz.prog 3 mb bP (iH sn)*(ag s d S2*(af d D2*F)))))) by ac_rfl)).right.right
  | ok D2 sf2 e2 h2 hsf cn2 ar2=>
   rw[e2] at hfl;have HFl:=ah hfl;have HDs2:=ah h2;have HSf:=ah hsf;have HCn2:=ah (cn2 _ HCn1.o);have HCf:=ah (fun m hm=>cn2 _ (cn1 m hm));have HAr2:=ah (Nat.le_trans ar2 ar1);clear hfl cn2 e2 cn1 ar1 ar2 h2 hsf;refine wp_region_held_drew (S:=fun w'=>w'.cell? ⟨b,1,none⟩=some (.pointer (some ⟨s,0,none⟩))/\w'.cell? ⟨g,0,none⟩=some (.int .i64 ((i:Int)+2))) (by kernel_rfl) ⟨(by exact C1b.o),(by exact G0.o)⟩ ?_;intro hS0;refine an 0 1 2 3 ?_;refine an 4 5 6 7 ?_;refine ca 8 ?_;refine bC 9 fun K hK=>?_
   go_simp;go_at_call 124;(with_reducible refine HFl.o.mono ?_);rintro e w9 ⟨rfl,hs9⟩;have HS9:=ah hs9;clear hs9
   refine hK.out _ _ ⟨HS9.o.bL.cell 1,HS9.o.bp.cell 0⟩ (fun hS0=>?_);clear hK K;refine ca 10 ?_;refine wpAnyH_done (by kernel_rfl) ?_ _;go_upto_region 12 with fail;have hswt: ∀ g2 W,Sat w0 (Pt g2 3 #[.int .i64 ((lg:Int) - 1),.int .i64 (lg:Int)]*(ag s d (bU (1 - slot) (turn+1) n i lo fa fb (aj (ae E)) LF (some (turn+1,1,aj (ae (cR L)))))*(af d D2*(Pt g 128 #[.int .i64 ((i:Int)+2),.int .i64 0,.int .i64 (aC n:Nat),.int .i64 ((i:Int)+3),.int .i64 0,.int .i64 (bj n:Nat)]*(Pt b 113 (ef d s lg tb sq mb nx false)*H))))) W->Calls Tryz.prog 55 #[.pointer (some ⟨s,0,none⟩),.slice (some ⟨g,3,none⟩) 1 1,.slice (some ⟨g2,0,none⟩) 2 2] W (Jx w0 (Pt g2 3 #[.int .i64 ((lg:Int) - 1),.int .i64 (lg:Int)]*(Pt g 128 #[.int .i64 ((i:Int)+2),.int .i64 0,.int .i64 (aC n:Nat),.int .i64 ((i:Int)+3),.int .i64 0,.int .i64 (bj n:Nat)]*(Pt b 113 (ef d s lg tb sq mb nx false)*H))) s d ((bU (1 - slot) (turn+1) n i lo fa fb (aj (ae E)) LF (some (turn+1,1,aj (ae (cR L))))).switch [⟨(i:Int)+3,0,bj n⟩] [(i:Int),(i:Int)+1] D2)):=fun g2 W hW=>by
    have hll:(bj n:Nat)<=65536:=by have:=HDs2.o.fit;have:=HMost.o.2;omega
    refine iS (some ⟨g,3,none⟩) 1 [⟨(i:Int)+3,0,bj n⟩] (some ⟨g2,0,none⟩) 2 [(i:Int),(i:Int)+1] HDs2.o.good (by have:=HLim.o;omega) (hW.of (by ac_rfl)) (fun W' hW'=>iL hW'.ay (fun j hj=>?_)) (fun W' hW'=>iL hW' (fun j hj=>?_)) (by simp) (by simp) (by simp) (fun f hf=>?_) (fun q hq=>?_) (by have:=HCn2.o.writes;have:=HM.o;omega) (by have:=HCn2.o.pend;have:=HM.o;omega) (by have:=HAr2.o;have:=HAr.o;omega)
    .match j,hj with
     | 0,_=>rfl
     | 1,_=>rfl
     | 2,_=>rfl
    .have hlg2:=HLg.o
     match j,hj with
     | 0,_=>show some (Value.int .i64 ((lg:Int) - 1))=some (Value.int .i64 (i:Int));rw[show (lg:Int) - 1=i by omega]
     | 1,_=>show some (Value.int .i64 (lg:Int))=some (Value.int .i64 ((i:Int)+1));rw[show (lg:Int)=(i:Int)+1 by omega]
    .rw[List.mem_singleton] at hf;subst hf;have:=HI.o;show (_<=(i:Int)+3/\(i:Int)+3<=_)/\(_<=((bj n:Nat):Int)/\((bj n:Nat):Int)<=_);omega
    .have:=HI.o;rcases List.mem_cons.1 hq with rfl | hq
     .omega
     .rw[List.mem_singleton] at hq;omega
   have hsr:=HDs2.o.Lj HSf.o (by have:=HLim.o;omega) (by have:=HI.o;omega);have C1c:=ah (HS9.o.bL.cell 1);have C2c:=ah (HS9.o.bL.cell 2)
   cases hsr with
   | off ha3 S3 D3 e3 o3 cr3 cn3 ln3=>
    rw[e3] at hswt;have HSwt:=ah hswt;have HCr:Hid (Eb n D3 (lim+3) i E (cR L) bs):=cr3;have HCn3:=ah cn3;have HArm:Hid (D.armed≠0):=(fun h0=>ha3 (by have:=HAr2.o;omega));clear hswt cr3 cn3 e3 ha3;refine wp_region_held_drew (S:=fun w'=>w'.cell? ⟨b,1,none⟩=some (.pointer (some ⟨s,0,none⟩))/\w'.cell? ⟨b,2,none⟩=some (.int .i64 (lg:Int))) (by kernel_rfl) ⟨(by exact C1c.o),(by exact C2c.o)⟩ ?_;intro hS0;refine an 0 1 2 3 ?_;refine an 4 5 6 7 ?_;refine an 8 9 10 11 ?_;refine cw 12 13 ?_;refine ca 14 ?_;refine bC 15 fun K hK=>?_
    go_simp;have HS10:=ah ((HS9.o.ab 3 #[.int .i64 ((lg:Int) - 1),.int .i64 (lg:Int)]).new (ao.refl No _).drew);refine hK.out _ _ ⟨HS10.o.fN.cell 1,HS10.o.fN.cell 2⟩ (fun hS0=>?_);clear hK K;obtain⟨g2,hg2⟩: ∃ g2,g2=w9.heap.size:=⟨_,rfl⟩;rw[<-hg2] at HS10
    try rw[<-hg2]
    clear hg2;refine bC 16 fun K hK=>?_
    go_simp;go_at_call 55;(with_reducible refine(HSwt.o _ _ HS10.o).mono ?_);rintro e w11 ⟨rfl,hs11⟩;have HS11:=ah hs11;clear hs11
    refine hK.out _ _ ⟨HS11.o.fN.cell 1,HS11.o.fN.cell 2⟩ (fun hS0=>?_);clear hK K;refine ca 17 ?_;refine wpAnyH_done (by kernel_rfl) ?_ _;go_wp2_with fail;go_ret;refine .inr ⟨S3,D3,rfl,HArm.o,o3,HCr.o,fun m hm=>(HCn3.o _ (HCf.o m hm)).mono (by omega),ln3,?_⟩;refine Sat.zX (v:=⟨lg,L,sq,sn,bP,nx⟩) (tb:=tb) (hr:=hr) (mb:=mb) (ns:=ns) HT.o HE.o ?_;rw[eM];have h8:=HS11.o;rw[HHe.o] at h8;exact(h8.of (show _=Pt g2 3 #[.int .i64 ((lg:Int) - 1),.int .i64 (lg:Int)]*(Pt g 128 #[.int .i64 ((i:Int)+2),.int .i64 0,.int .i64 (aC n:Nat),.int .i64 ((i:Int)+3),.int .i64 0,.int .i64 (bj n:Nat)]*(Row 5 1 (.slice B bl bc) bl ((ae (cR L)).map bv)*(Pt b 113 (ef d s lg tb sq mb nx false)*(bE tb hr ns*(bT Tryz.prog 3 mb bP (iH sn)*(ag s d S3*(af d D3*F))))))) by ac_rfl)).right.right.right
   | ok D3 sf3 e3 h3 cn3 ar3=>
    rw[e3] at hswt;have HSwt:=ah hswt;have HDs3:=ah h3;have HCn3:=ah cn3;have HAr3:Hid (D3.armed<=D.armed):=Nat.le_trans ar3 HAr2.o;clear hswt h3 cn3 e3 ar3;refine wp_region_held_drew (S:=fun w'=>w'.cell? ⟨b,1,none⟩=some (.pointer (some ⟨s,0,none⟩))/\w'.cell? ⟨b,2,none⟩=some (.int .i64 (lg:Int))) (by kernel_rfl) ⟨(by exact C1c.o),(by exact C2c.o)⟩ ?_;intro hS0;refine an 0 1 2 3 ?_;refine an 4 5 6 7 ?_;refine an 8 9 10 11 ?_;refine cw 12 13 ?_;refine ca 14 ?_;refine bC 15 fun K hK=>?_
    go_simp;have HS10:=ah ((HS9.o.ab 3 #[.int .i64 ((lg:Int) - 1),.int .i64 (lg:Int)]).new (ao.refl No _).drew);refine hK.out _ _ ⟨HS10.o.fN.cell 1,HS10.o.fN.cell 2⟩ (fun hS0=>?_);clear hK K;obtain⟨g2,hg2⟩: ∃ g2,g2=w9.heap.size:=⟨_,rfl⟩;rw[<-hg2] at HS10
    try rw[<-hg2]
    clear hg2;refine bC 16 fun K hK=>?_
    go_simp;go_at_call 55;(with_reducible refine(HSwt.o _ _ HS10.o).mono ?_);rintro e w11 ⟨rfl,hs11⟩;have HS11:=ah hs11;clear hs11
    refine hK.out _ _ ⟨HS11.o.fN.cell 1,HS11.o.fN.cell 2⟩ (fun hS0=>?_);clear hK K;refine ca 17 ?_;refine wpAnyH_done (by kernel_rfl) ?_ _;have d2:=HS11.o.fN.cell 2;have f2:=HS11.o.fN.frozen 2;have HS12:=ah (HS11.o.fN.set 2 (.int .i64 ((lg:Int)+2)));go_wp2_with fail;go_ret;refine .inl ⟨_,_,_,_,_,D3,sf3,rfl,HDs3.o,fun m hm=>(HCn3.o _ (HCf.o m hm)).mono (by omega),HAr3.o,?_⟩;refine Sat.zX (v:=⟨lg+2,L,sq,sn,bP,nx⟩) (tb:=tb) (hr:=hr) (mb:=mb) (ns:=ns) HT.o HE.o ?_;rw[eM];have h8:=HS12.o;rw[HHe.o] at h8;exact(h8.of (show _=Pt g2 3 #[.int .i64 ((lg:Int) - 1),.int .i64 (lg:Int)]*(Pt g 128 #[.int .i64 ((i:Int)+2),.int .i64 0,.int .i64 (aC n:Nat),.int .i64 ((i:Int)+3),.int .i64 0,.int .i64 (bj n:Nat)]*(Row 5 1 (.slice B bl bc) bl ((ae (cR L)).map bv)*(Pt b 113 (ef d s ((lg+2:Nat):Int) tb sq mb nx false)*(bE tb hr ns*(bT Tryz.prog 3 mb bP (iH sn)*(ag s d (bU (1 - (1 - slot)) (turn+1+1) n (i+2) (!lo) (turn+1,1) (turn+1+1,1) (aj (ae (cR L))) [] none)*(af d D3*F))))))) by show Pt b 113 (ef d s ((lg+2:Nat):Int) tb sq mb nx false)*_=_;ac_rfl)).right.right.right
end
section
variable {w0 w:World} {F:SP}
theorem rI {d:Nat} {D:Dk} {S:aK} {W:World} (h:Sat w0 (af d D*F) W) (h2:2<=D.cells.length) (hN:D.cells.length<=65536) (ho:cJ D=(some S,0)):
 Calls Tryz.prog 53 #[.pointer (some ⟨d,0,none⟩)] W fun e w'=> ∃ s,e = .returned (.tuple #[.pointer (some ⟨s,0,none⟩),.int .i64 0])/\Sat w0 (ag s d S*(af d D*F)) w':=by
 refine(Ds h h2 hN).mono ?_;rintro e w' ⟨p,h3,h4⟩;rw[ho] at h3 h4;obtain⟨s,rfl⟩:=mw h4;exact⟨s,h3,h4⟩
theorem CH (d n m slot turn lim:Nat) (D D1:Dk) (sf:Nat->Nat) (hn:64<=n/\n<=65536) (ho:D.off=false) (hl:D.cells.length=n) (hf:fz D=(D1,0)) (hg:Good D1 ⟨slot,turn,[]⟩ sf lim) (hl1:D1.cells.length=n) (ha:D1.armed=0) (haD:D.armed<=9223372036854775807) (hcD:dq D m) (hc:dq D1 m) (hm:m<=900000000) (hlim:lim+5<=1000000000)
 (h:Sat w0 (af d D*F) w):
 Calls Tryz.prog 18 #[.pointer (some ⟨d,0,none⟩)] w fun x w'=>x = .returned (.int .i64 0)/\ ∃ D' sl tu lo a b sf',iI n D' sl tu lo a b [] none sf' (lim+2) 2 [] [] 0/\dq D' (m+2)/\D'.armed=0/\Sat w0 (af d D'*F) w':=by
 have hofc: ∀ W (G:SP),Sat w0 (af d D*G) W->Calls Tryz.prog 40 #[.pointer (some ⟨d,0,none⟩)] W fun e w'=>e = .returned (.bool false)/\W=w':=fun W G hW=>by
  have h9:=Ao d D w0 W G hW;rw[ho] at h9;exact h9
 have hblc:Calls Tryz.prog 51 #[.pointer (some ⟨d,0,none⟩)] w fun e w'=>e = .returned (.int .i64 (n:Int))/\w=w':=by
  have h9:=gy d D w0 w F h;rw[hl] at h9;exact h9
 have hfo:=yA h (by omega) (by omega) (by have:=hcD.writes;omega) (by have:=hcD.pend;omega) haD;rw[hf] at hfo;dsimp only at hfo;have Jy:=fun W (hW:Sat w0 (af d D1*F) W)=>rI hW (by omega) (by omega) (GP hg (by omega))
 obtain⟨D2,e2,g2,c2,l2,a2⟩:=Jr hg hl1 hn (by omega) ha;have g3:=pB g2;have ho2:=g2.fils.off;have l3:D2.flush.1.cells.length=n:=by rw[(eo g2.fils.wf ho2).len];exact l2
 have a3:D2.flush.1.armed=0:=by rw[eu ho2];exact a2
 obtain⟨D4,sf4,e4,d4,c4,a4⟩:=Jj (slot:=1 - slot) (turn:=turn+1) (a1:=turn+1) (a2:=1) g3 l3 hn (by omega) a3;have h02:D2.flush.2=0:=by rw[dg D2 ho2]
 have HOf:=ah hofc;have HBl:=ah hblc;have HFo:=ah hfo;have HOp:=ah Jy;have HD:=ah h;have HFin:Hid (iI n D4 (1 - (1 - slot)) (turn+1+1) true (turn+1,1) (turn+1+1,1) [] none sf4 (lim+2) 2 [] [] 0/\dq D4 (m+2)/\D4.armed=0):=⟨d4,c4 _ ((c2 m hc).flush ho2),a4⟩;have hn64:((n:Int)<64)=False:=by simp;omega
 obtain⟨g0,hg0⟩: ∃ g0:World->Prop,g0=fun _=>True:=⟨_,rfl⟩;have HFi:Hid (∀ W (S:aK) (s:Nat),Sat w0 (ag s d S*(af d D1*F)) W->Calls Tryz.prog 54 #[.pointer (some ⟨d,0,none⟩),.int .i64 3] W fun e w'=> ∃ g,e = .returned (.slice (some ⟨g,0,none⟩) 2 2)/\Sat w0 (Pt g 128 #[.int .i64 2,.int .i64 0,.int .i64 (aC n:Nat),.int .i64 3,.int .i64 0,.int .i64 (bj n:Nat)]*(ag s d S*(af d D1*F))) w'):=fun W S s hW=>by
  refine(vq n 3 hn hl1 (by omega) hW.ay).mono ?_;rintro e w' ⟨g,rfl,hs'⟩;exact⟨g,rfl,hs'.of (by show Pt g 128 #[.int .i64 2,.int .i64 0,.int .i64 (aC n:Nat),.int .i64 3,.int .i64 0,.int .i64 (bj n:Nat)]*_=_;ac_rfl)⟩
 have hil:=(jA hn.2).2.1;have hll:bj n<=65536:=by have:=kW hn.1;omega
 have HSw1:Hid (∀ g s W,Sat w0 (Pt g 128 #[.int .i64 2,.int .i64 0,.int .i64 (aC n:Nat),.int .i64 3,.int .i64 0,.int .i64 (bj n:Nat)]*(ag s d ⟨slot,turn,[]⟩*(af d D1*F))) W->Calls Tryz.prog 55 #[.pointer (some ⟨s,0,none⟩),.slice (some ⟨g,0,none⟩) 1 2,.slice none 0 0] W fun e w'=>e = .returned (.int .i64 0)/\Sat w0 (ag s d (uG (1 - slot) (turn+1) n)*(af d D2*(Pt g 128 #[.int .i64 2,.int .i64 0,.int .i64 (aC n:Nat),.int .i64 3,.int .i64 0,.int .i64 (bj n:Nat)]*F))) w'):=fun g s W hW=>by
  have h9:=iS (w0:=w0) (w:=W) (s:=s) (d:=d) (F:=Pt g 128 #[.int .i64 2,.int .i64 0,.int .i64 (aC n:Nat),.int .i64 3,.int .i64 0,.int .i64 (bj n:Nat)]*F) (some ⟨g,0,none⟩) 2 [⟨2,0,aC n⟩] none 0 [] hg (by omega) (hW.of (by ac_rfl)) (fun W' hW'=>iL hW' (fun j hj=>by
   match j,hj with
   | 0,_=>rfl
   | 1,_=>rfl
   | 2,_=>rfl)) (fun _ _ hne=>absurd rfl hne) (by simp) (by simp) (by simp) (fun f hf=>by
   rw[List.mem_singleton] at hf;subst hf;show (_<=(2:Int)/\(2:Int)<=_)/\(_<=((aC n:Nat):Int)/\((aC n:Nat):Int)<=_);omega) (by simp) (by have:=hc.writes;omega) (by have:=hc.pend;omega) (by omega)
  rw[e2] at h9;exact h9
 have HSy:Hid (∀ g s W,Sat w0 (ag s d (uG (1 - slot) (turn+1) n)*(af d D2*(Pt g 128 #[.int .i64 2,.int .i64 0,.int .i64 (aC n:Nat),.int .i64 3,.int .i64 0,.int .i64 (bj n:Nat)]*F))) W->Calls Tryz.prog 56 #[.pointer (some ⟨s,0,none⟩)] W fun e w'=>e = .returned (.int .i64 0)/\Sat w0 (ag s d (uG (1 - slot) (turn+1) n)*(af d D2.flush.1*(Pt g 128 #[.int .i64 2,.int .i64 0,.int .i64 (aC n:Nat),.int .i64 3,.int .i64 0,.int .i64 (bj n:Nat)]*F))) w'):=fun g s W hW=>by
  have h9:=uI hW (by have:=(c2 m hc).pend;omega);rw[h02] at h9;exact h9
 have HSw2:Hid (∀ g s W,Sat w0 (ag s d (uG (1 - slot) (turn+1) n)*(af d D2.flush.1*(Pt g 128 #[.int .i64 2,.int .i64 0,.int .i64 (aC n:Nat),.int .i64 3,.int .i64 0,.int .i64 (bj n:Nat)]*F))) W->Calls Tryz.prog 55 #[.pointer (some ⟨s,0,none⟩),.slice (some ⟨g,3,none⟩) 1 1,.slice none 0 0] W fun e w'=>e = .returned (.int .i64 0)/\Sat w0 (af d D4*F) w'):=fun g s W hW=>by
  have hc3:=(c2 m hc).flush ho2;have h9:=iS (w0:=w0) (w:=W) (s:=s) (d:=d) (F:=Pt g 128 #[.int .i64 2,.int .i64 0,.int .i64 (aC n:Nat),.int .i64 3,.int .i64 0,.int .i64 (bj n:Nat)]*F) (some ⟨g,3,none⟩) 1 [⟨3,0,bj n⟩] none 0 [] g3 (by omega) hW (fun W' hW'=>iL hW' (fun j hj=>by
   match j,hj with
   | 0,_=>rfl
   | 1,_=>rfl
   | 2,_=>rfl)) (fun _ _ hne=>absurd rfl hne) (by simp) (by simp) (by simp) (fun f hf=>by
   rw[List.mem_singleton] at hf;subst hf;show (_<=(3:Int)/\(3:Int)<=_)/\(_<=((bj n:Nat):Int)/\((bj n:Nat):Int)<=_);omega) (by simp) (by have:=hc3.writes;omega) (by have:=hc3.pend;omega) (by omega)
  have e5:(uG (1 - slot) (turn+1) n).switch [⟨3,0,bj n⟩] [] D2.flush.1=(bU (1 - (1 - slot)) (turn+1+1) n 2 true (turn+1,1) (turn+1+1,1) (aj (ae [])) [] none,D4,0):=e4;rw[e5] at h9;exact h9.mono fun e w' ⟨h1,h2⟩=>⟨h1,h2.right.bo⟩
 clear hofc hblc hfo Jy h e2 g2 c2 l2 a2 g3 ho2 l3 a3 e4 d4 c4 a4 h02 hg hf hl hl1 ha haD hcD hc hm hlim hil hll hg0 g0;have hn1:=hn.1;have hn2:=hn.2;clear hn;go_enter Tryz.func18, Tryz.ntmps18;go_wp2_with (first
  | (go_at_call 40;(with_reducible refine(HOf.o _ _ HD.o).mono ?_);rintro e w1 ⟨rfl,rfl⟩)
  | (go_at_call 51;(with_reducible refine HBl.o.mono ?_);rintro e w1 ⟨rfl,rfl⟩)
  | (go_at_call 52;(with_reducible refine HFo.o.mono ?_);rintro e w2 ⟨rfl,hs2⟩;have HS2:=ah hs2;clear hs2)
  | (go_at_call 53;(with_reducible refine(HOp.o _ HS2.o).mono ?_);rintro e w3 ⟨s,rfl,hs3⟩;have HS3:=ah hs3;clear hs3)
  | (go_at_call 54;(with_reducible refine(HFi.o _ _ _ HS3.o).mono ?_);rintro e w4 ⟨g,rfl,hs4⟩;have HS4:=ah hs4;clear hs4)
  | (go_at_call 55;(with_reducible refine(HSw1.o _ _ _ HS4.o).mono ?_);rintro e w5 ⟨rfl,hs5⟩;have HS5:=ah hs5;clear hs5)
  | (go_at_call 56;(with_reducible refine(HSy.o _ _ _ HS5.o).mono ?_);rintro e w6 ⟨rfl,hs6⟩;have HS6:=ah hs6;clear hs6)
  | (go_at_call 55;(with_reducible refine(HSw2.o _ _ _ HS6.o).mono ?_);rintro e w7 ⟨rfl,hs7⟩;have HS7:=ah hs7;clear hs7))
 go_ret;exact⟨rfl,D4,_,_,_,_,_,sf4,HFin.o.1,HFin.o.2.1,HFin.o.2.2,HS7.o⟩
end
end Go.Proofs.YtmbaiglpgaoogaaGreat
