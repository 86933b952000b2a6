/- Joined, as they were built one by one: Skip6 Skip7 NokPut MemGet TabFns Tab1 TabRd TabEnt TabRd2 TabRd3 TabFlt TabCont. -/
import Derived.Test.YtmbaiglpgaoogaaGreatC01
import Derived.Test.YtmbaiglpgaoogaaGreatC02
import Derived.Test.YtmbaiglpgaoogaaGreatC04
import Derived.Test.YtmbaiglpgaoogaaGreatC05
set_option maxHeartbeats 16000000
set_option linter.unusedVariables false
set_option maxRecDepth 100000
namespace Go.Proofs.YtmbaiglpgaoogaaGreat
open Go.RowKit Z
def wK (tl:List UInt8) (e:aw):Bool:=decide (tl=[]) || decide (Lib.compareBytes e.key tl<0)
def oU (tl:List UInt8) (i:Nat) (s:List Nd):List aw:=((s.filter fun n=>decide (i<n.v)).map fun n=>n.e.ao).takeWhile (wK tl)
theorem Di {tl:List UInt8} {i:Nat} {s:List Nd} (h: ∀ n ∈ s,n.v<=i):oU tl i s=[]:=by
 unfold oU;have:s.filter (fun n=>decide (i<n.v))=[]:=List.filter_eq_nil_iff.2 fun n hn=>by have:=h n hn;simp;omega
 rw[this];rfl
theorem EM {tl:List UInt8} {i:Nat} {u t:List Nd} {m:Nd} (hu: ∀ n ∈ u,n.v<=i) (hm:i<m.v):oU tl i (u++m::t)=if wK tl m.e.ao then m.e.ao::oU tl i t else []:=by
 unfold oU;have:u.filter (fun n=>decide (i<n.v))=[]:=List.filter_eq_nil_iff.2 fun n hn=>by have:=hu n hn;simp;omega
 rw[List.filter_append,this,List.nil_append,List.filter_cons,if_pos (by simpa using hm),List.map_cons,List.takeWhile_cons]
def aW:List En->SP
 | []=>aV
 | e::es=>Row 5 1 (aO e.key) e.key.2.2.length (e.key.2.2.map bv)*(Row 5 1 (aO e.value) e.value.2.2.length (e.value.2.2.map bv)*aW es)
theorem fP (e:En): ∀ es:List En,aW (es++[e])=Row 5 1 (aO e.key) e.key.2.2.length (e.key.2.2.map bv)*(Row 5 1 (aO e.value) e.value.2.2.length (e.value.2.2.map bv)*aW es)
 | []=>rfl
 | x::es=>by
  show Row _ _ _ _ _*(Row _ _ _ _ _*aW (es++[e]))=_;rw[fP e es];show _=Row _ _ _ _ _*(Row _ _ _ _ _*(Row _ _ _ _ _*(Row _ _ _ _ _*aW es)))
  ac_rfl
def mI (w:World) (l:List aw) (x:Ending) (w':World):Prop:= ∃ (es:List En) (A:Option Addr) (c:Nat),x = .returned (.slice A es.length c)/\es.map En.ao=l/\
 Sat w (Row 120 4 (.slice A es.length c) es.length (es.flatMap cu)*aW es) w'
structure Small (ns:List Nd):Prop where
 len:ns.length<=1000000
 each: ∀ n ∈ ns,n.e.key.2.2.length<=1000000000/\n.e.value.2.2.length<=1000000000
theorem kh:(Tryz.prog.info? 120).map (fun i=>(i.zero,i.size,i.bytes))=some (some (.agg #[.slice none 0 0,.slice none 0 0,.int .i64 0,.bool false]),4,64):=by kernel_rfl
structure NR (w:World) (ns:List Nd) (tl:List UInt8) (i:Nat) (l:List aw) (p s:List Nd) (es:List En) (A:Option Addr) (c:Nat) (wr:World):Prop where
 eq:ns=p++s
 told:l=es.map En.ao++oU tl i s
 len:es.length<=p.length
 sat:Sat w (Row 120 4 (.slice A es.length c) es.length (es.flatMap cu)*aW es) wr
theorem sa (T:Option Addr) (Tc:Nat) (tl:List UInt8) (b hr:Nat) (ns p0 s0:List Nd) (i:Nat) (w:World) (hto:Rd w T tl) (hv:View w b hr ns) (hok:xN ns) (hsm:Small ns) (hs:ns=p0++s0) (hi:i<8):
 Calls Tryz.prog 154 #[dX (di dq s0 i),.int .i64 i,.slice T tl.length Tc] w (mI w (oU tl i s0)):=by
 have HV:=ah hv;have HO:=ah hok;have HT:=ah hto;have HS:=ah hsm;have H0:=ah hs;obtain⟨i0,hi0,hz0,hz1,hz2⟩:=info_parts kh;clear hv hok hto hsm hs;by_cases h0:tl=[]
 case' pos=>
  have HZ:=ah h0;rw[show tl.length=0 by rw[h0];rfl];have h1:True:=trivial;clear h0
 case' neg=>
  have HZ:=ah h0;have h1:¬ tl.length=0:=by simpa using h0
  clear h0
 all_goals
  go_enter Tryz.func154, Tryz.ntmps154;go_wp2_with fail;go_loopw [0,7] (fun n out wr=> ∃ (p s:List Nd) (es:List En) (A:Option Addr) (c:Nat),n=dX (di dq s i)/\out = .slice A es.length c/\Hid (NR w ns tl i (oU tl i s0) p s es A c wr)) (fun n _ _=>Hu ns n)
  case atStart=>exact⟨p0,s0,[],none,0,rfl,rfl,H0.o,rfl,by simp,((Sat.start w).aI _ 4).of (by rfl)⟩
  case round=>
   obtain⟨p,s,es,A,c,rfl,rfl,HD⟩:=hrel;rcases jf s i with ⟨e1,hlow⟩ | ⟨u,m,t,e2,e1,hm,hu⟩
   .have e3:dX (di dq s i) = .pointer none:=by rw[e1];rfl
    rw[e3];have ht:=HD.o.told;rw[Di hlow,List.append_nil] at ht;have HTl:=ah ht;clear e1 e3 hlow ht;go_wp2_with fail;go_ret;exact⟨es,A,c,rfl,HTl.o.symm,HD.o.sat⟩
   .have e3:dX (di dq s i) = .pointer (some ⟨m.a,0,none⟩):=by rw[e1];rfl
    rw[e3];have hv2:=HV.o.new HD.o.sat.aP;have hsp:=HD.o.eq;obtain⟨n0,n1,n2,n3,n4,n5,n6⟩:=hv2.node (p++u) m t (by rw[hsp,e2];simp);have n7:=n5 i (by have:=HO.o.full m (by rw[hsp,e2];simp);omega);have hmi:i<m.h:=by have:=HO.o.full m (by rw[hsp,e2];simp);omega
    unfold aO at n1 n2;have HN:=ah n6;have HTw:=ah (HT.o.new HD.o.sat.aP);have hdup:=ah hv2.nodup;have hml:=HS.o.each m (by rw[hsp,e2];simp);have hk2:m.e.key.2.2.length<=140737488355328:=by omega
    have hv3:m.e.value.2.2.length<=140737488355328:=by omega
    have hlen:es.length<=1000000:=by have h1:=HD.o.len;have h2:=HS.o.len;rw[hsp,List.length_append] at h2;omega
    have ht:=HD.o.told;rw[e2,EM hu hm] at ht;have HTl:=ah ht;have E1:=ah hsp;have E2:=ah e2;clear ht e1 e3 e2 hsp n5 n6 hv2 hml hm hu;have hin:wK tl m.e.ao=(decide (tl=[]) || decide (Lib.compareBytes m.e.key.2.2 tl<0)):=rfl;go_wp2_with (first
     | (go_at_call 145;refine(qN m.e.key (T,Tc,tl) _ HN.o.1 HTw.o).mono ?_;rintro x wx ⟨rfl,rfl⟩)
     | (go_at_call 110;refine(kj m.e w _ _ HD.o.sat HN.o hk2 hv3).mono ?_;rintro x w6 ⟨⟨A2,c2,B2,d2,rfl,hs6⟩,k6⟩;have HS6:=ah hs6;clear hs6 k6;simp only[jD])
     | (at_builtin;refine au rfl (.tmp 33) (.tmp 39) 116 rfl 120 i0 _ 4 64 Tryz.underlying116 hi0 hz0 hz1 hz2 rfl (by decide) (.slice A es.length c) es.length (es.flatMap cu) rfl w _ (by exact(HS6.o.aC _).bD) (some ⟨w6.heap.size,0,none⟩) 1 1 [.slice A2 m.e.key.2.2.length c2,.slice B2 m.e.value.2.2.length d2,.int .i64 m.e.seq,.bool m.e.dead] rfl (aL _ _ _) rfl (by intro u hu;simp at hu;rcases hu with rfl | rfl | rfl | rfl<;>rfl) (by unfold maxLen;omega) (by omega) ?_;intro A3 c3 w7 hs7;have HS7:=ah hs7;obtain⟨r0,_,_,_,_,r5,_⟩:=(HV.o.new hs7.aP).node (p++u) m t (by rw[E1.o,E2.o];simp);have r7:=r5 i hmi;clear r5 hs7))
    all_goals first
     | (go_ret
        have hB:wK tl m.e.ao=false:=by
         have h2:=HZ.o;rw[hin];simp[h2];omega
        refine⟨es,A,c,rfl,?_,HD.o.sat⟩;rw[HTl.o,hB];simp)
     | (refine⟨⟨p++(u++[m]),t,es++[⟨(A2,c2,m.e.key.2.2),(B2,d2,m.e.value.2.2),m.e.seq,m.e.dead⟩],A3,c3,rfl,by rw[List.length_append];rfl,?_⟩,?_⟩
        .have hB:wK tl m.e.ao=true:=by
          rw[hin];have h2:=HZ.o;simp[h2]
          all_goals (rcases ‹((tl.length:Int)==0)=true\/Lib.compareBytes m.e.key.2.2 tl<0› with q | q;exact absurd (by simpa using q) h2;exact q)
         refine⟨by rw[E1.o,E2.o];simp,?_,?_,?_⟩
         .rw[HTl.o,hB,if_pos rfl,List.map_append,List.append_assoc];rfl
         .have:=HD.o.len;simp only[List.length_append,List.length_cons,List.length_nil];omega
         .refine HS7.o.of ?_;rw[fP,List.flatMap_append,List.length_append];rfl
        .have r1:=vE (p:=p++u) (s:=t) (m:=m) hdup.o (by rw[E1.o,E2.o];simp);have r2:=yU (p:=p++(u++[m])) (s:=t) (i:=i) hdup.o (by rw[E1.o,E2.o];simp);omega)
theorem Sat.jg {w w2 w3:World} {A:SP} (k:aq No w w2) (h:Sat w2 A w3):Sat w A w3:=by
 obtain⟨x,h1,h2⟩:=h.hp;have:=k.size;exact⟨k.tr h.aP,x,fun b y hy=>⟨(h1 b y hy).1,fun e=>by have:=(h1 b y hy).2 e;omega⟩,h2⟩
theorem JD:xN []:=⟨by simp,List.Pairwise.nil⟩
theorem xk (w0 w:World) (F:SP) (h:Sat w0 F w):Calls Tryz.prog 58 #[] w fun x w'=> ∃ b hr,x = .returned (.pointer (some ⟨b,0,none⟩))/\Sat w0 (de b hr [] 0 0*F) w':=by
 have hmk: ∀ W,(Instr.makeSlice 169 (.int .i64 8) (.int .i64 8)).run Tryz.prog W = .ok (.slice (some ⟨W.heap.size,0,none⟩) 8 8) (W.alloc (.cells (cQ dq 8 0) 183)):=fun W=>tQ 8 (by omega) W
 have HS:=ah h;clear h;go_enter Tryz.func58, Tryz.ntmps58;go_wp2_with fail;go_ret;have h1:=(HS.o.af 183 (cQ dq 8 0)).bG (b:=w.heap.size+1) 173 #[.slice (some ⟨w.heap.size,0,none⟩) 8 8,.int .i64 0,.int .i64 0] (by simp);refine⟨_,w.heap.size,rfl,?_⟩;refine Sat.of ?_ (gg ..).symm;have h3:Sat w0 (ca (lq [])*(Pt (w.heap.size+1) 173 #[.slice (some ⟨w.heap.size,0,none⟩) 8 8,.int .i64 0,.int .i64 0]*(Pt w.heap.size 183 (cQ dq 8 0)*F))) _:=h1.lE _ (by simp[lq]);exact h3.of (by
  show ca (lq [])*(Pt _ _ _*(Pt _ _ (cQ dq 8 0)*F))=Pt _ _ _*(Pt _ _ (cQ dq 8 0)*(aV*(ca (lq [])*F)));rw[aX];ac_rfl)
def cY (l:List UInt8):aw:=⟨l,[],9223372036854775807,false⟩
def Ae (fl tl:List UInt8) (ns:List Nd):List aw:=oU tl 0 (behind (cY fl) ns)
theorem se (a0 a1 a2 a3 a4 a5 a6 a7:Option Addr) (W:World):(Instr.index 181 (.agg #[.pointer a0,.pointer a1,.pointer a2,.pointer a3,.pointer a4,.pointer a5,.pointer a6,.pointer a7]) (.int .i64 0)).run Tryz.prog W = .ok (.pointer a0) W:=by
 simp[Instr.index,run_underlying Tryz.underlying181,asIntOf,go_sem]
theorem Dg (FA:Option Addr) (Fc:Nat) (fl:List UInt8) (T:Option Addr) (Tc:Nat) (tl:List UInt8) (b hr:Nat) (ns:List Nd) (w:World) (hf:Rd w FA fl) (hto:Rd w T tl) (hv:View w b hr ns) (hok:xN ns) (hsm:Small ns):
 Calls Tryz.prog 125 #[.pointer (some ⟨b,0,none⟩),.slice FA fl.length Fc,.slice T tl.length Tc] w (mI w (Ae fl tl ns)):=by
 have HV:=ah hv;have HO:=ah hok;have HT:=ah hto;have HF:=ah hf;have HS:=ah hsm;clear hv hok hto hf hsm;have HQ:Hid (Value.agg (gH b (ahead (cY fl) ns) 0) = .agg #[.pointer (some ⟨ay b (ahead (cY fl) ns) 0,0,none⟩),.pointer (some ⟨ay b (ahead (cY fl) ns) 1,0,none⟩),.pointer (some ⟨ay b (ahead (cY fl) ns) 2,0,none⟩),.pointer (some ⟨ay b (ahead (cY fl) ns) 3,0,none⟩),.pointer (some ⟨ay b (ahead (cY fl) ns) 4,0,none⟩),.pointer (some ⟨ay b (ahead (cY fl) ns) 5,0,none⟩),.pointer (some ⟨ay b (ahead (cY fl) ns) 6,0,none⟩),.pointer (some ⟨ay b (ahead (cY fl) ns) 7,0,none⟩)]):=rfl;have hix:=se;go_enter Tryz.func125, Tryz.ntmps125;go_wp2_with (first
  | (go_at_call 108;refine(na b hr ns ⟨(FA,Fc,fl),(none,0,[]),9223372036854775807,false⟩ _ HV.o HO.o ⟨HF.o,Rd.nil _ _⟩).mono ?_;rintro x w2 ⟨rfl,k2⟩;rw[show (⟨(FA,Fc,fl),(none,0,[]),9223372036854775807,false⟩:En).ao=cY fl from rfl,HQ.o];have HK:=ah k2;obtain⟨R,h',hlt,q0,q1⟩:=(HV.o.new k2).last HO.o (bN (cY fl) ns) (i:=0) (by omega);clear k2)
  | (go_at_call 154;refine(sa T Tc tl b hr ns (ahead (cY fl) ns) (behind (cY fl) ns) 0 _ (HT.o.new HK.o) (HV.o.new HK.o) HO.o HS.o (bN _ _) (by omega)).mono ?_;rintro x w3 ⟨es,A,c,rfl,he,hs⟩;have HE:=ah he;have HS3:=ah (Sat.jg HK.o hs);clear he hs))
 go_ret;exact⟨es,A,c,rfl,HE.o,HS3.o⟩
theorem JE {ns:List Nd} {N:Nd} {e:aw} {H:Int} (hok:xN ns) (ht:iP e ns=false) (hN:N.e.ao=e) (hv:N.v=N.h) (hh:N.h=fj H):xN (ahead e ns++N::behind e ns):=by
 have hs:=hok.sort;have e0:=bN e ns;have hmem: ∀ n,n ∈ ahead e ns\/n ∈ behind e ns->n ∈ ns:=fun n hn=>by rw[e0];exact List.mem_append.2 hn
 have hlt: ∀ n ∈ behind e ns,dJ N.e.ao n.e.ao:=by
  intro n hn;rcases Cp N.e.ao n.e.ao with q | q | q
  .exact q
  .exfalso;rw[hN] at q
   cases hb:behind e ns with
   | nil=>rw[hb] at hn;simp at hn
   | cons m s=>
    rw[hb] at hn;rw[e0,hb,List.pairwise_append,List.pairwise_cons] at hs;rcases List.mem_cons.1 hn with z | hn
    .subst z;exact lj hb q
    .exact lj hb (jx (hs.2.1.1 n hn) q)
  .exfalso;have:iP e ns=true:=(D7 hok).2 ⟨n,hmem n (.inr hn),by rw[<-hN];exact q.symm⟩;rw[ht] at this;cases this
 refine⟨fun n hn=>?_,?_⟩
 .rcases List.mem_append.1 hn with hn | hn
  .exact hok.full n (hmem n (.inl hn))
  .rcases List.mem_cons.1 hn with hn | hn
   .subst hn;refine⟨hv,?_,?_⟩<;>rw[hh]<;>unfold fj<;>omega
   .exact hok.full n (hmem n (.inr hn))
 .rw[e0,List.pairwise_append] at hs;rw[List.pairwise_append,List.pairwise_cons];refine⟨hs.1,⟨hlt,hs.2.1⟩,fun a ha c hc=>?_⟩;rcases List.mem_cons.1 hc with hc | hc
  .subst hc;rw[hN];exact(ji ha).2
  .exact hs.2.2 a ha c hc
theorem eZ (a b:cW) (w:World) (ha:Rd w a.1 a.2.2) (hb:Rd w b.1 b.2.2):
 Calls Tryz.prog 126 #[.slice a.1 a.2.2.length a.2.1,.slice b.1 b.2.2.length b.2.1] w fun e w'=>e = .returned (.bool (decide (a.2.2=b.2.2)))/\w'=w:=by
 obtain⟨SA,SB,B,e1,e2,e3,e4⟩:=mg a.2.2 b.2.2;have s1:=cK ha a.2.1;have s2:=cK hb b.2.1;rw[<-e1] at s1;rw[<-e2] at s2;rw[<-e4];clear ha hb e1 e2 e4;go_enter Tryz.func126, Tryz.ntmps126;go_wp2;go_ret;exact⟨rfl,rfl⟩
def da (key:List UInt8) (seq:Int):aw:=⟨key,[],seq,false⟩
def AE (key:List UInt8) (seq:Int) (ns:List Nd):Option aw:=match behind (da key seq) ns with
 | m::_=>if m.e.key.2.2=key then some m.e.ao else none
 | []=>none
def NJ:aw:=⟨[],[],0,false⟩
def Na (w:World) (q:Option aw) (x:Ending) (w':World):Prop:= ∃ g:En,x = .returned (.tuple #[jD g,.bool q.isSome])/\g.ao=q.getD NJ/\Sat w (aW [g]) w'
theorem results_cell_tmp {P:Program} {fn:Func} {p q:Tmp} {ty:TypeId} (h:fn.results = #[.cell p ty,.tmp q]) (tmps:Array Value) (w:World) (g:Nat) (t:TypeId) (cs:Array Value) (fr:Nat × Nat) (d:TypeDesc) (v:Value)
 (hp:tmps.getD p undef = .pointer (some ⟨g,0,none⟩)) (hq:tmps.getD q undef=v) (hg:w.heap[g]?=some (.cells cs t fr))
 (hu:P.underlying ty=some d) (hd:(match d with | .struct _ | .array _ _=>true | _=>false)=true) (hi:(P.info? ty).map (·.size)=some cs.size):
 (results fn tmps).run P w = .ok (.tuple #[.agg cs,v]) w:=by
 have hp':tmps[p]?.getD undef = .pointer (some ⟨g,0,none⟩):=by simpa using hp
 have hq':tmps[q]?.getD undef=v:=by simpa using hq
 simp[results,h,hp',hq',asAddr,run_loadVar_row w g t ty cs fr d hg hu hd hi]
theorem I2 (K:cW) (seq:Int) (b hr:Nat) (ns:List Nd) (w:World) (hk:Rd w K.1 K.2.2) (hv:View w b hr ns) (hok:xN ns) (hsm:Small ns):
 Calls Tryz.prog 127 #[.pointer (some ⟨b,0,none⟩),.slice K.1 K.2.2.length K.2.1,.int .i64 seq] w (Na w (AE K.2.2 seq ns)):=by
 have HV:=ah hv;have HO:=ah hok;have HK:=ah hk;have HS:=ah hsm;have h1:=(Sat.start w).bG (b:=w.heap.size) 120 #[.slice none 0 0,.slice none 0 0,.int .i64 0,.bool false] rfl;have c1:aq No w (w.alloc (.cells #[.slice none 0 0,.slice none 0 0,.int .i64 0,.bool false] 120)):=(aq.refl No w).alloc _;have HC1:=ah c1;have HS1:=ah h1;clear hv hok hk hsm h1 c1;have HQ:Hid (Value.agg (gH b (ahead (da K.2.2 seq) ns) 0) = .agg #[.pointer (some ⟨ay b (ahead (da K.2.2 seq) ns) 0,0,none⟩),.pointer (some ⟨ay b (ahead (da K.2.2 seq) ns) 1,0,none⟩),.pointer (some ⟨ay b (ahead (da K.2.2 seq) ns) 2,0,none⟩),.pointer (some ⟨ay b (ahead (da K.2.2 seq) ns) 3,0,none⟩),.pointer (some ⟨ay b (ahead (da K.2.2 seq) ns) 4,0,none⟩),.pointer (some ⟨ay b (ahead (da K.2.2 seq) ns) 5,0,none⟩),.pointer (some ⟨ay b (ahead (da K.2.2 seq) ns) 6,0,none⟩),.pointer (some ⟨ay b (ahead (da K.2.2 seq) ns) 7,0,none⟩)]):=rfl;have hix:=se;go_enter Tryz.func127, Tryz.ntmps127;go_upto_region 2 with (go_at_call 108;refine(na b hr ns ⟨K,(none,0,[]),seq,false⟩ _ (HV.o.new HC1.o) HO.o ⟨HK.o.new HC1.o,Rd.nil _ _⟩).mono ?_;rintro x w2 ⟨rfl,k2⟩;rw[show (⟨K,(none,0,[]),seq,false⟩:En).ao=da K.2.2 seq from rfl,HQ.o];have HK2:=ah (HC1.o.tr k2);have HS2:=ah (HS1.o.new k2);obtain⟨R,h',hlt,q0,q1⟩:=(HV.o.new HK2.o).last HO.o (bN (da K.2.2 seq) ns) (i:=0) (by omega);clear k2)
 have HV2:=ah (HV.o.new HK2.o);have HG:Hid (AE K.2.2 seq ns=match behind (da K.2.2 seq) ns with
  | m::_=>if m.e.key.2.2=K.2.2 then some m.e.ao else none
  | []=>none):=rfl
 generalize w.heap.size=O at*
 rcases jf (behind (da K.2.2 seq) ns) 0 with ⟨e1,hlow⟩ | ⟨u,m,t,e2,e1,hm,hu⟩
 .have hnil:behind (da K.2.2 seq) ns=[]:=by
   cases hb:behind (da K.2.2 seq) ns with
   | nil=>rfl
   | cons m s=>
    have h1:=hlow m (by rw[hb];simp);have h2:=HO.o.full m (by rw[bN (da K.2.2 seq) ns,hb];simp);omega
  have HT:Hid (AE K.2.2 seq ns=none):=by unfold Hid;rw[HG.o,hnil]
  have e3:dX (di dq (behind (da K.2.2 seq) ns) 0) = .pointer none:=by rw[e1];rfl
  rw[e3];have c0:=HS2.o.cell 0;have c1:=HS2.o.cell 1;have c2:=HS2.o.cell 2;have c3:=HS2.o.cell 3;have f0:=HS2.o.frozen 0;have f1:=HS2.o.frozen 1;have f2:=HS2.o.frozen 2;have f3:=HS2.o.frozen 3;have h6:=(((HS2.o.set 0 (.slice none 0 0)).set 1 (.slice none 0 0)).set 2 (.int .i64 0)).set 3 (.bool false);clear e1 e3 hlow hnil q0 q1;go_wp2_with fail;revert h6;generalize World.setCell _ _ _=w4;intro h6;refine bodyPost_ret (results_cell_tmp (p:=6) (q:=7) (by kernel_rfl) _ _ O 120 _ (0,0) _ _ rfl rfl h6.at Tryz.underlying120 rfl (by kernel_rfl)) rfl ?_;rw[HT.o];refine⟨⟨(none,0,[]),(none,0,[]),0,false⟩,rfl,rfl,?_⟩;exact((h6.right.aI 5 1).aI 5 1)
 .have hu0:u=[]:=by
   cases hb:u with
   | nil=>rfl
   | cons x s=>
    have h1:=hu x (by rw[hb];simp);have h2:=HO.o.full x (by rw[bN (da K.2.2 seq) ns,e2,hb];simp);omega
  subst hu0;rw[List.nil_append] at e2;have hgm:AE K.2.2 seq ns=if m.e.key.2.2=K.2.2 then some m.e.ao else none:=by rw[HG.o,e2]
  have e3:dX (di dq (behind (da K.2.2 seq) ns) 0) = .pointer (some ⟨m.a,0,none⟩):=by rw[e1];rfl
  rw[e3];obtain⟨n0,n1,n2,n3,n4,n5,n6⟩:=HV2.o.node (ahead (da K.2.2 seq) ns) m t (by rw[<-e2];exact bN _ _);have hml:=HS.o.each m (by rw[bN (da K.2.2 seq) ns,e2];simp);have hk2:m.e.key.2.2.length<=140737488355328:=by omega
  have hv2:m.e.value.2.2.length<=140737488355328:=by omega
  unfold aO at n1 n2;have HN:=ah n6;clear e1 e3 hm hu n5 n6 n0 e2 q0 q1 hml;by_cases hkk:m.e.key.2.2=K.2.2
  .rw[if_pos hkk] at hgm;have HT:=ah hgm;have HB:Hid (decide (m.e.key.2.2=K.2.2)=true):=by simpa [Hid] using hkk
   clear hgm hkk;go_wp2_with (first
    | (go_at_call 126;refine(eZ m.e.key K _ HN.o.1 (HK.o.new HK2.o)).mono ?_;rintro x wx ⟨rfl,rfl⟩;rw[HB.o])
    | (go_at_call 110;refine(kj m.e w _ _ HS2.o HN.o hk2 hv2).mono ?_;rintro x w6 ⟨⟨A2,c2,B2,d2,rfl,hs6⟩,k6⟩;have z0:=hs6.bD.cell 0;have z1:=hs6.bD.cell 1;have z2:=hs6.bD.cell 2;have z3:=hs6.bD.cell 3;have f0:=hs6.bD.frozen 0;have f1:=hs6.bD.frozen 1;have f2:=hs6.bD.frozen 2;have f3:=hs6.bD.frozen 3;have h9:=(((hs6.bD.set 0 (.slice A2 m.e.key.2.2.length c2)).set 1 (.slice B2 m.e.value.2.2.length d2)).set 2 (.int .i64 m.e.seq)).set 3 (.bool m.e.dead);have HS9:=ah h9;clear hs6 k6 h9;simp only[jD]))
   have h9:=HS9.o;revert h9;generalize World.setCell _ _ _=w4;intro h9;refine bodyPost_ret (results_cell_tmp (p:=6) (q:=7) (by kernel_rfl) _ _ O 120 _ (0,0) _ _ rfl rfl h9.at Tryz.underlying120 rfl (by kernel_rfl)) rfl ?_;rw[HT.o];exact⟨⟨(A2,c2,m.e.key.2.2),(B2,d2,m.e.value.2.2),m.e.seq,m.e.dead⟩,rfl,rfl,h9.right⟩
  .rw[if_neg hkk] at hgm;have HT:=ah hgm;have HB:Hid (decide (m.e.key.2.2=K.2.2)=false):=by simpa [Hid] using hkk
   clear hgm hkk;have c0:=HS2.o.cell 0;have c1:=HS2.o.cell 1;have c2:=HS2.o.cell 2;have c3:=HS2.o.cell 3;have f0:=HS2.o.frozen 0;have f1:=HS2.o.frozen 1;have f2:=HS2.o.frozen 2;have f3:=HS2.o.frozen 3;have h6:=(((HS2.o.set 0 (.slice none 0 0)).set 1 (.slice none 0 0)).set 2 (.int .i64 0)).set 3 (.bool false);have HS6:=ah h6;clear h6;go_wp2_with (first
    | (go_at_call 126;refine(eZ m.e.key K _ HN.o.1 (HK.o.new HK2.o)).mono ?_;rintro x wx ⟨rfl,rfl⟩;rw[HB.o]))
   have h6:=HS6.o;revert h6;generalize World.setCell _ _ _=w4;intro h6;refine bodyPost_ret (results_cell_tmp (p:=6) (q:=7) (by kernel_rfl) _ _ O 120 _ (0,0) _ _ rfl rfl h6.at Tryz.underlying120 rfl (by kernel_rfl)) rfl ?_;rw[HT.o];refine⟨⟨(none,0,[]),(none,0,[]),0,false⟩,rfl,rfl,?_⟩;exact((h6.right.aI 5 1).aI 5 1)
def bV:List UInt8->List UInt8->Nat
 | a::l,b::m=>if a=b then bV l m+1 else 0
 | _,_=>0
theorem mZ: ∀ a b:List UInt8,bV a b<=a.length/\bV a b<=b.length
 | [],b=>by simp[bV]
 | a::l,[]=>by simp[bV]
 | a::l,b::m=>by
  have:=mZ l m;unfold bV;split<;>simp<;>omega
theorem nI: ∀ a b:List UInt8,a.take (bV a b)=b.take (bV a b)
 | [],b=>by simp[bV]
 | a::l,[]=>by simp[bV]
 | a::l,b::m=>by
  have:=nI l m;unfold bV;split
  .rename_i h;rw[List.take_succ_cons,List.take_succ_cons,this,h]
  .simp
theorem jX: ∀ {a b:List UInt8} {n:Nat},n<=a.length->n<=b.length->(∀ j (h:j<a.length) (h':j<b.length),j<n->a[j]=b[j])->(∀ (h:n<a.length) (h':n<b.length),a[n]≠b[n])->bV a b=n
 | [],b,n,h1,_,_,_=>by simp at h1;simp[bV,h1]
 | a::l,[],n,_,h2,_,_=>by simp at h2;simp[bV,h2]
 | a::l,b::m,0,_,_,_,h4=>by
  have:=h4 (by simp) (by simp);unfold bV;rw[if_neg (by simpa using this)]
 | a::l,b::m,n+1,h1,h2,h3,h4=>by
  have h0:=h3 0 (by simp) (by simp) (by omega);unfold bV;rw[if_pos (by simpa using h0),jX (n:=n) (by simpa using h1) (by simpa using h2) (fun j h h' hj=>by
   have:=h3 (j+1) (by simp;omega) (by simp;omega) (by omega);simpa using this) (fun h h'=>by
   have:=h4 (by simp;omega) (by simp;omega);simpa using this)]
def gM (e:aw):Bool:=decide (e.key.length<=128) && (decide (e.value.length<=16384) && ((!e.dead || decide (e.value.length=0)) && decide (0<=e.seq)))
def jY (ahead:List UInt8) (e:aw):List UInt8:=
 [UInt8.ofNat (bV ahead e.key),UInt8.ofNat (e.key.length - bV ahead e.key)]++(ai e.seq.toNat 8++([if e.dead then 1 else 0]++(ai e.value.length 2++(e.key.drop (bV ahead e.key)++e.value))))
def lB (L:List aw) (i:Nat):List UInt8:=if i % 8=0 then [] else match L[i - 1]? with | some e=>e.key | none=>[]
def kF (L:List aw) (i:Nat):List UInt8:=match L[i]? with | some e=>jY (lB L i) e | none=>[]
def dT:List UInt8:=[84,68,84,49]
def dp (L:List aw) (k:Nat):List UInt8:=dT++ai L.length 4++((List.range k).map (kF L)).flatten
def mF (L:List aw) (i:Nat):List UInt8:=if i % 8=0 then ai (dp L i).length 4++([UInt8.ofNat ((L[i]?.map (·.key.length)).getD 0)]++(L[i]?.map (·.key)).getD []) else []
def fL (L:List aw) (k:Nat):List UInt8:=ai ((L.length+7) / 8) 4++((List.range k).map (mF L)).flatten
def dh (L:List aw):Nat->List (List UInt8)
 | 0=>[]
 | k+1=>match L[k]? with
  | none=>dh L k
  | some e=>if k=0 then dh L k++[e.key] else match L[k - 1]? with
   | some d=>if d.key=e.key then dh L k else dh L k++[e.key]
   | none=>dh L k++[e.key]
def gY (L:List aw):List UInt8:=iX (List.replicate (dN (dh L L.length).length 10) 0) (dh L L.length)
def Et (L:List aw):List UInt8:=
 let b:=dp L L.length;let c:=b++fL L L.length
 c++ai (gY L).length 4++gY L++ai b.length 4++ai c.length 4
def aR (L:List aw):List UInt8:=Et L++ai (vZ (Et L)) 4
def cd (L:List aw):Nat:=if dR L=false then 70 else if 65536<L.length\/L.any (fun e=> !gM e) then 71 else 0
theorem kz (L:List aw) (k:Nat):dp L (k+1)=dp L k++kF L k:=by
 unfold dp;rw[List.range_succ,List.map_append,List.flatten_append,List.append_assoc];simp
theorem lX (L:List aw) (k:Nat):fL L (k+1)=fL L k++mF L k:=by
 unfold fL;rw[List.range_succ,List.map_append,List.flatten_append,List.append_assoc];simp
theorem Ft (n:Nat) (hn:n<9223372036854775808) (w0 w:World) (F:SP) (h:Sat w0 F w):Calls Tryz.prog 178 #[.int .i64 (n:Int)] w (xZ w0 F (ai n 4)):=by
 have H:=ah h;clear h;have hw:IntKind.u64.wrap (n:Int)=n:=by rw[IntKind.wrap_u64];omega
 go_enter Tryz.func178, Tryz.ntmps178;go_wp2_with (go_at_call 117;refine(ch n 4 (by omega) (by omega) (by omega) w0 _ F H.o).mono ?_;rintro x w1 ⟨A,c,rfl,h1,h2,hs⟩;have H1:=ah h1;have H2:=ah h2;have HS:=ah hs;clear h1 h2 hs);go_ret;exact⟨A,c,rfl,H1.o,H2.o,HS.o⟩
theorem AW (a b:cW) (w:World) (ha:Rd w a.1 a.2.2) (hb:Rd w b.1 b.2.2) (hl:a.2.2.length<=1000000):
 Calls Tryz.prog 197 #[.slice a.1 a.2.2.length a.2.1,.slice b.1 b.2.2.length b.2.1] w fun x w'=>x = .returned (.int .i64 (bV a.2.2 b.2.2:Nat))/\aq No w w':=by
 obtain⟨A,c,l⟩:=a;obtain⟨B,d,m⟩:=b;have HA:Hid (Rd w A l):=ha;have HB:Hid (Rd w B m):=hb;have hl:l.length<=1000000:=hl;clear ha hb;show Calls Tryz.prog 197 #[.slice A l.length c,.slice B m.length d] w fun x w'=>x = .returned (.int .i64 (bV l m:Nat))/\aq No w w'
 go_enter Tryz.func197, Tryz.ntmps197;go_wp2_with fail;go_loopw [5] (fun iv wr=> ∃ n:Nat,n<=l.length/\n<=m.length/\iv = .int .i64 n/\Hid ((∀ j (h:j<l.length) (h':j<m.length),j<n->l[j]=m[j])/\aq No w wr)) (fun iv _=>l.length - (intOf iv).toNat)
 case atStart=>exact⟨0,by omega,by omega,rfl,fun j _ _ h=>by omega,aq.refl _ _⟩
 case round=>
  obtain⟨n,hn1,hn2,rfl,HD⟩:=hrel;by_cases h1:n<l.length
  .by_cases h2:n<m.length
   .obtain⟨b1,o1,rfl,c1⟩:=(HA.o.new HD.o.2).get h1;obtain⟨b2,o2,rfl,c2⟩:=(HB.o.new HD.o.2).get h2;by_cases h3:l[n]=m[n]
    .have HN:Hid (∀ j (h:j<l.length) (h':j<m.length),j<n+1->l[j]=m[j]):=fun j h h' hj=>by
      by_cases e:j=n
      .subst e;exact h3
      .exact HD.o.1 j h h' (by omega)
     rw[h3] at c1;clear h3;go_wp2_with fail;go_quiet (fail)
     go_wp2_with fail;go_roundw
     .exact⟨n+1,by omega,by omega,by push_cast;rfl,HN.o,HD.o.2.drewN _⟩
     .simp[intOf];omega
    .have h4:((l[n].toNat:Int)==(m[n].toNat:Int))=false:=by
      rw[beq_eq_false_iff_ne];intro e;exact h3 (UInt8.toNat.inj (by omega))
     have HE:Hid (bV l m=n):=jX hn1 hn2 HD.o.1 (fun _ _=>h3);clear h3;go_wp2_with fail;go_quiet (fail)
     go_wp2_with fail;go_ret;exact⟨by rw[HE.o];rfl,HD.o.2.drewN _⟩
   .have HE:Hid (bV l m=n):=jX hn1 hn2 HD.o.1 (fun _ h=>absurd h h2);go_wp2_with fail;go_quiet (fail)
    go_wp2_with fail;go_ret;exact⟨by rw[HE.o];rfl,HD.o.2.drewN _⟩
  .have HE:Hid (bV l m=n):=jX hn1 hn2 HD.o.1 (fun h=>absurd h h1);go_wp2_with fail;go_quiet (fail)
   go_wp2_with fail;go_ret;exact⟨by rw[HE.o];rfl,HD.o.2.drewN _⟩
theorem Hq (e:En) (w:World) (hk:e.key.2.2.length<=140737488355328) (hv:e.value.2.2.length<=140737488355328):
 Calls Tryz.prog 177 #[jD e] w fun x w'=>x = .returned (.bool (gM e.ao))/\aq No w w':=by
 obtain⟨⟨kA,kc,k⟩,⟨vA,vc,v⟩,seq,dead⟩:=e;have hk:k.length<=140737488355328:=hk;have hv:v.length<=140737488355328:=hv;have hs:=(Sat.start w).af 120 #[.slice kA k.length kc,.slice vA v.length vc,.int .i64 seq,.bool dead];have c0:=hs.cell 0;have c1:=hs.cell 1;have c2:=hs.cell 2;have c3:=hs.cell 3;have HS:=ah hs;have HM:Hid (gM ⟨k,v,seq,dead⟩=(decide (k.length<=128) && (decide (v.length<=16384) && ((!dead || decide (v.length=0)) && decide (0<=seq))))):=rfl;unfold jD;show Calls Tryz.prog _ _ w fun x w'=>x = .returned (.bool (gM ⟨k,v,seq,dead⟩))/\aq No w w'
 clear hs;by_cases h1:k.length<=128
 .have q1:=decide_eq_true h1;have i1:(k.length:Int)<=128:=by omega
  by_cases h2:v.length<=16384
  .have q2:=decide_eq_true h2;have i2:(v.length:Int)<=16384:=by omega
   by_cases h3:0<=seq
   .have q3:=decide_eq_true h3;by_cases h4:v.length=0
    .have q4:=decide_eq_true h4;have HE:Hid (gM ⟨k,v,seq,dead⟩=true):=by unfold Hid;rw[HM.o,q1,q2,q3,q4];cases dead<;>rfl
     have i4:((v.length:Int)==0)=true:=by rw[h4];rfl
     clear q1 q2 q3 q4 h4
     cases dead<;>
     .go_enter Tryz.func177, Tryz.ntmps177;go_wp2_with fail;go_ret;exact⟨by rw[HE.o];rfl,HS.o.aP⟩
    .have q4:=decide_eq_false h4;have i4:((v.length:Int)==0)=false:=by rw[beq_eq_false_iff_ne];omega
     cases dead
     .have HE:Hid (gM ⟨k,v,seq,false⟩=true):=by unfold Hid;rw[HM.o,q1,q2,q3,q4];rfl
      clear q1 q2 q3 q4 h4;go_enter Tryz.func177, Tryz.ntmps177;go_wp2_with fail;go_ret;exact⟨by rw[HE.o];rfl,HS.o.aP⟩
     .have HE:Hid (gM ⟨k,v,seq,true⟩=false):=by unfold Hid;rw[HM.o,q1,q2,q3,q4];rfl
      clear q1 q2 q3 q4 h4;go_enter Tryz.func177, Tryz.ntmps177;go_wp2_with fail;go_ret;exact⟨by rw[HE.o];rfl,HS.o.aP⟩
   .have q3:=decide_eq_false h3;have HE:Hid (gM ⟨k,v,seq,dead⟩=false):=by unfold Hid;rw[HM.o,q1,q2,q3];simp
    by_cases h4:v.length=0
    .have i4:((v.length:Int)==0)=true:=by rw[h4];rfl
     clear q1 q2 q3 h4
     cases dead<;>
     .go_enter Tryz.func177, Tryz.ntmps177;go_wp2_with fail;go_ret;exact⟨by rw[HE.o];rfl,HS.o.aP⟩
    .have i4:((v.length:Int)==0)=false:=by rw[beq_eq_false_iff_ne];omega
     clear q1 q2 q3 h4
     cases dead<;>
     .go_enter Tryz.func177, Tryz.ntmps177;go_wp2_with fail;go_ret;exact⟨by rw[HE.o];rfl,HS.o.aP⟩
  .have q2:=decide_eq_false h2;have i2:¬ (v.length:Int)<=16384:=by omega
   have HE:Hid (gM ⟨k,v,seq,dead⟩=false):=by unfold Hid;rw[HM.o,q1,q2];rfl
   clear q1 q2;go_enter Tryz.func177, Tryz.ntmps177;go_wp2_with fail;go_ret;exact⟨by rw[HE.o];rfl,HS.o.aP⟩
 .have q1:=decide_eq_false h1;have i1:¬ (k.length:Int)<=128:=by omega
  have HE:Hid (gM ⟨k,v,seq,dead⟩=false):=by unfold Hid;rw[HM.o,q1];rfl
  clear q1;go_enter Tryz.func177, Tryz.ntmps177;go_wp2_with fail;go_ret;exact⟨by rw[HE.o];rfl,HS.o.aP⟩
def cE (n:Nat) (q:List UInt8) (s:Bool):List UInt8 × List UInt8 × Bool:=if s=true\/q.length<n then (List.replicate (min n 8) 0,q,true) else (q.take n,q.drop n,false)
theorem pf {n:Nat} {q:List UInt8} {s:Bool} (h:s=true\/q.length<n):cE n q s=(List.replicate (min n 8) 0,q,true):=if_pos h
theorem yH {n:Nat} {q:List UInt8} (h:n<=q.length):cE n q false=(q.take n,q.drop n,false):=by
 unfold cE;rw[if_neg (by simp;omega)]
def wH (w0:World) (R:Nat) (F:SP) (q:List UInt8) (s:Bool) (w:World):Prop:= ∃ A c,Sat w0 (Pt R 223 #[.slice A q.length c,.bool s]*F) w/\Rd w0 A q/\q.length<=c/\c<=maxLen
theorem qp (n:Nat) (hn:n<=8) (W:World):(Instr.makeSlice 41 (.int .i64 (n:Int)) (.int .i64 (n:Int))).run Tryz.prog W=
 .ok (.slice (some ⟨W.heap.size,0,none⟩) n n) (W.alloc (.cells (madeCells #[.int .u8 0] n) 5)):=by
 obtain⟨i0,hi,hz0,hz1,hz2⟩:=info_parts nU;have hr:=run_make (P:= Tryz.prog) W 41 5 i0 _ Tryz.underlying41 hi hz0 .i64 .i64 n n (by omega) (by omega) (by rw[hz2];omega) (by omega);have hc:(Value.int .u8 0).cells = #[.int .u8 0]:=rfl;simpa [hz1,hc] using hr
def K7 (w0:World) (R:Nat) (F:SP) (p:List UInt8 × List UInt8 × Bool) (e:Ending) (w':World):Prop:=
 ∃ B d,e = .returned (.slice B p.1.length d)/\Rd w' B p.1/\(p.2.2=false->Rd w0 B p.1)/\p.1.length<=d/\d<=maxLen/\wH w0 R F p.2.1 p.2.2 w'
theorem lJ (n:Nat) (hn:n<=65536) (R:Nat) (F:SP) (q:List UInt8) (s:Bool) (w0 w:World) (h:wH w0 R F q s w) (hql:q.length<=140737488355328):
 Calls Tryz.prog 139 #[.pointer (some ⟨R,0,none⟩),.int .i64 (n:Int)] w (K7 w0 R F (cE n q s)):=by
 obtain⟨A,c,hs,hr,hc,hm⟩:=h;have c0:=hs.cell 0;have c1:=hs.cell 1;have f0:=hs.frozen 0;have f1:=hs.frozen 1;have HS:=ah hs;have HR:=ah hr;unfold maxLen at hm;clear hs hr;by_cases hsh:s=true\/q.length<n
 .have HT:=ah (pf hsh);have hmin:min (n:Int) 8=((min n 8:Nat):Int):=by omega
  obtain⟨k,hk⟩: ∃ k,min n 8=k:=⟨_,rfl⟩;have hk8:k<=8:=by omega
  have hmk:=qp k hk8;rw[HT.o,hk];rw[hk] at hmin;have HK:=ah hk;clear hk;have HD:Hid (∀ W,Sat w0 (Pt R 223 #[.slice A q.length c,.bool true]*F) W->K7 w0 R F (List.replicate k 0,q,true) (.returned (.slice (some ⟨W.heap.size,0,none⟩) k k)) (W.alloc (.cells (madeCells #[.int .u8 0] k) 5))):=fun W hW=>
   ⟨some ⟨W.heap.size,0,none⟩,k,by simp,by
    have h0:=aH.lit W (madeCells #[.int .u8 0] k) 5 (0,0);have e:(madeCells #[.int .u8 0] k).toList=(List.replicate k (0:UInt8)).map bv:=by
     rw[List.map_replicate];simp[madeCells,bv,Nat.mod_one,List.map_const']
    rw[e] at h0;exact h0,by simp,by simp,by unfold maxLen;omega,A,c,hW.aC _,HR.o,hc,by unfold maxLen;omega⟩
  have HTr:=HD;rcases Nat.lt_or_ge 8 n with h8 | h8
  case' inr=>
   have hkn:k=n:=by have:=HK.o;omega
   subst hkn;have hmz:=hmk;have hmi:¬ (8:Int)<k:=by omega
  case' inl=>
   have hkn:k=8:=by have:=HK.o;omega
   subst hkn;have hmz: ∀ W:World,(Instr.makeSlice 41 (.int .i64 8) (.int .i64 8)).run Tryz.prog W = .ok (.slice (some ⟨W.heap.size,0,none⟩) 8 8) (W.alloc (.cells (madeCells #[.int .u8 0] 8) 5)):=qp 8 (by omega);have hmi:(8:Int)<n:=by omega
  all_goals
   clear hmk hmin HK
   cases s
   case true=>
    go_enter Tryz.func139, Tryz.ntmps139;go_wp2_with fail;go_ret;have h9:=HD.o _ (HS.o.set 1 (.bool true));rw[show (w.setCell ⟨R,1,none⟩ (.bool true)).heap.size=w.heap.size by simp] at h9;exact h9
   case false=>
    have hlt:=hsh.resolve_left (by decide);go_enter Tryz.func139, Tryz.ntmps139;go_wp2_with fail;go_ret;have h9:=HD.o _ (HS.o.set 1 (.bool true));rw[show (w.setCell ⟨R,1,none⟩ (.bool true)).heap.size=w.heap.size by simp] at h9;exact h9
 .have hs:s=false:=by cases s;rfl;simp at hsh
  subst hs;have hle:n<=q.length:=by simp at hsh;omega
  have hlt:¬ (q.length:Int)<n:=by omega
  have hlt2:(n:Int)<=q.length:=by omega
  have HT:=ah (yH hle);rw[HT.o];have HD:Hid (∀ W A' c' cx,A'=(if c=n then A else A.map (·.add n))->c'=c - n->cx=c->Sat w0 (Pt R 223 #[.slice A' (q.drop n).length c',.bool false]*F) W->K7 w0 R F (q.take n,q.drop n,false) (.returned (.slice A (q.take n).length cx)) W):=fun W A' c' cx e1 e2 e3 hW=>by
   subst e1 e2 e3;exact⟨A,cx,rfl,(HR.o.take n).new hW.aP,fun _=>HR.o.take n,by simp;omega,by unfold maxLen;omega,_,_,hW,HR.o.drop hle hc,by simp;omega,by unfold maxLen;omega⟩
  rw[show (q.take n).length=n by simp;omega,show (q.drop n).length=q.length - n by simp] at HD;clear hsh;go_enter Tryz.func139, Tryz.ntmps139;go_wp2_with fail
  all_goals
   go_ret;first
    | exact HD.o _ _ _ _ (by rw[if_pos ‹c=n›]) (by omega) (by omega) (HS.o.set 0 _)
    | exact HD.o _ _ _ _ (by rw[if_neg ‹¬ c=n›]) (by omega) (by omega) (HS.o.set 0 _)
theorem Jl {w0 w:World} {S:SP} (a b:cW) (h:Sat w0 S w) (ha:Rd w a.1 a.2.2) (hb:Rd w b.1 b.2.2) (hl:a.2.2.length<=1000000):
 Calls Tryz.prog 197 #[.slice a.1 a.2.2.length a.2.1,.slice b.1 b.2.2.length b.2.1] w fun x w'=>x = .returned (.int .i64 (bV a.2.2 b.2.2:Nat))/\Sat w0 S w':=by
 refine(AW a b w ha hb hl).mono ?_;rintro x w' ⟨rfl,k⟩;exact⟨rfl,h.new k⟩
def nA (n m seq:Nat) (dn:UInt8) (kA:Option Addr) (kc:Nat) (k:List UInt8) (vA:Option Addr) (vc:Nat) (v:List UInt8) (g8 g14:Nat) (A12:Option Addr) (c12:Nat) (A19:Option Addr) (c19:Nat):bP:=
 [(some ⟨g8,0,none⟩,2,[UInt8.ofNat n,UInt8.ofNat m]),(A12,c12,ai seq 8),(some ⟨g14,0,none⟩,1,[dn]),(A19,c19,ai v.length 2),((if kc=n then kA else Option.map (fun x=>x.add n) kA),kc - n,k.drop n),(vA,vc,v)]
theorem Le (n m seq:Nat) (dn:UInt8) (kA:Option Addr) (kc:Nat) (k:List UInt8) (vA:Option Addr) (vc:Nat) (v:List UInt8) (hnk:n<=k.length) (hkl:k.length<=128) (hm:m=k.length - n) (hkc:k.length<=kc) (w w26:World) (PE:SP) (g8 g14 g26:Nat) (A12:Option Addr) (c12:Nat) (A19:Option Addr) (c19:Nat)
 (hs:Sat w (PE*(Pt g8 5 #[.int .u8 (n:Int),.int .u8 (m:Int)]*(Row 5 1 (.slice A12 (ai seq 8).length c12) (ai seq 8).length ((ai seq 8).map bv)*(Pt g14 5 #[.int .u8 (dn.toNat:Int)]*(Row 5 1 (.slice A19 (ai v.length 2).length c19) (ai v.length 2).length ((ai v.length 2).map bv)*(Pt g26 41 #[.slice (some ⟨g8,0,none⟩) 2 2,.slice A12 (ai seq 8).length c12,.slice (some ⟨g14,0,none⟩) 1 1,.slice A19 (ai v.length 2).length c19,.slice (if kc=n then kA else Option.map (fun x=>x.add n) kA) (k.length - n) (kc - n),.slice vA v.length vc]*aV)))))) w26)
 (hk:Rd w26 kA k) (hv:Rd w26 vA v):sQ w26 (some ⟨g26,0,none⟩) (nA n m seq dn kA kc k vA vc v g8 g14 A12 c12 A19 c19):=by
 refine⟨?_,fun x hx=>?_⟩
 .have e:(nA n m seq dn kA kc k vA vc v g8 g14 A12 c12 A19 c19).map aE=(#[.slice (some ⟨g8,0,none⟩) 2 2,.slice A12 (ai seq 8).length c12,.slice (some ⟨g14,0,none⟩) 1 1,.slice A19 (ai v.length 2).length c19,.slice (if kc=n then kA else Option.map (fun x=>x.add n) kA) (k.length - n) (kc - n),.slice vA v.length vc]:Array Value).toList:=by simp[nA,aE]
  rw[e];exact aH.jC hs.CQ.at fun j hj=>by rw[<-Array.getElem?_toList,List.getElem?_eq_getElem hj]
 .have h8:Rd w26 (some ⟨g8,0,none⟩) [UInt8.ofNat n,UInt8.ofNat m]:=aH.jC hs.av.at fun j hj=>by
   have hn:((UInt8.ofNat n).toNat:Int)=n:=by rw[UInt8.toNat_ofNat',Nat.mod_eq_of_lt (by omega)]
   have hmm:((UInt8.ofNat m).toNat:Int)=m:=by rw[UInt8.toNat_ofNat',Nat.mod_eq_of_lt (by omega)]
   have e:([UInt8.ofNat n,UInt8.ofNat m].map bv)=[.int .u8 (n:Int),.int .u8 (m:Int)]:=by
    unfold bv;rw[List.map_cons,List.map_cons,List.map_nil,hn,hmm]
   simp only[e];rw[<-List.getElem?_eq_getElem (by rw[e] at hj;exact hj)];simp
  have h14:Rd w26 (some ⟨g14,0,none⟩) [dn]:=aH.jC hs.bW.at fun j hj=>by
   simp at hj;subst hj;rfl
  have h12:Rd w26 A12 (ai seq 8):=aH.bO hs.bD.aS;have h19:Rd w26 A19 (ai v.length 2):=aH.bO hs.gw.aS;have hd:Rd w26 (if kc=n then kA else Option.map (fun x=>x.add n) kA) (k.drop n):=hk.drop hnk hkc;unfold nA at hx;simp only[List.mem_cons,List.not_mem_nil,or_false] at hx;rcases hx with rfl | rfl | rfl | rfl | rfl | rfl
  .exact h8
  .exact h12
  .exact h14
  .exact h19
  .exact hd
  .exact hv
theorem KU (n m seq:Nat) (dn:UInt8) (kA:Option Addr) (kc:Nat) (k:List UInt8) (vA:Option Addr) (vc:Nat) (v:List UInt8) (g8 g14:Nat) (A12:Option Addr) (c12:Nat) (A19:Option Addr) (c19:Nat) (hkl:k.length<=128) (hvl:v.length<=16384):
 (bT (nA n m seq dn kA kc k vA vc v g8 g14 A12 c12 A19 c19)).flatten.length<=140737488355328:=by
 simp[bT,nA,aB];omega
theorem IT (al:List UInt8) (n m seq:Nat) (dn:UInt8) (kA:Option Addr) (kc:Nat) (k:List UInt8) (vA:Option Addr) (vc:Nat) (v:List UInt8) (g8 g14:Nat) (A12:Option Addr) (c12:Nat) (A19:Option Addr) (c19:Nat) (dead:Bool) (hn:n=bV al k) (hm:m=k.length - n) (hd:dn=if dead then 1 else 0):
 (bT (nA n m seq dn kA kc k vA vc v g8 g14 A12 c12 A19 c19)).flatten=jY al ⟨k,v,(seq:Int),dead⟩:=by
 subst hn;subst hm;subst hd;simp[bT,nA,jY]
theorem xZ.lift {w0 w w':World} {F:SP} {l:List UInt8} {e:Ending} (h:Sat w0 F w) (k:xZ w aV l e w'):xZ w0 F l e w':=by
 obtain⟨A,c,rfl,h1,h2,hs⟩:=k;exact⟨A,c,rfl,h1,h2,h.dP hs.aP hs.aS⟩
def eA (g n m:Nat):SP:=Pt g 5 #[.int .u8 (n:Int),.int .u8 (m:Int)]
def eB (g:Nat) (dn:UInt8):SP:=Pt g 5 #[.int .u8 (dn.toNat:Int)]
def eR (A:Option Addr) (c:Nat) (l:List UInt8):SP:=Row 5 1 (.slice A l.length c) l.length (l.map bv)
theorem MC (a:cW) (kA:Option Addr) (kc:Nat) (k:List UInt8) (vA:Option Addr) (vc:Nat) (v:List UInt8) (seq:Nat) (dead:Bool) (w:World) (ha:Rd w a.1 a.2.2) (hk:Rd w kA k) (hv:Rd w vA v)
 (hal:a.2.2.length<=128) (hkl:k.length<=128) (hkc:k.length<=kc) (hkm:kc<=maxLen) (hvl:v.length<=16384) (hsq:seq<9223372036854775808):
 Calls Tryz.prog 179 #[.slice a.1 a.2.2.length a.2.1,.agg #[.slice kA k.length kc,.slice vA v.length vc,.int .i64 (seq:Int),.bool dead]] w (xZ w aV (jY a.2.2 ⟨k,v,seq,dead⟩)):=by
 have h:=Sat.start w;obtain⟨n,hn⟩: ∃ n,n=bV a.2.2 k:=⟨_,rfl⟩;have hnk:n<=k.length:=by rw[hn];exact(mZ _ _).2
 have hs0:=h.af 120 #[.slice kA k.length kc,.slice vA v.length vc,.int .i64 (seq:Int),.bool dead];have c0:=hs0.cell 0;have c1:=hs0.cell 1;have c2:=hs0.cell 2;have c3:=hs0.cell 3;have K0:=(aq.refl No w).alloc (.cells #[.slice kA k.length kc,.slice vA v.length vc,.int .i64 (seq:Int),.bool dead] 120);have HA:=ah ha;have HK:=ah hk;have HV:=ah hv;have HA0:=ah (ha.new K0);have HK0:=ah (hk.new K0);have HS:=ah hs0;have HN:=ah hn;unfold maxLen at hkm;clear h ha hk hv hs0 K0 hn;go_enter Tryz.func179, Tryz.ntmps179;go_upto_if 12 with (go_at_call 197;refine(Jl a (kA,kc,k) HS.o HA0.o HK0.o (by omega)).mono ?_;rintro x w1 ⟨rfl,hs1⟩;have d3:=hs1.cell 3;have HS1:=ah hs1;clear hs1)
 rw[<-HN.o];obtain⟨E,hE⟩: ∃ E,E=w.heap.size:=⟨_,rfl⟩;rw[<-hE] at HS1 d3;rw[<-hE];have HE:=ah hE;clear hE HS c0 c1 c2 c3;obtain⟨dn,hdn⟩: ∃ dn:UInt8,dn=if dead then 1 else 0:=⟨_,rfl⟩;have HDn:=ah hdn;clear hdn;go_cut [6] from 7 (fun fv wx=>fv = .int .u8 (dn.toNat:Int)/\wx=w1)
 case first=>
  cases dead
  .go_wp2_with fail;go_meet
   exact⟨by rw[HDn.o];rfl,rfl⟩
  .go_wp2_with fail;go_meet
   exact⟨by rw[HDn.o];rfl,rfl⟩
 case rest=>
  obtain⟨rfl,rfl⟩:=hcut;obtain⟨m,hm⟩: ∃ m,m=k.length - n:=⟨_,rfl⟩;have hsub:(k.length:Int) - (n:Int)=(m:Int):=by omega
  have hw1:IntKind.u8.wrap (n:Int)=n:=by rw[IntKind.wrap_u8];omega
  have hw2:IntKind.u8.wrap (m:Int)=m:=by rw[IntKind.wrap_u8];omega
  have hw3:IntKind.u64.wrap (seq:Int)=seq:=by rw[IntKind.wrap_u64];omega
  have hw4:IntKind.u64.wrap (v.length:Int)=v.length:=by rw[IntKind.wrap_u64];omega
  have hw5:IntKind.i64.wrap (m:Int)=m:=by rw[IntKind.wrap_i64];omega
  have HM:=ah hm;have HSd:=ah HS1.o.drew;clear hm;go_upto_region 5 with fail;obtain⟨PE,hPE⟩: ∃ PE,PE=Pt E 120 #[.slice kA k.length kc,.slice vA v.length vc,.int .i64 (seq:Int),.bool dead]:=⟨_,rfl⟩;rw[<-hPE] at HSd;have HC:Hid (∀ X w',Sat w (PE*X) w'->w'.cell? ⟨E,0,none⟩=some (.slice kA k.length kc)/\w'.cell? ⟨E,1,none⟩=some (.slice vA v.length vc)/\w'.cell? ⟨E,2,none⟩=some (.int .i64 (seq:Int))):=ah fun X w' hW=>by rw[hPE] at hW;exact⟨hW.cell 0,hW.cell 1,hW.cell 2⟩
  clear hPE;refine wp_region_held_drew (S:=fun w'=>w'.cell? ⟨E,0,none⟩=some (.slice kA k.length kc)/\w'.cell? ⟨E,1,none⟩=some (.slice vA v.length vc)/\w'.cell? ⟨E,2,none⟩=some (.int .i64 (seq:Int))) (by kernel_rfl) (HC.o _ _ HSd.o) ?_;intro hS0;revert hS0 HSd;generalize wc.drew=wd;intro HS hS0;refine an 0 1 2 3 ?_;refine an 4 5 6 7 ?_;refine an 9 10 11 13 ?_;refine an 15 16 17 18 ?_;refine an 20 21 22 23 ?_;refine cm 24 25 ?_;refine uA (i:=8) (j:=12) (k:=14) rfl rfl rfl (by kernel_rfl) (fun K hK=>?_) (fun K hK=>?_) (fun K hK=>?_);go_simp;have hs:=HS.o.af 5 #[.int .u8 (n:Int),.int .u8 (m:Int)];revert hs;generalize World.alloc wd _=w8;generalize wd.heap.size=g8;intro hs;replace HS:Hid (Sat w (PE*(eA g8 n m*aV)) w8):=hs.of (show eA g8 n m*_=_ by ac_rfl);clear hs;refine hK.out _ _ (HC.o _ _ HS.o) (fun hS0=>?_);clear hK K;refine dc (i:=12) (j:=14) rfl rfl (by kernel_rfl) (fun K hK=>?_) (fun K hK=>?_);go_simp;go_at_call 117
  refine(ch seq 8 (by omega) (by omega) (by omega) w _ _ HS.o).mono ?_;rintro x w12 ⟨A12,c12,rfl, -, -,hs⟩;replace HS:Hid (Sat w (PE*(eA g8 n m*(eR A12 c12 (ai seq 8)*aV))) w12):=hs.of (show eR A12 c12 (ai seq 8)*_=_ by ac_rfl);clear hs;refine hK.out _ _ (HC.o _ _ HS.o) (fun hS0=>?_);clear hK K;refine dc (i:=14) (j:=19) rfl rfl (by kernel_rfl) (fun K hK=>?_) (fun K hK=>?_);go_simp;have hs:=HS.o.af 5 #[.int .u8 (dn.toNat:Int)];revert hs;generalize World.alloc w12 _=w14;generalize w12.heap.size=g14;intro hs;replace HS:Hid (Sat w (PE*(eA g8 n m*(eR A12 c12 (ai seq 8)*(eB g14 dn*aV)))) w14):=hs.of (show eB g14 dn*_=_ by ac_rfl);clear hs;refine hK.out _ _ (HC.o _ _ HS.o) (fun hS0=>?_);clear hK K;refine bR 19 fun K hK=>?_
  go_simp;go_at_call 117
  refine(ch v.length 2 (by omega) (by omega) (by omega) w _ _ HS.o).mono ?_;rintro x wz ⟨A19,c19,rfl, -, -,hs⟩;replace HS:Hid (Sat w (PE*(eA g8 n m*(eR A12 c12 (ai seq 8)*(eB g14 dn*(eR A19 c19 (ai v.length 2)*aV))))) wz):=hs.of (show eR A19 c19 (ai v.length 2)*_=_ by ac_rfl);clear hs;refine hK.out _ _ (HC.o _ _ HS.o) (fun hS0=>?_);clear hK K
  rotate_left
  go_simp;go_at_call 117
  refine(ch v.length 2 (by omega) (by omega) (by omega) w _ _ HS.o).mono ?_;rintro x w19 ⟨A19,c19,rfl, -, -,hs⟩;replace HS:Hid (Sat w (PE*(eA g8 n m*(eR A12 c12 (ai seq 8)*(eR A19 c19 (ai v.length 2)*aV)))) w19):=hs.of (show eR A19 c19 (ai v.length 2)*_=_ by ac_rfl);clear hs;refine hK.out _ _ (HC.o _ _ HS.o) (fun hS0=>?_);clear hK K;refine bR 14 fun K hK=>?_
  go_simp;have hs:=HS.o.af 5 #[.int .u8 (dn.toNat:Int)];revert hs;generalize World.alloc w19 _=wz;generalize w19.heap.size=g14;intro hs;replace HS:Hid (Sat w (PE*(eA g8 n m*(eR A12 c12 (ai seq 8)*(eB g14 dn*(eR A19 c19 (ai v.length 2)*aV))))) wz):=hs.of (show eB g14 dn*_=_ by ac_rfl);clear hs;refine hK.out _ _ (HC.o _ _ HS.o) (fun hS0=>?_);clear hK K
  rotate_left
  go_simp;have hs:=HS.o.af 5 #[.int .u8 (dn.toNat:Int)];revert hs;generalize World.alloc w8 _=w14;generalize w8.heap.size=g14;intro hs;replace HS:Hid (Sat w (PE*(eA g8 n m*(eB g14 dn*aV))) w14):=hs.of (show eB g14 dn*_=_ by ac_rfl);clear hs;refine hK.out _ _ (HC.o _ _ HS.o) (fun hS0=>?_);clear hK K;refine bR 12 fun K hK=>?_
  go_simp;go_at_call 117
  refine(ch seq 8 (by omega) (by omega) (by omega) w _ _ HS.o).mono ?_;rintro x w12 ⟨A12,c12,rfl, -, -,hs⟩;replace HS:Hid (Sat w (PE*(eA g8 n m*(eR A12 c12 (ai seq 8)*(eB g14 dn*aV)))) w12):=hs.of (show eR A12 c12 (ai seq 8)*_=_ by ac_rfl);clear hs;refine hK.out _ _ (HC.o _ _ HS.o) (fun hS0=>?_);clear hK K;refine bR 19 fun K hK=>?_
  go_simp;go_at_call 117
  refine(ch v.length 2 (by omega) (by omega) (by omega) w _ _ HS.o).mono ?_;rintro x wz ⟨A19,c19,rfl, -, -,hs⟩;replace HS:Hid (Sat w (PE*(eA g8 n m*(eR A12 c12 (ai seq 8)*(eB g14 dn*(eR A19 c19 (ai v.length 2)*aV))))) wz):=hs.of (show eR A19 c19 (ai v.length 2)*_=_ by ac_rfl);clear hs;refine hK.out _ _ (HC.o _ _ HS.o) (fun hS0=>?_);clear hK K
  rotate_left
  go_simp;go_at_call 117
  refine(ch seq 8 (by omega) (by omega) (by omega) w _ _ HS.o).mono ?_;rintro x w12 ⟨A12,c12,rfl, -, -,hs⟩;replace HS:Hid (Sat w (PE*(eR A12 c12 (ai seq 8)*aV)) w12):=hs.of (show eR A12 c12 (ai seq 8)*_=_ by ac_rfl);clear hs;refine hK.out _ _ (HC.o _ _ HS.o) (fun hS0=>?_);clear hK K;refine uA (i:=8) (j:=14) (k:=19) rfl rfl rfl (by kernel_rfl) (fun K hK=>?_) (fun K hK=>?_) (fun K hK=>?_);go_simp;have hs:=HS.o.af 5 #[.int .u8 (n:Int),.int .u8 (m:Int)];revert hs;generalize World.alloc w12 _=w8;generalize w12.heap.size=g8;intro hs;replace HS:Hid (Sat w (PE*(eA g8 n m*(eR A12 c12 (ai seq 8)*aV))) w8):=hs.of (show eA g8 n m*_=_ by ac_rfl);clear hs;refine hK.out _ _ (HC.o _ _ HS.o) (fun hS0=>?_);clear hK K;refine dc (i:=14) (j:=19) rfl rfl (by kernel_rfl) (fun K hK=>?_) (fun K hK=>?_);go_simp;have hs:=HS.o.af 5 #[.int .u8 (dn.toNat:Int)];revert hs;generalize World.alloc w8 _=w14;generalize w8.heap.size=g14;intro hs;replace HS:Hid (Sat w (PE*(eA g8 n m*(eR A12 c12 (ai seq 8)*(eB g14 dn*aV)))) w14):=hs.of (show eB g14 dn*_=_ by ac_rfl);clear hs;refine hK.out _ _ (HC.o _ _ HS.o) (fun hS0=>?_);clear hK K;refine bR 19 fun K hK=>?_
  go_simp;go_at_call 117
  refine(ch v.length 2 (by omega) (by omega) (by omega) w _ _ HS.o).mono ?_;rintro x wz ⟨A19,c19,rfl, -, -,hs⟩;replace HS:Hid (Sat w (PE*(eA g8 n m*(eR A12 c12 (ai seq 8)*(eB g14 dn*(eR A19 c19 (ai v.length 2)*aV))))) wz):=hs.of (show eR A19 c19 (ai v.length 2)*_=_ by ac_rfl);clear hs;refine hK.out _ _ (HC.o _ _ HS.o) (fun hS0=>?_);clear hK K
  rotate_left
  go_simp;go_at_call 117
  refine(ch v.length 2 (by omega) (by omega) (by omega) w _ _ HS.o).mono ?_;rintro x w19 ⟨A19,c19,rfl, -, -,hs⟩;replace HS:Hid (Sat w (PE*(eA g8 n m*(eR A12 c12 (ai seq 8)*(eR A19 c19 (ai v.length 2)*aV)))) w19):=hs.of (show eR A19 c19 (ai v.length 2)*_=_ by ac_rfl);clear hs;refine hK.out _ _ (HC.o _ _ HS.o) (fun hS0=>?_);clear hK K;refine bR 14 fun K hK=>?_
  go_simp;have hs:=HS.o.af 5 #[.int .u8 (dn.toNat:Int)];revert hs;generalize World.alloc w19 _=wz;generalize w19.heap.size=g14;intro hs;replace HS:Hid (Sat w (PE*(eA g8 n m*(eR A12 c12 (ai seq 8)*(eB g14 dn*(eR A19 c19 (ai v.length 2)*aV))))) wz):=hs.of (show eB g14 dn*_=_ by ac_rfl);clear hs;refine hK.out _ _ (HC.o _ _ HS.o) (fun hS0=>?_);clear hK K
  rotate_left
  go_simp;have hs:=HS.o.af 5 #[.int .u8 (dn.toNat:Int)];revert hs;generalize World.alloc w12 _=w14;generalize w12.heap.size=g14;intro hs;replace HS:Hid (Sat w (PE*(eR A12 c12 (ai seq 8)*(eB g14 dn*aV))) w14):=hs.of (show eB g14 dn*_=_ by ac_rfl);clear hs;refine hK.out _ _ (HC.o _ _ HS.o) (fun hS0=>?_);clear hK K;refine dc (i:=8) (j:=19) rfl rfl (by kernel_rfl) (fun K hK=>?_) (fun K hK=>?_);go_simp;have hs:=HS.o.af 5 #[.int .u8 (n:Int),.int .u8 (m:Int)];revert hs;generalize World.alloc w14 _=w8;generalize w14.heap.size=g8;intro hs;replace HS:Hid (Sat w (PE*(eA g8 n m*(eR A12 c12 (ai seq 8)*(eB g14 dn*aV)))) w8):=hs.of (show eA g8 n m*_=_ by ac_rfl);clear hs;refine hK.out _ _ (HC.o _ _ HS.o) (fun hS0=>?_);clear hK K;refine bR 19 fun K hK=>?_
  go_simp;go_at_call 117
  refine(ch v.length 2 (by omega) (by omega) (by omega) w _ _ HS.o).mono ?_;rintro x wz ⟨A19,c19,rfl, -, -,hs⟩;replace HS:Hid (Sat w (PE*(eA g8 n m*(eR A12 c12 (ai seq 8)*(eB g14 dn*(eR A19 c19 (ai v.length 2)*aV))))) wz):=hs.of (show eR A19 c19 (ai v.length 2)*_=_ by ac_rfl);clear hs;refine hK.out _ _ (HC.o _ _ HS.o) (fun hS0=>?_);clear hK K
  rotate_left
  go_simp;go_at_call 117
  refine(ch v.length 2 (by omega) (by omega) (by omega) w _ _ HS.o).mono ?_;rintro x w19 ⟨A19,c19,rfl, -, -,hs⟩;replace HS:Hid (Sat w (PE*(eR A12 c12 (ai seq 8)*(eB g14 dn*(eR A19 c19 (ai v.length 2)*aV)))) w19):=hs.of (show eR A19 c19 (ai v.length 2)*_=_ by ac_rfl);clear hs;refine hK.out _ _ (HC.o _ _ HS.o) (fun hS0=>?_);clear hK K;refine bR 8 fun K hK=>?_
  go_simp;have hs:=HS.o.af 5 #[.int .u8 (n:Int),.int .u8 (m:Int)];revert hs;generalize World.alloc w19 _=wz;generalize w19.heap.size=g8;intro hs;replace HS:Hid (Sat w (PE*(eA g8 n m*(eR A12 c12 (ai seq 8)*(eB g14 dn*(eR A19 c19 (ai v.length 2)*aV))))) wz):=hs.of (show eA g8 n m*_=_ by ac_rfl);clear hs;refine hK.out _ _ (HC.o _ _ HS.o) (fun hS0=>?_);clear hK K
  rotate_left
  go_simp;go_at_call 117
  refine(ch v.length 2 (by omega) (by omega) (by omega) w _ _ HS.o).mono ?_;rintro x w19 ⟨A19,c19,rfl, -, -,hs⟩;replace HS:Hid (Sat w (PE*(eR A12 c12 (ai seq 8)*(eR A19 c19 (ai v.length 2)*aV))) w19):=hs.of (show eR A19 c19 (ai v.length 2)*_=_ by ac_rfl);clear hs;refine hK.out _ _ (HC.o _ _ HS.o) (fun hS0=>?_);clear hK K;refine dc (i:=8) (j:=14) rfl rfl (by kernel_rfl) (fun K hK=>?_) (fun K hK=>?_);go_simp;have hs:=HS.o.af 5 #[.int .u8 (n:Int),.int .u8 (m:Int)];revert hs;generalize World.alloc w19 _=w8;generalize w19.heap.size=g8;intro hs;replace HS:Hid (Sat w (PE*(eA g8 n m*(eR A12 c12 (ai seq 8)*(eR A19 c19 (ai v.length 2)*aV)))) w8):=hs.of (show eA g8 n m*_=_ by ac_rfl);clear hs;refine hK.out _ _ (HC.o _ _ HS.o) (fun hS0=>?_);clear hK K;refine bR 14 fun K hK=>?_
  go_simp;have hs:=HS.o.af 5 #[.int .u8 (dn.toNat:Int)];revert hs;generalize World.alloc w8 _=wz;generalize w8.heap.size=g14;intro hs;replace HS:Hid (Sat w (PE*(eA g8 n m*(eR A12 c12 (ai seq 8)*(eB g14 dn*(eR A19 c19 (ai v.length 2)*aV))))) wz):=hs.of (show eB g14 dn*_=_ by ac_rfl);clear hs;refine hK.out _ _ (HC.o _ _ HS.o) (fun hS0=>?_);clear hK K
  rotate_left
  go_simp;have hs:=HS.o.af 5 #[.int .u8 (dn.toNat:Int)];revert hs;generalize World.alloc w19 _=w14;generalize w19.heap.size=g14;intro hs;replace HS:Hid (Sat w (PE*(eR A12 c12 (ai seq 8)*(eB g14 dn*(eR A19 c19 (ai v.length 2)*aV)))) w14):=hs.of (show eB g14 dn*_=_ by ac_rfl);clear hs;refine hK.out _ _ (HC.o _ _ HS.o) (fun hS0=>?_);clear hK K;refine bR 8 fun K hK=>?_
  go_simp;have hs:=HS.o.af 5 #[.int .u8 (n:Int),.int .u8 (m:Int)];revert hs;generalize World.alloc w14 _=wz;generalize w14.heap.size=g8;intro hs;replace HS:Hid (Sat w (PE*(eA g8 n m*(eR A12 c12 (ai seq 8)*(eB g14 dn*(eR A19 c19 (ai v.length 2)*aV))))) wz):=hs.of (show eA g8 n m*_=_ by ac_rfl);clear hs;refine hK.out _ _ (HC.o _ _ HS.o) (fun hS0=>?_);clear hK K
  rotate_left
  go_simp;have hs:=HS.o.af 5 #[.int .u8 (dn.toNat:Int)];revert hs;generalize World.alloc wd _=w14;generalize wd.heap.size=g14;intro hs;replace HS:Hid (Sat w (PE*(eB g14 dn*aV)) w14):=hs.of (show eB g14 dn*_=_ by ac_rfl);clear hs;refine hK.out _ _ (HC.o _ _ HS.o) (fun hS0=>?_);clear hK K;refine dc (i:=8) (j:=12) rfl rfl (by kernel_rfl) (fun K hK=>?_) (fun K hK=>?_);go_simp;have hs:=HS.o.af 5 #[.int .u8 (n:Int),.int .u8 (m:Int)];revert hs;generalize World.alloc w14 _=w8;generalize w14.heap.size=g8;intro hs;replace HS:Hid (Sat w (PE*(eA g8 n m*(eB g14 dn*aV))) w8):=hs.of (show eA g8 n m*_=_ by ac_rfl);clear hs;refine hK.out _ _ (HC.o _ _ HS.o) (fun hS0=>?_);clear hK K;refine bR 12 fun K hK=>?_
  go_simp;go_at_call 117
  refine(ch seq 8 (by omega) (by omega) (by omega) w _ _ HS.o).mono ?_;rintro x w12 ⟨A12,c12,rfl, -, -,hs⟩;replace HS:Hid (Sat w (PE*(eA g8 n m*(eR A12 c12 (ai seq 8)*(eB g14 dn*aV)))) w12):=hs.of (show eR A12 c12 (ai seq 8)*_=_ by ac_rfl);clear hs;refine hK.out _ _ (HC.o _ _ HS.o) (fun hS0=>?_);clear hK K;refine bR 19 fun K hK=>?_
  go_simp;go_at_call 117
  refine(ch v.length 2 (by omega) (by omega) (by omega) w _ _ HS.o).mono ?_;rintro x wz ⟨A19,c19,rfl, -, -,hs⟩;replace HS:Hid (Sat w (PE*(eA g8 n m*(eR A12 c12 (ai seq 8)*(eB g14 dn*(eR A19 c19 (ai v.length 2)*aV))))) wz):=hs.of (show eR A19 c19 (ai v.length 2)*_=_ by ac_rfl);clear hs;refine hK.out _ _ (HC.o _ _ HS.o) (fun hS0=>?_);clear hK K
  rotate_left
  go_simp;go_at_call 117
  refine(ch seq 8 (by omega) (by omega) (by omega) w _ _ HS.o).mono ?_;rintro x w12 ⟨A12,c12,rfl, -, -,hs⟩;replace HS:Hid (Sat w (PE*(eR A12 c12 (ai seq 8)*(eB g14 dn*aV))) w12):=hs.of (show eR A12 c12 (ai seq 8)*_=_ by ac_rfl);clear hs;refine hK.out _ _ (HC.o _ _ HS.o) (fun hS0=>?_);clear hK K;refine dc (i:=8) (j:=19) rfl rfl (by kernel_rfl) (fun K hK=>?_) (fun K hK=>?_);go_simp;have hs:=HS.o.af 5 #[.int .u8 (n:Int),.int .u8 (m:Int)];revert hs;generalize World.alloc w12 _=w8;generalize w12.heap.size=g8;intro hs;replace HS:Hid (Sat w (PE*(eA g8 n m*(eR A12 c12 (ai seq 8)*(eB g14 dn*aV)))) w8):=hs.of (show eA g8 n m*_=_ by ac_rfl);clear hs;refine hK.out _ _ (HC.o _ _ HS.o) (fun hS0=>?_);clear hK K;refine bR 19 fun K hK=>?_
  go_simp;go_at_call 117
  refine(ch v.length 2 (by omega) (by omega) (by omega) w _ _ HS.o).mono ?_;rintro x wz ⟨A19,c19,rfl, -, -,hs⟩;replace HS:Hid (Sat w (PE*(eA g8 n m*(eR A12 c12 (ai seq 8)*(eB g14 dn*(eR A19 c19 (ai v.length 2)*aV))))) wz):=hs.of (show eR A19 c19 (ai v.length 2)*_=_ by ac_rfl);clear hs;refine hK.out _ _ (HC.o _ _ HS.o) (fun hS0=>?_);clear hK K
  rotate_left
  go_simp;go_at_call 117
  refine(ch v.length 2 (by omega) (by omega) (by omega) w _ _ HS.o).mono ?_;rintro x w19 ⟨A19,c19,rfl, -, -,hs⟩;replace HS:Hid (Sat w (PE*(eR A12 c12 (ai seq 8)*(eB g14 dn*(eR A19 c19 (ai v.length 2)*aV)))) w19):=hs.of (show eR A19 c19 (ai v.length 2)*_=_ by ac_rfl);clear hs;refine hK.out _ _ (HC.o _ _ HS.o) (fun hS0=>?_);clear hK K;refine bR 8 fun K hK=>?_
  go_simp;have hs:=HS.o.af 5 #[.int .u8 (n:Int),.int .u8 (m:Int)];revert hs;generalize World.alloc w19 _=wz;generalize w19.heap.size=g8;intro hs;replace HS:Hid (Sat w (PE*(eA g8 n m*(eR A12 c12 (ai seq 8)*(eB g14 dn*(eR A19 c19 (ai v.length 2)*aV))))) wz):=hs.of (show eA g8 n m*_=_ by ac_rfl);clear hs;refine hK.out _ _ (HC.o _ _ HS.o) (fun hS0=>?_);clear hK K
  rotate_left
  all_goals
   refine bR 26 fun K hK=>?_
   go_simp;have hs:=HS.o.af 41 #[.slice (some ⟨g8,0,none⟩) 2 2,.slice A12 (ai seq 8).length c12,.slice (some ⟨g14,0,none⟩) 1 1,.slice A19 (ai v.length 2).length c19,.slice (if kc=n then kA else Option.map (fun x=>x.add n) kA) (k.length - n) (kc - n),.slice vA v.length vc];revert hs;generalize World.alloc wz _=w26;generalize wz.heap.size=g26;intro hs;replace HS:Hid (Sat w (PE*(eA g8 n m*(eR A12 c12 (ai seq 8)*(eB g14 dn*(eR A19 c19 (ai v.length 2)*(Pt g26 41 #[.slice (some ⟨g8,0,none⟩) 2 2,.slice A12 (ai seq 8).length c12,.slice (some ⟨g14,0,none⟩) 1 1,.slice A19 (ai v.length 2).length c19,.slice (if kc=n then kA else Option.map (fun x=>x.add n) kA) (k.length - n) (kc - n),.slice vA v.length vc]*aV)))))) w26):=hs.of (show Pt g26 41 #[.slice (some ⟨g8,0,none⟩) 2 2,.slice A12 (ai seq 8).length c12,.slice (some ⟨g14,0,none⟩) 1 1,.slice A19 (ai v.length 2).length c19,.slice (if kc=n then kA else Option.map (fun x=>x.add n) kA) (k.length - n) (kc - n),.slice vA v.length vc]*_=_ by ac_rfl);clear hs;refine hK.out _ _ (HC.o _ _ HS.o) (fun hS0=>?_);clear hK K;refine bR 27 fun K hK=>?_
   go_simp;have hrl:=Le n m seq dn kA kc k vA vc v hnk hkl HM.o hkc w w26 _ g8 g14 g26 A12 c12 A19 c19 HS.o (HK.o.new HS.o.aP) (HV.o.new HS.o.aP);go_at_call 61
   refine(eY (some ⟨g26,0,none⟩) 6 (nA n m seq dn kA kc k vA vc v g8 g14 A12 c12 A19 c19) w26 hrl (KU n m seq dn kA kc k vA vc v g8 g14 A12 c12 A19 c19 hkl hvl) (show 6<=140737488355328 by omega)).mono ?_;rintro x w27 ⟨vv,rfl,ho,k27⟩;rw[IT a.2.2 n m seq dn kA kc k vA vc v g8 g14 A12 c12 A19 c19 dead HN.o HM.o HDn.o] at ho;obtain⟨A27,c27,rfl, -⟩:=lp ho;have HS27:=ah ((Sat.start w).dP (HS.o.aP.tr k27) (js ho HS.o.aP.size));replace HS:=ah (HS.o.new k27);clear hrl ho k27;refine hK.out _ _ (HC.o _ _ HS.o) (fun hS0=>?_);clear hK K;refine cH 28 ?_;refine wpAnyH_done (by kernel_rfl) ?_ _;go_wp2_with fail
   all_goals
    go_ret;obtain⟨B,d,e,h1,h2⟩:=HS27.o.aT;injection e with e1 _ e2
    subst e1;subst e2;exact⟨A27,c27,rfl,h1,h2,HS27.o⟩
theorem FO (a:cW) (e:En) (w0 w:World) (F:SP) (h:Sat w0 F w) (ha:Rd w a.1 a.2.2) (he:pJ w e) (hal:a.2.2.length<=128) (hkl:e.key.2.2.length<=128) (hkc:e.key.2.2.length<=e.key.2.1) (hkm:e.key.2.1<=maxLen) (hvl:e.value.2.2.length<=16384) (hsq:0<=e.seq/\e.seq<9223372036854775808):
 Calls Tryz.prog 179 #[.slice a.1 a.2.2.length a.2.1,jD e] w (xZ w0 F (jY a.2.2 e.ao)):=by
 obtain⟨⟨kA,kc,k⟩,⟨vA,vc,v⟩,seq,dead⟩:=e;obtain⟨q,rfl⟩: ∃ q:Nat,seq=(q:Int):=⟨seq.toNat,(Int.toNat_of_nonneg hsq.1).symm⟩;exact(MC a kA kc k vA vc v q dead w ha he.1 he.2 hal hkl hkc hkm hvl (by have h9:(q:Int)<9223372036854775808:=hsq.2;omega)).mono fun _ _ hx=>hx.lift h
theorem fI (n:Nat) (q:List UInt8) (s:Bool):(cE n q s).1.length<=n:=by
 unfold cE;split
 .simp;omega
 .simp;omega
theorem jj (n:Nat) (hn:n<=8) (q:List UInt8) (s:Bool):(cE n q s).1.length<=n:=by
 unfold cE;split
 .simp;omega
 .simp;omega
theorem dg (n:Nat) (q:List UInt8) (s:Bool):(cE n q s).2.1.length<=q.length:=by
 unfold cE;split
 .simp
 .simp
theorem wH.Bb {w0 w:World} {R:Nat} {F:SP} {q:List UInt8} {s:Bool} (h:wH w0 R F q s w) (t:TypeId) (cs:Array Value):wH w0 R (Pt w.heap.size t cs*F) q s (w.alloc (.cells cs t)):=by
 obtain⟨A,c,hs,h1,h2⟩:=h;exact⟨A,c,(hs.af t cs).av,h1,h2⟩
theorem kM {n:Nat} (hn:n<=7) {q:List UInt8} {s:Bool} {T:List UInt8 × List UInt8 × Bool} (h:cE n q s=T):IntKind.i64.wrap (bI T.1:Int)=(bI T.1:Int):=by
 have h1:=jj n (by omega) q s;rw[h] at h1;have h2:=tY T.1 (by omega);rw[IntKind.wrap_i64];omega
theorem fJ (n:Nat) (m:Int) (hm:m=n) (hn:n<=8) (R:Nat) (F:SP) (q:List UInt8) (s:Bool) (T:List UInt8 × List UInt8 × Bool) (z:Int) (w0 w:World) (h:wH w0 R F q s w) (hT:cE n q s=T) (hz:IntKind.i64.wrap (bI T.1:Int)=z) (hql:q.length<=140737488355328):
 Calls Tryz.prog 140 #[.pointer (some ⟨R,0,none⟩),.int .i64 m] w fun e w'=>e = .returned (.int .i64 z)/\wH w0 R F T.2.1 T.2.2 w':=by
 subst hm;have H:=ah h;have HZ:=ah hz;have hl:=jj n hn q s;have HT:=ah hT;rw[hT] at hl;clear h hz hT;have hw:IntKind.i64.wrap (bI T.1:Int)=z:=HZ.o;go_enter Tryz.func140, Tryz.ntmps140;go_wp2_with (first
  | (go_at_call 139;refine(lJ n (by omega) R F q s w0 w H.o hql).mono ?_;rintro x w1 ⟨B,d,rfl,hr, -, -, -,hR⟩;rw[HT.o] at hr hR ⊢;have HR:=ah hr;have HW:=ah hR;clear hr hR)
  | (go_at_call 105;refine(yq B d T.1 w1 HR.o (by omega)).mono ?_;rintro x w2 ⟨rfl,rfl⟩))
 go_ret;exact⟨rfl,HW.o⟩
def dx (al:List UInt8) (q:List UInt8) (s:Bool):aw × List UInt8 × Bool:=
 let t1:=cE 1 q s;let t2:=cE 1 t1.2.1 t1.2.2;let t3:=cE 8 t2.2.1 t2.2.2;let t4:=cE 1 t3.2.1 t3.2.2;let t5:=cE 2 t4.2.1 t4.2.2;let t6:=cE (bI t2.1) t5.2.1 (t5.2.2 || decide (al.length<bI t1.1));let t7:=cE (bI t5.1) t6.2.1 t6.2.2
 (⟨if t6.2.2 then [] else al.take (bI t1.1)++t6.1,t7.1,IntKind.i64.wrap (bI t3.1:Int),decide (bI t4.1=1)⟩,t7.2)
def L5 (w0:World) (R:Nat) (F:SP) (p:aw × List UInt8 × Bool) (x:Ending) (w':World):Prop:=
 ∃ g:En,x = .returned (jD g)/\g.ao=p.1/\wH w0 R (Row 5 1 (aO g.key) g.key.2.2.length (g.key.2.2.map bv)*(Row 5 1 (aO g.value) g.value.2.2.length (g.value.2.2.map bv)*F)) p.2.1 p.2.2 w'
theorem KY {w':World} {A B:Option Addr} {c d:Nat} {l m:List UInt8} (g:Nat) (h:aH w' (some ⟨g,0,none⟩) [.slice A l.length c,.slice B m.length d]) (h1:Rd w' A l) (h2:Rd w' B m):sQ w' (some ⟨g,0,none⟩) [(A,c,l),(B,d,m)]:=by
 refine⟨h,fun x hx=>?_⟩;simp only[List.mem_cons,List.not_mem_nil,or_false] at hx;rcases hx with rfl | rfl
 .exact h1
 .exact h2
theorem jK (aA:Option Addr) (ac:Nat) (al:List UInt8) (R:Nat) (F:SP) (q:List UInt8) (s:Bool) (w0 w:World) (h:wH w0 R F q s w) (hql:q.length<=140737488355328)
 (hal: ∀ (X:SP) (W:World),Sat w0 (X*F) W->Rd W aA al) (hac:al.length<=ac) (ham:ac<=maxLen) (hall:al.length<=100000000000000):
 Calls Tryz.prog 141 #[.pointer (some ⟨R,0,none⟩),.slice aA al.length ac] w (L5 w0 R F (dx al q s)):=by
 obtain⟨T1,hT1⟩: ∃ T,cE 1 q s=T:=⟨_,rfl⟩;obtain⟨T2,hT2⟩: ∃ T,cE 1 T1.2.1 T1.2.2=T:=⟨_,rfl⟩;obtain⟨T3,hT3⟩: ∃ T,cE 8 T2.2.1 T2.2.2=T:=⟨_,rfl⟩;obtain⟨T4,hT4⟩: ∃ T,cE 1 T3.2.1 T3.2.2=T:=⟨_,rfl⟩;obtain⟨T5,hT5⟩: ∃ T,cE 2 T4.2.1 T4.2.2=T:=⟨_,rfl⟩;obtain⟨s6,hs6⟩: ∃ b,(T5.2.2 || decide (al.length<bI T1.1))=b:=⟨_,rfl⟩;obtain⟨T6,hT6⟩: ∃ T,cE (bI T2.1) T5.2.1 s6=T:=⟨_,rfl⟩;obtain⟨T7,hT7⟩: ∃ T,cE (bI T5.1) T6.2.1 T6.2.2=T:=⟨_,rfl⟩;obtain⟨z3,hz3⟩: ∃ z,IntKind.i64.wrap (bI T3.1:Int)=z:=⟨_,rfl⟩;obtain⟨dd,hdd⟩: ∃ b,decide ((bI T4.1:Int)=1)=b:=⟨_,rfl⟩;have HP:Hid (dx al q s=(⟨if T6.2.2 then [] else al.take (bI T1.1)++T6.1,T7.1,z3,dd⟩,T7.2)):=by
  unfold Hid dx;simp only[hT1,hT2,hT3,hT4,hT5,hs6,hT6,hT7,hz3];rw[<-hdd];rw[show decide (bI T4.1=1)=decide ((bI T4.1:Int)=1) by apply decide_eq_decide.2;omega]
 have b1:bI T1.1<256:=by have:=jj 1 (by omega) q s;rw[hT1] at this;exact Nat.lt_of_lt_of_le (iO _) (Nat.pow_le_pow_right (by omega) this)
 have b2:bI T2.1<256:=by have:=jj 1 (by omega) T1.2.1 T1.2.2;rw[hT2] at this;exact Nat.lt_of_lt_of_le (iO _) (Nat.pow_le_pow_right (by omega) this)
 have b5:bI T5.1<65536:=by have:=jj 2 (by omega) T4.2.1 T4.2.2;rw[hT5] at this;exact Nat.lt_of_lt_of_le (iO _) (Nat.pow_le_pow_right (by omega) this)
 have y1:T1.2.1.length<=140737488355328:=by have:=dg 1 q s;rw[hT1] at this;omega
 have y2:T2.2.1.length<=140737488355328:=by have:=dg 1 T1.2.1 T1.2.2;rw[hT2] at this;omega
 have y3:T3.2.1.length<=140737488355328:=by have:=dg 8 T2.2.1 T2.2.2;rw[hT3] at this;omega
 have y4:T4.2.1.length<=140737488355328:=by have:=dg 1 T3.2.1 T3.2.2;rw[hT4] at this;omega
 have y5:T5.2.1.length<=140737488355328:=by have:=dg 2 T4.2.1 T4.2.2;rw[hT5] at this;omega
 have y6:T6.2.1.length<=140737488355328:=by have:=dg (bI T2.1) T5.2.1 s6;rw[hT6] at this;omega
 have HW1:=ah (kM (by omega) hT1);have HW2:=ah (kM (by omega) hT2);have HW4:=ah (kM (by omega) hT4);have HW5:=ah (kM (by omega) hT5);have HW3:=ah hz3;have HT1:=ah hT1;have HT2:=ah hT2;have HT3:=ah hT3;have HT4:=ah hT4;have HT5:=ah hT5;have HT6:=ah hT6;have HT7:=ah hT7;have HS6:=ah hs6;have HDD:=ah hdd;have HAL:=ah hal;obtain⟨n1,hn1⟩: ∃ n,bI T1.1=n:=⟨_,rfl⟩;obtain⟨n2,hn2⟩: ∃ n,bI T2.1=n:=⟨_,rfl⟩;obtain⟨n4,hn4⟩: ∃ n,bI T4.1=n:=⟨_,rfl⟩;obtain⟨n5,hn5⟩: ∃ n,bI T5.1=n:=⟨_,rfl⟩;rw[hn1] at HW1 HP HS6 b1;rw[hn2] at HW2 HT6 b2;rw[hn4] at HW4 HDD;rw[hn5] at HW5 HT7 b5;obtain⟨kk,hkk⟩: ∃ k,(if T6.2.2=true then [] else al.take n1++T6.1)=k:=⟨_,rfl⟩;rw[HP.o,hkk];have HKK:=ah hkk;clear hkk;have H0:=ah (h.Bb 120 #[.slice none 0 0,.slice none 0 0,.int .i64 0,.bool false]);unfold maxLen at ham;clear h hT1 hT2 hT3 hT4 hT5 hs6 hT6 hT7 hz3 hdd hal;have HN1:=ah hn1;have HN2:=ah hn2;have HN4:=ah hn4;have HN5:=ah hn5;clear hn1 hn2 hn4 hn5;have hwa:IntKind.i64.wrap (n1:Int)=n1:=HW1.o;have hwb:IntKind.i64.wrap (n2:Int)=n2:=HW2.o;have hdz:((n4:Int)==1)=dd:=by rw[<-HDD.o];exact rfl
 go_enter Tryz.func141, Tryz.ntmps141;go_upto_if 25 with (first
  | (go_at_call 140;with_reducible refine(fJ 1 1 rfl (by omega) R _ q s T1 n1 w0 _ H0.o HT1.o (by rw[HN1.o];exact HW1.o) hql).mono ?_;rintro x w1 ⟨rfl,h1⟩;have H1:=ah h1;clear h1)
  | (go_at_call 140;with_reducible refine(fJ 1 1 rfl (by omega) R _ T1.2.1 T1.2.2 T2 n2 w0 _ H1.o HT2.o (by rw[HN2.o];exact HW2.o) y1).mono ?_;rintro x w2 ⟨rfl,h1⟩;have H2:=ah h1;clear h1)
  | (go_at_call 140;with_reducible refine(fJ 8 8 rfl (by omega) R _ T2.2.1 T2.2.2 T3 z3 w0 _ H2.o HT3.o HW3.o y2).mono ?_;rintro x w3 ⟨rfl,h1⟩;have H3:=ah h1;clear h1)
  | (go_at_call 140;with_reducible refine(fJ 1 1 rfl (by omega) R _ T3.2.1 T3.2.2 T4 n4 w0 _ H3.o HT4.o (by rw[HN4.o];exact HW4.o) y3).mono ?_;rintro x w4 ⟨rfl,h1⟩;have H4:=ah (h1.Bb 120 #[.slice none 0 0,.slice none 0 0,.int .i64 z3,.bool dd]);clear h1)
  | (go_at_call 140;with_reducible refine(fJ 2 2 rfl (by omega) R _ T4.2.1 T4.2.2 T5 n5 w0 _ H4.o HT5.o (by rw[HN5.o];exact HW5.o) y4).mono ?_;rintro x w5 ⟨rfl,h1⟩;have H5:=ah h1;clear h1))
 have H5a:=H5;revert H5a;generalize w4.heap.size=E;generalize w.heap.size=G;intro H5a;have HF:Hid (wH w0 R (Pt E 120 #[.slice none 0 0,.slice none 0 0,.int .i64 z3,.bool dd]*(Pt G 120 #[.slice none 0 0,.slice none 0 0,.int .i64 0,.bool false]*F)) T5.2.1 T5.2.2 w5):=H5a;clear H5 H5a;have l6:T6.1.length<=n2:=by rw[<-HT6.o];exact fI _ _ _
 have l7:T7.1.length<=n5:=by rw[<-HT7.o];exact fI _ _ _
 go_cut [5] from 10 (fun nv wx=> ∃ m:Nat,nv = .int .i64 (m:Int)/\Hid (s6=false->m=n1/\n1<=al.length)/\Hid (wH w0 R (Pt E 120 #[.slice none 0 0,.slice none 0 0,.int .i64 z3,.bool dd]*(Pt G 120 #[.slice none 0 0,.slice none 0 0,.int .i64 0,.bool false]*F)) T5.2.1 s6 wx))
 case first=>
  by_cases hlt:al.length<n1
  .obtain⟨A,c,hs,ho⟩:=HF.o;have f1:=hs.frozen 1;have c1:=hs.cell 1;have HSt:=ah hs;have HO:=ah ho;clear hs ho;go_wp2_with fail;go_meet
   refine⟨0,rfl,fun h=>?_,⟨A,c,?_,HO.o⟩⟩
   .rw[<-HS6.o] at h;simp[hlt] at h
   .have h9:=HSt.o.set 1 (.bool true);rw[<-HS6.o,decide_eq_true hlt,Bool.or_true];exact h9
  .go_wp2_with fail;go_meet
   refine⟨n1,rfl,fun h=>⟨rfl,by omega⟩,?_⟩;rw[<-HS6.o,decide_eq_false hlt,Bool.or_false];exact HF.o
 case rest=>
  obtain⟨m,rfl,HM,HX⟩:=hcut;have HX1:=HX;have k6:HX1=HX1:=rfl;clear k6 HX1;go_upto_region 8 with (go_at_call 139;(with_reducible refine(lJ n2 (by omega) R _ T5.2.1 s6 w0 _ HX.o y5).mono ?_);rw[HT6.o];rintro x w6 ⟨B6,d6,rfl, -,hr6,hd6,hm6,h6⟩;have HR6:=ah hr6;have H6:=ah h6;clear hr6 h6)
  obtain⟨A6,c6,hs6,hq6⟩:=H6.o;have r1:=hs6.cell 1;have e0:=hs6.av.cell 0;have e1:=hs6.av.cell 1;have e2:=hs6.av.cell 2;have e3:=hs6.av.cell 3;have q0:=hs6.av.frozen 0;have HS6':=ah hs6;have HQ6:=ah hq6;clear hs6 hq6;have hsb: ∃ b,T6.2.2=b:=⟨_,rfl⟩;obtain⟨b6,hb6⟩:=hsb;rw[hb6] at r1;have HB6:=ah hb6;clear hb6;go_upto_if 36 with fail
  go_cut [9] from 10 (fun kv wx=> ∃ kA kc,Hid (wH w0 R (Row 5 1 (.slice kA kk.length kc) kk.length (kk.map bv)*(Pt E 120 #[.slice kA kk.length kc,.slice none 0 0,.int .i64 z3,.bool dd]*(Pt G 120 #[.slice none 0 0,.slice none 0 0,.int .i64 0,.bool false]*F))) T6.2.1 T6.2.2 wx))
  case first=>
   cases b6
   .have hm:=HM.o (by
     have h1:=HT6.o;have h2:=HB6.o
     cases hs:s6 with
     | false=>rfl
     | true=>rw[hs,pf (.inl rfl)] at h1;rw[<-h1] at h2;cases h2)
    obtain⟨rfl,hle⟩:=hm;have hle2:(m:Int)<=al.length:=by omega
    have hle3:(m:Int)<=ac:=by omega
    have htk:(al.take m).length=m:=by simp;omega
    have HTk:=ah htk;have HKe:Hid (kk=al.take m++T6.1):=by have h1:=HKK.o;rw[HB6.o] at h1;exact h1.symm
    have hkl:kk.length=m+T6.1.length:=by rw[HKe.o,List.length_append,htk]
    clear htk;have hc6:=HQ6.o.2.1;have HKl:Hid (kk.length<=140737488355328):=by unfold Hid;omega
    clear hkl hc6;have hjr:sQ (w6.alloc (.cells #[.slice aA m ac,.slice B6 T6.1.length d6] 41)) (some ⟨w6.heap.size,0,none⟩) [(aA,ac,al.take m),(B6,d6,T6.1)]:=KY w6.heap.size (by rw[HTk.o];exact aL w6 #[.slice aA m ac,.slice B6 T6.1.length d6] 41) (Rd.take (HAL.o _ _ ((HS6'.o.aC _).of (show _=(Pt R 223 #[.slice A6 T6.2.1.length c6,.bool T6.2.2]*(Pt E 120 #[.slice none 0 0,.slice none 0 0,.int .i64 z3,.bool dd]*Pt G 120 #[.slice none 0 0,.slice none 0 0,.int .i64 0,.bool false]))*F by ac_rfl))) m) ((HR6.o HB6.o).new (HS6'.o.aC _).aP);have HJR:=ah hjr;clear hjr;go_wp2_with fail;go_at_call 61
    refine(eY (some ⟨w6.heap.size,0,none⟩) 2 [(aA,ac,al.take m),(B6,d6,T6.1)] _ HJR.o (by have:=HKl.o;rw[HKe.o] at this;simpa [bT] using this) (show 2<=140737488355328 by omega)).mono ?_;rintro x w7 ⟨vv,rfl,ho,k7⟩;rw[show (bT [(aA,ac,al.take m),(B6,d6,T6.1)]).flatten=kk by rw[HKe.o];simp[bT]] at ho;obtain⟨A7,c7,rfl, -⟩:=lp ho;have hs7:=(HS6'.o.aC _).dP k7 ho;have z0:=hs7.bD.frozen 0;have z1:=hs7.bD.cell 0;have HS7:=ah hs7;clear ho k7 hs7;go_wp2_with fail;go_meet
    have h9:=HS7.o.bD.set 0 (.slice A7 kk.length c7);exact⟨A7,c7,A6,c6,h9.of (by ac_rfl),HQ6.o⟩
   .go_wp2_with fail;go_meet
    have HKe:kk=[]:=by have h1:=HKK.o;rw[HB6.o] at h1;exact h1.symm
    subst HKe;refine⟨none,0,A6,c6,?_,HQ6.o⟩;exact(HS6'.o.aI 5 1).of (by ac_rfl)
  case rest=>
   obtain⟨kA,kc,HX7⟩:=hcut;go_upto_region 11 with (first
    | (go_at_call 139;(with_reducible refine(lJ n5 (by omega) R _ T6.2.1 T6.2.2 w0 _ HX7.o y6).mono ?_);rw[HT7.o];rintro x w8 ⟨B8,d8,rfl,hr8, -,hd8,hm8,h8⟩;obtain⟨A8,c8,hs8,hq8⟩:=h8;have HQ8:=ah hq8;have HS8:=ah hs8;have HR8:=ah hr8;clear hs8 hr8 hq8)
    | (go_at_call 61;refine(eY (some ⟨w8.heap.size,0,none⟩) 1 [(B8,d8,T7.1)] _ ⟨aL w8 #[.slice B8 T7.1.length d8] 41,fun y hy=>by rw[List.mem_singleton] at hy;subst hy;exact HR8.o.alloc _⟩ (by simp[bT];omega) (show 1<=140737488355328 by omega)).mono ?_;rintro x w9 ⟨vv,rfl,ho,k9⟩;rw[show (bT [(B8,d8,T7.1)]).flatten=T7.1 by simp[bT]] at ho;obtain⟨A9,c9,rfl, -⟩:=lp ho;have hs9:=(HS8.o.aC _).dP k9 ho;have z0:=hs9.bW.frozen 1;have z1:=hs9.bW.cell 1;have HS9:=ah hs9;clear ho k9 hs9))
   have h10:=HS9.o.bW.set 1 (.slice A9 T7.1.length c9);clear z0 z1;revert h10;generalize World.setCell w9 _ _=w10;intro h10;have c0:=h10.cell 0;have c1:=h10.cell 1;have c2:=h10.cell 2;have c3:=h10.cell 3;have d0:=h10.gw.cell 0;have d1:=h10.gw.cell 1;have d2:=h10.gw.cell 2;have d3:=h10.gw.cell 3;have f0:=h10.gw.frozen 0;have f1:=h10.gw.frozen 1;have f2:=h10.gw.frozen 2;have f3:=h10.gw.frozen 3;have h11:=(((h10.gw.set 0 (.slice kA kk.length kc)).set 1 (.slice A9 T7.1.length c9)).set 2 (.int .i64 z3)).set 3 (.bool dd);have H11:=ah h11;clear h10 h11;go_wp2_with fail;have h12:=H11.o;revert h12;generalize World.setCell _ _ _=w12;intro h12;refine bodyPost_ret (results_cell_row (p:=4) (by kernel_rfl) _ _ G 120 _ (0,0) _ rfl h12.at Tryz.underlying120 rfl (by kernel_rfl)) rfl ?_;refine⟨⟨(kA,kc,kk),(A9,c9,T7.1),z3,dd⟩,rfl,rfl,A8,c8,?_,HQ8.o⟩;have h13:=h12.right.right;exact h13.of (by unfold aO;ac_rfl)
theorem gU (L:List aw): ∀ k,(dh L k).length<=k
 | 0=>by simp[dh]
 | k+1=>by
  have h:=gU L k;unfold dh;split
  .omega
  .split
   .rw[List.length_append,List.length_singleton];omega
   .split
    .split
     .omega
     .rw[List.length_append,List.length_singleton];omega
    .rw[List.length_append,List.length_singleton];omega
def It (L:List aw) (w:World) (e:Ending) (w':World):Prop:= ∃ g h n,e = .returned (.pointer (some ⟨g,0,none⟩))/\dZ w' g h n n (gY L)/\w.heap.size<=g/\w.heap.size<=h/\aq No w w'/\8<=n/\n<=262144
structure MB (w:World) (es:List En) (i:Nat) (v:Value) (ks:bP) (wr:World):Prop where
 say:bT ks=dh (es.map En.ao) i
 mem: ∀ x ∈ ks, ∃ e ∈ es,x=e.key
 bU:ks.length<=i
 sat:Sat w (Row 41 1 v ks.length (ks.map aE)*aV) wr
theorem nL {es:List En} {i:Nat} (h:i<es.length):(es.map En.ao)[i]?=some es[i].ao:=by rw[List.getElem?_map,List.getElem?_eq_getElem h];rfl
theorem yO (es:List En) (h:0<es.length):dh (es.map En.ao) 1=[es[0].key.2.2]:=by
 unfold dh;rw[nL h];rfl
theorem wM (es:List En) (i:Nat) (h:i+1<es.length) (hk:es[i].key.2.2=es[i+1].key.2.2):dh (es.map En.ao) (i+2)=dh (es.map En.ao) (i+1):=by
 conv=>lhs;unfold dh
 rw[nL h];simp only[Nat.add_sub_cancel];rw[nL (show i<es.length by omega)];simp only;rw[if_neg (by omega),if_pos (show es[i].ao.key=es[i+1].ao.key from hk)]
theorem Bm (es:List En) (i:Nat) (h:i+1<es.length) (hk:es[i].key.2.2≠es[i+1].key.2.2):dh (es.map En.ao) (i+2)=dh (es.map En.ao) (i+1)++[es[i+1].key.2.2]:=by
 conv=>lhs;unfold dh
 rw[nL h];simp only[Nat.add_sub_cancel];rw[nL (show i<es.length by omega)];simp only;rw[if_neg (by omega),if_neg (show ¬ es[i].ao.key=es[i+1].ao.key from hk)];rfl
theorem Iu {wr w8:World} {KA:Option Addr} {ks:bP} {h:Nat} (hk:sQ wr KA ks) (k8:aq No wr w8) (hh:wr.heap.size<=h):MD (One h) w8 (sQ · KA ks):=fun w' k=>by
 have hno: ∀ b,b<wr.heap.size->¬ One h b:=fun b hb e=>by have e:b=h:=e;omega
 refine⟨(hk.1.new k8).aP k fun b o hx e=>?_,fun x hx=>((hk.2 x hx).new k8).aP k fun b o hx' e=>?_⟩
 .obtain⟨b',o',e',hlt⟩:=hk.1.lt hx;rw[e'] at e;injection e with e
  injection e with e1
  subst e1;exact hno _ hlt
 .obtain⟨b',o',e',hlt⟩:=(hk.2 x hx).lt hx';rw[e'] at e;injection e with e
  injection e with e1
  subst e1;exact hno _ hlt
theorem nT (A:Option Addr) (c:Nat) (es:List En) (w:World) (h:aH w A (es.flatMap cu)) (hr:jH w es) (hc:es.length<=c) (hm:c<=maxLen) (hn:es.length<=65536) (hsh: ∀ e ∈ es,e.key.2.2.length<=140737488355328):
 Calls Tryz.prog 143 #[.slice A es.length c] w (It (es.map En.ao) w):=by
 obtain⟨i0,hi,hz0,hz1,hz2⟩:=info_parts nJ;have Hi:=ah hi;have Hz0:=ah hz0;have Hz1:=ah hz1;have Hz2:=ah hz2;have HL:=ah h;have HR:=ah hr;have HSh:=ah hsh;unfold maxLen at hm;clear h hr hsh hi hz0 hz1 hz2;go_enter Tryz.func143, Tryz.ntmps143;go_wp2_with fail;go_loopw [3,10] (fun v iv wr=> ∃ (i:Nat) (ks:bP),i<=es.length/\iv = .int .i64 i/\Hid (MB w es i v ks wr)) (fun _ iv _=>es.length - (intOf iv).toNat)
 case atStart=>exact⟨0,[],by omega,rfl,⟨rfl,by simp,by simp,((Sat.start w).aI 41 1)⟩⟩
 case round=>
  obtain⟨i,ks,hi,rfl,HD⟩:=hrel;obtain⟨KA,kc,rfl,hk1,hk2⟩:=HD.o.sat.aT;unfold maxLen at hk2;have hfew:=HD.o.bU;by_cases hlt:i<es.length
  .obtain⟨lb,lo,rfl,hq⟩:=eh HL.o (by omega);obtain⟨z0,z1,z2,z3⟩:=hq i hlt;have a0:=HD.o.sat.aP.cell z0 id;have a1:=HD.o.sat.aP.cell z1 id;have a2:=HD.o.sat.aP.cell z2 id;have a3:=HD.o.sat.aP.cell z3 id;unfold aO at a0 a1;have HE:=ah (HR.o _ (List.getElem_mem hlt));have HSE:=ah (HD.o.sat.af 120 #[.slice es[i].key.1 es[i].key.2.2.length es[i].key.2.1,.slice es[i].value.1 es[i].value.2.2.length es[i].value.2.1,.int .i64 es[i].seq,.bool es[i].dead]);rcases i with _ | i
   .clear z0 z1 z2 z3 hq;simp only[Nat.zero_mul,Nat.add_zero] at a0 a1 a2 a3;go_upto_region 5 with fail;have HSV:=HSE;revert HSV;generalize World.alloc wr _=w5;generalize wr.heap.size=E;intro HSV;have HSW:Hid (Sat w (Pt E 120 #[.slice es[0].key.1 es[0].key.2.2.length es[0].key.2.1,.slice es[0].value.1 es[0].value.2.2.length es[0].value.2.1,.int .i64 es[0].seq,.bool es[0].dead]*(Row 41 1 (.slice KA ks.length kc) ks.length (ks.map aE)*aV)) w5):=HSV;clear HSV HSE a0 a1 a2 a3;refine wp_region_held_drew (S:=fun _=>True) (by kernel_rfl) trivial ?_;intro hS0;have HSD:=ah HSW.o.drew;revert HSD;generalize w5.drew=w6;intro HSD;refine cm 0 1 ?_;refine cH 2 ?_;refine cD 3 ?_;refine cD 4 ?_;refine cD 5 ?_;refine cD 6 ?_;refine cD 7 ?_;refine cD 8 ?_;refine cD 9 ?_;refine cD 10 ?_;refine cD 11 ?_;refine cD 12 ?_;refine cH 13 ?_;refine wpAnyH_done (by kernel_rfl) ?_ _;have e0:=HSD.o.cell 0;go_wp2_with (at_builtin;refine au rfl (.tmp 29) (.tmp 32) 87 rfl 41 i0 _ 1 24 Tryz.underlying87 Hi.o Hz0.o Hz1.o Hz2.o rfl (by decide) (.slice KA ks.length kc) ks.length (ks.map aE) rfl w _ (by exact(HSD.o.aC _).av) (some ⟨w6.heap.size,0,none⟩) 1 1 [aE es[0].key] rfl (aL _ _ _) rfl (ga [es[0].key]) (by unfold maxLen;omega) (by omega) ?_;intro A7 c7 w7 hs7;have HS7:=ah hs7;clear hs7);go_roundw
    .refine⟨0+1,ks++[es[0].key],by omega,by push_cast;rfl,⟨?_,?_,by rw[List.length_append,List.length_singleton];omega,?_⟩⟩
     .rw[fE,HD.o.say,yO es hlt];rfl
     .intro x hx;rcases List.mem_append.1 hx with hx | hx
      .exact HD.o.mem x hx
      .exact⟨es[0],List.getElem_mem _,List.mem_singleton.1 hx⟩
     .have h9:=HS7.o.bF;rw[List.length_append,List.map_append];exact h9
    .simp[intOf];omega
   .obtain⟨y0,_,_,_⟩:=hq i (by omega);have b0:=HD.o.sat.aP.cell y0 id;unfold aO at b0;have hpr:i<es.length:=by omega
    have HEp:=ah (HR.o _ (List.getElem_mem hpr));clear z0 z1 z2 z3 hq;have Y0:=ah y0;clear y0;have hii:((i+1:Nat):Int) - 1=(i:Int):=by omega
    have hwi:IntKind.i64.wrap (i:Int)=(i:Int):=by rw[IntKind.wrap_i64];omega
    have hpi:(i:Int)<es.length:=by omega
    have hne0:((i:Int)+1==0)=false:=by rw[beq_eq_false_iff_ne];omega
    have hne1:¬ (i:Int)+1=0:=by omega
    go_upto_region 5 with fail;have HSV:=HSE;revert HSV;generalize World.alloc wr _=w5;generalize wr.heap.size=E;intro HSV;have HSW:Hid (Sat w (Pt E 120 #[.slice es[i+1].key.1 es[i+1].key.2.2.length es[i+1].key.2.1,.slice es[i+1].value.1 es[i+1].value.2.2.length es[i+1].value.2.1,.int .i64 es[i+1].seq,.bool es[i+1].dead]*(Row 41 1 (.slice KA ks.length kc) ks.length (ks.map aE)*aV)) w5):=HSV;clear HSV HSE a0 a1 a2 a3 b0;by_cases hsame:es[i].key.2.2=es[i+1].key.2.2
    .have HDec:Hid (decide (es[i].key.2.2=es[i+1].key.2.2)=true):=decide_eq_true hsame;have HSm:=ah (wM es i hlt hsame);clear hsame;refine wp_region_held_drew (S:=fun w'=>w'.cell? ⟨lb,lo+i*4,none⟩=some (.slice es[i].key.1 es[i].key.2.2.length es[i].key.2.1)/\w'.cell? ⟨E,0,none⟩=some (.slice es[i+1].key.1 es[i+1].key.2.2.length es[i+1].key.2.1)) (by kernel_rfl) ⟨HSW.o.drew.aP.cell Y0.o id,HSW.o.drew.cell 0⟩ ?_;intro hS0;have HSD:=ah HSW.o.drew;revert HSD hS0;generalize w5.drew=w6;intro hS0 HSD;refine an 0 1 2 3 ?_;refine an 4 5 6 7 ?_;refine cm 8 9 ?_;refine cH 10 ?_;refine bR 11 fun K hK=>?_
     go_simp;go_at_call 126;refine(eZ es[i].key es[i+1].key w6 (HEp.o.1.new HSD.o.aP) (HE.o.1.new HSD.o.aP)).mono ?_;rintro x w' ⟨rfl,hw'⟩;rw[hw',HDec.o];clear hw' w'
     refine hK.out _ _ ⟨HSD.o.aP.cell Y0.o id,HSD.o.cell 0⟩ (fun hS0=>?_);clear hK K;refine cm 12 13 ?_;refine wpAnyH_done (by kernel_rfl) ?_ _;go_wp2_with fail;go_roundw
     .exact⟨i+2,ks,by omega,by push_cast;rfl,⟨by rw[HD.o.say,HSm.o],HD.o.mem,by omega,HSD.o.right⟩⟩
     .simp[intOf];omega
    .have HDec:Hid (decide (es[i].key.2.2=es[i+1].key.2.2)=false):=decide_eq_false hsame;have HSm:=ah (Bm es i hlt hsame);clear hsame;refine wp_region_held_drew (S:=fun w'=>w'.cell? ⟨lb,lo+i*4,none⟩=some (.slice es[i].key.1 es[i].key.2.2.length es[i].key.2.1)/\w'.cell? ⟨E,0,none⟩=some (.slice es[i+1].key.1 es[i+1].key.2.2.length es[i+1].key.2.1)) (by kernel_rfl) ⟨HSW.o.drew.aP.cell Y0.o id,HSW.o.drew.cell 0⟩ ?_;intro hS0;have HSD:=ah HSW.o.drew;revert HSD hS0;generalize w5.drew=w6;intro hS0 HSD;refine an 0 1 2 3 ?_;refine an 4 5 6 7 ?_;refine cm 8 9 ?_;refine cH 10 ?_;refine bR 11 fun K hK=>?_
     go_simp;go_at_call 126;refine(eZ es[i].key es[i+1].key w6 (HEp.o.1.new HSD.o.aP) (HE.o.1.new HSD.o.aP)).mono ?_;rintro x w' ⟨rfl,hw'⟩;rw[hw',HDec.o];clear hw' w'
     refine hK.out _ _ ⟨HSD.o.aP.cell Y0.o id,HSD.o.cell 0⟩ (fun hS0=>?_);clear hK K;refine cm 12 13 ?_;refine wpAnyH_done (by kernel_rfl) ?_ _;have e0:=HSD.o.cell 0;go_wp2_with (at_builtin;refine au rfl (.tmp 29) (.tmp 32) 87 rfl 41 i0 _ 1 24 Tryz.underlying87 Hi.o Hz0.o Hz1.o Hz2.o rfl (by decide) (.slice KA ks.length kc) ks.length (ks.map aE) rfl w _ (by exact(HSD.o.aC _).av) (some ⟨w6.heap.size,0,none⟩) 1 1 [aE es[i+1].key] rfl (aL _ _ _) rfl (ga [es[i+1].key]) (by unfold maxLen;omega) (by omega) ?_;intro A7 c7 w7 hs7;have HS7:=ah hs7;clear hs7);go_roundw
     .refine⟨i+2,ks++[es[i+1].key],by omega,by push_cast;rfl,⟨?_,?_,by rw[List.length_append,List.length_singleton];omega,?_⟩⟩
      .rw[fE,HD.o.say,HSm.o];rfl
      .intro x hx;rcases List.mem_append.1 hx with hx | hx
       .exact HD.o.mem x hx
       .exact⟨es[i+1],List.getElem_mem _,List.mem_singleton.1 hx⟩
      .have h9:=HS7.o.bF;rw[List.length_append,List.map_append];exact h9
     .simp[intOf];omega
  .have hie:i=es.length:=by omega
   subst hie;have hsay:=HD.o.say;have hul:=gU (es.map En.ao) es.length;have hN:dN (ks.length:Int) 10=dN (dh (es.map En.ao) (es.map En.ao).length).length 10:=by
    rw[List.length_map, <-hsay];unfold bT;rw[List.length_map]
   have HN:=ah hN;have HB:=jz (ks.length:Int) 10 ⟨by omega,by omega,by omega,by omega⟩;have HBs:=ah HB.2;have HKs:Hid (sQ wr KA ks):=by
    obtain⟨A',c',e,h1,_⟩:=HD.o.sat.By;injection e with e
    subst e;exact⟨h1,fun x hx=>by obtain⟨e,he,rfl⟩:=HD.o.mem x hx;exact(HR.o e he).1.new HD.o.sat.aP⟩
   have HKl:Hid (∀ x ∈ ks,x.2.2.length<=140737488355328):=fun x hx=>by obtain⟨e,he,rfl⟩:=HD.o.mem x hx;exact HSh.o e he
   clear hsay hul hN HB;go_wp2_with (go_at_call 181;refine(IH (ks.length:Int) 10 wr ⟨by omega,by omega,by omega,by omega⟩).mono ?_;rintro x w8 ⟨g,h,rfl,hF,hg,hh,k8⟩;have HF:=ah hF;have HG:=ah hg;have HH:=ah hh;have HK8:=ah k8;clear hF hg hh k8);have hst:=Iu HKs.o HK8.o HH.o;have hkk:ks.length<=140737488355328:=by omega
   refine(JH g h (dN (ks.length:Int) 10) (dN (ks.length:Int) 10) kc (List.replicate (dN (ks.length:Int) 10) 0) KA ks w8 HF.o HBs.o hst HKl.o hkk).mono ?_;rintro x w9 ⟨rfl,hF9,k9⟩;have HF9:=ah hF9;have HK9:=ah k9;clear hF9 k9;go_wp2_with fail;go_ret;have hs:=HD.o.sat.aP;have hsz:=hs.size;refine⟨g,h,dN (ks.length:Int) 10,rfl,?_,by have:=HG.o;omega,by have:=HH.o;omega,(hs.tr HK8.o).own HK9.o (fun q hq=>by have e:q=h:=hq;have:=HH.o;omega),HBs.o⟩;have h9:=HF9.o;rw[HD.o.say] at h9;unfold gY;rw[<-HN.o,List.length_map];exact h9
theorem qK (e:En) (w:World) (hk:e.key.2.2.length<=140737488355328) (hv:e.value.2.2.length<=140737488355328):
 Calls Tryz.prog 176 #[.agg #[.slice e.key.1 e.key.2.2.length e.key.2.1,.slice e.value.1 e.value.2.2.length e.value.2.1,.int .i64 e.seq,.bool e.dead]] w fun x w'=>x = .returned (.bool (!gM e.ao))/\aq No w w':=by
 have hs:=(Sat.start w).af 120 #[.slice e.key.1 e.key.2.2.length e.key.2.1,.slice e.value.1 e.value.2.2.length e.value.2.1,.int .i64 e.seq,.bool e.dead];have c0:=hs.cell 0;have c1:=hs.cell 1;have c2:=hs.cell 2;have c3:=hs.cell 3;have HS:=ah hs;clear hs;go_enter Tryz.func176, Tryz.ntmps176;go_wp2_with (go_at_call 177;refine(Hq e _ hk hv).mono ?_;rintro x w1 ⟨rfl,k1⟩;have HK:=ah (HS.o.aP.tr k1);clear k1);go_ret;exact⟨rfl,HK.o⟩
theorem Bu (A:Option Addr) (c:Nat) (es:List En) (w:World) (h:aH w A (es.flatMap cu)) (hc:es.length<=c) (hm:c<=maxLen) (hsh: ∀ e ∈ es,e.key.2.2.length<=140737488355328/\e.value.2.2.length<=140737488355328):
 Calls Tryz.prog 196 #[.slice A es.length c,.func (.func 176) #[] #[]] w fun x w'=>(∃ r:Int,x = .returned (.int .i64 r)/\decide (0<=r)=(es.map En.ao).any (fun e=> !gM e))/\aq No w w':=by
 have HL:=ah h;have HSh:=ah hsh;unfold maxLen at hm;clear h hsh;go_enter Tryz.func196, Tryz.ntmps196;go_wp2_with fail;go_loopw [8] (fun iv wr=> ∃ i:Nat,i<=es.length/\iv = .int .i64 i/\Hid ((∀ j (h:j<es.length),j<i->gM es[j].ao=true)/\aq No w wr)) (fun iv _=>es.length - (intOf iv).toNat)
 case atStart=>exact⟨0,by omega,rfl,fun j _ h=>by omega,aq.refl _ _⟩
 case round=>
  obtain⟨i,hi,rfl,HD⟩:=hrel;by_cases hlt:i<es.length
  .obtain⟨lb,lo,rfl,hq⟩:=eh HL.o (by omega);obtain⟨z0,z1,z2,z3⟩:=hq i hlt;have a0:=HD.o.2.cell z0 id;have a1:=HD.o.2.cell z1 id;have a2:=HD.o.2.cell z2 id;have a3:=HD.o.2.cell z3 id;unfold aO at a0 a1;have hs:=HSh.o _ (List.getElem_mem hlt);clear z0 z1 z2 z3 hq;obtain⟨B,hB⟩: ∃ B,gM es[i].ao=B:=⟨_,rfl⟩;have HB:=ah hB;clear hB
   cases B
   .go_wp2_with (go_at_call 176;refine(qK es[i] _ hs.1 hs.2).mono ?_;rintro x w1 ⟨rfl,k1⟩;rw[HB.o];have HK:=ah (HD.o.2.tr k1);clear k1);go_ret;refine⟨⟨i,rfl,?_⟩,HK.o⟩;rw[decide_eq_true (by omega)];exact(List.any_eq_true.2 ⟨es[i].ao,List.mem_map.2 ⟨es[i],List.getElem_mem _,rfl⟩,by rw[HB.o];rfl⟩).symm
   .go_wp2_with (go_at_call 176;refine(qK es[i] _ hs.1 hs.2).mono ?_;rintro x w1 ⟨rfl,k1⟩;rw[HB.o];have HK:=ah (HD.o.2.tr k1);clear k1);go_roundw
    .refine⟨i+1,by omega,by push_cast;rfl,fun j h hj=>?_,HK.o⟩;by_cases e:j=i
     .subst e;exact HB.o
     .exact HD.o.1 j h (by omega)
    .simp[intOf];omega
  .go_wp2_with fail;go_ret;refine⟨⟨-1,rfl,?_⟩,HD.o.2⟩;rw[decide_eq_false (by omega)];symm;rw[List.any_eq_false];intro x hx;obtain⟨e,he,rfl⟩:=List.mem_map.1 hx;obtain⟨j,hj,rfl⟩:=List.getElem_of_mem he;rw[HD.o.1 j hj (by omega)];simp
theorem mx (A:Option Addr) (c:Nat) (es:List En) (w:World) (h:aH w A (es.flatMap cu)) (hc:es.length<=c) (hm:c<=maxLen) (hsh: ∀ e ∈ es,e.key.2.2.length<=140737488355328/\e.value.2.2.length<=140737488355328):
 Calls Tryz.prog 175 #[.slice A es.length c,.func (.func 176) #[] #[]] w fun x w'=>x = .returned (.bool ((es.map En.ao).any (fun e=> !gM e)))/\aq No w w':=by
 have HL:=ah h;have HM:=ah hm;have HSh:=ah hsh;clear h hsh hm;go_enter Tryz.func175, Tryz.ntmps175;go_wp2_with (go_at_call 196;refine(Bu A c es _ HL.o hc HM.o HSh.o).mono ?_;rintro x w1 ⟨⟨r,rfl,hr⟩,k1⟩;have HR:=ah hr;have HK:=ah k1;clear hr k1);go_ret;refine⟨?_,HK.o⟩;rw[<-HR.o];rfl
end Go.Proofs.YtmbaiglpgaoogaaGreat
