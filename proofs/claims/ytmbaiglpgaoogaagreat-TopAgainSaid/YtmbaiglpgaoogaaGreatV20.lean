/- Joined, as they were built one by one: Skip6 Skip7 NokPut MemGet TabFns Tab1 TabRd. -/
import Derived.Test.YtmbaiglpgaoogaaGreatV08
import Derived.Test.YtmbaiglpgaoogaaGreatV09
import Derived.Test.YtmbaiglpgaoogaaGreatV11
import Derived.Test.YtmbaiglpgaoogaaGreatV19
set_option maxHeartbeats 16000000
namespace Go.Proofs.YtmbaiglpgaoogaaGreat
open Go.RowKit
set_option linter.unusedVariables false
set_option maxRecDepth 100000
def inB (tl:List UInt8) (e:Ent):Bool:=decide (tl=[]) || decide (Lib.compareBytes e.key tl<0)
def witE (tl:List UInt8) (i:Nat) (s:List Nd):List Ent:=((s.filter fun n=>decide (i<n.v)).map fun n=>n.e.ent).takeWhile (inB tl)
theorem witE_none {tl:List UInt8} {i:Nat} {s:List Nd} (h: ∀ n ∈ s,n.v<=i):witE tl i s=[]:=by
 unfold witE;have:s.filter (fun n=>decide (i<n.v))=[]:=List.filter_eq_nil_iff.2 fun n hn=>by have:=h n hn;simp;omega
 rw[this];rfl
theorem witE_some {tl:List UInt8} {i:Nat} {u t:List Nd} {m:Nd} (hu: ∀ n ∈ u,n.v<=i) (hm:i<m.v):witE tl i (u++m::t)=if inB tl m.e.ent then m.e.ent::witE tl i t else []:=by
 unfold witE;have:u.filter (fun n=>decide (i<n.v))=[]:=List.filter_eq_nil_iff.2 fun n hn=>by have:=hu n hn;simp;omega
 rw[List.filter_append,this,List.nil_append,List.filter_cons,if_pos (by simpa using hm),List.map_cons,List.takeWhile_cons]
def OwnE:List En->SP
 | []=>Emp
 | e::es=>Row 5 1 (slv' e.key) e.key.2.2.length (e.key.2.2.map bv)*(Row 5 1 (slv' e.value) e.value.2.2.length (e.value.2.2.map bv)*OwnE es)
theorem ownE_snoc (e:En): ∀ es:List En,OwnE (es++[e])=Row 5 1 (slv' e.key) e.key.2.2.length (e.key.2.2.map bv)*(Row 5 1 (slv' e.value) e.value.2.2.length (e.value.2.2.map bv)*OwnE es)
 | []=>rfl
 | x::es=>by
  show Row _ _ _ _ _*(Row _ _ _ _ _*OwnE (es++[e]))=_;rw[ownE_snoc e es];show _=Row _ _ _ _ _*(Row _ _ _ _ _*(Row _ _ _ _ _*(Row _ _ _ _ _*OwnE es)))
  ac_rfl
def ToldE (w:World) (l:List Ent) (x:Ending) (w':World):Prop:= ∃ (es:List En) (A:Option Addr) (c:Nat),x = .returned (.slice A es.length c)/\es.map En.ent=l/\
 Sat w (Row 120 4 (.slice A es.length c) es.length (es.flatMap enV)*OwnE es) w'
structure Small (ns:List Nd):Prop where
 len:ns.length<=1000000
 each: ∀ n ∈ ns,n.e.key.2.2.length<=1000000000/\n.e.value.2.2.length<=1000000000
theorem info_entry:(Tryz.prog.info? 120).map (fun i=>(i.zero,i.size,i.bytes))=some (some (.agg #[.slice none 0 0,.slice none 0 0,.int .i64 0,.bool false]),4,64):=by kernel_rfl
structure Wst (w:World) (ns:List Nd) (tl:List UInt8) (i:Nat) (l:List Ent) (p s:List Nd) (es:List En) (A:Option Addr) (c:Nat) (wr:World):Prop where
 eq:ns=p++s
 told:l=es.map En.ent++witE tl i s
 len:es.length<=p.length
 sat:Sat w (Row 120 4 (.slice A es.length c) es.length (es.flatMap enV)*OwnE es) wr
theorem within_any (T:Option Addr) (Tc:Nat) (tl:List UInt8) (b hr:Nat) (ns p0 s0:List Nd) (i:Nat) (w:World) (hto:Rd w T tl) (hv:View w b hr ns) (hok:NOk ns) (hsm:Small ns) (hs:ns=p0++s0) (hi:i<8):
  Calls Tryz.prog 154 #[ptrN (nxt noT s0 i),.int .i64 i,.slice T tl.length Tc] w (ToldE w (witE tl i s0)):=by
 have HV:=ah hv;have HO:=ah hok;have HT:=ah hto;have HS:=ah hsm;have H0:=ah hs;obtain⟨i0,hi0,hz0,hz1,hz2⟩:=info_parts info_entry;clear hv hok hto hsm hs;by_cases h0:tl=[]
 case' pos=>
  have HZ:=ah h0;rw[show tl.length=0 by rw[h0];rfl];have h1:True:=trivial;clear h0
 case' neg=>
  have HZ:=ah h0;have h1:¬ tl.length=0:=by simpa using h0
  clear h0
 all_goals
  go_enter Tryz.func154, Tryz.ntmps154;go_wp2_with fail;go_loopw [0,7] (fun n out wr=> ∃ (p s:List Nd) (es:List En) (A:Option Addr) (c:Nat),n=ptrN (nxt noT s i)/\out = .slice A es.length c/\Hid (Wst w ns tl i (witE tl i s0) p s es A c wr)) (fun n _ _=>rank ns n)
  case atStart=>exact⟨p0,s0,[],none,0,rfl,rfl,H0.o,rfl,by simp,((Sat.start w).row_nil _ 4).of (by rfl)⟩
  case round=>
   obtain⟨p,s,es,A,c,rfl,rfl,HD⟩:=hrel;rcases nxt_cases s i with ⟨e1,hlow⟩ | ⟨u,m,t,e2,e1,hm,hu⟩
   .have e3:ptrN (nxt noT s i) = .pointer none:=by rw[e1];rfl
    rw[e3];have ht:=HD.o.told;rw[witE_none hlow,List.append_nil] at ht;have HTl:=ah ht;clear e1 e3 hlow ht;go_wp2_with fail;go_ret;exact⟨es,A,c,rfl,HTl.o.symm,HD.o.sat⟩
   .have e3:ptrN (nxt noT s i) = .pointer (some ⟨m.a,0,none⟩):=by rw[e1];rfl
    rw[e3];have hv2:=HV.o.new HD.o.sat.chg;have hsp:=HD.o.eq;obtain⟨n0,n1,n2,n3,n4,n5,n6⟩:=hv2.node (p++u) m t (by rw[hsp,e2];simp);have n7:=n5 i (by have:=HO.o.full m (by rw[hsp,e2];simp);omega);have hmi:i<m.h:=by have:=HO.o.full m (by rw[hsp,e2];simp);omega
    unfold slv' at n1 n2;have HN:=ah n6;have HTw:=ah (HT.o.new HD.o.sat.chg);have hdup:=ah hv2.nodup;have hml:=HS.o.each m (by rw[hsp,e2];simp);have hk2:m.e.key.2.2.length<=140737488355328:=by omega
    have hv3:m.e.value.2.2.length<=140737488355328:=by omega
    have hlen:es.length<=1000000:=by have h1:=HD.o.len;have h2:=HS.o.len;rw[hsp,List.length_append] at h2;omega
    have ht:=HD.o.told;rw[e2,witE_some hu hm] at ht;have HTl:=ah ht;have E1:=ah hsp;have E2:=ah e2;clear ht e1 e3 e2 hsp n5 n6 hv2 hml hm hu;have hin:inB tl m.e.ent=(decide (tl=[]) || decide (Lib.compareBytes m.e.key.2.2 tl<0)):=rfl;go_wp2_with (first
     | (go_at_call 145;refine(cmpB_any m.e.key (T,Tc,tl) _ HN.o.1 HTw.o).mono ?_;rintro x wx ⟨rfl,rfl⟩)
     | (go_at_call 110;refine(copied_any m.e w _ _ HD.o.sat HN.o hk2 hv3).mono ?_;rintro x w6 ⟨⟨A2,c2,B2,d2,rfl,hs6⟩,k6⟩;have HS6:=ah hs6;clear hs6 k6;simp only[enA])
     | (at_builtin;refine wpList_appS rfl (.tmp 33) (.tmp 39) 116 rfl 120 i0 _ 4 64 Tryz.underlying116 hi0 hz0 hz1 hz2 rfl (by decide) (.slice A es.length c) es.length (es.flatMap enV) rfl w _ (by exact(HS6.o.alloc' _).up3) (some ⟨w6.heap.size,0,none⟩) 1 1 [.slice A2 m.e.key.2.2.length c2,.slice B2 m.e.value.2.2.length d2,.int .i64 m.e.seq,.bool m.e.dead] rfl (lit_rdv _ _ _) rfl (by intro u hu;simp at hu;rcases hu with rfl | rfl | rfl | rfl<;>rfl) (by unfold maxLen;omega) (by omega) ?_;intro A3 c3 w7 hs7;have HS7:=ah hs7;obtain⟨r0,_,_,_,_,r5,_⟩:=(HV.o.new hs7.chg).node (p++u) m t (by rw[E1.o,E2.o];simp);have r7:=r5 i hmi;clear r5 hs7))
    all_goals first
     | (go_ret
        have hB:inB tl m.e.ent=false:=by
         have h2:=HZ.o;rw[hin];simp[h2];omega
        refine⟨es,A,c,rfl,?_,HD.o.sat⟩;rw[HTl.o,hB];simp)
     | (refine⟨⟨p++(u++[m]),t,es++[⟨(A2,c2,m.e.key.2.2),(B2,d2,m.e.value.2.2),m.e.seq,m.e.dead⟩],A3,c3,rfl,by rw[List.length_append];rfl,?_⟩,?_⟩
        .have hB:inB tl m.e.ent=true:=by
          rw[hin];have h2:=HZ.o;simp[h2]
          all_goals (rcases ‹((tl.length:Int)==0)=true\/Lib.compareBytes m.e.key.2.2 tl<0› with q | q;exact absurd (by simpa using q) h2;exact q)
         refine⟨by rw[E1.o,E2.o];simp,?_,?_,?_⟩
         .rw[HTl.o,hB,if_pos rfl,List.map_append,List.append_assoc];rfl
         .have:=HD.o.len;simp only[List.length_append,List.length_cons,List.length_nil];omega
         .refine HS7.o.of ?_;rw[ownE_snoc,List.flatMap_append,List.length_append];rfl
        .have r1:=rank_at (p:=p++u) (s:=t) (m:=m) hdup.o (by rw[E1.o,E2.o];simp);have r2:=rank_nxt (p:=p++(u++[m])) (s:=t) (i:=i) hdup.o (by rw[E1.o,E2.o];simp);omega)
theorem Sat.base' {w w2 w3:World} {A:SP} (k:Chg No w w2) (h:Sat w2 A w3):Sat w A w3:=by
 obtain⟨x,h1,h2⟩:=h.hp;have:=k.size;exact⟨k.tr h.chg,x,fun b y hy=>⟨(h1 b y hy).1,fun e=>by have:=(h1 b y hy).2 e;omega⟩,h2⟩
theorem nok_nil:NOk []:=⟨by simp,List.Pairwise.nil⟩
theorem mnew_any (w0 w:World) (F:SP) (h:Sat w0 F w):Calls Tryz.prog 58 #[] w fun x w'=> ∃ b hr,x = .returned (.pointer (some ⟨b,0,none⟩))/\Sat w0 (SkipC b hr [] 0 0*F) w':=by
 have hmk: ∀ W,(Instr.makeSlice 169 (.int .i64 8) (.int .i64 8)).run Tryz.prog W = .ok (.slice (some ⟨W.heap.size,0,none⟩) 8 8) (W.alloc (.cells (rowN noT 8 0) 183)):=fun W=>make_ptrs 8 (by omega) W
 have HS:=ah h;clear h;go_enter Tryz.func58, Tryz.ntmps58;go_wp2_with fail;go_ret;have h1:=(HS.o.allocPt 183 (rowN noT 8 0)).allocAt (b:=w.heap.size+1) 173 #[.slice (some ⟨w.heap.size,0,none⟩) 8 8,.int .i64 0,.int .i64 0] (by simp);refine⟨_,w.heap.size,rfl,?_⟩;refine Sat.of ?_ (skip_tab ..).symm;have h3:Sat w0 (RoL (slcs [])*(Pt (w.heap.size+1) 173 #[.slice (some ⟨w.heap.size,0,none⟩) 8 8,.int .i64 0,.int .i64 0]*(Pt w.heap.size 183 (rowN noT 8 0)*F))) _:=h1.rolNil _ (by simp[slcs]);exact h3.of (by
  show RoL (slcs [])*(Pt _ _ _*(Pt _ _ (rowN noT 8 0)*F))=Pt _ _ _*(Pt _ _ (rowN noT 8 0)*(Emp*(RoL (slcs [])*F)));rw[emp_star];ac_rfl)
def fromE (l:List UInt8):Ent:=⟨l,[],9223372036854775807,false⟩
def rangeE (fl tl:List UInt8) (ns:List Nd):List Ent:=witE tl 0 (behind (fromE fl) ns)
theorem run_index0 (a0 a1 a2 a3 a4 a5 a6 a7:Option Addr) (W:World):(Instr.index 181 (.agg #[.pointer a0,.pointer a1,.pointer a2,.pointer a3,.pointer a4,.pointer a5,.pointer a6,.pointer a7]) (.int .i64 0)).run Tryz.prog W = .ok (.pointer a0) W:=by
 simp[Instr.index,run_underlying Tryz.underlying181,asIntOf,go_sem]
theorem range_any (FA:Option Addr) (Fc:Nat) (fl:List UInt8) (T:Option Addr) (Tc:Nat) (tl:List UInt8) (b hr:Nat) (ns:List Nd) (w:World) (hf:Rd w FA fl) (hto:Rd w T tl) (hv:View w b hr ns) (hok:NOk ns) (hsm:Small ns):
  Calls Tryz.prog 125 #[.pointer (some ⟨b,0,none⟩),.slice FA fl.length Fc,.slice T tl.length Tc] w (ToldE w (rangeE fl tl ns)):=by
 have HV:=ah hv;have HO:=ah hok;have HT:=ah hto;have HF:=ah hf;have HS:=ah hsm;clear hv hok hto hf hsm;have HQ:Hid (Value.agg (outC b (ahead (fromE fl) ns) 0) = .agg #[.pointer (some ⟨lastAt b (ahead (fromE fl) ns) 0,0,none⟩),.pointer (some ⟨lastAt b (ahead (fromE fl) ns) 1,0,none⟩),.pointer (some ⟨lastAt b (ahead (fromE fl) ns) 2,0,none⟩),.pointer (some ⟨lastAt b (ahead (fromE fl) ns) 3,0,none⟩),.pointer (some ⟨lastAt b (ahead (fromE fl) ns) 4,0,none⟩),.pointer (some ⟨lastAt b (ahead (fromE fl) ns) 5,0,none⟩),.pointer (some ⟨lastAt b (ahead (fromE fl) ns) 6,0,none⟩),.pointer (some ⟨lastAt b (ahead (fromE fl) ns) 7,0,none⟩)]):=rfl;have hix:=run_index0;go_enter Tryz.func125, Tryz.ntmps125;go_wp2_with (first
  | (go_at_call 108;refine(before_any b hr ns ⟨(FA,Fc,fl),(none,0,[]),9223372036854775807,false⟩ _ HV.o HO.o ⟨HF.o,Rd.nil _ _⟩).mono ?_;rintro x w2 ⟨rfl,k2⟩;rw[show (⟨(FA,Fc,fl),(none,0,[]),9223372036854775807,false⟩:En).ent=fromE fl from rfl,HQ.o];have HK:=ah k2;obtain⟨R,h',hlt,q0,q1⟩:=(HV.o.new k2).last HO.o (ahead_behind (fromE fl) ns) (i:=0) (by omega);clear k2)
  | (go_at_call 154;refine(within_any T Tc tl b hr ns (ahead (fromE fl) ns) (behind (fromE fl) ns) 0 _ (HT.o.new HK.o) (HV.o.new HK.o) HO.o HS.o (ahead_behind _ _) (by omega)).mono ?_;rintro x w3 ⟨es,A,c,rfl,he,hs⟩;have HE:=ah he;have HS3:=ah (Sat.base' HK.o hs);clear he hs))
 go_ret;exact⟨es,A,c,rfl,HE.o,HS3.o⟩
end Go.Proofs.YtmbaiglpgaoogaaGreat
namespace Go.Proofs.YtmbaiglpgaoogaaGreat
open Go.RowKit
set_option linter.unusedVariables false
theorem nok_put {ns:List Nd} {N:Nd} {e:Ent} {H:Int} (hok:NOk ns) (ht:twice e ns=false) (hN:N.e.ent=e) (hv:N.v=N.h) (hh:N.h=clampH H):NOk (ahead e ns++N::behind e ns):=by
 have hs:=hok.sort;have e0:=ahead_behind e ns;have hmem: ∀ n,n ∈ ahead e ns\/n ∈ behind e ns->n ∈ ns:=fun n hn=>by rw[e0];exact List.mem_append.2 hn
 have hlt: ∀ n ∈ behind e ns,LTE N.e.ent n.e.ent:=by
  intro n hn;rcases lte_tri N.e.ent n.e.ent with q | q | q
  .exact q
  .exfalso;rw[hN] at q
   cases hb:behind e ns with
   | nil=>rw[hb] at hn;simp at hn
   | cons m s=>
    rw[hb] at hn;rw[e0,hb,List.pairwise_append,List.pairwise_cons] at hs;rcases List.mem_cons.1 hn with z | hn
    .subst z;exact behind_head hb q
    .exact behind_head hb (lte_trans (hs.2.1.1 n hn) q)
  .exfalso;have:twice e ns=true:=(twice_iff hok).2 ⟨n,hmem n (.inr hn),by rw[<-hN];exact q.symm⟩;rw[ht] at this;cases this
 refine⟨fun n hn=>?_,?_⟩
 .rcases List.mem_append.1 hn with hn | hn
  .exact hok.full n (hmem n (.inl hn))
  .rcases List.mem_cons.1 hn with hn | hn
   .subst hn;refine⟨hv,?_,?_⟩<;>rw[hh]<;>unfold clampH<;>omega
   .exact hok.full n (hmem n (.inr hn))
 .rw[e0,List.pairwise_append] at hs;rw[List.pairwise_append,List.pairwise_cons];refine⟨hs.1,⟨hlt,hs.2.1⟩,fun a ha c hc=>?_⟩;rcases List.mem_cons.1 hc with hc | hc
  .subst hc;rw[hN];exact(mem_ahead ha).2
  .exact hs.2.2 a ha c hc
end Go.Proofs.YtmbaiglpgaoogaaGreat
namespace Go.Proofs.YtmbaiglpgaoogaaGreat
open Go.RowKit
set_option linter.unusedVariables false
set_option maxRecDepth 100000
theorem beq_any (a b:Slc) (w:World) (ha:Rd w a.1 a.2.2) (hb:Rd w b.1 b.2.2):
  Calls Tryz.prog 126 #[.slice a.1 a.2.2.length a.2.1,.slice b.1 b.2.2.length b.2.1] w fun e w'=>e = .returned (.bool (decide (a.2.2=b.2.2)))/\w'=w:=by
 obtain⟨SA,SB,B,e1,e2,e3,e4⟩:=str_two a.2.2 b.2.2;have s1:=str_any ha a.2.1;have s2:=str_any hb b.2.1;rw[<-e1] at s1;rw[<-e2] at s2;rw[<-e4];clear ha hb e1 e2 e4;go_enter Tryz.func126, Tryz.ntmps126;go_wp2;go_ret;exact⟨rfl,rfl⟩
def seekE (key:List UInt8) (seq:Int):Ent:=⟨key,[],seq,false⟩
def getE (key:List UInt8) (seq:Int) (ns:List Nd):Option Ent:=match behind (seekE key seq) ns with
 | m::_=>if m.e.key.2.2=key then some m.e.ent else none
 | []=>none
def noE:Ent:=⟨[],[],0,false⟩
def GotE (w:World) (q:Option Ent) (x:Ending) (w':World):Prop:= ∃ g:En,x = .returned (.tuple #[enA g,.bool q.isSome])/\g.ent=q.getD noE/\Sat w (OwnE [g]) w'
theorem results_cell_tmp {P:Program} {fn:Func} {p q:Tmp} {ty:TypeId} (h:fn.results = #[.cell p ty,.tmp q]) (tmps:Array Value) (w:World) (g:Nat) (t:TypeId) (cs:Array Value) (fr:Nat × Nat) (d:TypeDesc) (v:Value)
  (hp:tmps.getD p undef = .pointer (some ⟨g,0,none⟩)) (hq:tmps.getD q undef=v) (hg:w.heap[g]?=some (.cells cs t fr))
  (hu:P.underlying ty=some d) (hd:(match d with | .struct _ | .array _ _=>true | _=>false)=true) (hi:(P.info? ty).map (·.size)=some cs.size):
  (results fn tmps).run P w = .ok (.tuple #[.agg cs,v]) w:=by
 have hp':tmps[p]?.getD undef = .pointer (some ⟨g,0,none⟩):=by simpa using hp
 have hq':tmps[q]?.getD undef=v:=by simpa using hq
 simp[results,h,hp',hq',asAddr,run_loadVar_row w g t ty cs fr d hg hu hd hi]
theorem get_any (K:Slc) (seq:Int) (b hr:Nat) (ns:List Nd) (w:World) (hk:Rd w K.1 K.2.2) (hv:View w b hr ns) (hok:NOk ns) (hsm:Small ns):
  Calls Tryz.prog 127 #[.pointer (some ⟨b,0,none⟩),.slice K.1 K.2.2.length K.2.1,.int .i64 seq] w (GotE w (getE K.2.2 seq ns)):=by
 have HV:=ah hv;have HO:=ah hok;have HK:=ah hk;have HS:=ah hsm;have h1:=(Sat.start w).allocAt (b:=w.heap.size) 120 #[.slice none 0 0,.slice none 0 0,.int .i64 0,.bool false] rfl;have c1:Chg No w (w.alloc (.cells #[.slice none 0 0,.slice none 0 0,.int .i64 0,.bool false] 120)):=(Chg.refl No w).alloc _;have HC1:=ah c1;have HS1:=ah h1;clear hv hok hk hsm h1 c1;have HQ:Hid (Value.agg (outC b (ahead (seekE K.2.2 seq) ns) 0) = .agg #[.pointer (some ⟨lastAt b (ahead (seekE K.2.2 seq) ns) 0,0,none⟩),.pointer (some ⟨lastAt b (ahead (seekE K.2.2 seq) ns) 1,0,none⟩),.pointer (some ⟨lastAt b (ahead (seekE K.2.2 seq) ns) 2,0,none⟩),.pointer (some ⟨lastAt b (ahead (seekE K.2.2 seq) ns) 3,0,none⟩),.pointer (some ⟨lastAt b (ahead (seekE K.2.2 seq) ns) 4,0,none⟩),.pointer (some ⟨lastAt b (ahead (seekE K.2.2 seq) ns) 5,0,none⟩),.pointer (some ⟨lastAt b (ahead (seekE K.2.2 seq) ns) 6,0,none⟩),.pointer (some ⟨lastAt b (ahead (seekE K.2.2 seq) ns) 7,0,none⟩)]):=rfl;have hix:=run_index0;go_enter Tryz.func127, Tryz.ntmps127;go_upto_region 2 with (go_at_call 108;refine(before_any b hr ns ⟨K,(none,0,[]),seq,false⟩ _ (HV.o.new HC1.o) HO.o ⟨HK.o.new HC1.o,Rd.nil _ _⟩).mono ?_;rintro x w2 ⟨rfl,k2⟩;rw[show (⟨K,(none,0,[]),seq,false⟩:En).ent=seekE K.2.2 seq from rfl,HQ.o];have HK2:=ah (HC1.o.tr k2);have HS2:=ah (HS1.o.new k2);obtain⟨R,h',hlt,q0,q1⟩:=(HV.o.new HK2.o).last HO.o (ahead_behind (seekE K.2.2 seq) ns) (i:=0) (by omega);clear k2)
 have HV2:=ah (HV.o.new HK2.o);have HG:Hid (getE K.2.2 seq ns=match behind (seekE K.2.2 seq) ns with
  | m::_=>if m.e.key.2.2=K.2.2 then some m.e.ent else none
  | []=>none):=rfl
 generalize w.heap.size=O at*
 rcases nxt_cases (behind (seekE K.2.2 seq) ns) 0 with ⟨e1,hlow⟩ | ⟨u,m,t,e2,e1,hm,hu⟩
 .have hnil:behind (seekE K.2.2 seq) ns=[]:=by
   cases hb:behind (seekE K.2.2 seq) ns with
   | nil=>rfl
   | cons m s=>
    have h1:=hlow m (by rw[hb];simp);have h2:=HO.o.full m (by rw[ahead_behind (seekE K.2.2 seq) ns,hb];simp);omega
  have HT:Hid (getE K.2.2 seq ns=none):=by unfold Hid;rw[HG.o,hnil]
  have e3:ptrN (nxt noT (behind (seekE K.2.2 seq) ns) 0) = .pointer none:=by rw[e1];rfl
  rw[e3];have c0:=HS2.o.cell 0;have c1:=HS2.o.cell 1;have c2:=HS2.o.cell 2;have c3:=HS2.o.cell 3;have f0:=HS2.o.frozen 0;have f1:=HS2.o.frozen 1;have f2:=HS2.o.frozen 2;have f3:=HS2.o.frozen 3;have h6:=(((HS2.o.set 0 (.slice none 0 0)).set 1 (.slice none 0 0)).set 2 (.int .i64 0)).set 3 (.bool false);clear e1 e3 hlow hnil q0 q1;go_wp2_with fail;revert h6;generalize World.setCell _ _ _=w4;intro h6;refine bodyPost_ret (results_cell_tmp (p:=6) (q:=7) (by kernel_rfl) _ _ O 120 _ (0,0) _ _ rfl rfl h6.at Tryz.underlying120 rfl (by kernel_rfl)) rfl ?_;rw[HT.o];refine⟨⟨(none,0,[]),(none,0,[]),0,false⟩,rfl,rfl,?_⟩;exact((h6.right.row_nil 5 1).row_nil 5 1)
 .have hu0:u=[]:=by
   cases hb:u with
   | nil=>rfl
   | cons x s=>
    have h1:=hu x (by rw[hb];simp);have h2:=HO.o.full x (by rw[ahead_behind (seekE K.2.2 seq) ns,e2,hb];simp);omega
  subst hu0;rw[List.nil_append] at e2;have hgm:getE K.2.2 seq ns=if m.e.key.2.2=K.2.2 then some m.e.ent else none:=by rw[HG.o,e2]
  have e3:ptrN (nxt noT (behind (seekE K.2.2 seq) ns) 0) = .pointer (some ⟨m.a,0,none⟩):=by rw[e1];rfl
  rw[e3];obtain⟨n0,n1,n2,n3,n4,n5,n6⟩:=HV2.o.node (ahead (seekE K.2.2 seq) ns) m t (by rw[<-e2];exact ahead_behind _ _);have hml:=HS.o.each m (by rw[ahead_behind (seekE K.2.2 seq) ns,e2];simp);have hk2:m.e.key.2.2.length<=140737488355328:=by omega
  have hv2:m.e.value.2.2.length<=140737488355328:=by omega
  unfold slv' at n1 n2;have HN:=ah n6;clear e1 e3 hm hu n5 n6 n0 e2 q0 q1 hml;by_cases hkk:m.e.key.2.2=K.2.2
  .rw[if_pos hkk] at hgm;have HT:=ah hgm;have HB:Hid (decide (m.e.key.2.2=K.2.2)=true):=by simpa [Hid] using hkk
   clear hgm hkk;go_wp2_with (first
    | (go_at_call 126;refine(beq_any m.e.key K _ HN.o.1 (HK.o.new HK2.o)).mono ?_;rintro x wx ⟨rfl,rfl⟩;rw[HB.o])
    | (go_at_call 110;refine(copied_any m.e w _ _ HS2.o HN.o hk2 hv2).mono ?_;rintro x w6 ⟨⟨A2,c2,B2,d2,rfl,hs6⟩,k6⟩;have z0:=hs6.up3.cell 0;have z1:=hs6.up3.cell 1;have z2:=hs6.up3.cell 2;have z3:=hs6.up3.cell 3;have f0:=hs6.up3.frozen 0;have f1:=hs6.up3.frozen 1;have f2:=hs6.up3.frozen 2;have f3:=hs6.up3.frozen 3;have h9:=(((hs6.up3.set 0 (.slice A2 m.e.key.2.2.length c2)).set 1 (.slice B2 m.e.value.2.2.length d2)).set 2 (.int .i64 m.e.seq)).set 3 (.bool m.e.dead);have HS9:=ah h9;clear hs6 k6 h9;simp only[enA]))
   have h9:=HS9.o;revert h9;generalize World.setCell _ _ _=w4;intro h9;refine bodyPost_ret (results_cell_tmp (p:=6) (q:=7) (by kernel_rfl) _ _ O 120 _ (0,0) _ _ rfl rfl h9.at Tryz.underlying120 rfl (by kernel_rfl)) rfl ?_;rw[HT.o];exact⟨⟨(A2,c2,m.e.key.2.2),(B2,d2,m.e.value.2.2),m.e.seq,m.e.dead⟩,rfl,rfl,h9.right⟩
  .rw[if_neg hkk] at hgm;have HT:=ah hgm;have HB:Hid (decide (m.e.key.2.2=K.2.2)=false):=by simpa [Hid] using hkk
   clear hgm hkk;have c0:=HS2.o.cell 0;have c1:=HS2.o.cell 1;have c2:=HS2.o.cell 2;have c3:=HS2.o.cell 3;have f0:=HS2.o.frozen 0;have f1:=HS2.o.frozen 1;have f2:=HS2.o.frozen 2;have f3:=HS2.o.frozen 3;have h6:=(((HS2.o.set 0 (.slice none 0 0)).set 1 (.slice none 0 0)).set 2 (.int .i64 0)).set 3 (.bool false);have HS6:=ah h6;clear h6;go_wp2_with (first
    | (go_at_call 126;refine(beq_any m.e.key K _ HN.o.1 (HK.o.new HK2.o)).mono ?_;rintro x wx ⟨rfl,rfl⟩;rw[HB.o]))
   have h6:=HS6.o;revert h6;generalize World.setCell _ _ _=w4;intro h6;refine bodyPost_ret (results_cell_tmp (p:=6) (q:=7) (by kernel_rfl) _ _ O 120 _ (0,0) _ _ rfl rfl h6.at Tryz.underlying120 rfl (by kernel_rfl)) rfl ?_;rw[HT.o];refine⟨⟨(none,0,[]),(none,0,[]),0,false⟩,rfl,rfl,?_⟩;exact((h6.right.row_nil 5 1).row_nil 5 1)
def commonN:List UInt8->List UInt8->Nat
 | a::l,b::m=>if a=b then commonN l m+1 else 0
 | _,_=>0
theorem commonN_le: ∀ a b:List UInt8,commonN a b<=a.length/\commonN a b<=b.length
 | [],b=>by simp[commonN]
 | a::l,[]=>by simp[commonN]
 | a::l,b::m=>by
  have:=commonN_le l m;unfold commonN;split<;>simp<;>omega
theorem commonN_take: ∀ a b:List UInt8,a.take (commonN a b)=b.take (commonN a b)
 | [],b=>by simp[commonN]
 | a::l,[]=>by simp[commonN]
 | a::l,b::m=>by
  have:=commonN_take l m;unfold commonN;split
  .rename_i h;rw[List.take_succ_cons,List.take_succ_cons,this,h]
  .simp
theorem commonN_eq: ∀ {a b:List UInt8} {n:Nat},n<=a.length->n<=b.length->(∀ j (h:j<a.length) (h':j<b.length),j<n->a[j]=b[j])->(∀ (h:n<a.length) (h':n<b.length),a[n]≠b[n])->commonN a b=n
 | [],b,n,h1,_,_,_=>by simp at h1;simp[commonN,h1]
 | a::l,[],n,_,h2,_,_=>by simp at h2;simp[commonN,h2]
 | a::l,b::m,0,_,_,_,h4=>by
  have:=h4 (by simp) (by simp);unfold commonN;rw[if_neg (by simpa using this)]
 | a::l,b::m,n+1,h1,h2,h3,h4=>by
  have h0:=h3 0 (by simp) (by simp) (by omega);unfold commonN;rw[if_pos (by simpa using h0),commonN_eq (n:=n) (by simpa using h1) (by simpa using h2) (fun j h h' hj=>by
   have:=h3 (j+1) (by simp;omega) (by simp;omega) (by omega);simpa using this) (fun h h'=>by
   have:=h4 (by simp;omega) (by simp;omega);simpa using this)]
def mayE (e:Ent):Bool:=decide (e.key.length<=128) && (decide (e.value.length<=16384) && ((!e.dead || decide (e.value.length=0)) && decide (0<=e.seq)))
def entB (ahead:List UInt8) (e:Ent):List UInt8:=
 [UInt8.ofNat (commonN ahead e.key),UInt8.ofNat (e.key.length - commonN ahead e.key)]++(putB e.seq.toNat 8++([if e.dead then 1 else 0]++(putB e.value.length 2++(e.key.drop (commonN ahead e.key)++e.value))))
def aheadK (L:List Ent) (i:Nat):List UInt8:=if i % 8=0 then [] else match L[i - 1]? with | some e=>e.key | none=>[]
def entAt (L:List Ent) (i:Nat):List UInt8:=match L[i]? with | some e=>entB (aheadK L i) e | none=>[]
def markB:List UInt8:=[84,68,84,49]
def bodyB (L:List Ent) (k:Nat):List UInt8:=markB++putB L.length 4++((List.range k).map (entAt L)).flatten
def idxAt (L:List Ent) (i:Nat):List UInt8:=if i % 8=0 then putB (bodyB L i).length 4++([UInt8.ofNat ((L[i]?.map (·.key.length)).getD 0)]++(L[i]?.map (·.key)).getD []) else []
def idxB (L:List Ent) (k:Nat):List UInt8:=putB ((L.length+7) / 8) 4++((List.range k).map (idxAt L)).flatten
def unlike (L:List Ent):Nat->List (List UInt8)
 | 0=>[]
 | k+1=>match L[k]? with
  | none=>unlike L k
  | some e=>if k=0 then unlike L k++[e.key] else match L[k - 1]? with
   | some d=>if d.key=e.key then unlike L k else unlike L k++[e.key]
   | none=>unlike L k++[e.key]
def bitsB (L:List Ent):List UInt8:=addAll (List.replicate (nbytes (unlike L L.length).length 10) 0) (unlike L L.length)
def allB (L:List Ent):List UInt8:=
 let b:=bodyB L L.length;let c:=b++idxB L L.length
 c++putB (bitsB L).length 4++bitsB L++putB b.length 4++putB c.length 4
def buildB (L:List Ent):List UInt8:=allB L++putB (sumB (allB L)) 4
def buildE (L:List Ent):Nat:=if sortedB L=false then 70 else if 65536<L.length\/L.any (fun e=> !mayE e) then 71 else 0
theorem bodyB_succ (L:List Ent) (k:Nat):bodyB L (k+1)=bodyB L k++entAt L k:=by
 unfold bodyB;rw[List.range_succ,List.map_append,List.flatten_append,List.append_assoc];simp
theorem idxB_succ (L:List Ent) (k:Nat):idxB L (k+1)=idxB L k++idxAt L k:=by
 unfold idxB;rw[List.range_succ,List.map_append,List.flatten_append,List.append_assoc];simp
theorem four_any (n:Nat) (hn:n<9223372036854775808) (w0 w:World) (F:SP) (h:Sat w0 F w):Calls Tryz.prog 178 #[.int .i64 (n:Int)] w (NewB w0 F (putB n 4)):=by
 have H:=ah h;clear h;have hw:IntKind.u64.wrap (n:Int)=n:=by rw[IntKind.wrap_u64];omega
 go_enter Tryz.func178, Tryz.ntmps178;go_wp2_with (go_at_call 117;refine(oput_any n 4 (by omega) (by omega) (by omega) w0 _ F H.o).mono ?_;rintro x w1 ⟨A,c,rfl,h1,h2,hs⟩;have H1:=ah h1;have H2:=ah h2;have HS:=ah hs;clear h1 h2 hs);go_ret;exact⟨A,c,rfl,H1.o,H2.o,HS.o⟩
theorem common_any (a b:Slc) (w:World) (ha:Rd w a.1 a.2.2) (hb:Rd w b.1 b.2.2) (hl:a.2.2.length<=1000000):
  Calls Tryz.prog 197 #[.slice a.1 a.2.2.length a.2.1,.slice b.1 b.2.2.length b.2.1] w fun x w'=>x = .returned (.int .i64 (commonN a.2.2 b.2.2:Nat))/\Chg No w w':=by
 obtain⟨A,c,l⟩:=a;obtain⟨B,d,m⟩:=b;have HA:Hid (Rd w A l):=ha;have HB:Hid (Rd w B m):=hb;have hl:l.length<=1000000:=hl;clear ha hb;show Calls Tryz.prog 197 #[.slice A l.length c,.slice B m.length d] w fun x w'=>x = .returned (.int .i64 (commonN l m:Nat))/\Chg No w w'
 go_enter Tryz.func197, Tryz.ntmps197;go_wp2_with fail;go_loopw [5] (fun iv wr=> ∃ n:Nat,n<=l.length/\n<=m.length/\iv = .int .i64 n/\Hid ((∀ j (h:j<l.length) (h':j<m.length),j<n->l[j]=m[j])/\Chg No w wr)) (fun iv _=>l.length - (intOf iv).toNat)
 case atStart=>exact⟨0,by omega,by omega,rfl,fun j _ _ h=>by omega,Chg.refl _ _⟩
 case round=>
  obtain⟨n,hn1,hn2,rfl,HD⟩:=hrel;by_cases h1:n<l.length
  .by_cases h2:n<m.length
   .obtain⟨b1,o1,rfl,c1⟩:=(HA.o.new HD.o.2).get h1;obtain⟨b2,o2,rfl,c2⟩:=(HB.o.new HD.o.2).get h2;by_cases h3:l[n]=m[n]
    .have HN:Hid (∀ j (h:j<l.length) (h':j<m.length),j<n+1->l[j]=m[j]):=fun j h h' hj=>by
      by_cases e:j=n
      .subst e;exact h3
      .exact HD.o.1 j h h' (by omega)
     rw[h3] at c1;clear h3;go_wp2_with fail;go_quiet (fail)
     go_wp2_with fail;go_roundw
     .exact⟨n+1,by omega,by omega,by push_cast;rfl,HN.o,HD.o.2.drewN _⟩
     .simp[intOf];omega
    .have h4:((l[n].toNat:Int)==(m[n].toNat:Int))=false:=by
      rw[beq_eq_false_iff_ne];intro e;exact h3 (UInt8.toNat.inj (by omega))
     have HE:Hid (commonN l m=n):=commonN_eq hn1 hn2 HD.o.1 (fun _ _=>h3);clear h3;go_wp2_with fail;go_quiet (fail)
     go_wp2_with fail;go_ret;exact⟨by rw[HE.o];rfl,HD.o.2.drewN _⟩
   .have HE:Hid (commonN l m=n):=commonN_eq hn1 hn2 HD.o.1 (fun _ h=>absurd h h2);go_wp2_with fail;go_quiet (fail)
    go_wp2_with fail;go_ret;exact⟨by rw[HE.o];rfl,HD.o.2.drewN _⟩
  .have HE:Hid (commonN l m=n):=commonN_eq hn1 hn2 HD.o.1 (fun h=>absurd h h1);go_wp2_with fail;go_quiet (fail)
   go_wp2_with fail;go_ret;exact⟨by rw[HE.o];rfl,HD.o.2.drewN _⟩
theorem lmay_any (e:En) (w:World) (hk:e.key.2.2.length<=140737488355328) (hv:e.value.2.2.length<=140737488355328):
  Calls Tryz.prog 177 #[enA e] w fun x w'=>x = .returned (.bool (mayE e.ent))/\Chg No w w':=by
 obtain⟨⟨kA,kc,k⟩,⟨vA,vc,v⟩,seq,dead⟩:=e;have hk:k.length<=140737488355328:=hk;have hv:v.length<=140737488355328:=hv;have hs:=(Sat.start w).allocPt 120 #[.slice kA k.length kc,.slice vA v.length vc,.int .i64 seq,.bool dead];have c0:=hs.cell 0;have c1:=hs.cell 1;have c2:=hs.cell 2;have c3:=hs.cell 3;have HS:=ah hs;have HM:Hid (mayE ⟨k,v,seq,dead⟩=(decide (k.length<=128) && (decide (v.length<=16384) && ((!dead || decide (v.length=0)) && decide (0<=seq))))):=rfl;unfold enA;show Calls Tryz.prog _ _ w fun x w'=>x = .returned (.bool (mayE ⟨k,v,seq,dead⟩))/\Chg No w w'
 clear hs;by_cases h1:k.length<=128
 .have q1:=decide_eq_true h1;have i1:(k.length:Int)<=128:=by omega
  by_cases h2:v.length<=16384
  .have q2:=decide_eq_true h2;have i2:(v.length:Int)<=16384:=by omega
   by_cases h3:0<=seq
   .have q3:=decide_eq_true h3;by_cases h4:v.length=0
    .have q4:=decide_eq_true h4;have HE:Hid (mayE ⟨k,v,seq,dead⟩=true):=by unfold Hid;rw[HM.o,q1,q2,q3,q4];cases dead<;>rfl
     have i4:((v.length:Int)==0)=true:=by rw[h4];rfl
     clear q1 q2 q3 q4 h4
     cases dead<;>
     .go_enter Tryz.func177, Tryz.ntmps177;go_wp2_with fail;go_ret;exact⟨by rw[HE.o];rfl,HS.o.chg⟩
    .have q4:=decide_eq_false h4;have i4:((v.length:Int)==0)=false:=by rw[beq_eq_false_iff_ne];omega
     cases dead
     .have HE:Hid (mayE ⟨k,v,seq,false⟩=true):=by unfold Hid;rw[HM.o,q1,q2,q3,q4];rfl
      clear q1 q2 q3 q4 h4;go_enter Tryz.func177, Tryz.ntmps177;go_wp2_with fail;go_ret;exact⟨by rw[HE.o];rfl,HS.o.chg⟩
     .have HE:Hid (mayE ⟨k,v,seq,true⟩=false):=by unfold Hid;rw[HM.o,q1,q2,q3,q4];rfl
      clear q1 q2 q3 q4 h4;go_enter Tryz.func177, Tryz.ntmps177;go_wp2_with fail;go_ret;exact⟨by rw[HE.o];rfl,HS.o.chg⟩
   .have q3:=decide_eq_false h3;have HE:Hid (mayE ⟨k,v,seq,dead⟩=false):=by unfold Hid;rw[HM.o,q1,q2,q3];simp
    by_cases h4:v.length=0
    .have i4:((v.length:Int)==0)=true:=by rw[h4];rfl
     clear q1 q2 q3 h4
     cases dead<;>
     .go_enter Tryz.func177, Tryz.ntmps177;go_wp2_with fail;go_ret;exact⟨by rw[HE.o];rfl,HS.o.chg⟩
    .have i4:((v.length:Int)==0)=false:=by rw[beq_eq_false_iff_ne];omega
     clear q1 q2 q3 h4
     cases dead<;>
     .go_enter Tryz.func177, Tryz.ntmps177;go_wp2_with fail;go_ret;exact⟨by rw[HE.o];rfl,HS.o.chg⟩
  .have q2:=decide_eq_false h2;have i2:¬ (v.length:Int)<=16384:=by omega
   have HE:Hid (mayE ⟨k,v,seq,dead⟩=false):=by unfold Hid;rw[HM.o,q1,q2];rfl
   clear q1 q2;go_enter Tryz.func177, Tryz.ntmps177;go_wp2_with fail;go_ret;exact⟨by rw[HE.o];rfl,HS.o.chg⟩
 .have q1:=decide_eq_false h1;have i1:¬ (k.length:Int)<=128:=by omega
  have HE:Hid (mayE ⟨k,v,seq,dead⟩=false):=by unfold Hid;rw[HM.o,q1];rfl
  clear q1;go_enter Tryz.func177, Tryz.ntmps177;go_wp2_with fail;go_ret;exact⟨by rw[HE.o];rfl,HS.o.chg⟩
def takeP (n:Nat) (q:List UInt8) (s:Bool):List UInt8 × List UInt8 × Bool:=if s=true\/q.length<n then (List.replicate (min n 8) 0,q,true) else (q.take n,q.drop n,false)
theorem takeP_short {n:Nat} {q:List UInt8} {s:Bool} (h:s=true\/q.length<n):takeP n q s=(List.replicate (min n 8) 0,q,true):=if_pos h
theorem takeP_ok {n:Nat} {q:List UInt8} (h:n<=q.length):takeP n q false=(q.take n,q.drop n,false):=by
 unfold takeP;rw[if_neg (by simp;omega)]
def Rdr (w0:World) (R:Nat) (F:SP) (q:List UInt8) (s:Bool) (w:World):Prop:= ∃ A c,Sat w0 (Pt R 223 #[.slice A q.length c,.bool s]*F) w/\Rd w0 A q/\q.length<=c/\c<=maxLen
theorem run_make_8 (n:Nat) (hn:n<=8) (W:World):(Instr.makeSlice 41 (.int .i64 (n:Int)) (.int .i64 (n:Int))).run Tryz.prog W=
  .ok (.slice (some ⟨W.heap.size,0,none⟩) n n) (W.alloc (.cells (madeCells #[.int .u8 0] n) 5)):=by
 obtain⟨i0,hi,hz0,hz1,hz2⟩:=info_parts info_u8o;have hr:=run_make (P:= Tryz.prog) W 41 5 i0 _ Tryz.underlying41 hi hz0 .i64 .i64 n n (by omega) (by omega) (by rw[hz2];omega) (by omega);have hc:(Value.int .u8 0).cells = #[.int .u8 0]:=rfl;simpa [hz1,hc] using hr
def Took (w0:World) (R:Nat) (F:SP) (p:List UInt8 × List UInt8 × Bool) (e:Ending) (w':World):Prop:=
 ∃ B d,e = .returned (.slice B p.1.length d)/\Rd w' B p.1/\(p.2.2=false->Rd w0 B p.1)/\p.1.length<=d/\d<=maxLen/\Rdr w0 R F p.2.1 p.2.2 w'
theorem take_any (n:Nat) (hn:n<=65536) (R:Nat) (F:SP) (q:List UInt8) (s:Bool) (w0 w:World) (h:Rdr w0 R F q s w) (hql:q.length<=140737488355328):
  Calls Tryz.prog 139 #[.pointer (some ⟨R,0,none⟩),.int .i64 (n:Int)] w (Took w0 R F (takeP n q s)):=by
 obtain⟨A,c,hs,hr,hc,hm⟩:=h;have c0:=hs.cell 0;have c1:=hs.cell 1;have f0:=hs.frozen 0;have f1:=hs.frozen 1;have HS:=ah hs;have HR:=ah hr;unfold maxLen at hm;clear hs hr;by_cases hsh:s=true\/q.length<n
 .have HT:=ah (takeP_short hsh);have hmin:min (n:Int) 8=((min n 8:Nat):Int):=by omega
  obtain⟨k,hk⟩: ∃ k,min n 8=k:=⟨_,rfl⟩;have hk8:k<=8:=by omega
  have hmk:=run_make_8 k hk8;rw[HT.o,hk];rw[hk] at hmin;have HK:=ah hk;clear hk;have HD:Hid (∀ W,Sat w0 (Pt R 223 #[.slice A q.length c,.bool true]*F) W->Took w0 R F (List.replicate k 0,q,true) (.returned (.slice (some ⟨W.heap.size,0,none⟩) k k)) (W.alloc (.cells (madeCells #[.int .u8 0] k) 5))):=fun W hW=>
   ⟨some ⟨W.heap.size,0,none⟩,k,by simp,by
    have h0:=RdV.lit W (madeCells #[.int .u8 0] k) 5 (0,0);have e:(madeCells #[.int .u8 0] k).toList=(List.replicate k (0:UInt8)).map bv:=by
     rw[List.map_replicate];simp[madeCells,bv,Nat.mod_one,List.map_const']
    rw[e] at h0;exact h0,by simp,by simp,by unfold maxLen;omega,A,c,hW.alloc' _,HR.o,hc,by unfold maxLen;omega⟩
  have HTr:=HD;rcases Nat.lt_or_ge 8 n with h8 | h8
  case' inr=>
   have hkn:k=n:=by have:=HK.o;omega
   subst hkn;have hmz:=hmk;have hmi:¬ (8:Int)<k:=by omega
  case' inl=>
   have hkn:k=8:=by have:=HK.o;omega
   subst hkn;have hmz: ∀ W:World,(Instr.makeSlice 41 (.int .i64 8) (.int .i64 8)).run Tryz.prog W = .ok (.slice (some ⟨W.heap.size,0,none⟩) 8 8) (W.alloc (.cells (madeCells #[.int .u8 0] 8) 5)):=run_make_8 8 (by omega);have hmi:(8:Int)<n:=by omega
  all_goals
   clear hmk hmin HK
   cases s
   case true=>
    go_enter Tryz.func139, Tryz.ntmps139;go_wp2_with fail;go_ret;have h9:=HD.o _ (HS.o.set 1 (.bool true));rw[show (w.setCell ⟨R,1,none⟩ (.bool true)).heap.size=w.heap.size by simp] at h9;exact h9
   case false=>
    have hlt:=hsh.resolve_left (by decide);go_enter Tryz.func139, Tryz.ntmps139;go_wp2_with fail;go_ret;have h9:=HD.o _ (HS.o.set 1 (.bool true));rw[show (w.setCell ⟨R,1,none⟩ (.bool true)).heap.size=w.heap.size by simp] at h9;exact h9
 .have hs:s=false:=by cases s;rfl;simp at hsh
  subst hs;have hle:n<=q.length:=by simp at hsh;omega
  have hlt:¬ (q.length:Int)<n:=by omega
  have hlt2:(n:Int)<=q.length:=by omega
  have HT:=ah (takeP_ok hle);rw[HT.o];have HD:Hid (∀ W A' c' cx,A'=(if c=n then A else A.map (·.add n))->c'=c - n->cx=c->Sat w0 (Pt R 223 #[.slice A' (q.drop n).length c',.bool false]*F) W->Took w0 R F (q.take n,q.drop n,false) (.returned (.slice A (q.take n).length cx)) W):=fun W A' c' cx e1 e2 e3 hW=>by
   subst e1 e2 e3;exact⟨A,cx,rfl,(HR.o.take n).new hW.chg,fun _=>HR.o.take n,by simp;omega,by unfold maxLen;omega,_,_,hW,HR.o.drop hle hc,by simp;omega,by unfold maxLen;omega⟩
  rw[show (q.take n).length=n by simp;omega,show (q.drop n).length=q.length - n by simp] at HD;clear hsh;go_enter Tryz.func139, Tryz.ntmps139;go_wp2_with fail
  all_goals
   go_ret;first
    | exact HD.o _ _ _ _ (by rw[if_pos ‹c=n›]) (by omega) (by omega) (HS.o.set 0 _)
    | exact HD.o _ _ _ _ (by rw[if_neg ‹¬ c=n›]) (by omega) (by omega) (HS.o.set 0 _)
end Go.Proofs.YtmbaiglpgaoogaaGreat
