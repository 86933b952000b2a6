/- Joined, as they were built one by one: AppZ OwnR Got RowCut. -/
import Derived.Test.YtmbaiglpgaoogaaGreatS02
import Derived.Test.YtmbaiglpgaoogaaGreatS04
namespace Go.Proofs.YtmbaiglpgaoogaaGreat
open Go.RowKit
set_option linter.unusedVariables false
set_option maxRecDepth 100000
def nulls (m:Nat):List Value:=List.replicate m (.int .u8 0)
theorem nulls_one (m:Nat): ∀ u ∈ nulls m,u.oneCell'=true:=by
 intro u hu;obtain⟨_,rfl⟩:=List.mem_replicate.1 hu;rfl
theorem zeroCells_u8 (m:Nat):Builtin.zeroCells #[.int .u8 0] m=(nulls m).toArray:=by
 unfold Builtin.zeroCells nulls;apply Array.ext';simp only[Array.toList_map,Array.toList_range];apply List.ext_getElem?;intro j;simp only[List.getElem?_map,List.getElem?_replicate];by_cases hj:j<m
 ·rw[List.getElem?_range (by simpa using hj),if_pos hj];have:j % (#[Value.int .u8 0]:Array Value).size=0:=Nat.mod_one j;simp[Nat.mod_one]
 ·rw[if_neg hj,List.getElem?_eq_none (by simpa using hj)];rfl
section
variable {P:Program} {w w0:World} {F:SP}
theorem run_appZ (t ti ty e:TypeId) (i:TypeInfo) (ht:P.underlying t=some (.slice e)) (hti:P.underlying ti=some (.int .i64)) (hi:P.info? e=some i) (hz:i.zero=some (.int .u8 0)) (hs:i.size=1) (hb:i.bytes=1)
  (g n cap m:Nat) (xs:List Value) (hS:Sat w0 (Row e 1 (.slice (some ⟨g,0,none⟩) n cap) n xs*F) w) (h0:0<m) (hm:n+m≤1000000000):
  ∃ A' c' w',(Builtin.append_ #[t,ti] ty #[.slice (some ⟨g,0,none⟩) n cap,.int .i64 (m:Int)]).run P w = .ok (.slice A' (n+m) c') w'∧Sat w0 (Row e 1 (.slice A' (n+m) c') (n+m) (xs++nulls m)*F) w':=by
 obtain⟨hl,⟨e1,_⟩ | ⟨g',cap',cur,e1,hnc,hcm,hcs,htk,hP⟩⟩:=hS.row_cases
 ·cases e1
 injection e1 with e1 _ e3
 injection e1 with e1
 injection e1 with e1
 subst e1;subst e3;have hg:w.heap[g]?=some (.cells cur e (0,0)):=hP.block;rw[Nat.mul_one] at hl hcs htk;have hw:IntKind.i64.wrap (m:Int)=m:=by rw[IntKind.wrap_i64];omega
 have hneg:¬ (m:Int)<0:=by omega
 have h48:¬ (281474976710656:Int)<(m:Int):=by omega
 have hnl:(nulls m).length=m:=List.length_replicate;have hzc:=zeroCells_u8 m;by_cases hroom:n+m≤cap
 ·have hst:=run_storeCells_at P g n e (nulls m) 0 cur w hg (by rw[hnl];omega) (nulls_one m);simp only[Nat.add_zero] at hst;refine⟨some ⟨g,0,none⟩,cap,w.setRow g (cur.toList.take n++nulls m++cur.toList.drop (n+(nulls m).length)).toArray,?_,?_⟩
  ·have h1:¬ m=0:=by omega
   simp[Builtin.append_,run_underlying ht,run_underlying hti,sizeOf,typeInfo,hi,hs,hb,hroom,Addr.add_lit,hst,asInt,asIntOf,hw,hneg,h48,h1,zeroValue,hz,hzc,Value.cells]
  ·have h5:Sat w0 (Pt g e (cur.toList.take n++nulls m++cur.toList.drop (n+(nulls m).length)).toArray*F) _:=Sat.turn hP (w':=w.setRow g (cur.toList.take n++nulls m++cur.toList.drop (n+(nulls m).length)).toArray) ⟨rfl,rfl,rfl,by simp,fun k _ hk=>setRow_other w g k _ (fun e=>hk e)⟩ (setRow_heap w g cur _ e _ hg);have h6:=h5.row_pt (n:=n+m) (cap:=cap) (size:=1) hroom hcm (by simp;omega);refine h6.of ?_;congr 2
   rw[Nat.mul_one,htk];show List.take (n+m) (xs++nulls m++_)=_;exact List.take_left' (by rw[List.length_append,hl,hnl])
 ·have h1:¬ m=0:=by omega
  have holds: ∀ j u,xs[j]?=some u→w.cell? ((⟨g,0,none⟩:Addr).add j)=some u:=(hS.row_own).cells (g:=g) rfl;have hfo:=run_firstCells_some (P:=P) w.drew i.size n ⟨g,0,none⟩ n cap xs (by rw[hl,hs,Nat.mul_one]) (by simpa using holds);have h63':¬ (9223372036854775807:Int)<(n:Int)+(m:Int):=by omega
  have hn48:Builtin.nextslicecap (n+m) cap*i.bytes≤281474976710656:=growslice_fits (by omega) (by rw[hb];omega);have h48':¬ 281474976710656<Builtin.nextslicecap (n+m) cap:=by rw[hb,Nat.mul_one] at hn48;omega
  have hge:=grownCap_ge w (n+m) cap e;have hcm2:grownCap w (n+m) cap e≤maxLen:=grownCap_le_maxLen w (n+m) cap e (by unfold maxLen;omega);refine⟨some ⟨w.heap.size,0,none⟩,grownCap w (n+m) cap e,w.drew.alloc (.cells (xs.toArray++(nulls m).toArray++Builtin.zeroCells #[.int .u8 0] (grownCap w (n+m) cap e - (n+m))) e),?_,?_⟩
  ·rw[hs] at hfo;simp[Builtin.append_,run_underlying ht,run_underlying hti,sizeOf,typeInfo,hi,hs,hb,hroom,asInt,asIntOf,hw,hneg,h48,h1,zeroValue,hz,hzc,Value.cells,h63',h48',Question.forced,hfo,newRow,grownCap];congr 2
   apply Array.ext';simp[List.append_assoc]
  ·have h5:=(hS.right.drew).allocPt e (xs.toArray++(nulls m).toArray++Builtin.zeroCells #[.int .u8 0] (grownCap w (n+m) cap e - (n+m)));have h6:=h5.row_pt (n:=n+m) (cap:=grownCap w (n+m) cap e) (size:=1) hge hcm2 (by rw[zeroCells_u8];simp[hl,hnl];unfold nulls;simp;omega);refine h6.of ?_;congr 2
   rw[Nat.mul_one];simp only[Array.toList_append,List.append_assoc];rw[←List.append_assoc];exact List.take_left' (by rw[List.length_append,hl,hnl])
theorem wpList_appZ {ops:Array Oper} {o:Oper} {a:Act} {rest:List Oper} {Q:Exit→Act→World→Prop} (hgd:o.guard=none) (s x:Operand) (t ti e:TypeId) (i:TypeInfo)
  (ho:o.op = .call { callee:= .builtin .append,args:= #[s,x],argTypes:= #[t,ti] }) (ht:P.underlying t=some (.slice e)) (hti:P.underlying ti=some (.int .i64)) (hi:P.info? e=some i) (hz:i.zero=some (.int .u8 0)) (hs:i.size=1) (hb:i.bytes=1)
  (g n cap m:Nat) (xs:List Value) (hev:a.eval s = .slice (some ⟨g,0,none⟩) n cap) (hex:a.eval x = .int .i64 (m:Int)) (w0:World) (F:SP) (hS:Sat w0 (Row e 1 (.slice (some ⟨g,0,none⟩) n cap) n xs*F) w) (h0:0<m) (hm:n+m≤1000000000)
  (h: ∀ A' c' w',Sat w0 (Row e 1 (.slice A' (n+m) c') (n+m) (xs++nulls m)*F) w'→wpList P ops Q rest (a.put o.dst (.slice A' (n+m) c')) w'):wpList P ops Q (o::rest) a w:=by
 refine wpList_plain hgd fun K hK=>?_
 obtain⟨A',c',w',hrun,h2⟩:=run_appZ (P:=P) t ti o.type e i ht hti hi hz hs hb g n cap m xs hS h0 hm;unfold Oper.wp execOp;simp only[ho,resolve,invoke,builtin,Sem.run_bind,Sem.run_pure,Result.andThen_ok,List.map_toArray,List.map_cons,List.map_nil,hev,hex,hrun];exact hK _ _ (h _ _ _ h2)
end
def OwnR:Rows_→SP
 | []=>Emp
 | x::ks=>Row 5 1 (slOf x) x.2.2.length (x.2.2.map bv)*OwnR ks
theorem row_block {e:TypeId} {size n:Nat} {v:Value} {xs:List Value} {h:Hp} (hr:Row e size v n xs h) {g:Nat} (hg:v.ownBlock=some g): ∃ o,h g=some (false,o):=by
 rcases hr.2 with ⟨rfl,_⟩ | ⟨g',cap,cur,rfl,_,_,_,_,hp⟩
 ·simp[Value.ownBlock] at hg
 ·simp[Value.ownBlock] at hg;subst hg;unfold Pt Ow at hp;exact⟨.cells cur e (0,0),by rw[hp];unfold one1;simp⟩
theorem ownR_block: ∀ {ks:Rows_} {h:Hp},OwnR ks h→ ∀ x ∈ ks, ∀ g,(slOf x).ownBlock=some g→ ∃ o,h g=some (false,o)
 | [],_,_,x,hx,_,_=>by simp at hx
 | y::ks,h,hh,x,hx,g,hg=>by
  obtain⟨a,b,h1,rfl,h3,h4⟩:=hh;rcases List.mem_cons.1 hx with rfl | hx
  ·obtain⟨o,ho⟩:=row_block h3 hg;exact⟨o,by unfold Hp.un;rw[ho];rfl⟩
  ·obtain⟨o,ho⟩:=ownR_block h4 x hx g hg;refine⟨o,?_⟩;unfold Hp.un;rcases h1 g with q | q | ⟨o',q,q'⟩
   ·rw[q];exact ho
   ·rw[ho] at q;cases q
   ·rw[ho] at q';injection q' with q';injection q' with q' _;cases q'
section
variable {w0 w w':World} {F:SP} {ks:Rows_}
theorem ownR_ownL: ∀ {ks:Rows_} {F:SP},Sat w0 (OwnR ks*F) w→OwnL w0.heap.size w ks
 | [],_,_=>OwnL.nil _ _
 | x::ks,F,h=>by
  have h1:Sat w0 (Row 5 1 (slOf x) x.2.2.length (x.2.2.map bv)*(OwnR ks*F)) w:=h.of (star_assoc _ _ _);have ih:=ownR_ownL h1.right;refine⟨fun y hy=>?_,List.pairwise_cons.2 ⟨fun y hy g hg hg'=>?_,ih.apart⟩⟩
  ·rcases List.mem_cons.1 hy with rfl | hy
   ·exact h1.row_own
   ·exact ih.own y hy
  ·obtain⟨c,z,z1,a,f,z2,rfl,z4,b,f',z5,rfl,z6,z7⟩:=h1;obtain⟨o,ho⟩:=row_block z4 hg;obtain⟨o',ho'⟩:=ownR_block z6 y hy g hg';have e:(b.un f') g=some (false,o'):=by unfold Hp.un;rw[ho'];rfl
   rcases z2 g with q | q | ⟨o'',q,q'⟩
   ·rw[ho] at q;cases q
   ·rw[e] at q;cases q
   ·rw[ho] at q;injection q with q;injection q with q _;cases q
end
theorem Sat.gather {w0 w w':World} {A F:SP} (h:Sat w0 F w) (k:Chg No w w') (a:Hp) (hA:A a) (ha: ∀ i x,a i=some x→w'.heap[i]?=some x.2∧w.heap.size≤i):Sat w0 (A*F) w':=by
 obtain⟨f,h1,hf⟩:=h.hp;have hs:=h.size;refine⟨h.chg.tr k,a.un f,fun i x hx=>?_,a,f,fun i=>?_,rfl,hA,hf⟩
 ·unfold Hp.un jn at hx
  cases hq:a i with
  | some y=>
   rw[hq] at hx;injection hx with hx
   subst hx;have h2:=ha i y hq;exact⟨h2.1,fun _=>Nat.le_trans hs h2.2⟩
  | none=>
   rw[hq] at hx;have h2:=h1 i x hx;refine⟨?_,h2.2⟩;rw[k.block i (lt_of_block h2.1) id];exact h2.1
 ·cases hq:a i with
  | none=>exact .inl rfl
  | some y=>
   cases hr:f i with
   | none=>exact .inr (.inl rfl)
   | some z=>
    have h2:=lt_of_block (h1 i z hr).1;have h3:=(ha i y hq).2;omega
theorem row_hp {w:World} {base e size n:Nat} {v:Value} {xs:List Value} (h:w.ownsRow base e size v n xs): ∃ a:Hp,Row e size v n xs a∧ ∀ i x,a i=some x→w.heap[i]?=some x.2∧base≤i∧v.ownBlock=some i:=by
 obtain⟨hl,⟨rfl,rfl⟩ | ⟨g,cap,cur,rfl,h1,h2,h3,h4,h5,h6⟩⟩:=h
 ·exact⟨fun _=>none,⟨hl,.inl ⟨rfl,rfl,rfl⟩⟩,fun i x hx=>by cases hx⟩
 ·refine⟨one1 g (false,.cells cur e (0,0)),⟨hl,.inr ⟨g,cap,cur,rfl,h3,h4,h5,h6,rfl⟩⟩,fun i x hx=>?_⟩;unfold one1 at hx;split at hx
  ·rename_i e1;injection hx with hx
   subst hx;subst e1;exact⟨h2,h1,rfl⟩
  ·cases hx
theorem rows_hp {w:World} {base:Nat}: ∀ {rs:Rows_},OwnL base w rs→ ∃ a:Hp,OwnR rs a∧ ∀ i x,a i=some x→w.heap[i]?=some x.2∧base≤i∧ ∃ y ∈ rs,(slOf y).ownBlock=some i
 | [],_=>⟨fun _=>none,rfl,fun i x hx=>by cases hx⟩
 | y::rs,h=>by
  obtain⟨a,ha,hf⟩:=rows_hp (rs:=rs) ⟨fun x hx=>h.own x (List.mem_cons_of_mem _ hx),(List.pairwise_cons.1 h.apart).2⟩;obtain⟨b,hb,hg⟩:=row_hp (h.own y List.mem_cons_self);refine⟨b.un a,⟨b,a,fun i=>?_,rfl,hb,ha⟩,fun i x hx=>?_⟩
  ·cases hq:b i with
   | none=>exact .inl rfl
   | some u=>
    cases hr:a i with
    | none=>exact .inr (.inl rfl)
    | some z=>
     obtain⟨_,_,y',hy',e'⟩:=hf i z hr;exact absurd e' ((List.pairwise_cons.1 h.apart).1 y' hy' i (hg i u hq).2.2)
  ·unfold Hp.un jn at hx
   cases hq:b i with
   | some u=>
    rw[hq] at hx;injection hx with hx
    subst hx;have h2:=hg i u hq;exact⟨h2.1,h2.2.1,y,List.mem_cons_self,h2.2.2⟩
   | none=>
    rw[hq] at hx;obtain⟨h2,h3,y',hy',e'⟩:=hf i x hx;exact⟨h2,h3,y',List.mem_cons_of_mem _ hy',e'⟩
theorem Sat.gotLL {w0 w w':World} {F:SP} {v:Value} {rs:Rows_} (h:Sat w0 F w) (k:Chg No w w') (hv:OwnLL w.heap.size w' v rs):Sat w0 (Row 41 1 v rs.length (rs.map slOf)*(OwnR rs*F)) w':=by
 obtain⟨a,ha,hf⟩:=rows_hp hv.each;obtain⟨b,hb,hg⟩:=row_hp hv.row;refine(Sat.gather h k (A:=Row 41 1 v rs.length (rs.map slOf)*OwnR rs) (b.un a) ⟨b,a,fun i=>?_,rfl,hb,ha⟩ fun i x hx=>?_).of (star_assoc _ _ _)
 ·cases hq:b i with
  | none=>exact .inl rfl
  | some u=>
   cases hr:a i with
   | none=>exact .inr (.inl rfl)
   | some z=>
    obtain⟨_,_,y',hy',e'⟩:=hf i z hr;exact absurd (hg i u hq).2.2 (fun e2=>own_ne (hv.each.own y' hy') hv.row (by decide) i e' e2)
 ·unfold Hp.un jn at hx
  cases hq:b i with
  | some u=>
   rw[hq] at hx;injection hx with hx
   subst hx;have h2:=hg i u hq;exact⟨h2.1,h2.2.1⟩
  | none=>
   rw[hq] at hx;obtain⟨h2,h3,_⟩:=hf i x hx;exact⟨h2,h3⟩
theorem OwnR_rd {w0 w:World} {F:SP} {ks:Rows_} (h:Sat w0 (OwnR ks*F) w) {x:Option Addr × Nat × List UInt8} (hx:x ∈ ks):Rd w x.1 x.2.2:=(ownR_ownL h).rd hx
section
variable {w0 w:World} {F:SP}
theorem Sat.row_cut {e:TypeId} {size n c:Nat} {A:Option Addr} {xs:List Value} (h:Sat w0 (Row e size (.slice A n c) n xs*F) w) (m:Nat) (hm:m≤n):Sat w0 (Row e size (.slice A m c) m (xs.take (m*size))*F) w:=by
 obtain⟨hl,⟨e1,e2,h1⟩ | ⟨g,cap,cur,e1,h1,h2,h3,h4,h5⟩⟩:=h.row_cases
 ·injection e1 with e1 _ e3
  subst e1;subst e3;subst e2;obtain rfl:m=0:=by omega
  rw[Nat.zero_mul,List.take_zero];exact h1.row_nil e size
 ·injection e1 with e1 _ e3
  subst e1;subst e3;have h6:=h5.row_pt (n:=m) (cap:=c) (size:=size) (by omega) h2 h3;rw[←h4,List.take_take,Nat.min_eq_left (Nat.mul_le_mul_right _ hm)];exact h6
end
end Go.Proofs.YtmbaiglpgaoogaaGreat
