/- Joined, as they were built one by one: Map MapS. -/
import Derived.Maps.Keyed
import Derived.Maps.OwnOps
import Derived.Maps.OwnSet
import Derived.Maps.RangeWalk
import Derived.Test.YtmbaiglpgaoogaaGreatW01
set_option linter.unusedVariables false
set_option maxRecDepth 100000
namespace Go.Proofs.YtmbaiglpgaoogaaGreat
open Go.RowKit Z
def ct (v:Value):Option (DataW Value × List MemPlace):=some (.held v,[])
def ri (D:DataW Value) (f:Int->Option Value):Prop:= ∀ i z,D.atKey (.int .i64 i) z=match f i with | some v=> .held v | none=>z
def bT (P:Program) (k:TypeId) (b n:Nat) (f:Int->Option Value):SP:=fun h=> ∃ es clock,Ow b (.map es clock) h/\Go.WideElems.Fit P k ct es clock/\es.size<=n/\ri (.map ((es.toList.map (Go.WideElems.rg P k ct)).foldr DataW.insert [])) f
def F5 (f:Int->Option Value) (i:Int) (v:Value):Int->Option Value:=fun j=>if j=i then some v else f j
section
variable {P:Program} {k t e:TypeId} {b n:Nat} {f:Int->Option Value} {w0 w w':World} {F:SP} {D:DataW Value}
theorem Sat.lB (h:Sat w0 (bT P k b n f*F) w): ∃ es clock,Sat w0 (Ow b (.map es clock)*F) w/\Go.WideElems.Fit P k ct es clock/\es.size<=n/\ri (.map ((es.toList.map (Go.WideElems.rg P k ct)).foldr DataW.insert [])) f:=by
 obtain⟨c,x,h1,a,g,h2,h3,⟨es,clock,h4,h5,h6,h7⟩,h8⟩:=h;exact⟨es,clock,⟨c,x,h1,a,g,h2,h3,h4,h8⟩,h5,h6,h7⟩
theorem Sat.Bj (h:Sat w0 (bT P k b n f*F) w): ∃ D,w.ownsMap P k ct b n D/\ri D f:=by
 obtain⟨es,clock,h1,h2,h3,h4⟩:=h.lB;exact⟨_,⟨es,clock,h1.block,h2,h3,rfl⟩,h4⟩
theorem Sat.Cm (h:Sat w0 (bT P k b n f*F) w): ∃ o,Sat w0 (Ow b o*F) w:=by
 obtain⟨es,clock,h1,_⟩:=h.lB;exact⟨_,h1⟩
theorem Sat.IJ {es:Array MapEntry} {clock:Nat} (h:Sat w0 (Ow b (.map es clock)*F) w) (h5:Go.WideElems.Fit P k ct es clock) (h6:es.size<=n)
 (h7:ri (.map ((es.toList.map (Go.WideElems.rg P k ct)).foldr DataW.insert [])) f):Sat w0 (bT P k b n f*F) w:=by
 obtain⟨c,x,h1,a,g,h2,h3,h4,h8⟩:=h;exact⟨c,x,h1,a,g,h2,h3,⟨es,clock,h4,h5,h6,h7⟩,h8⟩
theorem Sat.wj (h:Sat w0 (bT P k b n f*F) w) {w':World} {n':Nat} {f':Int->Option Value} (k':w.mapTurned w' b) (ho:w'.ownsMap P k ct b n' D) (hs:ri D f'):Sat w0 (bT P k b n' f'*F) w':=by
 obtain⟨o,h1⟩:=h.Cm;obtain⟨es,clock,hb,hf,hn,rfl⟩:=ho;refine Sat.IJ (h1.turn ?_ hb) hf hn hs;exact(ao.eD k'.grown).mono fun i _ hi=>Option.some.inj hi
theorem rJ:ri (.map []) (fun _=>none):=fun i z=>rfl
theorem Sat.ub (h:Sat w0 F w):Sat w0 (bT P k w.heap.size 0 (fun _=>none)*F) (w.alloc (.map #[] 0)):=by
 obtain⟨es,clock,hb,hf,hn,hd⟩:=World.ownsMap_made (H:=Value) w P k ct;have h1:=h.alloc (.map #[] 0);have hb':=h1.block;rw[hb] at hb';injection hb' with hb'
 injection hb' with e1 e2
 subst e1;subst e2;exact Sat.IJ h1 hf hn (by simpa using rJ)
theorem Dj (P:Program) (k:TypeId) (clock:Nat):Go.WideElems.Fit P k ct #[] clock:=by
 refine⟨by simp,?_,by simp⟩;constructor<;>simp
theorem Sat.Bt (h:Sat w0 (bT P k b n f*F) w) (ht:P.underlying t=some (.map k e)) (ty:TypeId): ∃ w',(Builtin.clear_ #[t] ty #[.map (some b)]).run P w = .ok (.tuple #[]) w'/\Sat w0 (bT P k b 0 (fun _=>none)*F) w'/\ao (One b) w w':=by
 obtain⟨es,clock,h1,h2,h3,h4⟩:=h.lB;have hb:=h1.block;have ho:(ChangeMaps.setBlock w b (.map #[] clock)).ownsMap P k ct b 0 (.map []):=⟨#[],clock,ChangeMaps.heap_setBlock_same hb _,Dj _ _ _,by simp,by simp⟩;have hk:w.mapTurned (ChangeMaps.setBlock w b (.map #[] clock)) b:=⟨es,clock,_,_,hb,rfl⟩;refine⟨_,?_,h.wj hk ho rJ,(ao.eD hk.grown).mono fun i _ hi=>Option.some.inj hi⟩;simp[Builtin.clear_,run_underlying ht,MapKept.run_getObj_map hb,MapKept.run_setObj_map (P:=P) (.map #[] clock) hb,Result.andThen,ChangeMaps.setBlock]
theorem wf_i64 {i:Int} (h: -9223372036854775808<=i/\i<=9223372036854775807):(Lit.int .i64 i).wf=true:=by
 simp only[Lit.wf,Bool.and_eq_true,decide_eq_true_iff];exact h
theorem Sat.qv (h:Sat w0 (bT P k b n f*F) w) (hk:P.underlying k=some (.int .i64)) (ht:P.underlying t=some (.map k e)) {z:Value} (hz:(zeroValue e).run P w = .ok z w) (i:Int) (hi: -9223372036854775808<=i/\i<=9223372036854775807):
 (Instr.lookup t (.map (some b)) (.int .i64 i) true).run P w = .ok (.tuple #[(f i).getD z,.bool (f i).isSome]) w:=by
 obtain⟨D,ho,hs⟩:=h.Bj;obtain⟨v,ps,h1,h2⟩:=ho.look_ok (Maps.int_keyed hk) ht hz (zd:= .held z) (zp:=[]) rfl (Maps.keyOf_int_mk hk (wf_i64 hi));rw[h1];unfold ct at h2;injection h2 with h2
 injection h2 with h2 _
 have h3:=hs i (.held z)
 cases hf:f i with
 | none=>
  rw[hf] at h3;rw[<-h2] at h3;injection h3 with h3
  subst h3;have:Maps.has D (.int .i64 i)=false:=Maps.has_false_of_atKey fun z=>by have:=hs i z;rw[hf] at this;exact this
  rw[this];rfl
 | some u=>
  rw[hf] at h3;rw[<-h2] at h3;injection h3 with h3
  subst h3;have:Maps.has D (.int .i64 i)=true:=Maps.has_true_of_atKey (y:= .held v) fun z=>by have:=hs i z;rw[hf] at this;exact this
  rw[this];rfl
theorem Sat.nj (h:Sat w0 (bT P k b n f*F) w) (hk:P.underlying k=some (.int .i64)) (ht:P.underlying t=some (.map k e)) (i:Int) (hi: -9223372036854775808<=i/\i<=9223372036854775807) (v:Value) (hn:n<maxLen):
 ∃ w',(Instr.mapUpdate t (.map (some b)) (.int .i64 i) v).run P w = .ok () w'/\Sat w0 (bT P k b (n+1) (F5 f i v)*F) w'/\ao (One b) w w':=by
 obtain⟨D,ho,hs⟩:=h.Bj;obtain⟨w',h1,h2,h3⟩:=ho.store (Maps.int_keyed hk) ht hn (Maps.keyOf_int_mk hk (wf_i64 hi)) (val:=v) (d:= .held v) (ps:=[]) rfl;refine⟨w',h1,h.wj h3 h2 fun j z=>?_,(ao.eD h3.grown).mono fun i _ hi=>Option.some.inj hi⟩;unfold F5;by_cases e:j=i
 .subst e;rw[if_pos rfl];exact Maps.atKey_put_same (ho.isMap) (by simp[WideAt.IsKeyLit]) _ _
 .rw[if_neg e];rw[Maps.atKey_put_other (fun q=>e (by injection q))];exact hs j z
end
def vK (l:List UInt8):Value:= .string ⟨l.toArray⟩
def lN (D:DataW Value) (f:List UInt8->Option Value):Prop:= ∀ i z,D.atKey (.string i) z=match f i with | some v=> .held v | none=>z
def jb (P:Program) (k:TypeId) (b n:Nat) (f:List UInt8->Option Value):SP:=fun h=> ∃ es clock,Ow b (.map es clock) h/\Go.WideElems.Fit P k ct es clock/\es.size<=n/\lN (.map ((es.toList.map (Go.WideElems.rg P k ct)).foldr DataW.insert [])) f
def kz (f:List UInt8->Option Value) (i:List UInt8) (v:Option Value):List UInt8->Option Value:=fun j=>if j=i then v else f j
section
variable {P:Program} {k t e:TypeId} {b n:Nat} {f:List UInt8->Option Value} {w0 w w':World} {F:SP} {D:DataW Value}
theorem Sat.jj (h:Sat w0 (jb P k b n f*F) w): ∃ es clock,Sat w0 (Ow b (.map es clock)*F) w/\Go.WideElems.Fit P k ct es clock/\es.size<=n/\lN (.map ((es.toList.map (Go.WideElems.rg P k ct)).foldr DataW.insert [])) f:=by
 obtain⟨c,x,h1,a,g,h2,h3,⟨es,clock,h4,h5,h6,h7⟩,h8⟩:=h;exact⟨es,clock,⟨c,x,h1,a,g,h2,h3,h4,h8⟩,h5,h6,h7⟩
theorem Sat.vF (h:Sat w0 (jb P k b n f*F) w): ∃ D,w.ownsMap P k ct b n D/\lN D f:=by
 obtain⟨es,clock,h1,h2,h3,h4⟩:=h.jj;exact⟨_,⟨es,clock,h1.block,h2,h3,rfl⟩,h4⟩
theorem Sat.yo (h:Sat w0 (jb P k b n f*F) w): ∃ o,Sat w0 (Ow b o*F) w:=by
 obtain⟨es,clock,h1,_⟩:=h.jj;exact⟨_,h1⟩
theorem Sat.Il {es:Array MapEntry} {clock:Nat} (h:Sat w0 (Ow b (.map es clock)*F) w) (h5:Go.WideElems.Fit P k ct es clock) (h6:es.size<=n)
 (h7:lN (.map ((es.toList.map (Go.WideElems.rg P k ct)).foldr DataW.insert [])) f):Sat w0 (jb P k b n f*F) w:=by
 obtain⟨c,x,h1,a,g,h2,h3,h4,h8⟩:=h;exact⟨c,x,h1,a,g,h2,h3,⟨es,clock,h4,h5,h6,h7⟩,h8⟩
theorem Sat.rU (h:Sat w0 (jb P k b n f*F) w) {w':World} {n':Nat} {f':List UInt8->Option Value} (k':w.mapTurned w' b) (ho:w'.ownsMap P k ct b n' D) (hs:lN D f'):Sat w0 (jb P k b n' f'*F) w':=by
 obtain⟨o,h1⟩:=h.yo;obtain⟨es,clock,hb,hf,hn,rfl⟩:=ho;refine Sat.Il (h1.turn ?_ hb) hf hn hs;exact(ao.eD k'.grown).mono fun i _ hi=>Option.some.inj hi
theorem yN:lN (.map []) (fun _=>none):=fun i z=>rfl
theorem Sat.uQ (h:Sat w0 F w):Sat w0 (jb P k w.heap.size 0 (fun _=>none)*F) (w.alloc (.map #[] 0)):=by
 obtain⟨es,clock,hb,hf,hn,hd⟩:=World.ownsMap_made (H:=Value) w P k ct;have h1:=h.alloc (.map #[] 0);have hb':=h1.block;rw[hb] at hb';injection hb' with hb'
 injection hb' with e1 e2
 subst e1;subst e2;exact Sat.Il h1 hf hn (by simpa using yN)
theorem I8 (hk:P.underlying k=some .string) (l:List UInt8) (hl:l.length<=140737488355328):keyOf P k (vK l)=some (.string l):=by
 have h:=WideMaps.keyOf_string_mk hk (s:=⟨l.toArray⟩) (by show l.toArray.size<=maxLen;unfold maxLen;simp;omega);unfold vK;rw[h]
theorem Sat.Cw (h:Sat w0 (jb P k b n f*F) w) (hk:P.underlying k=some .string) (ht:P.underlying t=some (.map k e)) {z:Value} (hz:(zeroValue e).run P w = .ok z w) (i:List UInt8) (hi:i.length<=140737488355328):
 (Instr.lookup t (.map (some b)) (vK i) false).run P w = .ok ((f i).getD z) w:=by
 obtain⟨es,clock,h1,hF,hn,hs⟩:=h.jj;have h3:=hs i (.held z);rcases Maps.fit_look false (Maps.string_keyed hk) ht hz h1.block hF (I8 hk i hi) with ⟨hrun,_,hat⟩ | ⟨e0,y,_,_,hrun,hRv,hat,_⟩
 .rw[hrun]
  cases hf:f i with
  | none=>rfl
  | some u=>
   have h4:=hs i .nil;rw[hf,hat] at h4
   cases h4
 .rw[hrun];unfold ct at hRv;injection hRv with hRv
  rw[hat, <-hRv] at h3
  cases hf:f i with
  | none=>
   have h4:=hs i .nil;rw[hf,hat, <-hRv] at h4
   cases h4
  | some u=>
   rw[hf] at h3;injection h3 with h3
   subst h3;rfl
theorem Sat.lQ (h:Sat w0 (jb P k b n f*F) w) (hk:P.underlying k=some .string) (ht:P.underlying t=some (.map k e)) (i:List UInt8) (hi:i.length<=140737488355328) (v:Value) (hn:n<maxLen):
 ∃ w',(Instr.mapUpdate t (.map (some b)) (vK i) v).run P w = .ok () w'/\Sat w0 (jb P k b (n+1) (kz f i (some v))*F) w'/\ao (One b) w w':=by
 obtain⟨D,ho,hs⟩:=h.vF;obtain⟨w',h1,h2,h3⟩:=ho.store (Maps.string_keyed hk) ht hn (I8 hk i hi) (val:=v) (d:= .held v) (ps:=[]) rfl;refine⟨w',h1,h.rU h3 h2 fun j z=>?_,(ao.eD h3.grown).mono fun i _ hi=>Option.some.inj hi⟩;unfold kz;by_cases e:j=i
 .subst e;rw[if_pos rfl];exact Maps.atKey_put_same (ho.isMap) (by simp[WideAt.IsKeyLit]) _ _
 .rw[if_neg e];rw[Maps.atKey_put_other (fun q=>e (by injection q))];exact hs j z
theorem Sat.BG (h:Sat w0 (jb P k b n f*F) w) (hk:P.underlying k=some .string) (ht:P.underlying t=some (.map k e)) (i:List UInt8) (hi:i.length<=140737488355328) (ty:TypeId):
 ∃ w',(Builtin.delete_ #[t,k] ty #[.map (some b),vK i]).run P w = .ok (.tuple #[]) w'/\Sat w0 (jb P k b n (kz f i none)*F) w'/\ao (One b) w w':=by
 obtain⟨D,ho,hs⟩:=h.vF;obtain⟨w',h1,h2,h3⟩:=ho.drop (Maps.string_keyed hk) ht (I8 hk i hi) ty;refine⟨w',h1,h.rU h3 h2 fun j z=>?_,(ao.eD h3.grown).mono fun i _ hi=>Option.some.inj hi⟩;unfold kz;by_cases e:j=i
 .subst e;rw[if_pos rfl];exact Maps.atKey_del_same _
 .rw[if_neg e];rw[Maps.atKey_del_other (fun q=>e (by injection q))];exact hs j z
end
end Go.Proofs.YtmbaiglpgaoogaaGreat
