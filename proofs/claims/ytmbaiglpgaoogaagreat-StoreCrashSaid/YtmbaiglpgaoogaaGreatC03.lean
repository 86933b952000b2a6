/- Joined, as they were built one by one: Map MapS. -/
import Derived.Maps.Keyed
import Derived.Maps.OwnOps
import Derived.Maps.OwnSet
import Derived.Maps.RangeWalk
import Derived.Test.YtmbaiglpgaoogaaGreatC01
set_option linter.unusedVariables false
set_option maxRecDepth 100000
namespace Go.Proofs.YtmbaiglpgaoogaaGreat
open Go.RowKit Z
def cF (v:Value):Option (DataW Value × List MemPlace):=some (.held v,[])
def sS (D:DataW Value) (f:Int->Option Value):Prop:= ∀ i z,D.atKey (.int .i64 i) z=match f i with | some v=> .held v | none=>z
def bY (P:Program) (k:TypeId) (b n:Nat) (f:Int->Option Value):SP:=fun h=> ∃ es clock,Ow b (.map es clock) h/\Go.WideElems.Fit P k cF es clock/\es.size<=n/\sS (.map ((es.toList.map (Go.WideElems.rg P k cF)).foldr DataW.insert [])) f
def IA (f:Int->Option Value) (i:Int) (v:Value):Int->Option Value:=fun j=>if j=i then some v else f j
section
variable {P:Program} {k t e:TypeId} {b n:Nat} {f:Int->Option Value} {w0 w w':World} {F:SP} {D:DataW Value}
theorem Sat.lV (h:Sat w0 (bY P k b n f*F) w): ∃ es clock,Sat w0 (Ow b (.map es clock)*F) w/\Go.WideElems.Fit P k cF es clock/\es.size<=n/\sS (.map ((es.toList.map (Go.WideElems.rg P k cF)).foldr DataW.insert [])) f:=by
 obtain⟨c,x,h1,a,g,h2,h3,⟨es,clock,h4,h5,h6,h7⟩,h8⟩:=h;exact⟨es,clock,⟨c,x,h1,a,g,h2,h3,h4,h8⟩,h5,h6,h7⟩
theorem Sat.vP (h:Sat w0 (bY P k b n f*F) w): ∃ D,w.ownsMap P k cF b n D/\sS D f:=by
 obtain⟨es,clock,h1,h2,h3,h4⟩:=h.lV;exact⟨_,⟨es,clock,h1.block,h2,h3,rfl⟩,h4⟩
theorem Sat.DU (h:Sat w0 (bY P k b n f*F) w): ∃ o,Sat w0 (Ow b o*F) w:=by
 obtain⟨es,clock,h1,_⟩:=h.lV;exact⟨_,h1⟩
theorem Sat.KZ {es:Array MapEntry} {clock:Nat} (h:Sat w0 (Ow b (.map es clock)*F) w) (h5:Go.WideElems.Fit P k cF es clock) (h6:es.size<=n)
 (h7:sS (.map ((es.toList.map (Go.WideElems.rg P k cF)).foldr DataW.insert [])) f):Sat w0 (bY P k b n f*F) w:=by
 obtain⟨c,x,h1,a,g,h2,h3,h4,h8⟩:=h;exact⟨c,x,h1,a,g,h2,h3,⟨es,clock,h4,h5,h6,h7⟩,h8⟩
theorem Sat.sJ (h:Sat w0 (bY P k b n f*F) w) {w':World} {n':Nat} {f':Int->Option Value} (k':w.mapTurned w' b) (ho:w'.ownsMap P k cF b n' D) (hs:sS D f'):Sat w0 (bY P k b n' f'*F) w':=by
 obtain⟨o,h1⟩:=h.DU;obtain⟨es,clock,hb,hf,hn,rfl⟩:=ho;refine Sat.KZ (h1.turn ?_ hb) hf hn hs;exact(aq.eG k'.grown).mono fun i _ hi=>Option.some.inj hi
theorem uf:sS (.map []) (fun _=>none):=fun i z=>rfl
theorem Sat.vr (h:Sat w0 F w):Sat w0 (bY P k w.heap.size 0 (fun _=>none)*F) (w.alloc (.map #[] 0)):=by
 obtain⟨es,clock,hb,hf,hn,hd⟩:=World.ownsMap_made (H:=Value) w P k cF;have h1:=h.alloc (.map #[] 0);have hb':=h1.block;rw[hb] at hb';injection hb' with hb'
 injection hb' with e1 e2
 subst e1;subst e2;exact Sat.KZ h1 hf hn (by simpa using uf)
theorem Gd (P:Program) (k:TypeId) (clock:Nat):Go.WideElems.Fit P k cF #[] clock:=by
 refine⟨by simp,?_,by simp⟩;constructor<;>simp
theorem Sat.EF (h:Sat w0 (bY P k b n f*F) w) (ht:P.underlying t=some (.map k e)) (ty:TypeId): ∃ w',(Builtin.clear_ #[t] ty #[.map (some b)]).run P w = .ok (.tuple #[]) w'/\Sat w0 (bY P k b 0 (fun _=>none)*F) w'/\aq (One b) w w':=by
 obtain⟨es,clock,h1,h2,h3,h4⟩:=h.lV;have hb:=h1.block;have ho:(ChangeMaps.setBlock w b (.map #[] clock)).ownsMap P k cF b 0 (.map []):=⟨#[],clock,ChangeMaps.heap_setBlock_same hb _,Gd _ _ _,by simp,by simp⟩;have hk:w.mapTurned (ChangeMaps.setBlock w b (.map #[] clock)) b:=⟨es,clock,_,_,hb,rfl⟩;refine⟨_,?_,h.sJ hk ho uf,(aq.eG hk.grown).mono fun i _ hi=>Option.some.inj hi⟩;simp[Builtin.clear_,run_underlying ht,MapKept.run_getObj_map hb,MapKept.run_setObj_map (P:=P) (.map #[] clock) hb,Result.andThen,ChangeMaps.setBlock]
theorem wf_i64 {i:Int} (h: -9223372036854775808<=i/\i<=9223372036854775807):(Lit.int .i64 i).wf=true:=by
 simp only[Lit.wf,Bool.and_eq_true,decide_eq_true_iff];exact h
theorem Sat.rq (h:Sat w0 (bY P k b n f*F) w) (hk:P.underlying k=some (.int .i64)) (ht:P.underlying t=some (.map k e)) {z:Value} (hz:(zeroValue e).run P w = .ok z w) (i:Int) (hi: -9223372036854775808<=i/\i<=9223372036854775807):
 (Instr.lookup t (.map (some b)) (.int .i64 i) true).run P w = .ok (.tuple #[(f i).getD z,.bool (f i).isSome]) w:=by
 obtain⟨D,ho,hs⟩:=h.vP;obtain⟨v,ps,h1,h2⟩:=ho.look_ok (Maps.int_keyed hk) ht hz (zd:= .held z) (zp:=[]) rfl (Maps.keyOf_int_mk hk (wf_i64 hi));rw[h1];unfold cF at h2;injection h2 with h2
 injection h2 with h2 _
 have h3:=hs i (.held z)
 cases hf:f i with
 | none=>
  rw[hf] at h3;rw[<-h2] at h3;injection h3 with h3
  subst h3;have:Maps.has D (.int .i64 i)=false:=Maps.has_false_of_atKey fun z=>by have:=hs i z;rw[hf] at this;exact this
  rw[this];rfl
 | some u=>
  rw[hf] at h3;rw[<-h2] at h3;injection h3 with h3
  subst h3;have:Maps.has D (.int .i64 i)=true:=Maps.has_true_of_atKey (y:= .held v) fun z=>by have:=hs i z;rw[hf] at this;exact this
  rw[this];rfl
theorem Sat.oE (h:Sat w0 (bY P k b n f*F) w) (hk:P.underlying k=some (.int .i64)) (ht:P.underlying t=some (.map k e)) (i:Int) (hi: -9223372036854775808<=i/\i<=9223372036854775807) (v:Value) (hn:n<maxLen):
 ∃ w',(Instr.mapUpdate t (.map (some b)) (.int .i64 i) v).run P w = .ok () w'/\Sat w0 (bY P k b (n+1) (IA f i v)*F) w'/\aq (One b) w w':=by
 obtain⟨D,ho,hs⟩:=h.vP;obtain⟨w',h1,h2,h3⟩:=ho.store (Maps.int_keyed hk) ht hn (Maps.keyOf_int_mk hk (wf_i64 hi)) (val:=v) (d:= .held v) (ps:=[]) rfl;refine⟨w',h1,h.sJ h3 h2 fun j z=>?_,(aq.eG h3.grown).mono fun i _ hi=>Option.some.inj hi⟩;unfold IA;by_cases e:j=i
 .subst e;rw[if_pos rfl];exact Maps.atKey_put_same (ho.isMap) (by simp[WideAt.IsKeyLit]) _ _
 .rw[if_neg e];rw[Maps.atKey_put_other (fun q=>e (by injection q))];exact hs j z
end
def zr (l:List UInt8):Value:= .string ⟨l.toArray⟩
def my (D:DataW Value) (f:List UInt8->Option Value):Prop:= ∀ i z,D.atKey (.string i) z=match f i with | some v=> .held v | none=>z
def jr (P:Program) (k:TypeId) (b n:Nat) (f:List UInt8->Option Value):SP:=fun h=> ∃ es clock,Ow b (.map es clock) h/\Go.WideElems.Fit P k cF es clock/\es.size<=n/\my (.map ((es.toList.map (Go.WideElems.rg P k cF)).foldr DataW.insert [])) f
def kX (f:List UInt8->Option Value) (i:List UInt8) (v:Option Value):List UInt8->Option Value:=fun j=>if j=i then v else f j
def J6 (f:Int->Option Value) (i:Int):Int->Option Value:=fun j=>if j=i then none else f j
section
variable {P:Program} {k t e:TypeId} {b n:Nat} {f:List UInt8->Option Value} {w0 w w':World} {F:SP} {D:DataW Value}
theorem Sat.jN (h:Sat w0 (jr P k b n f*F) w): ∃ es clock,Sat w0 (Ow b (.map es clock)*F) w/\Go.WideElems.Fit P k cF es clock/\es.size<=n/\my (.map ((es.toList.map (Go.WideElems.rg P k cF)).foldr DataW.insert [])) f:=by
 obtain⟨c,x,h1,a,g,h2,h3,⟨es,clock,h4,h5,h6,h7⟩,h8⟩:=h;exact⟨es,clock,⟨c,x,h1,a,g,h2,h3,h4,h8⟩,h5,h6,h7⟩
theorem Sat.yF (h:Sat w0 (jr P k b n f*F) w): ∃ D,w.ownsMap P k cF b n D/\my D f:=by
 obtain⟨es,clock,h1,h2,h3,h4⟩:=h.jN;exact⟨_,⟨es,clock,h1.block,h2,h3,rfl⟩,h4⟩
theorem Sat.zL (h:Sat w0 (jr P k b n f*F) w): ∃ o,Sat w0 (Ow b o*F) w:=by
 obtain⟨es,clock,h1,_⟩:=h.jN;exact⟨_,h1⟩
theorem Sat.KD {es:Array MapEntry} {clock:Nat} (h:Sat w0 (Ow b (.map es clock)*F) w) (h5:Go.WideElems.Fit P k cF es clock) (h6:es.size<=n)
 (h7:my (.map ((es.toList.map (Go.WideElems.rg P k cF)).foldr DataW.insert [])) f):Sat w0 (jr P k b n f*F) w:=by
 obtain⟨c,x,h1,a,g,h2,h3,h4,h8⟩:=h;exact⟨c,x,h1,a,g,h2,h3,⟨es,clock,h4,h5,h6,h7⟩,h8⟩
theorem Sat.tv (h:Sat w0 (jr P k b n f*F) w) {w':World} {n':Nat} {f':List UInt8->Option Value} (k':w.mapTurned w' b) (ho:w'.ownsMap P k cF b n' D) (hs:my D f'):Sat w0 (jr P k b n' f'*F) w':=by
 obtain⟨o,h1⟩:=h.zL;obtain⟨es,clock,hb,hf,hn,rfl⟩:=ho;refine Sat.KD (h1.turn ?_ hb) hf hn hs;exact(aq.eG k'.grown).mono fun i _ hi=>Option.some.inj hi
theorem Ap:my (.map []) (fun _=>none):=fun i z=>rfl
theorem Sat.yE (h:Sat w0 F w):Sat w0 (jr P k w.heap.size 0 (fun _=>none)*F) (w.alloc (.map #[] 0)):=by
 obtain⟨es,clock,hb,hf,hn,hd⟩:=World.ownsMap_made (H:=Value) w P k cF;have h1:=h.alloc (.map #[] 0);have hb':=h1.block;rw[hb] at hb';injection hb' with hb'
 injection hb' with e1 e2
 subst e1;subst e2;exact Sat.KD h1 hf hn (by simpa using Ap)
theorem Lb (hk:P.underlying k=some .string) (l:List UInt8) (hl:l.length<=140737488355328):keyOf P k (zr l)=some (.string l):=by
 have h:=WideMaps.keyOf_string_mk hk (s:=⟨l.toArray⟩) (by show l.toArray.size<=maxLen;unfold maxLen;simp;omega);unfold zr;rw[h]
theorem Sat.EY (h:Sat w0 (jr P k b n f*F) w) (hk:P.underlying k=some .string) (ht:P.underlying t=some (.map k e)) {z:Value} (hz:(zeroValue e).run P w = .ok z w) (i:List UInt8) (hi:i.length<=140737488355328):
 (Instr.lookup t (.map (some b)) (zr i) false).run P w = .ok ((f i).getD z) w:=by
 obtain⟨es,clock,h1,hF,hn,hs⟩:=h.jN;have h3:=hs i (.held z);rcases Maps.fit_look false (Maps.string_keyed hk) ht hz h1.block hF (Lb hk i hi) with ⟨hrun,_,hat⟩ | ⟨e0,y,_,_,hrun,hRv,hat,_⟩
 .rw[hrun]
  cases hf:f i with
  | none=>rfl
  | some u=>
   have h4:=hs i .nil;rw[hf,hat] at h4
   cases h4
 .rw[hrun];unfold cF at hRv;injection hRv with hRv
  rw[hat, <-hRv] at h3
  cases hf:f i with
  | none=>
   have h4:=hs i .nil;rw[hf,hat, <-hRv] at h4
   cases h4
  | some u=>
   rw[hf] at h3;injection h3 with h3
   subst h3;rfl
theorem Sat.nf (h:Sat w0 (jr P k b n f*F) w) (hk:P.underlying k=some .string) (ht:P.underlying t=some (.map k e)) (i:List UInt8) (hi:i.length<=140737488355328) (v:Value) (hn:n<maxLen):
 ∃ w',(Instr.mapUpdate t (.map (some b)) (zr i) v).run P w = .ok () w'/\Sat w0 (jr P k b (n+1) (kX f i (some v))*F) w'/\aq (One b) w w':=by
 obtain⟨D,ho,hs⟩:=h.yF;obtain⟨w',h1,h2,h3⟩:=ho.store (Maps.string_keyed hk) ht hn (Lb hk i hi) (val:=v) (d:= .held v) (ps:=[]) rfl;refine⟨w',h1,h.tv h3 h2 fun j z=>?_,(aq.eG h3.grown).mono fun i _ hi=>Option.some.inj hi⟩;unfold kX;by_cases e:j=i
 .subst e;rw[if_pos rfl];exact Maps.atKey_put_same (ho.isMap) (by simp[WideAt.IsKeyLit]) _ _
 .rw[if_neg e];rw[Maps.atKey_put_other (fun q=>e (by injection q))];exact hs j z
theorem Sat.EC (h:Sat w0 (jr P k b n f*F) w) (hk:P.underlying k=some .string) (ht:P.underlying t=some (.map k e)) (i:List UInt8) (hi:i.length<=140737488355328) (ty:TypeId):
 ∃ w',(Builtin.delete_ #[t,k] ty #[.map (some b),zr i]).run P w = .ok (.tuple #[]) w'/\Sat w0 (jr P k b n (kX f i none)*F) w'/\aq (One b) w w':=by
 obtain⟨D,ho,hs⟩:=h.yF;obtain⟨w',h1,h2,h3⟩:=ho.drop (Maps.string_keyed hk) ht (Lb hk i hi) ty;refine⟨w',h1,h.tv h3 h2 fun j z=>?_,(aq.eG h3.grown).mono fun i _ hi=>Option.some.inj hi⟩;unfold kX;by_cases e:j=i
 .subst e;rw[if_pos rfl];exact Maps.atKey_del_same _
 .rw[if_neg e];rw[Maps.atKey_del_other (fun q=>e (by injection q))];exact hs j z
theorem Sat.map_drop {f:Int->Option Value} (h:Sat w0 (bY P k b n f*F) w) (hk:P.underlying k=some (.int .i64)) (ht:P.underlying t=some (.map k e)) (i:Int) (hi: -9223372036854775808<=i/\i<=9223372036854775807) (ty:TypeId):
 ∃ w',(Builtin.delete_ #[t,k] ty #[.map (some b),.int .i64 i]).run P w = .ok (.tuple #[]) w'/\Sat w0 (bY P k b n (J6 f i)*F) w'/\aq (One b) w w':=by
 obtain⟨D,ho,hs⟩:=h.vP;obtain⟨w',h1,h2,h3⟩:=ho.drop (Maps.int_keyed hk) ht (Maps.keyOf_int_mk hk (wf_i64 hi)) ty;refine⟨w',h1,h.sJ h3 h2 fun j z=>?_,(aq.eG h3.grown).mono fun i _ hi=>Option.some.inj hi⟩;unfold J6;by_cases e:j=i
 .subst e;rw[if_pos rfl];exact Maps.atKey_del_same _
 .rw[if_neg e];rw[Maps.atKey_del_other (fun q=>e (by injection q))];exact hs j z
end
end Go.Proofs.YtmbaiglpgaoogaaGreat
