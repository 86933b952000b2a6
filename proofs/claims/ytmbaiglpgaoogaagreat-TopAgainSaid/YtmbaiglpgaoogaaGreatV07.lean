/- Joined, as they were built one by one: RgnZ WalFns. -/
import Derived.Test.YtmbaiglpgaoogaaGreatV01
namespace Go.Proofs.YtmbaiglpgaoogaaGreat
open Go.RowKit
set_option linter.unusedVariables false
set_option maxRecDepth 100000
section
variable {P:Program} {ops:Array Oper} {Q:Exit->Act->World->Prop} {md:Region.Mode} {S:World->Prop} {z:Nat}
def AnyZ (P:Program) (md:Region.Mode) (ops:Array Oper) (Q:Exit->Act->World->Prop) (S:World->Prop) (z:Nat):Nat->Array Bool->Act->World->Prop
 | 0,L,a,w=>Region.ready md ops L=[]/\Q .normal a w
 | n+1,L,a,w=>(Region.ready md ops L=[]->Q .normal a w)/\ ∀ i ∈ Region.ready md ops L,wpOp P ops Q i (fun a' w'=>(i=z\/S w')/\AnyZ P md ops Q S z n (L.setIfInBounds i true) a' w') a w
theorem AnyZ.any: ∀ (n:Nat) (L:Array Bool) (a:Act) (w:World),AnyZ P md ops Q S z n L a w->wpAny P md ops Q n L a w
 | 0,_,_,_,h=>h
 | n+1,_,_,_,h=>⟨h.1,fun i hi=>wpOp_mono (fun a' w' h'=>AnyZ.any n _ a' w' h'.2) (h.2 i hi)⟩
def waits (md:Region.Mode) (ops:Array Oper) (z i:Nat):Bool:=match ops[z]? with
 | some o=>o.after.toList.any fun e=>Region.binds md e && e.on==i
 | none=>true
theorem waits_spec {i:Nat} (h:waits md ops z i=true) {L:Array Bool} (hl:L.getD i true=false):z ∉ Region.ready md ops L:=fun hz=>by
 obtain⟨_,o,ho,hall⟩:=mem_ready.1 hz;unfold waits at h;rw[ho] at h;simp only[List.any_eq_true,Bool.and_eq_true,beq_iff_eq] at h;obtain⟨e,he,hb,rfl⟩:=h;have h1:=hall e (by simpa using he) hb;rcases Nat.lt_or_ge e.on L.size with q | q
 .simp[q] at hl h1;rw[hl] at h1
  cases h1
 .simp[Array.getElem?_eq_none q] at h1
theorem AnyZ.first {i:Nat} {oi:Oper} {v:Value} (hi:ops[i]?=some oi) (hsel: ∀ (j:Nat) (o:Oper) cs b,ops[j]?=some o->o.op≠ .select cs b) (hQ: ∀ c a w,Q (.panic c) (a.put oi.dst v) w->Q (.panic c) a w)
  (hz:waits md ops z i=true): ∀ (n:Nat) (L:Array Bool) (a:Act) (w:World),
   (∀ j oj,ops[j]?=some oj->j≠i->L.getD j true=false->(∀ e ∈ oj.after,Region.binds md e=true->e.on≠i)->oi.apart ops oj=true)->
   i ∈ Region.ready md ops L->YieldsIf P ops S oi v a->S w->AnyZ P md ops Q S z n (L.setIfInBounds i true) (a.put oi.dst v) w->AnyZ P md ops Q S z (n+1) L a w
 | 0,L,a,w,hf,hr,hy,hS,H=>⟨fun h=>absurd hr (by rw[h];simp),fun j hj=>by
  by_cases e:j=i
  .subst e;exact hy.wpOp hi hS ⟨.inr hS,H⟩
  .exact absurd (ready_mono hj e) (by rw[H.1];simp)⟩
 | n+1,L,a,w,hf,hr,hy,hS,H=>⟨fun h=>absurd hr (by rw[h];simp),fun j hj=>by
  by_cases e:j=i
  .subst e;exact hy.wpOp hi hS ⟨.inr hS,H⟩
  .have hun:=(mem_ready.1 hr).1;have hjz:j≠z:=fun q=>waits_spec hz hun (q ▸ hj)
   obtain⟨hju,oj,hoj,hall⟩:=mem_ready.1 hj;have hno: ∀ x ∈ oj.after,Region.binds md x=true->x.on≠i:=fun x hx hb q=>by
    have h1:=hall x hx hb;rw[q] at h1;rcases Nat.lt_or_ge i L.size with t | t
    .simp[t] at hun h1;rw[hun] at h1
     cases h1
    .simp[Array.getElem?_eq_none t] at h1
   refine wpOp_mono (fun a' w' h3=>⟨h3.2.1,AnyZ.first hi hsel hQ hz n _ a' w' (fun k ok hk hki hu hn=>hf k ok hk hki ?_ hn) (ready_mono hr (Ne.symm e)) h3.1 (h3.2.1.resolve_left hjz) ?_⟩)
    (wpOp_putIf hoj (hf j oj hoj e hju hno) (fun cs b=>hsel i oi cs b hi) (fun cs b=>hsel j oj cs b hoj) hQ hy (H.2 j (ready_mono hj e)))
   .by_cases q:j=k
    .subst q;exact hju
    .rwa [getD_set_ne true q] at hu
   .rw[Array.setIfInBounds_comm _ _ e];exact h3.2.2⟩
variable {l:List Oper}
theorem rgnz_take {i:Nat} {oi:Oper} {v:Value} {fuel:Nat} {listed:Array Bool} {a:Act} {w:World} (hi:l[i]?=some oi)
  (hs:Region.noSelect l.toArray=true) (hf:Region.free md l.toArray listed i=true) (hr:(Region.ready md l.toArray listed).contains i=true) (hz:waits md l.toArray z i=true)
  (hQ: ∀ c a w,Q (.panic c) (a.put oi.dst v) w->Q (.panic c) a w) (hy:Region.wanted oi (yielded l.toArray a.tmps)=true) (hy2: ∀ w,S w->(execOp a.eval oi).run P w = .ok (.value v) w) (hS:S w)
  (h:AnyZ P md l.toArray Q S z fuel (listed.setIfInBounds i true) (a.put oi.dst v) w):AnyZ P md l.toArray Q S z (fuel+1) listed a w:=
 have hi2:l.toArray[i]?=some oi:=by simpa using hi
 AnyZ.first hi2 (Region.noSelect_spec hs) hQ hz fuel listed a w (Region.free_spec hi2 hf) (by simpa using hr) (.inl ⟨hy,hy2⟩) hS h
theorem rgnz_call {i:Nat} {oi:Oper} {fuel:Nat} {listed:Array Bool} {a:Act} {w:World} (hi:l[i]?=some oi) (hr:Region.ready md l.toArray listed=[i])
  (h: ∀ K:Act->World->Prop,Shut (∀ a w,S w->(S w->AnyZ P md l.toArray Q S z fuel (listed.setIfInBounds i true) a w)->K a w)->if Region.wanted oi (yielded l.toArray a.tmps)=true then Oper.wp P oi a w K Q else K (a.put oi.dst undef) w):
  AnyZ P md l.toArray Q S z (fuel+1) listed a w:=
 ⟨fun h0=>(by rw[hr] at h0;cases h0),fun j hj=>by
  rw[hr] at hj;obtain rfl:=List.mem_singleton.1 hj;exact wpOp_step (by simpa using hi) (fun K hK=>h K (fun a w hS hW=>hK a w ⟨.inr hS,hW hS⟩))⟩
theorem rtkz (i:Nat) {oi:Oper} {v:Value} {fuel:Nat} {listed:Array Bool} {a a':Act} {w:World}
  (h:AnyZ P md l.toArray Q S z fuel (listed.setIfInBounds i true) a' w) (hi:l[i]?=some oi:=by rfl)
  (hs:Region.noSelect l.toArray=true:=by kernel_rfl) (hf:Region.free md l.toArray listed i=true:=by kernel_rfl) (hr:(Region.ready md l.toArray listed).contains i=true:=by kernel_rfl) (hz:waits md l.toArray z i=true:=by kernel_rfl)
  (hy:Region.wanted oi (yielded l.toArray a.tmps)=true:=by rfl) (hy2: ∀ w,S w->(execOp a.eval oi).run P w = .ok (.value v) w:=by (intro w hSw;(try dsimp only at hSw);go_simp;try with_reducible rfl))
  (ha:a.put oi.dst v=a':=by (simp only[Act.put,List.setIfInBounds_toArray,List.set_cons_zero,List.set_cons_succ];try rfl))
  (hQ: ∀ c a w,Q (.panic c) (a.put oi.dst v) w->Q (.panic c) a w:=by exact fun _ _ _ h=>h) (hS:S w:=by assumption):AnyZ P md l.toArray Q S z (fuel+1) listed a w:=by
 subst ha;exact rgnz_take hi hs hf hr hz hQ hy hy2 hS h
theorem rckz (i:Nat) {oi:Oper} {fuel:Nat} {listed:Array Bool} {a:Act} {w:World}
  (h: ∀ K:Act->World->Prop,Shut (∀ a w,S w->(S w->AnyZ P md l.toArray Q S z fuel (listed.setIfInBounds i true) a w)->K a w)->if Region.wanted oi (yielded l.toArray a.tmps)=true then Oper.wp P oi a w K Q else K (a.put oi.dst undef) w)
  (hi:l[i]?=some oi:=by rfl) (hr:Region.ready md l.toArray listed=[i]:=by kernel_rfl):AnyZ P md l.toArray Q S z (fuel+1) listed a w:=rgnz_call hi hr h
theorem rgnz_last {oi:Oper} {fuel:Nat} {listed:Array Bool} {a:Act} {w:World} (hi:l[z]?=some oi) (hr:Region.ready md l.toArray listed=[z]) (hd:Region.ready md l.toArray (listed.setIfInBounds z true)=[])
  (h: ∀ K:Act->World->Prop,Shut (∀ a w,Q .normal a w->K a w)->if Region.wanted oi (yielded l.toArray a.tmps)=true then Oper.wp P oi a w K Q else K (a.put oi.dst undef) w):
  AnyZ P md l.toArray Q S z (fuel+1) listed a w:=
 ⟨fun h0=>(by rw[hr] at h0;cases h0),fun j hj=>by
  rw[hr] at hj;obtain rfl:=List.mem_singleton.1 hj;refine wpOp_step (by simpa using hi) (fun K hK=>h K (fun a w hq=>hK a w ⟨.inl rfl,?_⟩))
  cases fuel with
  | zero=>exact⟨hd,hq⟩
  | succ n=>exact⟨fun _=>hq,fun q hq2=>(by rw[hd] at hq2;cases hq2)⟩⟩
theorem rgnz_start {id:Nat} {a:Act} {w:World} (hm:P.follows .mixedOrders=true) (hS:S w.drew)
  (h:S w.drew->AnyZ P .any ops Q S z ops.size (Array.replicate ops.size false) a w.drew):(Code.region id ops true).wp P Q a w:=wp_region_any hm (AnyZ.any _ _ _ _ (h hS))
end
def needN (n:Nat):Nat:=if n<=262144 then max ((n+478) / 479) 1 else 0
def flagOf (i n:Nat):UInt8:=(if i=0 then 1 else 0) ||| (if i+1=n then 2 else 0)
def piece (b:List UInt8) (i:Nat):List UInt8:=(b.take (min ((i+1)*479) b.length)).drop (i*479)
def frame (b:List UInt8) (i:Nat):List UInt8:=flagOf i (needN b.length)::piece b i
def split (b:List UInt8):List (List UInt8):=(List.range (needN b.length)).map (frame b)
def wholeFrom:Option (List UInt8)->List (List UInt8)->List (List UInt8)
 | _,[]=>[]
 | _,[]::_=>[]
 | cur,(c::r)::fs=>
  if 3<c then [] else
   match (if c &&& 1≠0 then some [] else cur) with
   | none=>wholeFrom none fs
   | some b=>if c &&& 2≠0 then (b++r)::wholeFrom none fs else wholeFrom (some (b++r)) fs
def whole (fs:List (List UInt8)):List (List UInt8):=wholeFrom none fs
def longB (v:Int) (i:Nat):UInt8:=UInt8.ofNat ((v+i+i / 256) % 256).toNat
def long (n:Nat) (v:Int):List UInt8:=(List.range n).map (longB v)
theorem flag_le (i n:Nat):¬ 3<flagOf i n:=by
 unfold flagOf;split<;>split<;>decide
theorem flag_first (i n:Nat):(flagOf i n &&& 1≠0)↔i=0:=by
 unfold flagOf;by_cases h1:i=0
 .rw[if_pos h1];by_cases h2:i+1=n
  .rw[if_pos h2];exact⟨fun _=>h1,fun _=>by decide⟩
  .rw[if_neg h2];exact⟨fun _=>h1,fun _=>by decide⟩
 .rw[if_neg h1];by_cases h2:i+1=n
  .rw[if_pos h2];exact⟨fun h=>absurd (by decide) h,fun h=>absurd h h1⟩
  .rw[if_neg h2];exact⟨fun h=>absurd (by decide) h,fun h=>absurd h h1⟩
theorem flag_last (i n:Nat):(flagOf i n &&& 2≠0)↔i+1=n:=by
 unfold flagOf;by_cases h2:i+1=n
 .rw[if_pos h2];by_cases h1:i=0
  .rw[if_pos h1];exact⟨fun _=>h2,fun _=>by decide⟩
  .rw[if_neg h1];exact⟨fun _=>h2,fun _=>by decide⟩
 .rw[if_neg h2];by_cases h1:i=0
  .rw[if_pos h1];exact⟨fun h=>absurd (by decide) h,fun h=>absurd h h2⟩
  .rw[if_neg h1];exact⟨fun h=>absurd (by decide) h,fun h=>absurd h h2⟩
theorem needN_pos (n:Nat) (h:n<=262144):1<=needN n:=by unfold needN;rw[if_pos h];omega
theorem needN_le (n:Nat):needN n<=548:=by unfold needN;split<;>omega
theorem needN_cover (n:Nat) (h:n<=262144):n<=needN n*479:=by unfold needN;rw[if_pos h];omega
theorem piece_len (b:List UInt8) (i:Nat):(piece b i).length=min ((i+1)*479) b.length - i*479:=by
 unfold piece;rw[List.length_drop,List.length_take];omega
theorem take_cut (b:List UInt8) (a c:Nat) (h:a<=c):b.take a++(b.take (min c b.length)).drop a=b.take c:=by
 by_cases hc:c<=b.length
 .rw[Nat.min_eq_left hc];have e:b.take a=(b.take c).take a:=by rw[List.take_take,Nat.min_eq_left h]
  rw[e,List.take_append_drop]
 .have hm:min c b.length=b.length:=Nat.min_eq_right (by omega);rw[hm,List.take_of_length_le (Nat.le_refl b.length),List.take_append_drop,List.take_of_length_le (by omega)]
theorem take_piece (b:List UInt8) (i:Nat):b.take (i*479)++piece b i=b.take ((i+1)*479):=take_cut b _ _ (Nat.mul_le_mul_right _ (Nat.le_succ i))
theorem wholeFrom_rest (b:List UInt8) (hb:b.length<=262144) (fs:List (List UInt8)): ∀ (m i:Nat),i+m=needN b.length->0<i->0<m->
  wholeFrom (some (b.take (i*479))) ((List.range' i m).map (frame b)++fs)=b::wholeFrom none fs:=by
 intro m
 induction m with
 | zero=>intro i _ _ h;omega
 | succ m ih=>
  intro i him hi _;rw[List.range'_succ,List.map_cons,List.cons_append];have h1:¬ (flagOf i (needN b.length) &&& 1≠0):=fun h=>by have:=(flag_first i (needN b.length)).1 h;omega
  show wholeFrom (some (b.take (i*479))) ((flagOf i (needN b.length)::piece b i)::_)=_;rw[wholeFrom,if_neg (flag_le _ _),if_neg h1];simp only;rw[take_piece];by_cases hm:m=0
  .subst hm;have h2:flagOf i (needN b.length) &&& 2≠0:=(flag_last i _).2 (by omega);rw[if_pos h2];have hc:=needN_cover b.length hb;rw[List.take_of_length_le (by rw[show i+1=needN b.length by omega];exact hc)];rfl
  .have h2:¬ (flagOf i (needN b.length) &&& 2≠0):=fun h=>by have:=(flag_last i (needN b.length)).1 h;omega
   rw[if_neg h2];exact ih (i+1) (by omega) (by omega) (by omega)
theorem wholeFrom_split (b:List UInt8) (hb:b.length<=262144) (cur:Option (List UInt8)) (fs:List (List UInt8)):wholeFrom cur (split b++fs)=b::wholeFrom none fs:=by
 have hn:=needN_pos b.length hb;unfold split;obtain⟨m,hm⟩: ∃ m,needN b.length=m+1:=⟨needN b.length - 1,by omega⟩;rw[List.range_eq_range',hm,List.range'_succ,List.map_cons,List.cons_append];show wholeFrom cur ((flagOf 0 (needN b.length)::piece b 0)::_)=_;rw[wholeFrom,if_neg (flag_le _ _),if_pos ((flag_first 0 _).2 rfl)];simp only;have e:[]++piece b 0=b.take (1*479):=by have:=take_piece b 0;simpa using this
 rw[e];by_cases h0:m=0
 .subst h0;rw[if_pos ((flag_last 0 _).2 (by omega))];have hc:=needN_cover b.length hb;rw[List.take_of_length_le (by rw[hm] at hc;omega)];rfl
 .rw[if_neg (fun h=>by have:=(flag_last 0 (needN b.length)).1 h;omega)];exact wholeFrom_rest b hb fs m 1 (by omega) (by omega) (by omega)
theorem wholeFrom_part (b:List UInt8) (hb:b.length<=262144) (fs:List (List UInt8)): ∀ (m i:Nat),i+m<needN b.length->0<i->
  ∃ c,wholeFrom (some (b.take (i*479))) ((List.range' i m).map (frame b)++fs)=wholeFrom (some c) fs:=by
 intro m
 induction m with
 | zero=>intro i _ _;exact⟨_,rfl⟩
 | succ m ih=>
  intro i him hi;rw[List.range'_succ,List.map_cons,List.cons_append];have h1:¬ (flagOf i (needN b.length) &&& 1≠0):=fun h=>by have:=(flag_first i (needN b.length)).1 h;omega
  have h2:¬ (flagOf i (needN b.length) &&& 2≠0):=fun h=>by have:=(flag_last i (needN b.length)).1 h;omega
  show ∃ c,wholeFrom (some (b.take (i*479))) ((flagOf i (needN b.length)::piece b i)::_)=_
  rw[wholeFrom,if_neg (flag_le _ _),if_neg h1];simp only;rw[take_piece,if_neg h2];exact ih (i+1) (by omega) (by omega)
theorem wholeFrom_cut (b:List UInt8) (hb:b.length<=262144) (k:Nat) (hk:k<needN b.length) (cur:Option (List UInt8)) (fs:List (List UInt8)):
  ∃ c,wholeFrom cur ((split b).take k++fs)=wholeFrom c fs:=by
 rcases k with _ | k
 .exact⟨cur,by simp⟩
 .unfold split;rw[<-List.map_take,List.take_range,Nat.min_eq_left (by omega),List.range_eq_range',List.range'_succ,List.map_cons,List.cons_append];show ∃ c,wholeFrom cur ((flagOf 0 (needN b.length)::piece b 0)::_)=_
  rw[wholeFrom,if_neg (flag_le _ _),if_pos ((flag_first 0 _).2 rfl)];simp only;have e:[]++piece b 0=b.take (1*479):=by have:=take_piece b 0;simpa using this
  rw[e,if_neg (fun h=>by have:=(flag_last 0 (needN b.length)).1 h;omega)];obtain⟨c,hc⟩:=wholeFrom_part b hb fs k 1 (by omega) (by omega);exact⟨some c,hc⟩
theorem wholeFrom_nil (cur:Option (List UInt8)):wholeFrom cur []=[]:=by cases cur<;>rfl
end Go.Proofs.YtmbaiglpgaoogaaGreat
