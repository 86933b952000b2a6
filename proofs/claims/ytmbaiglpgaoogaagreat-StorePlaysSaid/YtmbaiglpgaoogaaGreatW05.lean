/- Joined, as they were built one by one: Mem1 Mem2 Viw Thn Sto0 Mem3 Skip Skip1 Skip2. -/
import Derived.Lib.Bytealg
import Derived.Lib.UnsafeStr
import Derived.Laws.Externs
import Derived.StringKeys
import Derived.Test.YtmbaiglpgaoogaaGreatW02
import Derived.Test.YtmbaiglpgaoogaaGreatW04
set_option maxHeartbeats 16000000
namespace Go.Proofs.YtmbaiglpgaoogaaGreat
open Go.RowKit
set_option linter.unusedVariables false
set_option maxRecDepth 100000
structure En where
 key:dq
 value:dq
 seq:Int
 dead:Bool
structure aq where
 key:List UInt8
 value:List UInt8
 seq:Int
 dead:Bool
def En.ak (e:En):aq:=⟨e.key.2.2,e.value.2.2,e.seq,e.dead⟩
def aJ (s:dq):Value:= .slice s.1 s.2.2.length s.2.1
def bV (e:En):List Value:=[aJ e.key,aJ e.value,.int .i64 e.seq,.bool e.dead]
def iZ (e:En):Value:= .agg #[.slice e.key.1 e.key.2.2.length e.key.2.1,.slice e.value.1 e.value.2.2.length e.value.2.1,.int .i64 e.seq,.bool e.dead]
def nS (w:World) (e:En):Prop:=Rd w e.key.1 e.key.2.2/\Rd w e.value.1 e.value.2.2
theorem nS.new {w w':World} {e:En} (h:nS w e) (k:ao No w w'):nS w' e:=⟨h.1.new k,h.2.new k⟩
def oC (a b:aq):Int:=if Lib.compareBytes a.key b.key=0 then (if b.seq<a.seq then -1 else if a.seq<b.seq then 1 else 0) else Lib.compareBytes a.key b.key
def az (a b:aq):Bool:=decide (oC a b<0)
section
variable {P:Program} {w:World} {A B:Option Addr} {l m:List UInt8}
theorem sH: ∀ (l:List UInt8) (b o:Nat) (acc:ByteArray),(∀ j (hj:j<l.length),w.cell? ⟨b,o+j,none⟩=some (.int .u8 (l[j].toNat:Int)))->
 (Extern.Bytes.loadBytes ⟨b,o,none⟩ l.length acc).run P w = .ok ⟨acc.data++l.toArray⟩ w
 | [],b,o,acc,_=>by simp[Extern.Bytes.loadBytes]
 | x::l,b,o,acc,h=>by
  have h0:w.cell? ⟨b,o,none⟩=some (.int .u8 (x.toNat:Int)):=h 0 (by simp);have ih:=sH l b (o+1) (acc.push x) (fun j hj=>by
   have:=h (j+1) (by simpa using hj);rw[show o+1+j=o+(j+1) by omega];exact this)
  simp only[List.length_cons,Extern.Bytes.loadBytes,Sem.run_bind,run_load,h0,Result.andThen];have e:((x.toNat:Int).toNat.toUInt8)=x:=by simp
  rw[e];show (Extern.Bytes.loadBytes (Addr.add ⟨b,o,none⟩ 1) l.length (acc.push x)).run P w=_;rw[show (Addr.add ⟨b,o,none⟩ 1)=⟨b,o+1,none⟩ from rfl,ih];congr 1
  apply ByteArray.ext;simp[ByteArray.push]
theorem nM (h:Rd w A l) (c:Nat):(Extern.Bytes.bytesOf (.slice A l.length c)).run P w = .ok ⟨l.toArray⟩ w:=by
 rcases A with _ | a
 .have hl:l=[]:=by
   rcases l with _ | ⟨x,l⟩
   .rfl
   .obtain⟨b,o,e,_⟩:=h (by simp);cases e
  subst hl;rfl
 .by_cases hl:l=[]
  .subst hl;rfl
  .obtain⟨b,o,e,_⟩:=h.get (j:=0) (List.length_pos_iff.2 hl);injection e with e
   subst e;have:=sH (P:=P) (w:=w) l b o .empty (fun j hj=>by
    obtain⟨b',o',e,hc⟩:=h.get hj;injection e with e
    injection e with e1 e2
    subst e1;subst e2;exact hc)
   show (Extern.Bytes.loadBytes ⟨b,o,none⟩ l.length .empty).run P w=_;rw[this];congr 1
   apply ByteArray.ext;simp
theorem CV (h:Rd w A l) (k:Rd w B m) (c d:Nat):(Extern.BytealgCompare.compare #[.slice A l.length c,.slice B m.length d]).run P w = .ok (.int .i64 (Lib.compareBytes l m)) w:=by
 change Sem.run P (do pure (goInt (Extern.BytealgCompare.cmp (<-Extern.Bytes.bytesOf (.slice A l.length c)) (<-Extern.Bytes.bytesOf (.slice B m.length d))))) w=_
 simp only[Sem.run_bind,Sem.run_pure,nM h,nM k,Result.andThen];rw[Lib.cmp_eq];rfl
end
set_option maxRecDepth 100000 in
theorem pt (a b:dq) (w:World) (h:Rd w a.1 a.2.2) (k:Rd w b.1 b.2.2):
 Calls Tryz.prog 145 #[.slice a.1 a.2.2.length a.2.1,.slice b.1 b.2.2.length b.2.1] w fun e w'=>e = .returned (.int .i64 (Lib.compareBytes a.2.2 b.2.2))/\w'=w:=by
 go_enter Tryz.func145, Tryz.ntmps145;go_wp2;rw[run_callFunc_extern Tryz.func185 (by kernel_rfl) (by kernel_rfl) (by kernel_rfl) (e:=Extern.BytealgCompare.compare) (by kernel_rfl),CV h k];simp only[Result.andThen];rw[Oper.upon_value];go_wp2;go_ret;exact⟨rfl,rfl⟩
theorem Dq (x:Int) (w:World):Calls Tryz.prog 133 #[.int .i64 x] w fun e w'=>e = .returned (.bool false)/\w'=w:=by
 go_enter Tryz.func133, Tryz.ntmps133;go_wp2;go_ret;exact⟨by simp,rfl⟩
def Ei (a b:Int):Int:=if a<b then -1 else if b<a then 1 else 0
theorem Eb (a b:Int) (w:World):Calls Tryz.prog 96 #[.int .i64 a,.int .i64 b] w fun e w'=>e = .returned (.int .i64 (Ei a b))/\w'=w:=by
 unfold Ei;go_enter Tryz.func96, Tryz.ntmps96;go_wp2_with (go_at_call 133;refine(Dq _ _).mono ?_;rintro e w' ⟨rfl,rfl⟩)
 all_goals (go_ret;refine⟨?_,rfl⟩;simp<;>omega)
theorem Fu (a b:aq) (c:Int) (h:Lib.compareBytes a.key b.key=c):oC a b=if c=0 then Ei b.seq a.seq else c:=by unfold oC Ei;rw[h]
theorem rB (a b:En) (w:World) (h:nS w a) (k:nS w b):
 Calls Tryz.prog 109 #[iZ a,iZ b] w fun e w'=>e = .returned (.int .i64 (oC a.ak b.ak))/\ao No w w':=by
 have HQ:Hid (oC a.ak b.ak=if Lib.compareBytes a.key.2.2 b.key.2.2=0 then Ei b.seq a.seq else Lib.compareBytes a.key.2.2 b.key.2.2):=Fu _ _ _ rfl;unfold iZ;go_enter Tryz.func109, Tryz.ntmps109;have HL:=ah h;have HK:=ah k;clear h k;go_wp2_with (first
  | (go_at_call 145;refine(pt a.key b.key _ (HL.o.1.alloc _ |>.alloc _) (HK.o.1.alloc _ |>.alloc _)).mono ?_;rintro e w' ⟨rfl,rfl⟩)
  | (go_at_call 96;refine(Eb _ _ _).mono ?_;rintro e w' ⟨rfl,rfl⟩))
 .go_ret;have hn:¬ Lib.compareBytes a.key.2.2 b.key.2.2=0:=by first | assumption | simp_all
  exact⟨by rw[HQ.o,if_neg hn];rfl,((ao.refl No w).alloc _).alloc _⟩
 .go_ret;have hn:Lib.compareBytes a.key.2.2 b.key.2.2=0:=by first | assumption | simp_all
  exact⟨by rw[HQ.o,if_pos hn];rfl,((ao.refl No w).alloc _).alloc _⟩
theorem pM (a b:En) (w:World) (h:nS w a) (k:nS w b):
 Calls Tryz.prog 147 #[iZ a,iZ b] w fun e w'=>e = .returned (.bool (az a.ak b.ak))/\ao No w w':=by
 have HQ:Hid (az a.ak b.ak=decide (oC a.ak b.ak<0)):=rfl;have HE:Hid (∀ e:En,iZ e = .agg #[.slice e.key.1 e.key.2.2.length e.key.2.1,.slice e.value.1 e.value.2.2.length e.value.2.1,.int .i64 e.seq,.bool e.dead]):=fun _=>rfl
 rw[HE.o,HE.o];go_enter Tryz.func147, Tryz.ntmps147;have HL:=ah h;have HK:=ah k;clear h k;have k0:ao No w ((w.alloc (.cells #[.slice a.key.1 a.key.2.2.length a.key.2.1,.slice a.value.1 a.value.2.2.length a.value.2.1,.int .i64 a.seq,.bool a.dead] 120)).alloc (.cells #[.slice b.key.1 b.key.2.2.length b.key.2.1,.slice b.value.1 b.value.2.2.length b.value.2.1,.int .i64 b.seq,.bool b.dead] 120)):=((ao.refl No w).alloc _).alloc _;go_wp2_with (go_at_call 109;rw[<-HE.o, <-HE.o];refine(rB a b _ (HL.o.new k0) (HK.o.new k0)).mono ?_;rintro e w' ⟨rfl,k1⟩);go_ret;refine⟨by rw[HQ.o];rfl,k0.tr k1⟩
theorem mq: ∀ a:List UInt8,Lib.compareBytes a a=0
 | []=>rfl
 | x::a=>by unfold Lib.compareBytes;rw[if_neg (UInt8.lt_irrefl x),if_neg (UInt8.lt_irrefl x)];exact mq a
theorem tP (x y:UInt8) (h1:¬ x<y) (h2:¬ y<x):x=y:=UInt8.le_antisymm (UInt8.not_lt.1 h2) (UInt8.not_lt.1 h1)
theorem uA: ∀ {a b:List UInt8},Lib.compareBytes a b=0->a=b
 | [],[],_=>rfl
 | [],_::_,h=>by simp[Lib.compareBytes] at h
 | _::_,[],h=>by simp[Lib.compareBytes] at h
 | x::a,y::b,h=>by
  unfold Lib.compareBytes at h;by_cases h1:x<y
  .rw[if_pos h1] at h;omega
  .rw[if_neg h1] at h;by_cases h2:y<x
   .rw[if_pos h2] at h;omega
   .rw[if_neg h2] at h;rw[tP x y h1 h2,uA h]
theorem te: ∀ (a b:List UInt8),Lib.compareBytes b a = - Lib.compareBytes a b
 | [],[]=>rfl
 | [],_::_=>rfl
 | _::_,[]=>rfl
 | x::a,y::b=>by
  unfold Lib.compareBytes;by_cases h1:x<y
  .rw[if_pos h1,if_neg (UInt8.lt_asymm h1),if_pos h1];rfl
  .rw[if_neg h1];by_cases h2:y<x
   .rw[if_pos h2,if_neg h1,if_pos h2]
   .rw[if_neg h2,if_neg h2,if_neg h1];exact te a b
theorem ib: ∀ (a b:List UInt8),Op.bytesLess a b=decide (Lib.compareBytes a b<0)
 | [],[]=>rfl
 | [],_::_=>rfl
 | _::_,[]=>rfl
 | x::a,y::b=>by
  unfold Lib.compareBytes Op.bytesLess;by_cases h1:x<y
  .rw[if_pos h1];simp[h1]
  .rw[if_neg h1];by_cases h2:y<x
   .have:¬ x=y:=fun e=>by subst e;exact UInt8.lt_irrefl _ h2
    rw[if_pos h2];simp[h1,this]
   .rw[if_neg h2,tP x y h1 h2,ib a b];simp
theorem dy: ∀ {a b c:List UInt8},Lib.compareBytes a b<0->Lib.compareBytes b c<0->Lib.compareBytes a c<0
 | [],[],_,h,_=>by simp[Lib.compareBytes] at h
 | _::_,[],_,h,_=>by simp[Lib.compareBytes] at h
 | [],_::_,[],_,h=>by simp[Lib.compareBytes] at h
 | [],_::_,_::_,_,_=>by simp[Lib.compareBytes]
 | _::_,_::_,[],_,h=>by simp[Lib.compareBytes] at h
 | x::a,y::b,z::c,h,k=>by
  unfold Lib.compareBytes at h k ⊢;by_cases h1:x<y
  .by_cases k1:y<z
   .rw[if_pos (UInt8.lt_trans h1 k1)];omega
   .rw[if_neg k1] at k;by_cases k2:z<y
    .rw[if_pos k2] at k;omega
    .rw[<-tP y z k1 k2,if_pos h1];omega
  .rw[if_neg h1] at h;by_cases h2:y<x
   .rw[if_pos h2] at h;omega
   .rw[if_neg h2] at h;rw[tP x y h1 h2];by_cases k1:y<z
    .rw[if_pos k1];omega
    .rw[if_neg k1] at k ⊢;by_cases k2:z<y
     .rw[if_pos k2] at k;omega
     .rw[if_neg k2] at k ⊢;exact dy h k
section
variable {a b c:aq}
def dA (a b:aq):Prop:=az a b=true
theorem cH:dA a b↔Lib.compareBytes a.key b.key<0\/(a.key=b.key/\b.seq<a.seq):=by
 unfold dA az oC;by_cases h:Lib.compareBytes a.key b.key=0
 .rw[if_pos h];have:=uA h;have h0:¬ Lib.compareBytes a.key b.key<0:=by omega
  by_cases h1:b.seq<a.seq
  .rw[if_pos h1];simp[this,h1]
  .rw[if_neg h1];by_cases h2:a.seq<b.seq
   .rw[if_pos h2];simp[h0,h1]
   .rw[if_neg h2];simp[h0,h1]
 .rw[if_neg h];have:¬ a.key=b.key:=fun e=>h (by rw[e];exact mq _)
  simp[this]
theorem iT (h:dA a b) (k:dA b c):dA a c:=by
 rw[cH] at*
 rcases h with h | ⟨h,h'⟩<;>rcases k with k | ⟨k,k'⟩
 .exact .inl (dy h k)
 .rw[<-k];exact .inl h
 .rw[h];exact .inl k
 .exact .inr ⟨h.trans k,by omega⟩
def iL (a b:aq):Prop:=a.key=b.key/\a.seq=b.seq
theorem o7:oC a b=0↔iL a b:=by
 unfold oC iL;by_cases h:Lib.compareBytes a.key b.key=0
 .rw[if_pos h];have:=uA h;by_cases h1:b.seq<a.seq
  .rw[if_pos h1];simp;intro _;omega
  .rw[if_neg h1];by_cases h2:a.seq<b.seq
   .rw[if_pos h2];simp;intro _;omega
   .rw[if_neg h2];simp[this];omega
 .rw[if_neg h];have:¬ a.key=b.key:=fun e=>h (by rw[e];exact mq _)
  simp[this,h]
theorem zz (a b:aq):dA a b\/dA b a\/iL a b:=by
 rw[cH,cH,te a.key b.key];unfold iL;by_cases h:Lib.compareBytes a.key b.key=0
 .have:=uA h;rw[this];rcases Int.lt_trichotomy a.seq b.seq with q | q | q
  .exact .inr (.inl (.inr ⟨rfl,q⟩))
  .exact .inr (.inr ⟨rfl,q⟩)
  .exact .inl (.inr ⟨rfl,q⟩)
 .by_cases h1:Lib.compareBytes a.key b.key<0
  .exact .inl (.inl h1)
  .exact .inr (.inl (.inl (by omega)))
theorem mU (h:iL a b):¬ dA a b:=by
 rw[cH,h.1,h.2,mq];simp
theorem iL.symm (h:iL a b):iL b a:=⟨h.1.symm,h.2.symm⟩
instance (a b:aq):Decidable (dA a b):=inferInstanceAs (Decidable (_=_))
end
theorem gg {α:Type} {f:α->Bool}: ∀ {L:List α} {x:α},x ∈ L.takeWhile f->f x=true
 | [],_,h=>by cases h
 | y::L,x,h=>by
  rw[List.takeWhile_cons] at h;split at h
  .rename_i h1;rcases List.mem_cons.1 h with rfl | h
   .exact h1
   .exact gg h
  .cases h
theorem nz {α:Type} {f:α->Bool}: ∀ {L:List α},(∀ x ∈ L,f x=true)->L.takeWhile f=L/\L.dropWhile f=[]
 | [],_=>⟨rfl,rfl⟩
 | y::L,h=>by
  obtain⟨h1,h2⟩:=nz (L:=L) fun x hx=>h x (List.mem_cons_of_mem _ hx)
  rw[List.takeWhile_cons,List.dropWhile_cons,h y List.mem_cons_self,h1];exact⟨rfl,h2⟩
abbrev Kv:=List UInt8 × List UInt8
def mn (a b:Kv):Prop:=Lib.compareBytes a.1 b.1<0
def bH (k:List UInt8):List Kv->Option (List UInt8)
 | []=>none
 | p::M=>if p.1=k then some p.2 else bH k M
def pJ (k:List UInt8) (s:Int) (e:aq):Bool:=decide (e.key=k) && decide (e.seq<=s)
def lq (k:List UInt8) (s:Int) (L:List aq):Option aq:=L.find? (pJ k s)
def tI (e:aq):Option (List UInt8):=if e.dead=true then none else some e.value
def dU (k:List UInt8) (s:Int) (L:List aq):Option (List UInt8):=(lq k s L).bind tI
def cj (s:Int):Option (List UInt8)->List aq->List aq
 | _,[]=>[]
 | c,e::L=>if s<e.seq\/c=some e.key then cj s c L else (if e.dead=true then cj s (some e.key) L else e::cj s (some e.key) L)
def cX (e:aq):Kv:=(e.key,e.value)
def eQ (s:Int) (L:List aq):List Kv:=(cj s none L).map cX
theorem mD {k:List UInt8} {s:Int} {e:aq}:pJ k s e=true↔e.key=k/\e.seq<=s:=by unfold pJ;simp
theorem lT {k:List UInt8} {s:Int} {e:aq} {L:List aq} (h:e.key=k/\e.seq<=s):lq k s (e::L)=some e:=by
 unfold lq;rw[List.find?_cons,mD.2 h]
theorem qi {k:List UInt8} {s:Int} {e:aq} {L:List aq} (h:¬ (e.key=k/\e.seq<=s)):lq k s (e::L)=lq k s L:=by
 unfold lq;rw[List.find?_cons];have h2:pJ k s e=false:=by rw[Bool.eq_false_iff];exact fun h3=>h (mD.1 h3)
 rw[h2]
theorem zT {k:List UInt8} {s:Int} {L:List aq} (h: ∀ x ∈ L,x.key≠k):lq k s L=none:=by
 unfold lq;rw[List.find?_eq_none];exact fun x hx h2=>h x hx (mD.1 h2).1
theorem kR {k:List UInt8} {s:Int} {A B:List aq} (h: ∀ x ∈ A,x.key≠k):lq k s (A++B)=lq k s B:=by
 unfold lq;rw[List.find?_append];have:A.find? (pJ k s)=none:=by rw[List.find?_eq_none];exact fun x hx h2=>h x hx (mD.1 h2).1
 rw[this];rfl
theorem lL {k:List UInt8} {s:Int} {A B:List aq} (h: ∀ x ∈ B,x.key≠k):lq k s (A++B)=lq k s A:=by
 unfold lq;rw[List.find?_append];have:B.find? (pJ k s)=none:=by rw[List.find?_eq_none];exact fun x hx h2=>h x hx (mD.1 h2).1
 rw[this];cases A.find? (pJ k s)<;>rfl
theorem Gl {k:List UInt8} {s:Int} {L:List aq} (h: ∀ x ∈ L,x.key≠k):dU k s L=none:=by unfold dU;rw[zT h];rfl
theorem oR {k:List UInt8} {s:Int} {e:aq} {L:List aq} (h:e.key=k/\e.seq<=s):dU k s (e::L)=tI e:=by unfold dU;rw[lT h];rfl
theorem nR {k:List UInt8} {s:Int} {e:aq} {L:List aq} (h:¬ (e.key=k/\e.seq<=s)):dU k s (e::L)=dU k s L:=by unfold dU;rw[qi h]
theorem dv {a b:List UInt8} (h:Lib.compareBytes a b<0):a≠b:=fun e=>by subst e;rw[mq] at h;omega
theorem tj (a b:List UInt8):Lib.compareBytes a b<0\/a=b\/Lib.compareBytes b a<0:=by
 rcases Int.lt_trichotomy (Lib.compareBytes a b) 0 with h | h | h
 .exact .inl h
 .exact .inr (.inl (uA h))
 .exact .inr (.inr (by rw[te a b];omega))
def Jz (k:List UInt8) (L:List aq):Prop:= ∀ x ∈ L,k=x.key\/Lib.compareBytes k x.key<0
theorem pF {e:aq} {L:List aq} (h:(e::L).Pairwise dA):Jz e.key L:=fun x hx=>by
 rcases cH.1 ((List.pairwise_cons.1 h).1 x hx) with h2 | ⟨h2,_⟩
 .exact .inr h2
 .exact .inl h2
theorem kq (s:Int): ∀ (L:List aq) (c:Option (List UInt8)),(cj s c L).Sublist L
 | [],c=>List.Sublist.refl _
 | e::L,c=>by
  unfold cj;split
  .exact(kq s L c).cons _
  .split
   .exact(kq s L _).cons _
   .exact(kq s L _).cons_cons _
theorem kI (s:Int): ∀ (L:List aq) (c:Option (List UInt8)),L.Pairwise dA->(∀ k,c=some k->Jz k L)->
 (cj s c L).Pairwise (fun a b=>Lib.compareBytes a.key b.key<0)/\ ∀ k,c=some k-> ∀ x ∈ cj s c L,Lib.compareBytes k x.key<0
 | [],c,_,_=>⟨List.Pairwise.nil,fun k _ x hx=>by cases hx⟩
 | e::L,c,h,hc=>by
  have h2:=(List.pairwise_cons.1 h).2;have hc2: ∀ k,c=some k->Jz k L:=fun k hk x hx=>hc k hk x (List.mem_cons_of_mem _ hx)
  obtain⟨i1,i2⟩:=kI s L c h2 hc2;obtain⟨j1,j2⟩:=kI s L (some e.key) h2 (fun k hk=>by injection hk with hk;subst hk;exact pF h);have key:¬ (s<e.seq\/c=some e.key)-> ∀ k,c=some k->Lib.compareBytes k e.key<0:=fun hn k hk=>by
   rcases hc k hk e List.mem_cons_self with h3 | h3
   .exact absurd (.inr (by rw[hk,h3])) hn
   .exact h3
  unfold cj;split
  .exact⟨i1,i2⟩
  .rename_i hn;split
   .exact⟨j1,fun k hk x hx=>dy (key hn k hk) (j2 _ rfl x hx)⟩
   .refine⟨List.pairwise_cons.2 ⟨fun x hx=>j2 _ rfl x hx,j1⟩,fun k hk x hx=>?_⟩;rcases List.mem_cons.1 hx with rfl | hx
    .exact key hn k hk
    .exact dy (key hn k hk) (j2 _ rfl x hx)
theorem iu {s:Int} {L:List aq} (h:L.Pairwise dA):(eQ s L).Pairwise mn:=by
 unfold eQ;rw[List.pairwise_map];exact(kI s L none h (fun k hk=>by cases hk)).1
theorem qB (s:Int) (k:List UInt8): ∀ (L:List aq) (c:Option (List UInt8)),L.Pairwise dA->(∀ k,c=some k->Jz k L)->
 bH k ((cj s c L).map cX)=if c=some k then none else dU k s L
 | [],c,_,_=>by unfold cj;split<;>rfl
 | e::L,c,h,hc=>by
  have h2:=(List.pairwise_cons.1 h).2;have hc2: ∀ k,c=some k->Jz k L:=fun k hk x hx=>hc k hk x (List.mem_cons_of_mem _ hx)
  have ih:=qB s k L c h2 hc2;have jh:=qB s k L (some e.key) h2 (fun k hk=>by injection hk with hk;subst hk;exact pF h);unfold cj;by_cases h1:s<e.seq
  .rw[if_pos (.inl h1),ih,nR (e:=e) (fun h3=>by omega)]
  .by_cases h3:c=some e.key
   .rw[if_pos (.inr h3),ih];by_cases hk:e.key=k
    .rw[if_pos (by rw[h3,hk]),if_pos (by rw[h3,hk])]
    .rw[if_neg (by rw[h3];simpa using hk),if_neg (by rw[h3];simpa using hk),nR (fun h4=>hk h4.1)]
   .rw[if_neg (fun h4=>h4.elim h1 h3)];by_cases hk:e.key=k
    .have hck:¬ c=some k:=by rw[<-hk];exact h3
     rw[if_neg hck,oR ⟨hk,by omega⟩];unfold tI;split
     .rw[jh,if_pos (by rw[hk])]
     .rw[List.map_cons];unfold bH;rw[if_pos (show (cX e).1=k from hk)];rfl
    .have hn:c=some k->dU k s L=none:=fun h4=>by
      apply Gl;intro x hx h5;rcases hc k h4 e List.mem_cons_self with h6 | h6
      .exact hk h6.symm
      .rcases pF h x hx with h7 | h7
       .exact hk (h7.trans h5)
       .exact dv (dy h6 h7) h5.symm
     have hal:(if c=some k then none else dU k s (e::L))=dU k s L:=by
      rw[nR (fun h4=>hk h4.1)];split
      .rename_i h4;rw[hn h4]
      .rfl
     rw[hal];have h5:¬ (some e.key=some k):=by simpa using hk
     split
     .rw[jh,if_neg h5]
     .rw[List.map_cons];unfold bH;rw[if_neg (show ¬ (cX e).1=k from hk),jh,if_neg h5]
theorem mx {s:Int} {L:List aq} (h:L.Pairwise dA) (k:List UInt8):bH k (eQ s L)=dU k s L:=by
 unfold eQ;rw[qB s k L none h (fun k hk=>by cases hk),if_neg (by simp)]
theorem eX {k:List UInt8}: ∀ {M:List Kv},(∀ p ∈ M,p.1≠k)->bH k M=none
 | [],_=>rfl
 | p::M,h=>by unfold bH;rw[if_neg (h p List.mem_cons_self)];exact eX fun q hq=>h q (List.mem_cons_of_mem _ hq)
theorem ma: ∀ {A B:List Kv},A.Pairwise mn->B.Pairwise mn->(∀ k,bH k A=bH k B)->A=B
 | [],[],_,_,_=>rfl
 | [],b::B,_,_,h=>by
  have:=h b.1;unfold bH at this;rw[if_pos rfl] at this
  cases this
 | a::A,[],_,_,h=>by
  have:=h a.1;unfold bH at this;rw[if_pos rfl] at this
  cases this
 | a::A,b::B,ha,hb,h=>by
  obtain⟨a1,a2⟩:=List.pairwise_cons.1 ha;obtain⟨b1,b2⟩:=List.pairwise_cons.1 hb;have hk:a.1=b.1:=by
   rcases tj a.1 b.1 with h1 | h1 | h1
   .have h2:=h a.1;rw[eX (M:=b::B) (fun p hp=>?_)] at h2
    .unfold bH at h2;rw[if_pos rfl] at h2;cases h2
    .rcases List.mem_cons.1 hp with rfl | hp
     .exact(dv h1).symm
     .exact(dv (dy h1 (b1 p hp))).symm
   .exact h1
   .have h2:=h b.1;rw[eX (M:=a::A) (fun p hp=>?_)] at h2
    .unfold bH at h2;rw[if_pos rfl] at h2;cases h2
    .rcases List.mem_cons.1 hp with rfl | hp
     .exact(dv h1).symm
     .exact(dv (dy h1 (a1 p hp))).symm
  have hv:a.2=b.2:=by
   have h2:=h a.1;unfold bH at h2;rw[if_pos rfl,if_pos hk.symm] at h2;injection h2
  have he:a=b:=Prod.ext hk hv;subst he;rw[ma a2 b2 fun k=>?_];have h2:=h k;unfold bH at h2;by_cases hka:a.1=k
  .rw[eX (fun p hp=>by rw[<-hka];exact(dv (a1 p hp)).symm),eX (fun p hp=>by rw[<-hka];exact(dv (b1 p hp)).symm)]
  .rwa [if_neg hka,if_neg hka] at h2
theorem F3 {s:Int} {L:List aq} {M:List Kv} (h:L.Pairwise dA) (hM:M.Pairwise mn) (he: ∀ k,dU k s L=bH k M):eQ s L=M:=
 ma (iu h) hM fun k=>by rw[mx h,he]
structure cw where
 key:List UInt8
 value:List UInt8
 dead:Bool
def xC (p:cw):Option (List UInt8):=if p.dead=true then none else some p.value
def dH (p:cw) (M:List Kv):List Kv:=M.takeWhile (fun q=>Lib.compareBytes q.1 p.key<0)++((if p.dead=true then [] else [(p.key,p.value)])++(match M.dropWhile (fun q=>Lib.compareBytes q.1 p.key<0) with | []=>[] | q::T=>if q.1=p.key then T else q::T))
theorem pQ (p:cw) {M:List Kv} (h:M.Pairwise mn): ∃ A B,dH p M=A++((if p.dead=true then [] else [(p.key,p.value)])++B)/\(∀ q ∈ A,Lib.compareBytes q.1 p.key<0)/\(∀ q ∈ B,Lib.compareBytes p.key q.1<0)/\(A++B).Pairwise mn/\(∀ k,k≠p.key->bH k (A++B)=bH k M):=by
 have e:=(List.takeWhile_append_dropWhile (p:=fun q:Kv=>decide (Lib.compareBytes q.1 p.key<0)) (l:=M));have hA: ∀ q ∈ M.takeWhile (fun q=>Lib.compareBytes q.1 p.key<0),Lib.compareBytes q.1 p.key<0:=fun q hq=>by
  have:=gg hq;simpa using this
 have gapp: ∀ (k:List UInt8) (A B C:List Kv),bH k B=bH k C->bH k (A++B)=bH k (A++C):=fun k A B C h=>by
  induction A with
  | nil=>exact h
  | cons a A ih=>show (if a.1=k then some a.2 else bH k (A++B))=(if a.1=k then some a.2 else bH k (A++C));rw[ih]
 unfold dH
 cases hd:M.dropWhile (fun q=>Lib.compareBytes q.1 p.key<0) with
 | nil=>
  rw[hd,List.append_nil] at e;exact⟨_,[],rfl,hA,by simp,by rw[List.append_nil,e];exact h,fun k _=>by rw[List.append_nil,e]⟩
 | cons q T=>
  rw[hd] at e;have hq:¬ Lib.compareBytes q.1 p.key<0:=by
   have:=List.head_dropWhile_not (p:=fun q:Kv=>decide (Lib.compareBytes q.1 p.key<0)) (l:=M) (by rw[hd];simp);simp only[hd,List.head_cons] at this;simpa using this
  have hp:=h;rw[<-e] at hp;obtain⟨_,h2,h3⟩:=List.pairwise_append.1 hp;obtain⟨h4,h5⟩:=List.pairwise_cons.1 h2;by_cases hqk:q.1=p.key
  .refine⟨_,T,by simp only[if_pos hqk],hA,fun x hx=>by rw[<-hqk];exact h4 x hx,?_,fun k hk=>?_⟩
   .exact hp.sublist (List.Sublist.append (List.Sublist.refl _) (List.sublist_cons_self _ _))
   .have h6:=congrArg (bH k) e;rw[<-h6];refine gapp k _ _ _ ?_;show _=if q.1=k then some q.2 else bH k T
    rw[if_neg (by rw[hqk];exact fun h=>hk h.symm)]
  .have hlt:Lib.compareBytes p.key q.1<0:=by
    rcases tj p.key q.1 with h6 | h6 | h6
    .exact h6
    .exact absurd h6.symm hqk
    .exact absurd h6 hq
   refine⟨_,q::T,by simp only[if_neg hqk],hA,fun x hx=>?_,hp,fun k hk=>by rw[e]⟩;rcases List.mem_cons.1 hx with rfl | hx
   .exact hlt
   .exact dy hlt (h4 x hx)
theorem nQ (p:cw) {M:List Kv} (h:M.Pairwise mn):(dH p M).Pairwise mn:=by
 obtain⟨A,B,e,hA,hB,hAB,_⟩:=pQ p h;rw[e];split
 .exact hAB
 .obtain⟨h1,h2,h3⟩:=List.pairwise_append.1 hAB;refine List.pairwise_append.2 ⟨h1,List.pairwise_cons.2 ⟨fun q hq=>hB q hq,h2⟩,fun a ha b hb=>?_⟩;rcases List.mem_cons.1 hb with rfl | hb
  .exact hA a ha
  .exact h3 a ha b hb
theorem wJ (p:cw) {M:List Kv} (h:M.Pairwise mn) (k:List UInt8):bH k (dH p M)=if p.key=k then xC p else bH k M:=by
 obtain⟨A,B,e,hA,hB,hAB,hg⟩:=pQ p h;have gno: ∀ (A B:List Kv),(∀ q ∈ A,q.1≠k)->bH k (A++B)=bH k B:=fun A B h=>by
  induction A with
  | nil=>rfl
  | cons a A ih=>
   show (if a.1=k then some a.2 else bH k (A++B))=_;rw[if_neg (h a List.mem_cons_self),ih fun q hq=>h q (List.mem_cons_of_mem _ hq)]
 rw[e];by_cases hk:p.key=k
 .rw[if_pos hk,gno A _ (fun q hq=>by rw[<-hk];exact dv (hA q hq))];unfold xC;split
  .rw[List.nil_append];exact eX fun q hq=>by rw[<-hk];exact(dv (hB q hq)).symm
  .show (if p.key=k then some p.value else _)=_;rw[if_pos hk]
 .rw[if_neg hk, <-hg k (fun h=>hk h.symm)];split
  .rfl
  .have gapp: ∀ (A:List Kv),bH k (A++([(p.key,p.value)]++B))=bH k (A++B):=fun A=>by
    induction A with
    | nil=>show (if p.key=k then some p.value else bH k B)=_;rw[if_neg hk];rfl
    | cons a A ih=>show (if a.1=k then some a.2 else bH k (A++_))=(if a.1=k then some a.2 else bH k (A++B));rw[ih]
   exact gapp A
def aZ (ps:List cw) (M:List Kv):List Kv:=ps.foldl (fun M p=>dH p M) M
def gY (k:List UInt8):List cw->Option cw
 | []=>none
 | p::l=>match gY k l with | some q=>some q | none=>if p.key=k then some p else none
def dt:List cw->List cw
 | []=>[]
 | p::l=>if l.any (fun q=>decide (q.key=p.key))=true then dt l else p::dt l
theorem lO {k:List UInt8}: ∀ {l:List cw},gY k l=none↔ ∀ q ∈ l,q.key≠k
 | []=>by simp[gY]
 | p::l=>by
  have ih:=lO (k:=k) (l:=l);unfold gY
  cases h:gY k l with
  | some q=>
   simp only;constructor
   .intro h2;cases h2
   .intro h2;have:=ih.2 fun q hq=>h2 q (List.mem_cons_of_mem _ hq)
    rw[h] at this;cases this
  | none=>
   have h3:=ih.1 h;simp only;constructor
   .intro h2 q hq;rcases List.mem_cons.1 hq with rfl | hq
    .intro h4;rw[if_pos h4] at h2;cases h2
    .exact h3 q hq
   .intro h2;rw[if_neg (h2 p List.mem_cons_self)]
theorem pW (k:List UInt8): ∀ l:List cw,(dt l).find? (fun q=>decide (q.key=k))=gY k l
 | []=>rfl
 | p::l=>by
  have ih:=pW k l;unfold dt;split
  .rename_i h;rw[ih];show gY k l=match gY k l with | some q=>some q | none=>if p.key=k then some p else none
   cases h2:gY k l with
   | some q=>rfl
   | none=>
    simp only;rw[if_neg];intro h3;obtain⟨q,hq,h4⟩:=List.any_eq_true.1 h;exact lO.1 h2 q hq (by rw[<-h3];simpa using h4)
  .rename_i h;rw[List.find?_cons];show _=match gY k l with | some q=>some q | none=>if p.key=k then some p else none
   by_cases hk:p.key=k
   .rw[decide_eq_true hk];have h2:gY k l=none:=lO.2 fun q hq h3=>h (List.any_eq_true.2 ⟨q,hq,by rw[hk];simpa using h3⟩)
    rw[h2];simp only;rw[if_pos hk]
   .rw[decide_eq_false hk,ih]
    cases gY k l with
    | some q=>rfl
    | none=>simp only;rw[if_neg hk]
theorem kX: ∀ {l:List cw} {p:cw},p ∈ dt l->p ∈ l
 | [],p,h=>h
 | q::l,p,h=>by
  unfold dt at h;split at h
  .exact List.mem_cons_of_mem _ (kX h)
  .rcases List.mem_cons.1 h with rfl | h
   .exact List.mem_cons_self
   .exact List.mem_cons_of_mem _ (kX h)
theorem fk: ∀ l:List cw,(dt l).Pairwise fun a b=>a.key≠b.key
 | []=>List.Pairwise.nil
 | p::l=>by
  unfold dt;split
  .exact fk l
  .rename_i h;refine List.pairwise_cons.2 ⟨fun q hq h2=>h (List.any_eq_true.2 ⟨q,kX hq,by simpa using h2.symm⟩),fk l⟩
theorem fT: ∀ (ps:List cw) {M:List Kv},M.Pairwise mn->(aZ ps M).Pairwise mn
 | [],M,h=>h
 | p::ps,M,h=>fT ps (nQ p h)
theorem ry (k:List UInt8): ∀ (ps:List cw) {M:List Kv},M.Pairwise mn->bH k (aZ ps M)=match gY k ps with | some p=>xC p | none=>bH k M
 | [],M,h=>rfl
 | p::ps,M,h=>by
  show bH k (aZ ps (dH p M))=match (match gY k ps with | some q=>some q | none=>if p.key=k then some p else none) with | some p=>xC p | none=>bH k M
  rw[ry k ps (nQ p h)]
  cases gY k ps with
  | some q=>rfl
  | none=>
   simp only;rw[wJ p h];split<;>rfl
def jR (e:aq) (L:List aq):List aq:=L.takeWhile (fun x=>az x e)++e::L.dropWhile (fun x=>az x e)
theorem lM (e:aq) (L:List aq): ∃ A B,L=A++B/\jR e L=A++e::B/\ ∀ x ∈ A,dA x e:=by
 refine⟨_,_,(List.takeWhile_append_dropWhile (p:=fun x=>az x e) (l:=L)).symm,rfl,fun x hx=>?_⟩;exact gg (f:=fun x=>az x e) hx
theorem FF {e:aq} {L:List aq} (h: ∀ x ∈ L,x.key=e.key->x.seq<e.seq) (k:List UInt8) (s:Int):lq k s (jR e L)=if e.key=k/\e.seq<=s then some e else lq k s L:=by
 obtain⟨A,B,h1,h2,h3⟩:=lM e L;rw[h2];split
 .rename_i hk;rw[kR,lT hk];intro x hx h4;rcases cH.1 (h3 x hx) with h5 | ⟨h5,h6⟩
  .exact dv h5 (h4.trans hk.1.symm)
  .have:=h x (by rw[h1];exact List.mem_append_left _ hx) h5;omega
 .rename_i hk;rw[h1];unfold lq;rw[List.find?_append,List.find?_append];have:=qi (L:=B) hk;unfold lq at this;rw[this]
theorem GO {e:aq} {L:List aq} (h: ∀ x ∈ L,x.key=e.key->x.seq<e.seq) (k:List UInt8) (s:Int):dU k s (jR e L)=if e.key=k/\e.seq<=s then tI e else dU k s L:=by
 unfold dU;rw[FF h];split<;>rfl
theorem pC {e x:aq} {L:List aq}:x ∈ jR e L↔x=e\/x ∈ L:=by
 obtain⟨A,B,h1,h2,_⟩:=lM e L;rw[h2,h1,List.mem_append,List.mem_cons,List.mem_append];constructor
 .rintro (h | h | h)
  .exact .inr (.inl h)
  .exact .inl h
  .exact .inr (.inr h)
 .rintro (h | h | h)
  .exact .inr (.inl h)
  .exact .inl h
  .exact .inr (.inr h)
theorem rM {e:aq} {L:List aq} (h: ∀ x ∈ L,dA x e):jR e L=L++[e]:=by
 unfold jR;obtain⟨h1,h2⟩:=nz (f:=fun x=>az x e) (L:=L) h;rw[h1,h2]
def tZ (n:Int) (p:cw):aq:=⟨p.key,p.value,n,p.dead⟩
def lH (n:Int) (ps:List cw) (L:List aq):List aq:=ps.foldl (fun L p=>jR (tZ n p) L) L
theorem l9 {n:Int} {x:aq}: ∀ {ps:List cw} {L:List aq},x ∈ lH n ps L↔x ∈ L\/ ∃ p ∈ ps,x=tZ n p
 | [],L=>by simp[lH]
 | p::ps,L=>by
  show x ∈ lH n ps (jR (tZ n p) L)↔_;rw[l9,pC];constructor
  .rintro ((h | h) | ⟨q,hq,h⟩)
   .exact .inr ⟨p,List.mem_cons_self,h⟩
   .exact .inl h
   .exact .inr ⟨q,List.mem_cons_of_mem _ hq,h⟩
  .rintro (h | ⟨q,hq,h⟩)
   .exact .inl (.inr h)
   .rcases List.mem_cons.1 hq with rfl | hq
    .exact .inl (.inl h)
    .exact .inr ⟨q,hq,h⟩
theorem sZ (n:Int) (k:List UInt8) (s:Int): ∀ (ps:List cw) (L:List aq),(ps.Pairwise fun a b=>a.key≠b.key)->(∀ p ∈ ps, ∀ x ∈ L,x.key=p.key->x.seq<n)->
 dU k s (lH n ps L)=if n<=s then (match ps.find? (fun q=>decide (q.key=k)) with | some p=>xC p | none=>dU k s L) else dU k s L
 | [],L,_,_=>by simp[lH]
 | p::ps,L,h,hl=>by
  obtain⟨h1,h2⟩:=List.pairwise_cons.1 h;show dU k s (lH n ps (jR (tZ n p) L))=_;rw[sZ n k s ps _ h2 (fun q hq x hx hk=>by
   rcases pC.1 hx with rfl | hx
   .exact absurd hk (h1 q hq)
   .exact hl q (List.mem_cons_of_mem _ hq) x hx hk)]
  have h3:=GO (e:=tZ n p) (L:=L) (fun x hx hk=>hl p List.mem_cons_self x hx hk) k s;rw[h3,List.find?_cons];show (if n<=s then _ else if p.key=k/\n<=s then xC p else dU k s L)=_;by_cases hn:n<=s
  .rw[if_pos hn,if_pos hn];by_cases hk:p.key=k
   .rw[decide_eq_true hk];have h4:ps.find? (fun q=>decide (q.key=k))=none:=by
     rw[List.find?_eq_none];intro q hq h5;exact h1 q hq (by rw[hk];simpa using (of_decide_eq_true h5).symm)
    rw[h4];simp only;rw[if_pos ⟨hk,hn⟩];rfl
   .rw[decide_eq_false hk]
    cases ps.find? (fun q=>decide (q.key=k)) with
    | some q=>rfl
    | none=>simp only;rw[if_neg (fun h5=>hk h5.1)]
  .rw[if_neg hn,if_neg hn,if_neg (fun h5=>hn h5.2)]
theorem CL {n s:Int} {ps:List cw} {L:List aq} {M:List Kv} (hn:n<=s) (hl: ∀ x ∈ L,x.seq<n) (hM:M.Pairwise mn) (h: ∀ k,dU k s L=bH k M) (k:List UInt8):dU k s (lH n (dt ps) L)=bH k (aZ ps M):=by
 rw[sZ n k s _ _ (fk ps) (fun p _ x hx _=>hl x hx),if_pos hn,pW,ry k ps hM,h]
theorem BT {n s:Int} {ps:List cw} {L:List aq} (hn:s<n) (hl: ∀ x ∈ L,x.seq<n) (k:List UInt8):dU k s (lH n (dt ps) L)=dU k s L:=by
 rw[sZ n k s _ _ (fk ps) (fun p _ x hx _=>hl x hx),if_neg (by omega)]
theorem Df {s t:Int} {L:List aq} (hs: ∀ x ∈ L,x.seq<=s) (ht: ∀ x ∈ L,x.seq<=t) (k:List UInt8):dU k s L=dU k t L:=by
 have:lq k s L=lq k t L:=by
  unfold lq
  induction L with
  | nil=>rfl
  | cons e L ih=>
   rw[List.find?_cons,List.find?_cons,ih (fun x hx=>hs x (List.mem_cons_of_mem _ hx)) (fun x hx=>ht x (List.mem_cons_of_mem _ hx))];have h1:=hs e List.mem_cons_self;have h2:=ht e List.mem_cons_self;unfold pJ;rw[decide_eq_true h1,decide_eq_true h2]
 unfold dU;rw[this]
def nT (snaps:List Int) (q:Option Int) (x:aq):Bool:=match q with | none=>true | some q=>snaps.any fun s=>decide (x.seq<=s) && decide (s<q)
def cR (snaps:List Int):Option Int->List aq->List aq
 | _,[]=>[]
 | q,x::g=>if nT snaps q x=true then x::cR snaps (some x.seq) g else cR snaps (some x.seq) g
def fQ (X:List aq):List aq:=(X.reverse.dropWhile (fun e=>e.dead)).reverse
def iW (b:Bool) (snaps:List Int) (g:List aq):List aq:=if b=true then fQ (cR snaps none g) else cR snaps none g
def bu (e x:aq):Bool:=decide (x.key=e.key)
theorem gF {α:Type} (f:α->Bool): ∀ L:List α,(L.dropWhile f).length<=L.length
 | []=>Nat.le_refl _
 | x::L=>by
  rw[List.dropWhile_cons];split
  .exact Nat.le_succ_of_le (gF f L)
  .exact Nat.le_refl _
def cK (b:Bool) (snaps:List Int):List aq->List aq
 | []=>[]
 | e::L=>iW b snaps (e::L.takeWhile (bu e))++cK b snaps (L.dropWhile (bu e))
termination_by L=>L.length
decreasing_by exact Nat.lt_succ_of_le (gF _ _)
theorem iR (b:Bool) (snaps:List Int):cK b snaps []=[]:=by rw[cK]
theorem gj (b:Bool) (snaps:List Int) (e:aq) (L:List aq):cK b snaps (e::L)=iW b snaps (e::L.takeWhile (bu e))++cK b snaps (L.dropWhile (bu e)):=by rw[cK]
theorem jS (snaps:List Int): ∀ (g:List aq) (q:Option Int),(cR snaps q g).Sublist g
 | [],q=>List.Sublist.refl _
 | x::g,q=>by
  unfold cR;split
  .exact(jS snaps g _).cons_cons _
  .exact(jS snaps g _).cons _
theorem Dx (X:List aq):(fQ X).Sublist X:=by
 unfold fQ;have h:=List.dropWhile_sublist (fun e:aq=>e.dead) (l:=X.reverse);have h2:=h.reverse;rwa [List.reverse_reverse] at h2
theorem ng (b:Bool) (snaps:List Int) (g:List aq):(iW b snaps g).Sublist g:=by
 unfold iW;split
 .exact(Dx _).trans (jS snaps g none)
 .exact jS snaps g none
theorem uR (b:Bool) (snaps:List Int): ∀ (n:Nat) (L:List aq),L.length<=n->(cK b snaps L).Sublist L
 | _,[],_=>by rw[iR];exact List.Sublist.refl _
 | 0,e::L,h=>by simp at h
 | n+1,e::L,h=>by
  rw[gj];have h1:=ng b snaps (e::L.takeWhile (bu e));have h2:=uR b snaps n (L.dropWhile (bu e)) (by have:=gF (bu e) L;simp at h;omega);have h3:=List.Sublist.append h1 h2;have h4:e::L.takeWhile (bu e)++L.dropWhile (bu e)=e::L:=by rw[List.cons_append,List.takeWhile_append_dropWhile]
  rwa [h4] at h3
theorem fR (b:Bool) (snaps:List Int) (L:List aq):(cK b snaps L).Sublist L:=uR b snaps L.length L (Nat.le_refl _)
theorem nI {b:Bool} {snaps:List Int} {L:List aq} (h:L.Pairwise dA):(cK b snaps L).Pairwise dA:=h.sublist (fR b snaps L)
theorem nk {X:List aq} {d:aq} (h:d.dead=true):fQ (X++[d])=fQ X:=by
 unfold fQ;rw[List.reverse_append,List.reverse_singleton,List.singleton_append,List.dropWhile_cons,if_pos h]
theorem nf {X:List aq} {d:aq} (h:d.dead=false):fQ (X++[d])=X++[d]:=by
 unfold fQ;rw[List.reverse_append,List.reverse_singleton,List.singleton_append,List.dropWhile_cons,if_neg (by rw[h];simp),List.reverse_cons,List.reverse_reverse]
theorem CG:fQ []=[]:=rfl
theorem FZ {X:List aq} {d:aq} (h:d.dead=true) (k:List UInt8) (s:Int):dU k s (X++[d])=dU k s X:=by
 unfold dU lq;rw[List.find?_append]
 cases hx:X.find? (pJ k s) with
 | some e=>rfl
 | none=>
  show ([d].find? (pJ k s)).bind tI=none;rw[List.find?_cons]
  cases pJ k s d with
  | true=>show tI d=none;unfold tI;rw[if_pos h]
  | false=>rfl
theorem zi (k:List UInt8) (s:Int): ∀ (n:Nat) (X:List aq),X.length<=n->dU k s (fQ X)=dU k s X
 | n,X,h=>by
  rcases List.eq_nil_or_concat X with rfl | ⟨Y,d,rfl⟩
  .rfl
  .rw[List.concat_eq_append] at h ⊢
   cases hd:d.dead with
   | false=>rw[nf hd]
   | true=>
    cases n with
    | zero=>simp at h
    | succ n=>
     rw[nk hd,FZ hd];exact zi k s n Y (by rw[List.length_append] at h;simp at h;omega)
def asked (snaps:List Int) (s:Int) (L:List aq):Prop:=s ∈ snaps\/ ∀ x ∈ L,x.seq<=s
theorem vq (snaps:List Int) (k:List UInt8) (s:Int) (hs:s ∈ snaps): ∀ (g:List aq) (q:Int),s<q->lq k s (cR snaps (some q) g)=lq k s g\/ ∃ x ∈ g,x.key≠k
 | [],q,_=> .inl rfl
 | x::g,q,hq=>by
  by_cases hk:x.key=k
  .unfold cR;by_cases hx:x.seq<=s
   .left
    have:nT snaps (some q) x=true:=List.any_eq_true.2 ⟨s,hs,by rw[decide_eq_true hx,decide_eq_true hq];rfl⟩;rw[if_pos this,lT ⟨hk,hx⟩,lT ⟨hk,hx⟩]
   .rcases vq snaps k s hs g x.seq (by omega) with ih | ⟨y,hy,h⟩
    .left
     rw[qi (e:=x) (fun h=>hx h.2)];split
     .rw[qi (e:=x) (fun h=>hx h.2)];exact ih
     .exact ih
    .exact .inr ⟨y,List.mem_cons_of_mem _ hy,h⟩
  .exact .inr ⟨x,List.mem_cons_self,hk⟩
theorem yT {snaps:List Int} {k:List UInt8} {s:Int} {g:List aq} (hs:asked snaps s g) (hg: ∀ x ∈ g,x.key=k):lq k s (cR snaps none g)=lq k s g:=by
 cases g with
 | nil=>rfl
 | cons x g=>
  have hk:=hg x List.mem_cons_self;have e:cR snaps none (x::g)=x::cR snaps (some x.seq) g:=by
   show (if nT snaps none x=true then x::cR snaps (some x.seq) g else cR snaps (some x.seq) g)=_;rw[if_pos (show nT snaps none x=true from rfl)]
  rw[e];by_cases hx:x.seq<=s
  .rw[lT ⟨hk,hx⟩,lT ⟨hk,hx⟩]
  .rw[qi (fun h=>hx h.2),qi (fun h=>hx h.2)];rcases hs with hs | hs
   .rcases vq snaps k s hs g x.seq (by omega) with h | ⟨y,hy,h⟩
    .exact h
    .exact absurd (hg y (List.mem_cons_of_mem _ hy)) h
   .exact absurd (hs x List.mem_cons_self) hx
theorem lI {e:aq} {L:List aq} (h:(e::L).Pairwise dA):(∀ x ∈ e::L.takeWhile (bu e),x.key=e.key)/\(∀ x ∈ L.dropWhile (bu e),x.key≠e.key)/\(L.dropWhile (bu e)).Pairwise dA/\(e::L.takeWhile (bu e)).Pairwise dA:=by
 obtain⟨h1,h2⟩:=List.pairwise_cons.1 h;refine⟨fun x hx=>?_,fun x hx=>?_,h2.sublist (List.dropWhile_sublist _),h.sublist ((List.takeWhile_sublist _).cons_cons _)⟩
 .rcases List.mem_cons.1 hx with rfl | hx
  .rfl
  .exact of_decide_eq_true (gg (f:=bu e) hx)
 .cases hd:L.dropWhile (bu e) with
  | nil=>rw[hd] at hx;cases hx
  | cons y T=>
   have hy:bu e y=false:=by
    have:=List.head_dropWhile_not (p:=bu e) (l:=L) (by rw[hd];simp);simp only[hd,List.head_cons] at this;exact this
   have hye:y ∈ L:=(List.dropWhile_sublist (bu e)).mem (by rw[hd];exact List.mem_cons_self);have hlt:Lib.compareBytes e.key y.key<0:=by
    rcases cH.1 (h1 y hye) with h3 | ⟨h3,_⟩
    .exact h3
    .exact absurd h3.symm (of_decide_eq_false hy)
   rw[hd] at hx;have h4:=h2.sublist (List.dropWhile_sublist (bu e));rw[hd] at h4;rcases List.mem_cons.1 hx with rfl | hx
   .exact(dv hlt).symm
   .rcases cH.1 ((List.pairwise_cons.1 h4).1 x hx) with h5 | ⟨h5,_⟩
    .exact(dv (dy hlt h5)).symm
    .rw[<-h5];exact(dv hlt).symm
theorem FM (snaps:List Int) (k:List UInt8) (s:Int): ∀ (n:Nat) (L:List aq),L.length<=n->L.Pairwise dA->asked snaps s L->lq k s (cK false snaps L)=lq k s L
 | _,[],_,_,_=>by rw[iR]
 | 0,e::L,h,_,_=>by simp at h
 | n+1,e::L,h,hp,hs=>by
  obtain⟨g1,g2,g3,g4⟩:=lI hp;have h4:e::L=(e::L.takeWhile (bu e))++L.dropWhile (bu e):=by rw[List.cons_append,List.takeWhile_append_dropWhile]
  have hsg:asked snaps s (e::L.takeWhile (bu e)):=hs.imp id fun h x hx=>h x (by rw[h4];exact List.mem_append_left _ hx)
  have hsr:asked snaps s (L.dropWhile (bu e)):=hs.imp id fun h x hx=>h x (by rw[h4];exact List.mem_append_right _ hx)
  have ih:=FM snaps k s n _ (by have:=gF (bu e) L;simp at h;omega) g3 hsr;rw[gj];have hsub:=(jS snaps (e::L.takeWhile (bu e)) none);show lq k s (cR snaps none _++_)=_;by_cases hk:e.key=k
  .rw[lL (fun x hx=>by rw[<-hk];exact g2 x ((fR false snaps _).mem hx)),yT hsg (fun x hx=>(g1 x hx).trans hk)]
   conv=>rhs;rw[h4]
   rw[lL (fun x hx=>by rw[<-hk];exact g2 x hx)]
  .rw[kR (fun x hx=>by rw[g1 x (hsub.mem hx)];exact hk),ih]
   conv=>rhs;rw[h4]
   rw[kR (fun x hx=>by rw[g1 x hx];exact hk)]
theorem rz {k:List UInt8} {s:Int} {A B:List aq} (h: ∀ x ∈ A,x.key≠k):dU k s (A++B)=dU k s B:=by unfold dU;rw[kR h]
theorem pG {k:List UInt8} {s:Int} {A B:List aq} (h: ∀ x ∈ B,x.key≠k):dU k s (A++B)=dU k s A:=by unfold dU;rw[lL h]
theorem vi (b:Bool) (snaps:List Int) (k:List UInt8) (s:Int): ∀ (n:Nat) (L:List aq),L.length<=n->L.Pairwise dA->asked snaps s L->dU k s (cK b snaps L)=dU k s L
 | _,[],_,_,_=>by rw[iR]
 | 0,e::L,h,_,_=>by simp at h
 | n+1,e::L,h,hp,hs=>by
  obtain⟨g1,g2,g3,g4⟩:=lI hp;have h4:e::L=(e::L.takeWhile (bu e))++L.dropWhile (bu e):=by rw[List.cons_append,List.takeWhile_append_dropWhile]
  have hsg:asked snaps s (e::L.takeWhile (bu e)):=hs.imp id fun h x hx=>h x (by rw[h4];exact List.mem_append_left _ hx)
  have hsr:asked snaps s (L.dropWhile (bu e)):=hs.imp id fun h x hx=>h x (by rw[h4];exact List.mem_append_right _ hx)
  have ih:=vi b snaps k s n _ (by have:=gF (bu e) L;simp at h;omega) g3 hsr;rw[gj];have hsub:=ng b snaps (e::L.takeWhile (bu e));by_cases hk:e.key=k
  .rw[pG (fun x hx=>by rw[<-hk];exact g2 x ((fR b snaps _).mem hx))];have h5:dU k s (iW b snaps (e::L.takeWhile (bu e)))=dU k s (e::L.takeWhile (bu e)):=by
    have h6:dU k s (cR snaps none (e::L.takeWhile (bu e)))=dU k s (e::L.takeWhile (bu e)):=by
     unfold dU;rw[yT hsg (fun x hx=>(g1 x hx).trans hk)]
    unfold iW;split
    .rw[zi k s _ _ (Nat.le_refl _),h6]
    .exact h6
   rw[h5]
   conv=>rhs;rw[h4]
   rw[pG (fun x hx=>by rw[<-hk];exact g2 x hx)]
  .rw[rz (fun x hx=>by rw[g1 x (hsub.mem hx)];exact hk),ih]
   conv=>rhs;rw[h4]
   rw[rz (fun x hx=>by rw[g1 x hx];exact hk)]
theorem sV {b:Bool} {snaps:List Int} {k:List UInt8} {s:Int} {L:List aq} (h:L.Pairwise dA) (hs:asked snaps s L):dU k s (cK b snaps L)=dU k s L:=vi b snaps k s _ L (Nat.le_refl _) h hs
theorem rN (x:aq): ∀ (g:List aq) (q:Int),cR [] (some q) g=[]
 | [],_=>rfl
 | y::g,q=>by unfold cR;rw[if_neg (by simp[nT])];exact rN x g _
theorem vG (e:aq) (L:List aq):iW true [] (e::L)=if e.dead=true then [] else [e]:=by
 unfold iW cR;rw[if_pos rfl,if_pos (show nT [] none e=true from rfl),rN e]
 cases h:e.dead with
 | true=>exact(nk (X:=[]) h).trans CG
 | false=>exact nf (X:=[]) h
theorem nb: ∀ (n:Nat) (L:List aq),L.length<=n-> ∀ x ∈ cK true [] L,x.dead=false
 | _,[],_=>by rw[iR];simp
 | 0,e::L,h=>by simp at h
 | n+1,e::L,h=>fun x hx=>by
  rw[gj,vG] at hx;rcases List.mem_append.1 hx with hx | hx
  .cases hd:e.dead with
   | true=>rw[hd] at hx;cases hx
   | false=>
    rw[hd] at hx;have:x=e:=by simpa using hx
    rw[this,hd]
  .exact nb n _ (by have:=gF (bu e) L;simp at h;omega) x hx
theorem nA: ∀ (n:Nat) (L:List aq),L.length<=n->L.Pairwise dA->(cK true [] L).Pairwise fun a b=>Lib.compareBytes a.key b.key<0
 | _,[],_,_=>by rw[iR];exact List.Pairwise.nil
 | 0,e::L,h,_=>by simp at h
 | n+1,e::L,h,hp=>by
  obtain⟨g1,g2,g3,g4⟩:=lI hp;have ih:=nA n _ (by have:=gF (bu e) L;simp at h;omega) g3;rw[gj,vG];split
  .exact ih
  .refine List.pairwise_cons.2 ⟨fun x hx=>?_,ih⟩;have hx2:=(fR true [] _).mem hx;have hxl:=(List.dropWhile_sublist (bu e)).mem hx2;rcases cH.1 ((List.pairwise_cons.1 hp).1 x hxl) with h5 | ⟨h5,_⟩
   .exact h5
   .exact absurd h5.symm (g2 x hx2)
theorem BF {L:List aq} {s:Int} (h:L.Pairwise dA) (hs: ∀ x ∈ L,x.seq<=s):(cK true [] L).map cX=eQ s L:=by
 have hp:((cK true [] L).map cX).Pairwise mn:=by rw[List.pairwise_map];exact nA _ L (Nat.le_refl _) h
 refine ma hp (iu h) fun k=>?_
 rw[mx h, <-sV (b:=true) (snaps:=[]) h (.inr hs)];have hl:=nb _ L (Nat.le_refl _);have hm: ∀ x ∈ cK true [] L,x.seq<=s:=fun x hx=>hs x ((fR true [] L).mem hx)
 generalize cK true [] L=K at*
 induction K with
 | nil=>rfl
 | cons e K ih=>
  show (if e.key=k then some e.value else bH k (K.map cX))=_;rw[List.map_cons,List.pairwise_cons] at hp;have ih2:=ih hp.2 (fun x hx=>hl x (List.mem_cons_of_mem _ hx)) (fun x hx=>hm x (List.mem_cons_of_mem _ hx));by_cases hk:e.key=k
  .rw[if_pos hk,oR ⟨hk,hm e List.mem_cons_self⟩];unfold tI;rw[if_neg (by rw[hl e List.mem_cons_self];simp)]
  .rw[if_neg hk,nR (fun h=>hk h.1),ih2]
def gZ (p:cw):List UInt8:=[if p.dead=true then 1 else 0,UInt8.ofNat p.key.length]++(ai p.value.length 2++(p.key++p.value))
def aE (ps:List cw):List UInt8:=(ps.map gZ).flatten
def yU (p:cw):Prop:=1<=p.key.length/\p.key.length<=128/\p.value.length<=16384
theorem fD (p:cw):(gZ p).length=4+p.key.length+p.value.length:=by
 unfold gZ;simp only[List.length_append,List.length_cons,List.length_nil,aw];omega
theorem r9 (ps:List cw) (p:cw):aE (ps++[p])=aE ps++gZ p:=by
 unfold aE;rw[List.map_append,List.flatten_append];simp
theorem fY (p:cw) (ps:List cw):aE (p::ps)=gZ p++aE ps:=rfl
theorem F7 (p:cw) (r:List UInt8) (h:yU p):(gZ p++r)[0]?=some (if p.dead=true then 1 else 0)/\(gZ p++r)[1]?=some (UInt8.ofNat p.key.length)/\((gZ p++r).take 4).drop 2=ai p.value.length 2/\
 ((gZ p++r).take (4+p.key.length)).drop 4=p.key/\((gZ p++r).take (4+p.key.length+p.value.length)).drop (4+p.key.length)=p.value/\(gZ p++r).drop (4+p.key.length+p.value.length)=r:=by
 have h2:(ai p.value.length 2).length=2:=aw _ _;obtain⟨q,hq⟩: ∃ q,q=ai p.value.length 2:=⟨_,rfl⟩;rw[<-hq] at h2
 match q,h2 with
 | [a,b],_=>
  have e:gZ p++r=[if p.dead=true then 1 else 0,UInt8.ofNat p.key.length,a,b]++(p.key++(p.value++r)):=by
   unfold gZ;rw[<-hq];simp
  rw[e];generalize hl4:[if p.dead=true then (1:UInt8) else 0,UInt8.ofNat p.key.length,a,b]=l4;have h4:l4.length=4:=by rw[<-hl4];rfl
  refine⟨by rw[<-hl4];rfl,by rw[<-hl4];rfl,by rw[<-hl4, <-hq];rfl,?_,?_,?_⟩
  .rw[<-List.append_assoc,List.take_left' (by rw[List.length_append,h4]),List.drop_left' h4]
  .rw[<-List.append_assoc, <-List.append_assoc,List.take_left' (by rw[List.length_append,List.length_append,h4]),List.drop_left' (by rw[List.length_append,h4])]
  .rw[<-List.append_assoc, <-List.append_assoc,List.drop_left' (by rw[List.length_append,List.length_append,h4])]
theorem flatK {α:Type} {f:α->List Value} {K:Nat} (hf: ∀ x,(f x).length=K): ∀ (l:List α) (i j:Nat) (hi:i<l.length) (hj:j<K),(l.flatMap f)[i*K+j]?=(f l[i])[j]?
 | [],i,j,hi,hj=>by simp at hi
 | x::l,0,j,hi,hj=>by
  rw[List.flatMap_cons,Nat.zero_mul,Nat.zero_add,List.getElem?_append_left (by rw[hf];exact hj)];rfl
 | x::l,i+1,j,hi,hj=>by
  have e:(i+1)*K+j=K+(i*K+j):=by rw[Nat.add_mul,Nat.one_mul];omega
  rw[List.flatMap_cons,List.getElem?_append_right (by rw[hf,e];omega),hf,e];have:=flatK hf l i j (by simpa using hi) hj;rw[show K+(i*K+j) - K=i*K+j by omega,this];rfl
theorem dB {α:Type} {f:α->List Value} {K:Nat} (hf: ∀ x,(f x).length=K): ∀ (l:List α),(l.flatMap f).length=l.length*K
 | []=>by simp
 | x::l=>by rw[List.flatMap_cons,List.length_append,hf,dB hf l,List.length_cons,Nat.add_mul,Nat.one_mul];omega
theorem eD (e:En):(bV e).length=4:=rfl
section
variable {w w':World} {A:Option Addr} {es:List En}
theorem dP (h:aG w A (es.flatMap bV)) (hn:0<es.length): ∃ b o,A=some ⟨b,o,none⟩/\ ∀ i (hi:i<es.length),
 w.cell? ⟨b,o+i*4,none⟩=some (aJ es[i].key)/\w.cell? ⟨b,o+i*4+1,none⟩=some (aJ es[i].value)/\w.cell? ⟨b,o+i*4+2,none⟩=some (.int .i64 es[i].seq)/\w.cell? ⟨b,o+i*4+3,none⟩=some (.bool es[i].dead):=by
 have hl:=dB eD es;obtain⟨b,o,rfl,_⟩:=aG.get h (j:=0) (by omega);refine⟨b,o,rfl,fun i hi=>?_⟩;have key: ∀ j,j<4->w.cell? ⟨b,o+i*4+j,none⟩=(bV es[i])[j]?:=fun j hj=>by
  have hij:i*4+j<(es.flatMap bV).length:=by omega
  obtain⟨b',o',e,hc⟩:=aG.get h hij;injection e with e
  injection e with e1 e2
  subst e1;subst e2;rw[Nat.add_assoc,hc, <-flatK eD es i j hi hj,List.getElem?_eq_getElem hij]
 exact⟨key 0 (by omega),key 1 (by omega),key 2 (by omega),key 3 (by omega)⟩
def jM (w:World) (es:List En):Prop:= ∀ e ∈ es,nS w e
end
def dE (l:List aq):Bool:=(List.range (l.length - 1)).all fun i=>match l[i]?,l[i+1]? with | some a,some b=>az a b | _,_=>true
theorem ic (l:List aq):dE l=true↔ ∀ i (hi:i+1<l.length),dA (l[i]'(by omega)) l[i+1]:=by
 unfold dE;rw[List.all_eq_true];constructor
 .intro h i hi;have:=h i (List.mem_range.2 (by omega));rw[List.getElem?_eq_getElem (by omega),List.getElem?_eq_getElem hi] at this;exact this
 .intro h i hi;have hi:i+1<l.length:=by have:=List.mem_range.1 hi;omega
  rw[List.getElem?_eq_getElem (by omega),List.getElem?_eq_getElem hi];exact h i hi
theorem xo (l:List aq) (i:Nat) (hi:i+1<l.length) (h:az (l[i]'(by omega)) l[i+1]=false):dE l=false:=by
 cases hs:dE l with
 | false=>rfl
 | true=>have:=(ic l).1 hs i hi;unfold dA at this;rw[h] at this;cases this
theorem gN (A:Option Addr) (c:Nat) (es:List En) (w:World) (h:aG w A (es.flatMap bV)) (hr:jM w es) (hc:es.length<=c) (hm:c<=maxLen):
 Calls Tryz.prog 151 #[.slice A es.length c] w fun e w'=>e = .returned (.bool (dE (es.map En.ak)))/\ao No w w':=by
 have HL:=ah h;have HR:=ah hr;have HE:Hid (∀ e:En,iZ e = .agg #[.slice e.key.1 e.key.2.2.length e.key.2.1,.slice e.value.1 e.value.2.2.length e.value.2.1,.int .i64 e.seq,.bool e.dead]):=fun _=>rfl
 unfold maxLen at hm;clear h hr;go_enter Tryz.func151, Tryz.ntmps151;go_wp2_with fail;go_loopw [3] (fun i wr=> ∃ k:Nat,1<=k/\(k<=es.length\/k=1)/\i = .int .i64 k/\Hid (ao No w wr/\ ∀ i (hi:i+1<k) (hk:i+1<es.length),az (es[i]'(by omega)).ak es[i+1].ak=true)) (fun i _=>es.length - (intOf i).toNat)
 case atStart=>exact⟨1,by omega,by omega,rfl,ao.refl _ _,fun i hi=>by omega⟩
 case round=>
  obtain⟨k,hk1,hk2,rfl,HD⟩:=hrel;by_cases hlt:k<es.length
  .obtain⟨b,o,rfl,hq⟩:=dP (aG.new HL.o HD.o.1) (by omega);obtain⟨j,rfl⟩: ∃ j,k=j+1:=⟨k - 1,by omega⟩;obtain⟨a0,a1,a2,a3⟩:=hq j (by omega);obtain⟨b0,b1,b2,b3⟩:=hq (j+1) hlt;clear hq;unfold aJ at a0 a1 b0 b1;have HI:=ah HD.o.1;have HLs:=HD.o.2;clear HD;have hwj:IntKind.i64.wrap (j:Int)=j:=by rw[IntKind.wrap_i64];omega
   have hc2:(0:Int)<=(j:Int)+1:=by omega
   have hc3:j<es.length:=by omega
   go_wp2_with fail;go_region_law (first
    | (go_simp;go_at_call 147;rw[<-HE.o, <-HE.o];refine(pM es[j] es[j+1] _ ((HR.o _ (List.getElem_mem _)).new HI.o.drew) ((HR.o _ (List.getElem_mem _)).new HI.o.drew)).mono ?_;rintro e w5 ⟨rfl,k5⟩)
    | (simp only[hwj,hc2,hc3];go_simp))
   all_goals
    have k6:Hid (ao No w w5):=HI.o.drew.tr k5
    cases hb:az es[j].ak es[j+1].ak with
    | false=>
     have HQ:Hid (dE (es.map En.ak)=false):=xo _ j (by simpa using hlt) (by simpa using hb);go_wp2_with fail;go_ret;exact⟨by rw[HQ.o];rfl,k6.o⟩
    | true=>
     go_wp2_with fail;go_roundw
     .exact⟨j+1+1,by omega,by omega,by push_cast;rfl,k6.o,fun i hi hk=>if e:i=j then by subst e;exact hb else HLs i (by omega) hk⟩
     .simp[intOf];omega
  .have HQ:Hid (dE (es.map En.ak)=true):=(ic _).2 fun i hi=>by
    have:=HD.o.2 i (by simp at hi;omega) (by simpa using hi);simpa [dA] using this
   go_wp2_with fail;go_ret;exact⟨by rw[HQ.o];rfl,HD.o.1⟩
structure Nd where
 a:Nat
 r:Nat
 e:En
 h:Nat
 v:Nat
def cS (t:Nat->Option Nat) (ns:List Nd) (i:Nat):Option Nat:=match ns.find? (fun n=>decide (i<n.v)) with | some n=>some n.a | none=>t i
def dL (o:Option Nat):Value:= .pointer (o.map fun b=>⟨b,0,none⟩)
def cE (f:Nat->Option Nat) (h v:Nat):Array Value:=((List.range h).map fun j=>if j<v then dL (f j) else dL none).toArray
def fH (n:Nd):Array Value:= #[.slice (some ⟨n.r,0,none⟩) n.h n.h,aJ n.e.key,aJ n.e.value,.int .i64 n.e.seq,.bool n.e.dead]
def rk (n:Nd) (f:Nat->Option Nat):SP:=Pt n.a 186 (fH n)*Pt n.r 183 (cE f n.h n.v)
def bq (t:Nat->Option Nat):List Nd->SP
 | []=>bE
 | n::ns=>rk n (cS t ns)*bq t ns
def da:Nat->Option Nat:=fun _=>none
section
variable {t t':Nat->Option Nat} {n m:Nd} {ns p s:List Nd} {i j h v:Nat}
theorem dx (t:Nat->Option Nat) (n:Nd) (ns:List Nd) (i:Nat):cS t (n::ns) i=if i<n.v then some n.a else cS t ns i:=by
 unfold cS;rw[List.find?_cons];by_cases h:i<n.v
 .simp[h]
 .simp[h]
theorem iw (t:Nat->Option Nat) (s:List Nd): ∀ p:List Nd,cS t (p++s)=cS (cS t s) p
 | []=>rfl
 | n::p=>by
  funext i
  rw[List.cons_append,dx,dx,iw t s p]
theorem lj (h: ∀ n ∈ ns,n.v<=i):cS t ns i=t i:=by
 unfold cS;rw[List.find?_eq_none.2 (fun n hn=>by have:=h n hn;simp;omega)]
theorem ja (ns:List Nd) (i:Nat):(cS da ns i=none/\ ∀ n ∈ ns,n.v<=i)\/ ∃ p m s,ns=p++m::s/\cS da ns i=some m.a/\i<m.v/\ ∀ n ∈ p,n.v<=i:=by
 induction ns with
 | nil=>exact .inl ⟨rfl,by simp⟩
 | cons n ns ih=>
  by_cases h:i<n.v
  .exact .inr ⟨[],n,ns,rfl,by rw[dx,if_pos h],h,by simp⟩
  .rcases ih with ⟨h1,h2⟩ | ⟨p,m,s,rfl,h2,h3,h4⟩
   .exact .inl ⟨by rw[dx,if_neg h,h1],fun x hx=>(List.mem_cons.1 hx).elim (fun e=>by subst e;omega) (h2 x)⟩
   .exact .inr ⟨n::p,m,s,rfl,by rw[dx,if_neg h];exact h2,h3,fun x hx=>(List.mem_cons.1 hx).elim (fun e=>by subst e;omega) (h4 x)⟩
theorem qd {f g:Nat->Option Nat} (hfg: ∀ j,j<h->j<v->f j=g j):cE f h v=cE g h v:=by
 unfold cE;congr 1
 apply List.map_congr_left;intro j hj;have hj:=List.mem_range.1 hj;by_cases hv:j<v
 .rw[if_pos hv,if_pos hv,hfg j hj hv]
 .rw[if_neg hv,if_neg hv]
theorem jZ (f:Nat->Option Nat) (hj:j<h):(cE f h v)[j]?=some (if j<v then dL (f j) else dL none):=by
 unfold cE;simp[hj]
theorem ll (t:Nat->Option Nat) (s:List Nd): ∀ p:List Nd,bq t (p++s)=bq (cS t s) p*bq t s
 | []=>(bf _).symm
 | n::p=>by
  show rk n (cS t (p++s))*bq t (p++s)=rk n (cS (cS t s) p)*bq (cS t s) p*bq t s;rw[iw,ll t s p,aB]
theorem nn: ∀ {ns:List Nd},(∀ n ∈ ns,n.v<=i)->(∀ j,j<i->t j=t' j)->bq t ns=bq t' ns
 | [],_,_=>rfl
 | n::ns,h,k=>by
  show rk n (cS t ns)*bq t ns=rk n (cS t' ns)*bq t' ns;rw[nn (fun x hx=>h x (List.mem_cons_of_mem _ hx)) k];have hn:=h n List.mem_cons_self;have e:cE (cS t ns) n.h n.v=cE (cS t' ns) n.h n.v:=qd fun j hj hv=>by
   unfold cS
   cases ns.find? (fun n=>decide (j<n.v)) with
   | some _=>rfl
   | none=>exact k j (by omega)
  unfold rk;rw[e]
end
structure vw (ns:List Nd):Prop where
 full: ∀ n ∈ ns,n.v=n.h/\1<=n.h/\n.h<=8
 sort:ns.Pairwise fun a b=>dA a.e.ak b.e.ak
def Jh (l:List aq):Nat:=l.foldr (fun e s=>e.key.length+e.value.length+s) 0
def jU (ns:List Nd):List dq:=ns.flatMap fun n=>[n.e.key,n.e.value]
def cO (b hr:Nat) (ns:List Nd) (cnt by':Int):SP:=
 Pt b 173 #[.slice (some ⟨hr,0,none⟩) 8 8,.int .i64 cnt,.int .i64 by']*(Pt hr 183 (cE (cS da ns) 8 8)*(bq da ns*bZ (jU ns)))
structure View (w:World) (b hr:Nat) (ns:List Nd):Prop where
 head:w.cell? ⟨b,0,none⟩=some (.slice (some ⟨hr,0,none⟩) 8 8)
 links: ∀ i,i<8->w.cell? ⟨hr,i,none⟩=some (dL (cS da ns i))
 node: ∀ p n s,ns=p++n::s->w.cell? ⟨n.a,0,none⟩=some (.slice (some ⟨n.r,0,none⟩) n.h n.h)/\w.cell? ⟨n.a,1,none⟩=some (aJ n.e.key)/\w.cell? ⟨n.a,2,none⟩=some (aJ n.e.value)/\w.cell? ⟨n.a,3,none⟩=some (.int .i64 n.e.seq)/\w.cell? ⟨n.a,4,none⟩=some (.bool n.e.dead)
  /\(∀ i,i<n.h->w.cell? ⟨n.r,i,none⟩=some (dL (cS da s i)))/\nS w n.e
 nodup:(ns.map Nd.a).Nodup
section
variable {w0 w w':World} {F:SP} {b hr:Nat} {ns p s:List Nd} {n:Nd} {c y:Int} {t:Nat->Option Nat}
theorem View.new (h:View w b hr ns) (k:ao No w w'):View w' b hr ns:=
 ⟨k.cell h.head id,fun i hi=>k.cell (h.links i hi) id,fun p n s e=>by
  obtain⟨h1,h2,h3,h4,h5,h6,h7⟩:=h.node p n s e;exact⟨k.cell h1 id,k.cell h2 id,k.cell h3 id,k.cell h4 id,k.cell h5 id,fun i hi=>k.cell (h6 i hi) id,h7.new k⟩,h.nodup⟩
theorem jX (t:Nat->Option Nat) (p:List Nd) (n:Nd) (s:List Nd) (F:SP):bq t (p++n::s)*F=Pt n.a 186 (fH n)*(Pt n.r 183 (cE (cS t s) n.h n.v)*(bq (cS t (n::s)) p*(bq t s*F))):=by
 rw[ll];show bq (cS t (n::s)) p*(Pt n.a _ (fH n)*Pt n.r _ (cE (cS t s) n.h n.v)*bq t s)*F=_
 ac_rfl
theorem AP (h:Sat w0 (bq t ns*F) w):(ns.map Nd.a).Nodup:=by
 induction ns generalizing F with
 | nil=>simp
 | cons n ns ih=>
  have h1:Sat w0 (Pt n.a 186 (fH n)*(bq t ns*(Pt n.r 183 (cE (cS t ns) n.h n.v)*F))) w:=h.of (by
   show Pt n.a _ (fH n)*Pt n.r _ (cE (cS t ns) n.h n.v)*bq t ns*F=_
   ac_rfl)
  rw[List.map_cons,List.nodup_cons];refine⟨fun hm=>?_,ih h1.right⟩;obtain⟨m,hm,e⟩:=List.mem_map.1 hm;obtain⟨p,s,rfl⟩:=List.append_of_mem hm;have h2:Sat w0 (Ow n.a _*(Ow m.a _*_)) w:=h1.of (by rw[jX];rfl);exact h2.ne e.symm
theorem Sat.view (h:Sat w0 (cO b hr ns c y*F) w) (hok:vw ns):View w b hr ns:=by
 have h1:Sat w0 (Pt b 173 #[.slice (some ⟨hr,0,none⟩) 8 8,.int .i64 c,.int .i64 y]*(Pt hr 183 (cE (cS da ns) 8 8)*(bq da ns*(bZ (jU ns)*F)))) w:=h.of (by unfold cO;ac_rfl);refine⟨h1.cell 0,fun i hi=>?_,fun p n s e=>?_,AP (h1.bp)⟩
 .rw[h1.ay.cell i,jZ _ hi,if_pos hi]
 .subst e;have h2:=h1.bp.of (jX da p n s _);obtain⟨e1,e2,e3⟩:=hok.full n (by simp);refine⟨h2.cell 0,h2.cell 1,h2.cell 2,h2.cell 3,h2.cell 4,fun i hi=>?_,?_⟩
  .rw[h2.ay.cell i,jZ _ hi,if_pos (by omega)]
  .have h3:=h1.bK;exact⟨h3.Fk (r:=n.e.key) (by unfold jU;simp),h3.Fk (r:=n.e.value) (by unfold jU;simp)⟩
end
def ahead (e:aq) (ns:List Nd):List Nd:=ns.takeWhile fun n=>az n.e.ak e
def au (b:Nat):List Nd->Nat->Nat
 | [],_=>b
 | n::ns,i=>if i<n.v then au n.a ns i else au b ns i
theorem gB (s:List Nd) (i:Nat): ∀ (p:List Nd) (b:Nat),au b (p++s) i=au (au b p i) s i
 | [],b=>rfl
 | n::p,b=>by
  show (if i<n.v then au n.a (p++s) i else au b (p++s) i)=au (if i<n.v then au n.a p i else au b p i) s i;by_cases h:i<n.v
  .rw[if_pos h,if_pos h];exact gB s i p n.a
  .rw[if_neg h,if_neg h];exact gB s i p b
theorem pT {i:Nat}: ∀ {s:List Nd} {b:Nat},(∀ n ∈ s,n.v<=i)->au b s i=b
 | [],_,_=>rfl
 | n::s,b,h=>by
  unfold au;rw[if_neg (by have:=h n List.mem_cons_self;omega)];exact pT fun x hx=>h x (List.mem_cons_of_mem _ hx)
theorem Cm {e:aq} {p s:List Nd} (h: ∀ n ∈ p,dA n.e.ak e):ahead e (p++s)=p++ahead e s:=by
 unfold ahead;exact List.takeWhile_append_of_pos fun n hn=>h n hn
theorem iG {e:aq} {n:Nd}: ∀ {s:List Nd},n ∈ ahead e s->n ∈ s/\dA n.e.ak e
 | [],h=>by simp[ahead] at h
 | m::s,h=>by
  unfold ahead at h;rw[List.takeWhile_cons] at h;split at h
  .rename_i hl;rcases List.mem_cons.1 h with h | h
   .subst h;exact⟨List.mem_cons_self,hl⟩
   .have:=iG (s:=s) h;exact⟨List.mem_cons_of_mem _ this.1,this.2⟩
  .cases h
structure xi (w:World) (b:Nat) (ns:List Nd) (e:aq) (k:Nat) (p s:List Nd) (A R h:Nat):Prop where
 eq:ns=p++s
 low: ∀ n ∈ p,dA n.e.ak e
 done: ∀ n ∈ s,dA n.e.ak e->n.v<=k
 hk:k<=h
 head:w.cell? ⟨A,0,none⟩=some (.slice (some ⟨R,0,none⟩) h h)
 links: ∀ i,i<h->w.cell? ⟨R,i,none⟩=some (dL (cS da s i))
 last: ∀ j,j<h->au b p j=A
section
variable {w w':World} {b hr k A R h:Nat} {ns p s:List Nd} {e:aq}
theorem xi.new (x:xi w b ns e k p s A R h) (c:ao No w w'):xi w' b ns e k p s A R h:=⟨x.eq,x.low,x.done,x.hk,c.cell x.head id,fun i hi=>c.cell (x.links i hi) id,x.last⟩
theorem View.xp (v:View w b hr ns) (hok:vw ns) (e:aq):xi w b ns e 8 [] ns b hr 8:=
 ⟨rfl,by simp,fun n hn _=>by have:=hok.full n hn;omega,Nat.le_refl _,v.head,v.links,fun _ _=>rfl⟩
theorem xi.step (x:xi w b ns e (k+1) p s A R h) (v:View w b hr ns) (hok:vw ns) {q t:List Nd} {m:Nd} (hs:s=q++m::t) (hm:k<m.v) (hl:dA m.e.ak e):
 xi w b ns e (k+1) (p++(q++[m])) t m.a m.r m.h:=by
 have he:=x.eq;subst hs;have hf:=hok.full m (by rw[he];simp);obtain⟨h1,_,_,_,_,h6,_⟩:=v.node (p++q) m t (by rw[he];simp);refine⟨by rw[he];simp,fun n hn=>?_,fun n hn=>x.done n (by simp[hn]),by omega,h1,h6,fun j hj=>?_⟩
 .rcases List.mem_append.1 hn with hn | hn
  .exact x.low n hn
  .rcases List.mem_append.1 hn with hn | hn
   .have hsort:=hok.sort;rw[he,List.pairwise_append] at hsort;have h2:=hsort.2.1;rw[List.pairwise_append] at h2;exact iT (h2.2.2 n hn m List.mem_cons_self) hl
   .simp at hn;subst hn;exact hl
 .rw[gB,gB];show (if j<m.v then _ else _)=_;rw[if_pos (by omega)];rfl
theorem xi.down (x:xi w b ns e (k+1) p s A R h) (hd: ∀ n ∈ s,dA n.e.ak e->n.v<=k):xi w b ns e k p s A R h:=⟨x.eq,x.low,hd,by have:=x.hk;omega,x.head,x.links,x.last⟩
theorem xi.here (x:xi w b ns e (k+1) p s A R h) (hd: ∀ n ∈ s,dA n.e.ak e->n.v<=k):au b (ahead e ns) k=A:=by
 have he:=x.eq;rw[he,Cm x.low,gB,x.last k (by have:=x.hk;omega)];exact pT fun n hn=>hd n (iG hn).1 (iG hn).2
theorem Bo (x:xi w b ns e (k+1) p s A R h) (hn: ∀ n ∈ s,n.v<=k): ∀ n ∈ s,dA n.e.ak e->n.v<=k:=fun n h _=>hn n h
theorem AT (x:xi w b ns e (k+1) p s A R h) (hok:vw ns) {q t:List Nd} {m:Nd} (hs:s=q++m::t) (hq: ∀ n ∈ q,n.v<=k) (hl:¬ dA m.e.ak e): ∀ n ∈ s,dA n.e.ak e->n.v<=k:=by
 intro n hn hl2;have he:=x.eq;subst hs;rcases List.mem_append.1 hn with hn | hn
 .exact hq n hn
 .have hsort:=hok.sort;rw[he,List.pairwise_append] at hsort;have h2:=hsort.2.1;rw[List.pairwise_append,List.pairwise_cons] at h2;rcases List.mem_cons.1 hn with e | hn
  .subst e;exact absurd hl2 hl
  .exact absurd (iT (h2.2.1.1 n hn) hl2) hl
end
def Er (ns:List Nd) (v:Value):Nat:=match v with | .pointer (some A)=>(ns.dropWhile fun n=>decide (n.a≠A.block)).length | _=>0
theorem tf {ns p s:List Nd} {m:Nd} (hd:(ns.map Nd.a).Nodup) (h:ns=p++m::s):Er ns (.pointer (some ⟨m.a,0,none⟩))=s.length+1:=by
 subst h;show ((p++m::s).dropWhile fun n=>decide (n.a≠m.a)).length=_;have hp: ∀ n ∈ p,decide (n.a≠m.a)=true:=fun n hn=>by
  rw[List.map_append,List.nodup_append] at hd;have:=hd.2.2 n.a (List.mem_map_of_mem hn) m.a (by simp);simpa using this
 rw[List.dropWhile_append_of_pos hp,List.dropWhile_cons];simp
theorem uT {ns p s:List Nd} {i:Nat} (hd:(ns.map Nd.a).Nodup) (h:ns=p++s):Er ns (dL (cS da s i))<=s.length:=by
 rcases ja s i with ⟨h1,_⟩ | ⟨q,m,t,hs,h2,_,_⟩
 .rw[h1];exact Nat.zero_le _
 .rw[h2];have:=tf (p:=p++q) (s:=t) (m:=m) hd (by rw[h,hs];simp);show Er ns (.pointer (some ⟨m.a,0,none⟩))<=_;rw[this,hs];simp
def fU (b:Nat) (ps:List Nd) (k:Nat):Array Value:=((List.range 8).map fun j=>if k<=j then dL (some (au b ps j)) else dL none).toArray
theorem vF (b:Nat) (ps:List Nd) (k:Nat) (hk:k<8):(fU b ps (k+1)).setIfInBounds k (.pointer (some ⟨au b ps k,0,none⟩))=fU b ps k:=by
 apply Array.ext';apply List.ext_getElem?;intro j;unfold fU;simp only[List.setIfInBounds_toArray,List.getElem?_set,List.getElem?_map,List.length_map,List.length_range];by_cases hj:j<8
 .rw[List.getElem?_range hj];by_cases e:k=j
  .subst e;simp[hk,dL]
  .have:(k+1<=j)=(k<=j):=by apply propext;omega
   simp[e,this]
 .simp[hj,show ¬ k=j by omega]
abbrev EY (e:En):Array Value:= #[.slice e.key.1 e.key.2.2.length e.key.2.1,.slice e.value.1 e.value.2.2.length e.value.2.1,.int .i64 e.seq,.bool e.dead]
theorem pg (b:Nat) (ps:List Nd) (k:Nat) {j:Nat} (hj:j<8):(fU b ps k)[j]?=some (if k<=j then dL (some (au b ps j)) else dL none):=by unfold fU;simp[hj]
structure Kq (w:World) (b:Nat) (ns:List Nd) (e:En) (E B O V:Nat) (k:Nat) (p s:List Nd) (A R h:Nat) (wr:World):Prop where
 xp:xi w b ns e.ak k p s A R h
 k8:k<=8
 sat:Sat w (Pt O 181 (fU b (ahead e.ak ns) V)*(Pt B 181 (fU b [] 8)*(Pt E 120 (EY e)*bE))) wr
theorem lN (b hr:Nat) (ns:List Nd) (e:En) (w:World) (hv:View w b hr ns) (hok:vw ns) (he:nS w e):
 Calls Tryz.prog 108 #[.pointer (some ⟨b,0,none⟩),iZ e] w fun x w'=>x = .returned (.agg (fU b (ahead e.ak ns) 0))/\ao No w w':=by
 have HV:=ah hv;have HE:=ah he;have HO:=ah hok;have HEA:Hid (∀ e:En,iZ e = .agg #[.slice e.key.1 e.key.2.2.length e.key.2.1,.slice e.value.1 e.value.2.2.length e.value.2.1,.int .i64 e.seq,.bool e.dead]):=fun _=>rfl
 rw[HEA.o];clear hv he hok;go_enter Tryz.func108, Tryz.ntmps108;go_wp2_with fail;have s1:=(Sat.start w).bN (b:=w.heap.size) 120 (EY e) rfl;have s2:=s1.bN (b:=w.heap.size+1) 181 (fU b [] 8) (by simp);have s3:=s2.bN (b:=w.heap.size+1+1) 181 (fU b (ahead e.ak ns) 8) (by simp);obtain⟨W,hW⟩: ∃ W,W=((w.alloc (.cells (EY e) 120)).alloc (.cells (fU b [] 8) 181)).alloc (.cells (fU b (ahead e.ak ns) 8) 181):=⟨_,rfl⟩;rw[<-hW] at s3;have e8: ∀ ps,fU b ps 8 = #[.pointer none,.pointer none,.pointer none,.pointer none,.pointer none,.pointer none,.pointer none,.pointer none]:=fun _=>rfl
 rw[e8,e8] at hW;rw[<-hW];generalize w.heap.size=E at*
 obtain⟨O,hO⟩: ∃ O,O=E+1+1:=⟨_,rfl⟩;obtain⟨B,hB⟩: ∃ B,B=E+1:=⟨_,rfl⟩;rw[<-hO, <-hB] at s3;rw[<-hO, <-hB];have HS:=ah s3;clear s1 s2 s3 hW e8 hO hB;go_loopw [6,7] (fun at' i wr=> ∃ (k A R h:Nat) (p s:List Nd),i = .int .i64 ((k:Int) - 1)/\at' = .pointer (some ⟨A,0,none⟩)/\k<=8/\Hid (Kq w b ns e E B O k k p s A R h wr)) (fun _ i _=>(intOf i+1).toNat)
 case atStart=>exact⟨8,b,hr,8,[],ns,rfl,rfl,by omega,HV.o.xp HO.o _,by omega,HS.o⟩
 case round=>
  obtain⟨k,A,R,h,p,s,rfl,rfl,hk8,HD⟩:=hrel;rcases k with _ | q
  .have eO: ∀ ps,fU b ps 0 = #[.pointer (some ⟨au b ps 0,0,none⟩),.pointer (some ⟨au b ps 1,0,none⟩),.pointer (some ⟨au b ps 2,0,none⟩),.pointer (some ⟨au b ps 3,0,none⟩),.pointer (some ⟨au b ps 4,0,none⟩),.pointer (some ⟨au b ps 5,0,none⟩),.pointer (some ⟨au b ps 6,0,none⟩),.pointer (some ⟨au b ps 7,0,none⟩)]:=fun _=>rfl
   have hs:=HD.o.sat;have e8:fU b [] 8 = #[.pointer none,.pointer none,.pointer none,.pointer none,.pointer none,.pointer none,.pointer none,.pointer none]:=rfl;rw[eO,e8] at hs;have c0:=hs.cell 0;have c1:=hs.cell 1;have c2:=hs.cell 2;have c3:=hs.cell 3;have c4:=hs.cell 4;have c5:=hs.cell 5;have c6:=hs.cell 6;have c7:=hs.cell 7;have f0:=hs.ay.frozen 0;have f1:=hs.ay.frozen 1;have f2:=hs.ay.frozen 2;have f3:=hs.ay.frozen 3;have f4:=hs.ay.frozen 4;have f5:=hs.ay.frozen 5;have f6:=hs.ay.frozen 6;have f7:=hs.ay.frozen 7;have d0:=hs.ay.cell 0;have d1:=hs.ay.cell 1;have d2:=hs.ay.cell 2;have d3:=hs.ay.cell 3;have d4:=hs.ay.cell 4;have d5:=hs.ay.cell 5;have d6:=hs.ay.cell 6;have d7:=hs.ay.cell 7;have HQ:Hid (Value.agg (fU b (ahead e.ak ns) 0)=_):=congrArg Value.agg (eO _);have HS2:=ah hs;clear hs eO e8;have h9:=(((((((HS2.o.ay.set 0 (.pointer (some ⟨au b (ahead e.ak ns) 0,0,none⟩))).set 1 (.pointer (some ⟨au b (ahead e.ak ns) 1,0,none⟩))).set 2 (.pointer (some ⟨au b (ahead e.ak ns) 2,0,none⟩))).set 3 (.pointer (some ⟨au b (ahead e.ak ns) 3,0,none⟩))).set 4 (.pointer (some ⟨au b (ahead e.ak ns) 4,0,none⟩))).set 5 (.pointer (some ⟨au b (ahead e.ak ns) 5,0,none⟩))).set 6 (.pointer (some ⟨au b (ahead e.ak ns) 6,0,none⟩))).set 7 (.pointer (some ⟨au b (ahead e.ak ns) 7,0,none⟩));go_wp2_with fail;clear c0 c1 c2 c3 c4 c5 c6 c7 f0 f1 f2 f3 f4 f5 f6 f7 d0 d1 d2 d3 d4 d5 d6 d7;revert h9;generalize World.setCell _ _ _=W2;intro h9;refine bodyPost_ret (results_cell_row (p:=4) (by kernel_rfl) _ _ B 181 _ (0,0) _ rfl h9.at Tryz.underlying181 rfl (by kernel_rfl)) rfl ?_;exact⟨by rw[HQ.o];rfl,h9.aL⟩
  .have HI:Hid (((q+1:Nat):Int) - 1=q):=by unfold Hid;omega
   rw[HI.o];have hh:=HD.o.xp.hk;have q1:=(HD.o.xp.new HD.o.sat.aL).head;have q2:=(HD.o.xp.new HD.o.sat.aL).links q (by omega);have HD0:=HD;clear HD;go_wp2_with fail;clear hh q1 q2;go_loopw [6,8] (fun at' n wr=> ∃ (A R h:Nat) (p s:List Nd),at' = .pointer (some ⟨A,0,none⟩)/\n=dL (cS da s q)/\Hid (Kq w b ns e E B O (q+1) (q+1) p s A R h wr)) (fun _ n _=>Er ns n)
   case atStart=>exact⟨A,R,h,p,s,rfl,rfl,HD0.o⟩
   case round=>
    clear HD0;obtain⟨A1,R1,h1,p1,s1,rfl,rfl,HD⟩:=hrel;have hq:q<8:=by omega
    have wq:IntKind.i64.wrap ((q:Int) - 1)=(q:Int) - 1:=by rw[IntKind.wrap_i64];omega
    rcases ja s1 q with ⟨e1,hlow⟩ | ⟨u,m,t,e2,e1,hm,hu⟩
    .have HX:=ah (Bo HD.o.xp hlow);have e3:dL (cS da s1 q) = .pointer none:=by rw[e1];rfl
     rw[e3];clear e1 e3 hlow;have f1:=HD.o.sat.frozen q;have f2:wr.cell? ⟨O,q,none⟩=some (.pointer none):=by rw[HD.o.sat.cell q,pg _ _ _ hq,if_neg (by omega)];rfl
     go_wp2_with fail;go_region
     go_wp2_with fail;go_roundw
     .have hs:=HD.o.sat.drew.set q (.pointer (some ⟨A1,0,none⟩));rw[<-HD.o.xp.here HX.o,vF _ _ _ hq] at hs;rw[HD.o.xp.here HX.o] at hs;exact⟨q,A1,R1,h1,p1,s1,rfl,rfl,by omega,HD.o.xp.down HX.o,by omega,hs⟩
     .simp[intOf]<;>omega
    .have e3:dL (cS da s1 q) = .pointer (some ⟨m.a,0,none⟩):=by rw[e1];rfl
     rw[e3];have hsp:=HD.o.xp.eq;have hv2:=HV.o.new HD.o.sat.aL;obtain⟨n0,n1,n2,n3,n4,n5,n6⟩:=hv2.node (p1++u) m t (by rw[hsp,e2];simp);unfold aJ at n1 n2;have HR2:=ah hv2.nodup;have HN:=ah n6;have c0:=HD.o.sat.right.right.cell 0;have c1:=HD.o.sat.right.right.cell 1;have c2:=HD.o.sat.right.right.cell 2;have c3:=HD.o.sat.right.right.cell 3;have HU:=ah hu;have E2:=ah e2;have E1:=ah hsp;have HM:=ah hm;clear hu e2 hsp hm e1 e3 hv2 n5 n6 n0;have HC:=ah HD.o.sat.aL;go_wp2_with fail;go_region_law (go_simp;go_at_call 147;refine(pM m.e e _ (HN.o.new (ao.refl No wr).drew) (HE.o.new HC.o.drew)).mono ?_;rintro x w5 ⟨rfl,k5⟩)
     all_goals
      cases hb:az m.e.ak e.ak with
      | false=>
       have HX:=ah (AT HD.o.xp HO.o E2.o HU.o (by unfold dA;rw[hb];simp));have hs0:=HD.o.sat.drew.new k5;have f1:=hs0.frozen q;have f2:w5.cell? ⟨O,q,none⟩=some (.pointer none):=by rw[hs0.cell q,pg _ _ _ hq,if_neg (by omega)];rfl
       have HS0:=ah hs0;clear hs0;go_wp2_with fail;go_roundw
       .have hs:=HS0.o.set q (.pointer (some ⟨A1,0,none⟩));rw[<-HD.o.xp.here HX.o,vF _ _ _ hq] at hs;rw[HD.o.xp.here HX.o] at hs;exact⟨q,A1,R1,h1,p1,s1,rfl,rfl,by omega,HD.o.xp.down HX.o,by omega,hs⟩
       .simp[intOf]<;>omega
      | true=>
       have HP:=ah (HD.o.xp.step HV.o HO.o E2.o HM.o hb);have HS0:=ah (HD.o.sat.drew.new k5);have hf:=HO.o.full m (by rw[E1.o,E2.o];simp);have hmq:=HM.o;have q3:=(HP.o.new HS0.o.aL).head;have q4:=(HP.o.new HS0.o.aL).links q (by omega);go_wp2_with fail;go_roundw
       .exact⟨m.a,m.r,m.h,_,t,rfl,rfl,HP.o,HD.o.k8,HS0.o⟩
       .have r1:=tf (p:=p1++u) (s:=t) (m:=m) HR2.o (by rw[E1.o,E2.o];simp);have r2:=uT (p:=p1++(u++[m])) (s:=t) (i:=q) HR2.o (by rw[E1.o,E2.o];simp);simp;omega
end Go.Proofs.YtmbaiglpgaoogaaGreat
