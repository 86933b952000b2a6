/- Joined, as they were built one by one: Mem1 Mem2 Viw Thn Sto0 Mem3 Skip Skip1 Skip2 Skip3 Skip4 Skip5. -/
import Derived.Lib.Bytealg
import Derived.Lib.UnsafeStr
import Derived.Laws.Externs
import Derived.StringKeys
import Derived.Test.YtmbaiglpgaoogaaGreatC02
import Derived.Test.YtmbaiglpgaoogaaGreatC04
set_option maxHeartbeats 16000000
set_option linter.unusedVariables false
set_option maxRecDepth 100000
namespace Go.Proofs.YtmbaiglpgaoogaaGreat
open Go.RowKit Z
structure En where
 key:cW
 value:cW
 seq:Int
 dead:Bool
structure aw where
 key:List UInt8
 value:List UInt8
 seq:Int
 dead:Bool
def En.ao (e:En):aw:=⟨e.key.2.2,e.value.2.2,e.seq,e.dead⟩
def aO (s:cW):Value:= .slice s.1 s.2.2.length s.2.1
def cu (e:En):List Value:=[aO e.key,aO e.value,.int .i64 e.seq,.bool e.dead]
def jD (e:En):Value:= .agg #[.slice e.key.1 e.key.2.2.length e.key.2.1,.slice e.value.1 e.value.2.2.length e.value.2.1,.int .i64 e.seq,.bool e.dead]
def pJ (w:World) (e:En):Prop:=Rd w e.key.1 e.key.2.2/\Rd w e.value.1 e.value.2.2
theorem pJ.new {w w':World} {e:En} (h:pJ w e) (k:aq No w w'):pJ w' e:=⟨h.1.new k,h.2.new k⟩
def pU (a b:aw):Int:=if Lib.compareBytes a.key b.key=0 then (if b.seq<a.seq then -1 else if a.seq<b.seq then 1 else 0) else Lib.compareBytes a.key b.key
def aF (a b:aw):Bool:=decide (pU a b<0)
section
variable {P:Program} {w:World} {A B:Option Addr} {l m:List UInt8}
theorem ue: ∀ (l:List UInt8) (b o:Nat) (acc:ByteArray),(∀ j (hj:j<l.length),w.cell? ⟨b,o+j,none⟩=some (.int .u8 (l[j].toNat:Int)))->
 (Extern.Bytes.loadBytes ⟨b,o,none⟩ l.length acc).run P w = .ok ⟨acc.data++l.toArray⟩ w
 | [],b,o,acc,_=>by simp[Extern.Bytes.loadBytes]
 | x::l,b,o,acc,h=>by
  have h0:w.cell? ⟨b,o,none⟩=some (.int .u8 (x.toNat:Int)):=h 0 (by simp);have ih:=ue l b (o+1) (acc.push x) (fun j hj=>by
   have:=h (j+1) (by simpa using hj);rw[show o+1+j=o+(j+1) by omega];exact this)
  simp only[List.length_cons,Extern.Bytes.loadBytes,Sem.run_bind,run_load,h0,Result.andThen];have e:((x.toNat:Int).toNat.toUInt8)=x:=by simp
  rw[e];show (Extern.Bytes.loadBytes (Addr.add ⟨b,o,none⟩ 1) l.length (acc.push x)).run P w=_;rw[show (Addr.add ⟨b,o,none⟩ 1)=⟨b,o+1,none⟩ from rfl,ih];congr 1
  apply ByteArray.ext;simp[ByteArray.push]
theorem pn (h:Rd w A l) (c:Nat):(Extern.Bytes.bytesOf (.slice A l.length c)).run P w = .ok ⟨l.toArray⟩ w:=by
 rcases A with _ | a
 .have hl:l=[]:=by
   rcases l with _ | ⟨x,l⟩
   .rfl
   .obtain⟨b,o,e,_⟩:=h (by simp);cases e
  subst hl;rfl
 .by_cases hl:l=[]
  .subst hl;rfl
  .obtain⟨b,o,e,_⟩:=h.get (j:=0) (List.length_pos_iff.2 hl);injection e with e
   subst e;have:=ue (P:=P) (w:=w) l b o .empty (fun j hj=>by
    obtain⟨b',o',e,hc⟩:=h.get hj;injection e with e
    injection e with e1 e2
    subst e1;subst e2;exact hc)
   show (Extern.Bytes.loadBytes ⟨b,o,none⟩ l.length .empty).run P w=_;rw[this];congr 1
   apply ByteArray.ext;simp
theorem Gz (h:Rd w A l) (k:Rd w B m) (c d:Nat):(Extern.BytealgCompare.compare #[.slice A l.length c,.slice B m.length d]).run P w = .ok (.int .i64 (Lib.compareBytes l m)) w:=by
 change Sem.run P (do pure (goInt (Extern.BytealgCompare.cmp (<-Extern.Bytes.bytesOf (.slice A l.length c)) (<-Extern.Bytes.bytesOf (.slice B m.length d))))) w=_
 simp only[Sem.run_bind,Sem.run_pure,pn h,pn k,Result.andThen];rw[Lib.cmp_eq];rfl
end
theorem qN (a b:cW) (w:World) (h:Rd w a.1 a.2.2) (k:Rd w b.1 b.2.2):
 Calls Tryz.prog 145 #[.slice a.1 a.2.2.length a.2.1,.slice b.1 b.2.2.length b.2.1] w fun e w'=>e = .returned (.int .i64 (Lib.compareBytes a.2.2 b.2.2))/\w'=w:=by
 go_enter Tryz.func145, Tryz.ntmps145;go_wp2;rw[run_callFunc_extern Tryz.func185 (by kernel_rfl) (by kernel_rfl) (by kernel_rfl) (e:=Extern.BytealgCompare.compare) (by kernel_rfl),Gz h k];simp only[Result.andThen];rw[Oper.upon_value];go_wp2;go_ret;exact⟨rfl,rfl⟩
theorem F1 (x:Int) (w:World):Calls Tryz.prog 133 #[.int .i64 x] w fun e w'=>e = .returned (.bool false)/\w'=w:=by
 go_enter Tryz.func133, Tryz.ntmps133;go_wp2;go_ret;exact⟨by simp,rfl⟩
def Hl (a b:Int):Int:=if a<b then -1 else if b<a then 1 else 0
theorem GJ (a b:Int) (w:World):Calls Tryz.prog 96 #[.int .i64 a,.int .i64 b] w fun e w'=>e = .returned (.int .i64 (Hl a b))/\w'=w:=by
 unfold Hl;go_enter Tryz.func96, Tryz.ntmps96;go_wp2_with (go_at_call 133;refine(F1 _ _).mono ?_;rintro e w' ⟨rfl,rfl⟩)
 all_goals (go_ret;refine⟨?_,rfl⟩;simp<;>omega)
theorem JP (a b:aw) (c:Int) (h:Lib.compareBytes a.key b.key=c):pU a b=if c=0 then Hl b.seq a.seq else c:=by unfold pU Hl;rw[h]
theorem uq (a b:En) (w:World) (h:pJ w a) (k:pJ w b):
 Calls Tryz.prog 109 #[jD a,jD b] w fun e w'=>e = .returned (.int .i64 (pU a.ao b.ao))/\aq No w w':=by
 have HQ:Hid (pU a.ao b.ao=if Lib.compareBytes a.key.2.2 b.key.2.2=0 then Hl b.seq a.seq else Lib.compareBytes a.key.2.2 b.key.2.2):=JP _ _ _ rfl;unfold jD;go_enter Tryz.func109, Tryz.ntmps109;have HL:=ah h;have HK:=ah k;clear h k;go_wp2_with (first
  | (go_at_call 145;refine(qN a.key b.key _ (HL.o.1.alloc _ |>.alloc _) (HK.o.1.alloc _ |>.alloc _)).mono ?_;rintro e w' ⟨rfl,rfl⟩)
  | (go_at_call 96;refine(GJ _ _ _).mono ?_;rintro e w' ⟨rfl,rfl⟩))
 .go_ret;have hn:¬ Lib.compareBytes a.key.2.2 b.key.2.2=0:=by first | assumption | simp_all
  exact⟨by rw[HQ.o,if_neg hn];rfl,((aq.refl No w).alloc _).alloc _⟩
 .go_ret;have hn:Lib.compareBytes a.key.2.2 b.key.2.2=0:=by first | assumption | simp_all
  exact⟨by rw[HQ.o,if_pos hn];rfl,((aq.refl No w).alloc _).alloc _⟩
theorem sF (a b:En) (w:World) (h:pJ w a) (k:pJ w b):
 Calls Tryz.prog 147 #[jD a,jD b] w fun e w'=>e = .returned (.bool (aF a.ao b.ao))/\aq No w w':=by
 have HQ:Hid (aF a.ao b.ao=decide (pU a.ao b.ao<0)):=rfl;have HE:Hid (∀ e:En,jD e = .agg #[.slice e.key.1 e.key.2.2.length e.key.2.1,.slice e.value.1 e.value.2.2.length e.value.2.1,.int .i64 e.seq,.bool e.dead]):=fun _=>rfl
 rw[HE.o,HE.o];go_enter Tryz.func147, Tryz.ntmps147;have HL:=ah h;have HK:=ah k;clear h k;have k0:aq No w ((w.alloc (.cells #[.slice a.key.1 a.key.2.2.length a.key.2.1,.slice a.value.1 a.value.2.2.length a.value.2.1,.int .i64 a.seq,.bool a.dead] 120)).alloc (.cells #[.slice b.key.1 b.key.2.2.length b.key.2.1,.slice b.value.1 b.value.2.2.length b.value.2.1,.int .i64 b.seq,.bool b.dead] 120)):=((aq.refl No w).alloc _).alloc _;go_wp2_with (go_at_call 109;rw[<-HE.o, <-HE.o];refine(uq a b _ (HL.o.new k0) (HK.o.new k0)).mono ?_;rintro e w' ⟨rfl,k1⟩);go_ret;refine⟨by rw[HQ.o];rfl,k0.tr k1⟩
theorem nn: ∀ a:List UInt8,Lib.compareBytes a a=0
 | []=>rfl
 | x::a=>by unfold Lib.compareBytes;rw[if_neg (UInt8.lt_irrefl x),if_neg (UInt8.lt_irrefl x)];exact nn a
theorem wk (x y:UInt8) (h1:¬ x<y) (h2:¬ y<x):x=y:=UInt8.le_antisymm (UInt8.not_lt.1 h2) (UInt8.not_lt.1 h1)
theorem yP: ∀ {a b:List UInt8},Lib.compareBytes a b=0->a=b
 | [],[],_=>rfl
 | [],_::_,h=>by simp[Lib.compareBytes] at h
 | _::_,[],h=>by simp[Lib.compareBytes] at h
 | x::a,y::b,h=>by
  unfold Lib.compareBytes at h;by_cases h1:x<y
  .rw[if_pos h1] at h;omega
  .rw[if_neg h1] at h;by_cases h2:y<x
   .rw[if_pos h2] at h;omega
   .rw[if_neg h2] at h;rw[wk x y h1 h2,yP h]
theorem we: ∀ (a b:List UInt8),Lib.compareBytes b a = - Lib.compareBytes a b
 | [],[]=>rfl
 | [],_::_=>rfl
 | _::_,[]=>rfl
 | x::a,y::b=>by
  unfold Lib.compareBytes;by_cases h1:x<y
  .rw[if_pos h1,if_neg (UInt8.lt_asymm h1),if_pos h1];rfl
  .rw[if_neg h1];by_cases h2:y<x
   .rw[if_pos h2,if_neg h1,if_pos h2]
   .rw[if_neg h2,if_neg h2,if_neg h1];exact we a b
theorem iQ: ∀ (a b:List UInt8),Op.bytesLess a b=decide (Lib.compareBytes a b<0)
 | [],[]=>rfl
 | [],_::_=>rfl
 | _::_,[]=>rfl
 | x::a,y::b=>by
  unfold Lib.compareBytes Op.bytesLess;by_cases h1:x<y
  .rw[if_pos h1];simp[h1]
  .rw[if_neg h1];by_cases h2:y<x
   .have:¬ x=y:=fun e=>by subst e;exact UInt8.lt_irrefl _ h2
    rw[if_pos h2];simp[h1,this]
   .rw[if_neg h2,wk x y h1 h2,iQ a b];simp
theorem dI: ∀ {a b c:List UInt8},Lib.compareBytes a b<0->Lib.compareBytes b c<0->Lib.compareBytes a c<0
 | [],[],_,h,_=>by simp[Lib.compareBytes] at h
 | _::_,[],_,h,_=>by simp[Lib.compareBytes] at h
 | [],_::_,[],_,h=>by simp[Lib.compareBytes] at h
 | [],_::_,_::_,_,_=>by simp[Lib.compareBytes]
 | _::_,_::_,[],_,h=>by simp[Lib.compareBytes] at h
 | x::a,y::b,z::c,h,k=>by
  unfold Lib.compareBytes at h k ⊢;by_cases h1:x<y
  .by_cases k1:y<z
   .rw[if_pos (UInt8.lt_trans h1 k1)];omega
   .rw[if_neg k1] at k;by_cases k2:z<y
    .rw[if_pos k2] at k;omega
    .rw[<-wk y z k1 k2,if_pos h1];omega
  .rw[if_neg h1] at h;by_cases h2:y<x
   .rw[if_pos h2] at h;omega
   .rw[if_neg h2] at h;rw[wk x y h1 h2];by_cases k1:y<z
    .rw[if_pos k1];omega
    .rw[if_neg k1] at k ⊢;by_cases k2:z<y
     .rw[if_pos k2] at k;omega
     .rw[if_neg k2] at k ⊢;exact dI h k
section
variable {a b c:aw}
def dJ (a b:aw):Prop:=aF a b=true
theorem cU:dJ a b↔Lib.compareBytes a.key b.key<0\/(a.key=b.key/\b.seq<a.seq):=by
 unfold dJ aF pU;by_cases h:Lib.compareBytes a.key b.key=0
 .rw[if_pos h];have:=yP h;have h0:¬ Lib.compareBytes a.key b.key<0:=by omega
  by_cases h1:b.seq<a.seq
  .rw[if_pos h1];simp[this,h1]
  .rw[if_neg h1];by_cases h2:a.seq<b.seq
   .rw[if_pos h2];simp[h0,h1]
   .rw[if_neg h2];simp[h0,h1]
 .rw[if_neg h];have:¬ a.key=b.key:=fun e=>h (by rw[e];exact nn _)
  simp[this]
theorem jx (h:dJ a b) (k:dJ b c):dJ a c:=by
 rw[cU] at*
 rcases h with h | ⟨h,h'⟩<;>rcases k with k | ⟨k,k'⟩
 .exact .inl (dI h k)
 .rw[<-k];exact .inl h
 .rw[h];exact .inl k
 .exact .inr ⟨h.trans k,by omega⟩
def jm (a b:aw):Prop:=a.key=b.key/\a.seq=b.seq
theorem su:pU a b=0↔jm a b:=by
 unfold pU jm;by_cases h:Lib.compareBytes a.key b.key=0
 .rw[if_pos h];have:=yP h;by_cases h1:b.seq<a.seq
  .rw[if_pos h1];simp;intro _;omega
  .rw[if_neg h1];by_cases h2:a.seq<b.seq
   .rw[if_pos h2];simp;intro _;omega
   .rw[if_neg h2];simp[this];omega
 .rw[if_neg h];have:¬ a.key=b.key:=fun e=>h (by rw[e];exact nn _)
  simp[this,h]
theorem Cp (a b:aw):dJ a b\/dJ b a\/jm a b:=by
 rw[cU,cU,we a.key b.key];unfold jm;by_cases h:Lib.compareBytes a.key b.key=0
 .have:=yP h;rw[this];rcases Int.lt_trichotomy a.seq b.seq with q | q | q
  .exact .inr (.inl (.inr ⟨rfl,q⟩))
  .exact .inr (.inr ⟨rfl,q⟩)
  .exact .inl (.inr ⟨rfl,q⟩)
 .by_cases h1:Lib.compareBytes a.key b.key<0
  .exact .inl (.inl h1)
  .exact .inr (.inl (.inl (by omega)))
theorem oD (h:jm a b):¬ dJ a b:=by
 rw[cU,h.1,h.2,nn];simp
theorem jm.symm (h:jm a b):jm b a:=⟨h.1.symm,h.2.symm⟩
instance (a b:aw):Decidable (dJ a b):=inferInstanceAs (Decidable (_=_))
end
theorem gQ {α:Type} {f:α->Bool}: ∀ {L:List α} {x:α},x ∈ L.takeWhile f->f x=true
 | [],_,h=>by cases h
 | y::L,x,h=>by
  rw[List.takeWhile_cons] at h;split at h
  .rename_i h1;rcases List.mem_cons.1 h with rfl | h
   .exact h1
   .exact gQ h
  .cases h
theorem oW {α:Type} {f:α->Bool}: ∀ {L:List α},(∀ x ∈ L,f x=true)->L.takeWhile f=L/\L.dropWhile f=[]
 | [],_=>⟨rfl,rfl⟩
 | y::L,h=>by
  obtain⟨h1,h2⟩:=oW (L:=L) fun x hx=>h x (List.mem_cons_of_mem _ hx)
  rw[List.takeWhile_cons,List.dropWhile_cons,h y List.mem_cons_self,h1];exact⟨rfl,h2⟩
abbrev Kv:=List UInt8 × List UInt8
def nH (a b:Kv):Prop:=Lib.compareBytes a.1 b.1<0
def ba (k:List UInt8):List Kv->Option (List UInt8)
 | []=>none
 | p::M=>if p.1=k then some p.2 else ba k M
def qP (k:List UInt8) (s:Int) (e:aw):Bool:=decide (e.key=k) && decide (e.seq<=s)
def mw (k:List UInt8) (s:Int) (L:List aw):Option aw:=L.find? (qP k s)
def vy (e:aw):Option (List UInt8):=if e.dead=true then none else some e.value
def ew (k:List UInt8) (s:Int) (L:List aw):Option (List UInt8):=(mw k s L).bind vy
def cC (s:Int):Option (List UInt8)->List aw->List aw
 | _,[]=>[]
 | c,e::L=>if s<e.seq\/c=some e.key then cC s c L else (if e.dead=true then cC s (some e.key) L else e::cC s (some e.key) L)
def cT (e:aw):Kv:=(e.key,e.value)
def eP (s:Int) (L:List aw):List Kv:=(cC s none L).map cT
theorem nF {k:List UInt8} {s:Int} {e:aw}:qP k s e=true↔e.key=k/\e.seq<=s:=by unfold qP;simp
theorem mM {k:List UInt8} {s:Int} {e:aw} {L:List aw} (h:e.key=k/\e.seq<=s):mw k s (e::L)=some e:=by
 unfold mw;rw[List.find?_cons,nF.2 h]
theorem rV {k:List UInt8} {s:Int} {e:aw} {L:List aw} (h:¬ (e.key=k/\e.seq<=s)):mw k s (e::L)=mw k s L:=by
 unfold mw;rw[List.find?_cons];have h2:qP k s e=false:=by rw[Bool.eq_false_iff];exact fun h3=>h (nF.1 h3)
 rw[h2]
theorem BX {k:List UInt8} {s:Int} {L:List aw} (h: ∀ x ∈ L,x.key≠k):mw k s L=none:=by
 unfold mw;rw[List.find?_eq_none];exact fun x hx h2=>h x hx (nF.1 h2).1
theorem mi {k:List UInt8} {s:Int} {A B:List aw} (h: ∀ x ∈ A,x.key≠k):mw k s (A++B)=mw k s B:=by
 unfold mw;rw[List.find?_append];have:A.find? (qP k s)=none:=by rw[List.find?_eq_none];exact fun x hx h2=>h x hx (nF.1 h2).1
 rw[this];rfl
theorem mV {k:List UInt8} {s:Int} {A B:List aw} (h: ∀ x ∈ B,x.key≠k):mw k s (A++B)=mw k s A:=by
 unfold mw;rw[List.find?_append];have:B.find? (qP k s)=none:=by rw[List.find?_eq_none];exact fun x hx h2=>h x hx (nF.1 h2).1
 rw[this];cases A.find? (qP k s)<;>rfl
theorem JL {k:List UInt8} {s:Int} {L:List aw} (h: ∀ x ∈ L,x.key≠k):ew k s L=none:=by unfold ew;rw[BX h];rfl
theorem qG {k:List UInt8} {s:Int} {e:aw} {L:List aw} (h:e.key=k/\e.seq<=s):ew k s (e::L)=vy e:=by unfold ew;rw[mM h];rfl
theorem pb {k:List UInt8} {s:Int} {e:aw} {L:List aw} (h:¬ (e.key=k/\e.seq<=s)):ew k s (e::L)=ew k s L:=by unfold ew;rw[rV h]
theorem dG {a b:List UInt8} (h:Lib.compareBytes a b<0):a≠b:=fun e=>by subst e;rw[nn] at h;omega
theorem wv (a b:List UInt8):Lib.compareBytes a b<0\/a=b\/Lib.compareBytes b a<0:=by
 rcases Int.lt_trichotomy (Lib.compareBytes a b) 0 with h | h | h
 .exact .inl h
 .exact .inr (.inl (yP h))
 .exact .inr (.inr (by rw[we a b];omega))
def Mg (k:List UInt8) (L:List aw):Prop:= ∀ x ∈ L,k=x.key\/Lib.compareBytes k x.key<0
theorem rL {e:aw} {L:List aw} (h:(e::L).Pairwise dJ):Mg e.key L:=fun x hx=>by
 rcases cU.1 ((List.pairwise_cons.1 h).1 x hx) with h2 | ⟨h2,_⟩
 .exact .inr h2
 .exact .inl h2
theorem kY (s:Int): ∀ (L:List aw) (c:Option (List UInt8)),(cC s c L).Sublist L
 | [],c=>List.Sublist.refl _
 | e::L,c=>by
  unfold cC;split
  .exact(kY s L c).cons _
  .split
   .exact(kY s L _).cons _
   .exact(kY s L _).cons_cons _
theorem kZ (s:Int): ∀ (L:List aw) (c:Option (List UInt8)),L.Pairwise dJ->(∀ k,c=some k->Mg k L)->
 (cC s c L).Pairwise (fun a b=>Lib.compareBytes a.key b.key<0)/\ ∀ k,c=some k-> ∀ x ∈ cC s c L,Lib.compareBytes k x.key<0
 | [],c,_,_=>⟨List.Pairwise.nil,fun k _ x hx=>by cases hx⟩
 | e::L,c,h,hc=>by
  have h2:=(List.pairwise_cons.1 h).2;have hc2: ∀ k,c=some k->Mg k L:=fun k hk x hx=>hc k hk x (List.mem_cons_of_mem _ hx)
  obtain⟨i1,i2⟩:=kZ s L c h2 hc2;obtain⟨j1,j2⟩:=kZ s L (some e.key) h2 (fun k hk=>by injection hk with hk;subst hk;exact rL h);have key:¬ (s<e.seq\/c=some e.key)-> ∀ k,c=some k->Lib.compareBytes k e.key<0:=fun hn k hk=>by
   rcases hc k hk e List.mem_cons_self with h3 | h3
   .exact absurd (.inr (by rw[hk,h3])) hn
   .exact h3
  unfold cC;split
  .exact⟨i1,i2⟩
  .rename_i hn;split
   .exact⟨j1,fun k hk x hx=>dI (key hn k hk) (j2 _ rfl x hx)⟩
   .refine⟨List.pairwise_cons.2 ⟨fun x hx=>j2 _ rfl x hx,j1⟩,fun k hk x hx=>?_⟩;rcases List.mem_cons.1 hx with rfl | hx
    .exact key hn k hk
    .exact dI (key hn k hk) (j2 _ rfl x hx)
theorem iU {s:Int} {L:List aw} (h:L.Pairwise dJ):(eP s L).Pairwise nH:=by
 unfold eP;rw[List.pairwise_map];exact(kZ s L none h (fun k hk=>by cases hk)).1
theorem rO (s:Int) (k:List UInt8): ∀ (L:List aw) (c:Option (List UInt8)),L.Pairwise dJ->(∀ k,c=some k->Mg k L)->
 ba k ((cC s c L).map cT)=if c=some k then none else ew k s L
 | [],c,_,_=>by unfold cC;split<;>rfl
 | e::L,c,h,hc=>by
  have h2:=(List.pairwise_cons.1 h).2;have hc2: ∀ k,c=some k->Mg k L:=fun k hk x hx=>hc k hk x (List.mem_cons_of_mem _ hx)
  have ih:=rO s k L c h2 hc2;have jh:=rO s k L (some e.key) h2 (fun k hk=>by injection hk with hk;subst hk;exact rL h);unfold cC;by_cases h1:s<e.seq
  .rw[if_pos (.inl h1),ih,pb (e:=e) (fun h3=>by omega)]
  .by_cases h3:c=some e.key
   .rw[if_pos (.inr h3),ih];by_cases hk:e.key=k
    .rw[if_pos (by rw[h3,hk]),if_pos (by rw[h3,hk])]
    .rw[if_neg (by rw[h3];simpa using hk),if_neg (by rw[h3];simpa using hk),pb (fun h4=>hk h4.1)]
   .rw[if_neg (fun h4=>h4.elim h1 h3)];by_cases hk:e.key=k
    .have hck:¬ c=some k:=by rw[<-hk];exact h3
     rw[if_neg hck,qG ⟨hk,by omega⟩];unfold vy;split
     .rw[jh,if_pos (by rw[hk])]
     .rw[List.map_cons];unfold ba;rw[if_pos (show (cT e).1=k from hk)];rfl
    .have hn:c=some k->ew k s L=none:=fun h4=>by
      apply JL;intro x hx h5;rcases hc k h4 e List.mem_cons_self with h6 | h6
      .exact hk h6.symm
      .rcases rL h x hx with h7 | h7
       .exact hk (h7.trans h5)
       .exact dG (dI h6 h7) h5.symm
     have hal:(if c=some k then none else ew k s (e::L))=ew k s L:=by
      rw[pb (fun h4=>hk h4.1)];split
      .rename_i h4;rw[hn h4]
      .rfl
     rw[hal];have h5:¬ (some e.key=some k):=by simpa using hk
     split
     .rw[jh,if_neg h5]
     .rw[List.map_cons];unfold ba;rw[if_neg (show ¬ (cT e).1=k from hk),jh,if_neg h5]
theorem nO {s:Int} {L:List aw} (h:L.Pairwise dJ) (k:List UInt8):ba k (eP s L)=ew k s L:=by
 unfold eP;rw[rO s k L none h (fun k hk=>by cases hk),if_neg (by simp)]
theorem eQ {k:List UInt8}: ∀ {M:List Kv},(∀ p ∈ M,p.1≠k)->ba k M=none
 | [],_=>rfl
 | p::M,h=>by unfold ba;rw[if_neg (h p List.mem_cons_self)];exact eQ fun q hq=>h q (List.mem_cons_of_mem _ hq)
theorem nD: ∀ {A B:List Kv},A.Pairwise nH->B.Pairwise nH->(∀ k,ba k A=ba k B)->A=B
 | [],[],_,_,_=>rfl
 | [],b::B,_,_,h=>by
  have:=h b.1;unfold ba at this;rw[if_pos rfl] at this
  cases this
 | a::A,[],_,_,h=>by
  have:=h a.1;unfold ba at this;rw[if_pos rfl] at this
  cases this
 | a::A,b::B,ha,hb,h=>by
  obtain⟨a1,a2⟩:=List.pairwise_cons.1 ha;obtain⟨b1,b2⟩:=List.pairwise_cons.1 hb;have hk:a.1=b.1:=by
   rcases wv a.1 b.1 with h1 | h1 | h1
   .have h2:=h a.1;rw[eQ (M:=b::B) (fun p hp=>?_)] at h2
    .unfold ba at h2;rw[if_pos rfl] at h2;cases h2
    .rcases List.mem_cons.1 hp with rfl | hp
     .exact(dG h1).symm
     .exact(dG (dI h1 (b1 p hp))).symm
   .exact h1
   .have h2:=h b.1;rw[eQ (M:=a::A) (fun p hp=>?_)] at h2
    .unfold ba at h2;rw[if_pos rfl] at h2;cases h2
    .rcases List.mem_cons.1 hp with rfl | hp
     .exact(dG h1).symm
     .exact(dG (dI h1 (a1 p hp))).symm
  have hv:a.2=b.2:=by
   have h2:=h a.1;unfold ba at h2;rw[if_pos rfl,if_pos hk.symm] at h2;injection h2
  have he:a=b:=Prod.ext hk hv;subst he;rw[nD a2 b2 fun k=>?_];have h2:=h k;unfold ba at h2;by_cases hka:a.1=k
  .rw[eQ (fun p hp=>by rw[<-hka];exact(dG (a1 p hp)).symm),eQ (fun p hp=>by rw[<-hka];exact(dG (b1 p hp)).symm)]
  .rwa [if_neg hka,if_neg hka] at h2
theorem zi {k v:List UInt8}: ∀ {M:List Kv},ba k M=some v->(k,v) ∈ M
 | [],h=>by cases h
 | p::M,h=>by
  unfold ba at h;split at h
  .rename_i h1;injection h with h
   exact List.mem_cons.2 (.inl (Prod.ext h1.symm h.symm))
  .exact List.mem_cons_of_mem _ (zi h)
theorem BI {s:Int} {L:List aw} {M:List Kv} (h:L.Pairwise dJ) (hM:M.Pairwise nH) (he: ∀ k,ew k s L=ba k M):eP s L=M:=
 nD (iU h) hM fun k=>by rw[nO h,he]
structure cJ where
 key:List UInt8
 value:List UInt8
 dead:Bool
def AH (p:cJ):Option (List UInt8):=if p.dead=true then none else some p.value
def fG (p:cJ) (M:List Kv):List Kv:=M.takeWhile (fun q=>Lib.compareBytes q.1 p.key<0)++((if p.dead=true then [] else [(p.key,p.value)])++(match M.dropWhile (fun q=>Lib.compareBytes q.1 p.key<0) with | []=>[] | q::T=>if q.1=p.key then T else q::T))
theorem rQ (p:cJ) {M:List Kv} (h:M.Pairwise nH): ∃ A B,fG p M=A++((if p.dead=true then [] else [(p.key,p.value)])++B)/\(∀ q ∈ A,Lib.compareBytes q.1 p.key<0)/\(∀ q ∈ B,Lib.compareBytes p.key q.1<0)/\(A++B).Pairwise nH/\(∀ k,k≠p.key->ba k (A++B)=ba k M):=by
 have e:=(List.takeWhile_append_dropWhile (p:=fun q:Kv=>decide (Lib.compareBytes q.1 p.key<0)) (l:=M));have hA: ∀ q ∈ M.takeWhile (fun q=>Lib.compareBytes q.1 p.key<0),Lib.compareBytes q.1 p.key<0:=fun q hq=>by
  have:=gQ hq;simpa using this
 have gapp: ∀ (k:List UInt8) (A B C:List Kv),ba k B=ba k C->ba k (A++B)=ba k (A++C):=fun k A B C h=>by
  induction A with
  | nil=>exact h
  | cons a A ih=>show (if a.1=k then some a.2 else ba k (A++B))=(if a.1=k then some a.2 else ba k (A++C));rw[ih]
 unfold fG
 cases hd:M.dropWhile (fun q=>Lib.compareBytes q.1 p.key<0) with
 | nil=>
  rw[hd,List.append_nil] at e;exact⟨_,[],rfl,hA,by simp,by rw[List.append_nil,e];exact h,fun k _=>by rw[List.append_nil,e]⟩
 | cons q T=>
  rw[hd] at e;have hq:¬ Lib.compareBytes q.1 p.key<0:=by
   have:=List.head_dropWhile_not (p:=fun q:Kv=>decide (Lib.compareBytes q.1 p.key<0)) (l:=M) (by rw[hd];simp);simp only[hd,List.head_cons] at this;simpa using this
  have hp:=h;rw[<-e] at hp;obtain⟨_,h2,h3⟩:=List.pairwise_append.1 hp;obtain⟨h4,h5⟩:=List.pairwise_cons.1 h2;by_cases hqk:q.1=p.key
  .refine⟨_,T,by simp only[if_pos hqk],hA,fun x hx=>by rw[<-hqk];exact h4 x hx,?_,fun k hk=>?_⟩
   .exact hp.sublist (List.Sublist.append (List.Sublist.refl _) (List.sublist_cons_self _ _))
   .have h6:=congrArg (ba k) e;rw[<-h6];refine gapp k _ _ _ ?_;show _=if q.1=k then some q.2 else ba k T
    rw[if_neg (by rw[hqk];exact fun h=>hk h.symm)]
  .have hlt:Lib.compareBytes p.key q.1<0:=by
    rcases wv p.key q.1 with h6 | h6 | h6
    .exact h6
    .exact absurd h6.symm hqk
    .exact absurd h6 hq
   refine⟨_,q::T,by simp only[if_neg hqk],hA,fun x hx=>?_,hp,fun k hk=>by rw[e]⟩;rcases List.mem_cons.1 hx with rfl | hx
   .exact hlt
   .exact dI hlt (h4 x hx)
theorem pq (p:cJ) {M:List Kv} (h:M.Pairwise nH):(fG p M).Pairwise nH:=by
 obtain⟨A,B,e,hA,hB,hAB,_⟩:=rQ p h;rw[e];split
 .exact hAB
 .obtain⟨h1,h2,h3⟩:=List.pairwise_append.1 hAB;refine List.pairwise_append.2 ⟨h1,List.pairwise_cons.2 ⟨fun q hq=>hB q hq,h2⟩,fun a ha b hb=>?_⟩;rcases List.mem_cons.1 hb with rfl | hb
  .exact hA a ha
  .exact h3 a ha b hb
theorem xC (p:cJ) {M:List Kv} (h:M.Pairwise nH) (k:List UInt8):ba k (fG p M)=if p.key=k then AH p else ba k M:=by
 obtain⟨A,B,e,hA,hB,hAB,hg⟩:=rQ p h;have gno: ∀ (A B:List Kv),(∀ q ∈ A,q.1≠k)->ba k (A++B)=ba k B:=fun A B h=>by
  induction A with
  | nil=>rfl
  | cons a A ih=>
   show (if a.1=k then some a.2 else ba k (A++B))=_;rw[if_neg (h a List.mem_cons_self),ih fun q hq=>h q (List.mem_cons_of_mem _ hq)]
 rw[e];by_cases hk:p.key=k
 .rw[if_pos hk,gno A _ (fun q hq=>by rw[<-hk];exact dG (hA q hq))];unfold AH;split
  .rw[List.nil_append];exact eQ fun q hq=>by rw[<-hk];exact(dG (hB q hq)).symm
  .show (if p.key=k then some p.value else _)=_;rw[if_pos hk]
 .rw[if_neg hk, <-hg k (fun h=>hk h.symm)];split
  .rfl
  .have gapp: ∀ (A:List Kv),ba k (A++([(p.key,p.value)]++B))=ba k (A++B):=fun A=>by
    induction A with
    | nil=>show (if p.key=k then some p.value else ba k B)=_;rw[if_neg hk];rfl
    | cons a A ih=>show (if a.1=k then some a.2 else ba k (A++_))=(if a.1=k then some a.2 else ba k (A++B));rw[ih]
   exact gapp A
def bq (ps:List cJ) (M:List Kv):List Kv:=ps.foldl (fun M p=>fG p M) M
def iq (k:List UInt8):List cJ->Option cJ
 | []=>none
 | p::l=>match iq k l with | some q=>some q | none=>if p.key=k then some p else none
def dE:List cJ->List cJ
 | []=>[]
 | p::l=>if l.any (fun q=>decide (q.key=p.key))=true then dE l else p::dE l
theorem nc {k:List UInt8}: ∀ {l:List cJ},iq k l=none↔ ∀ q ∈ l,q.key≠k
 | []=>by simp[iq]
 | p::l=>by
  have ih:=nc (k:=k) (l:=l);unfold iq
  cases h:iq k l with
  | some q=>
   simp only;constructor
   .intro h2;cases h2
   .intro h2;have:=ih.2 fun q hq=>h2 q (List.mem_cons_of_mem _ hq)
    rw[h] at this;cases this
  | none=>
   have h3:=ih.1 h;simp only;constructor
   .intro h2 q hq;rcases List.mem_cons.1 hq with rfl | hq
    .intro h4;rw[if_pos h4] at h2;cases h2
    .exact h3 q hq
   .intro h2;rw[if_neg (h2 p List.mem_cons_self)]
theorem qS (k:List UInt8): ∀ l:List cJ,(dE l).find? (fun q=>decide (q.key=k))=iq k l
 | []=>rfl
 | p::l=>by
  have ih:=qS k l;unfold dE;split
  .rename_i h;rw[ih];show iq k l=match iq k l with | some q=>some q | none=>if p.key=k then some p else none
   cases h2:iq k l with
   | some q=>rfl
   | none=>
    simp only;rw[if_neg];intro h3;obtain⟨q,hq,h4⟩:=List.any_eq_true.1 h;exact nc.1 h2 q hq (by rw[<-h3];simpa using h4)
  .rename_i h;rw[List.find?_cons];show _=match iq k l with | some q=>some q | none=>if p.key=k then some p else none
   by_cases hk:p.key=k
   .rw[decide_eq_true hk];have h2:iq k l=none:=nc.2 fun q hq h3=>h (List.any_eq_true.2 ⟨q,hq,by rw[hk];simpa using h3⟩)
    rw[h2];simp only;rw[if_pos hk]
   .rw[decide_eq_false hk,ih]
    cases iq k l with
    | some q=>rfl
    | none=>simp only;rw[if_neg hk]
theorem lO: ∀ {l:List cJ} {p:cJ},p ∈ dE l->p ∈ l
 | [],p,h=>h
 | q::l,p,h=>by
  unfold dE at h;split at h
  .exact List.mem_cons_of_mem _ (lO h)
  .rcases List.mem_cons.1 h with rfl | h
   .exact List.mem_cons_self
   .exact List.mem_cons_of_mem _ (lO h)
theorem fD: ∀ l:List cJ,(dE l).Pairwise fun a b=>a.key≠b.key
 | []=>List.Pairwise.nil
 | p::l=>by
  unfold dE;split
  .exact fD l
  .rename_i h;refine List.pairwise_cons.2 ⟨fun q hq h2=>h (List.any_eq_true.2 ⟨q,lO hq,by simpa using h2.symm⟩),fD l⟩
theorem gO: ∀ (ps:List cJ) {M:List Kv},M.Pairwise nH->(bq ps M).Pairwise nH
 | [],M,h=>h
 | p::ps,M,h=>gO ps (pq p h)
theorem uo (k:List UInt8): ∀ (ps:List cJ) {M:List Kv},M.Pairwise nH->ba k (bq ps M)=match iq k ps with | some p=>AH p | none=>ba k M
 | [],M,h=>rfl
 | p::ps,M,h=>by
  show ba k (bq ps (fG p M))=match (match iq k ps with | some q=>some q | none=>if p.key=k then some p else none) with | some p=>AH p | none=>ba k M
  rw[uo k ps (pq p h)]
  cases iq k ps with
  | some q=>rfl
  | none=>
   simp only;rw[xC p h];split<;>rfl
def kK (e:aw) (L:List aw):List aw:=L.takeWhile (fun x=>aF x e)++e::L.dropWhile (fun x=>aF x e)
theorem mX (e:aw) (L:List aw): ∃ A B,L=A++B/\kK e L=A++e::B/\ ∀ x ∈ A,dJ x e:=by
 refine⟨_,_,(List.takeWhile_append_dropWhile (p:=fun x=>aF x e) (l:=L)).symm,rfl,fun x hx=>?_⟩;exact gQ (f:=fun x=>aF x e) hx
theorem IY {e:aw} {L:List aw} (h: ∀ x ∈ L,x.key=e.key->x.seq<e.seq) (k:List UInt8) (s:Int):mw k s (kK e L)=if e.key=k/\e.seq<=s then some e else mw k s L:=by
 obtain⟨A,B,h1,h2,h3⟩:=mX e L;rw[h2];split
 .rename_i hk;rw[mi,mM hk];intro x hx h4;rcases cU.1 (h3 x hx) with h5 | ⟨h5,h6⟩
  .exact dG h5 (h4.trans hk.1.symm)
  .have:=h x (by rw[h1];exact List.mem_append_left _ hx) h5;omega
 .rename_i hk;rw[h1];unfold mw;rw[List.find?_append,List.find?_append];have:=rV (L:=B) hk;unfold mw at this;rw[this]
theorem IV {e:aw} {L:List aw} (h: ∀ x ∈ L,x.key=e.key->x.seq<e.seq) (k:List UInt8) (s:Int):ew k s (kK e L)=if e.key=k/\e.seq<=s then vy e else ew k s L:=by
 unfold ew;rw[IY h];split<;>rfl
theorem sj {e x:aw} {L:List aw}:x ∈ kK e L↔x=e\/x ∈ L:=by
 obtain⟨A,B,h1,h2,_⟩:=mX e L;rw[h2,h1,List.mem_append,List.mem_cons,List.mem_append];constructor
 .rintro (h | h | h)
  .exact .inr (.inl h)
  .exact .inl h
  .exact .inr (.inr h)
 .rintro (h | h | h)
  .exact .inr (.inl h)
  .exact .inl h
  .exact .inr (.inr h)
theorem te {e:aw} {L:List aw} (h: ∀ x ∈ L,dJ x e):kK e L=L++[e]:=by
 unfold kK;obtain⟨h1,h2⟩:=oW (f:=fun x=>aF x e) (L:=L) h;rw[h1,h2]
def wh (n:Int) (p:cJ):aw:=⟨p.key,p.value,n,p.dead⟩
def mU (n:Int) (ps:List cJ) (L:List aw):List aw:=ps.foldl (fun L p=>kK (wh n p) L) L
theorem nM {n:Int} {x:aw}: ∀ {ps:List cJ} {L:List aw},x ∈ mU n ps L↔x ∈ L\/ ∃ p ∈ ps,x=wh n p
 | [],L=>by simp[mU]
 | p::ps,L=>by
  show x ∈ mU n ps (kK (wh n p) L)↔_;rw[nM,sj];constructor
  .rintro ((h | h) | ⟨q,hq,h⟩)
   .exact .inr ⟨p,List.mem_cons_self,h⟩
   .exact .inl h
   .exact .inr ⟨q,List.mem_cons_of_mem _ hq,h⟩
  .rintro (h | ⟨q,hq,h⟩)
   .exact .inl (.inr h)
   .rcases List.mem_cons.1 hq with rfl | hq
    .exact .inl (.inl h)
    .exact .inr ⟨q,hq,h⟩
theorem vY (n:Int) (k:List UInt8) (s:Int): ∀ (ps:List cJ) (L:List aw),(ps.Pairwise fun a b=>a.key≠b.key)->(∀ p ∈ ps, ∀ x ∈ L,x.key=p.key->x.seq<n)->
 ew k s (mU n ps L)=if n<=s then (match ps.find? (fun q=>decide (q.key=k)) with | some p=>AH p | none=>ew k s L) else ew k s L
 | [],L,_,_=>by simp[mU]
 | p::ps,L,h,hl=>by
  obtain⟨h1,h2⟩:=List.pairwise_cons.1 h;show ew k s (mU n ps (kK (wh n p) L))=_;rw[vY n k s ps _ h2 (fun q hq x hx hk=>by
   rcases sj.1 hx with rfl | hx
   .exact absurd hk (h1 q hq)
   .exact hl q (List.mem_cons_of_mem _ hq) x hx hk)]
  have h3:=IV (e:=wh n p) (L:=L) (fun x hx hk=>hl p List.mem_cons_self x hx hk) k s;rw[h3,List.find?_cons];show (if n<=s then _ else if p.key=k/\n<=s then AH p else ew k s L)=_;by_cases hn:n<=s
  .rw[if_pos hn,if_pos hn];by_cases hk:p.key=k
   .rw[decide_eq_true hk];have h4:ps.find? (fun q=>decide (q.key=k))=none:=by
     rw[List.find?_eq_none];intro q hq h5;exact h1 q hq (by rw[hk];simpa using (of_decide_eq_true h5).symm)
    rw[h4];simp only;rw[if_pos ⟨hk,hn⟩];rfl
   .rw[decide_eq_false hk]
    cases ps.find? (fun q=>decide (q.key=k)) with
    | some q=>rfl
    | none=>simp only;rw[if_neg (fun h5=>hk h5.1)]
  .rw[if_neg hn,if_neg hn,if_neg (fun h5=>hn h5.2)]
theorem Iw {n s:Int} {ps:List cJ} {L:List aw} {M:List Kv} (hn:n<=s) (hl: ∀ x ∈ L,x.seq<n) (hM:M.Pairwise nH) (h: ∀ k,ew k s L=ba k M) (k:List UInt8):ew k s (mU n (dE ps) L)=ba k (bq ps M):=by
 rw[vY n k s _ _ (fD ps) (fun p _ x hx _=>hl x hx),if_pos hn,qS,uo k ps hM,h]
theorem Dy {n s:Int} {ps:List cJ} {L:List aw} (hn:s<n) (hl: ∀ x ∈ L,x.seq<n) (k:List UInt8):ew k s (mU n (dE ps) L)=ew k s L:=by
 rw[vY n k s _ _ (fD ps) (fun p _ x hx _=>hl x hx),if_neg (by omega)]
theorem Ig {s t:Int} {L:List aw} (hs: ∀ x ∈ L,x.seq<=s) (ht: ∀ x ∈ L,x.seq<=t) (k:List UInt8):ew k s L=ew k t L:=by
 have:mw k s L=mw k t L:=by
  unfold mw
  induction L with
  | nil=>rfl
  | cons e L ih=>
   rw[List.find?_cons,List.find?_cons,ih (fun x hx=>hs x (List.mem_cons_of_mem _ hx)) (fun x hx=>ht x (List.mem_cons_of_mem _ hx))];have h1:=hs e List.mem_cons_self;have h2:=ht e List.mem_cons_self;unfold qP;rw[decide_eq_true h1,decide_eq_true h2]
 unfold ew;rw[this]
def pt (snaps:List Int) (q:Option Int) (x:aw):Bool:=match q with | none=>true | some q=>snaps.any fun s=>decide (x.seq<=s) && decide (s<q)
def df (snaps:List Int):Option Int->List aw->List aw
 | _,[]=>[]
 | q,x::g=>if pt snaps q x=true then x::df snaps (some x.seq) g else df snaps (some x.seq) g
def gC (X:List aw):List aw:=(X.reverse.dropWhile (fun e=>e.dead)).reverse
def jF (b:Bool) (snaps:List Int) (g:List aw):List aw:=if b=true then gC (df snaps none g) else df snaps none g
def bJ (e x:aw):Bool:=decide (x.key=e.key)
theorem iw {α:Type} (f:α->Bool): ∀ L:List α,(L.dropWhile f).length<=L.length
 | []=>Nat.le_refl _
 | x::L=>by
  rw[List.dropWhile_cons];split
  .exact Nat.le_succ_of_le (iw f L)
  .exact Nat.le_refl _
def cZ (b:Bool) (snaps:List Int):List aw->List aw
 | []=>[]
 | e::L=>jF b snaps (e::L.takeWhile (bJ e))++cZ b snaps (L.dropWhile (bJ e))
termination_by L=>L.length
decreasing_by exact Nat.lt_succ_of_le (iw _ _)
theorem jE (b:Bool) (snaps:List Int):cZ b snaps []=[]:=by rw[cZ]
theorem gP (b:Bool) (snaps:List Int) (e:aw) (L:List aw):cZ b snaps (e::L)=jF b snaps (e::L.takeWhile (bJ e))++cZ b snaps (L.dropWhile (bJ e)):=by rw[cZ]
theorem kO (snaps:List Int): ∀ (g:List aw) (q:Option Int),(df snaps q g).Sublist g
 | [],q=>List.Sublist.refl _
 | x::g,q=>by
  unfold df;split
  .exact(kO snaps g _).cons_cons _
  .exact(kO snaps g _).cons _
theorem Gm (X:List aw):(gC X).Sublist X:=by
 unfold gC;have h:=List.dropWhile_sublist (fun e:aw=>e.dead) (l:=X.reverse);have h2:=h.reverse;rwa [List.reverse_reverse] at h2
theorem nV (b:Bool) (snaps:List Int) (g:List aw):(jF b snaps g).Sublist g:=by
 unfold jF;split
 .exact(Gm _).trans (kO snaps g none)
 .exact kO snaps g none
theorem za (b:Bool) (snaps:List Int): ∀ (n:Nat) (L:List aw),L.length<=n->(cZ b snaps L).Sublist L
 | _,[],_=>by rw[jE];exact List.Sublist.refl _
 | 0,e::L,h=>by simp at h
 | n+1,e::L,h=>by
  rw[gP];have h1:=nV b snaps (e::L.takeWhile (bJ e));have h2:=za b snaps n (L.dropWhile (bJ e)) (by have:=iw (bJ e) L;simp at h;omega);have h3:=List.Sublist.append h1 h2;have h4:e::L.takeWhile (bJ e)++L.dropWhile (bJ e)=e::L:=by rw[List.cons_append,List.takeWhile_append_dropWhile]
  rwa [h4] at h3
theorem gG (b:Bool) (snaps:List Int) (L:List aw):(cZ b snaps L).Sublist L:=za b snaps L.length L (Nat.le_refl _)
theorem pd {b:Bool} {snaps:List Int} {L:List aw} (h:L.Pairwise dJ):(cZ b snaps L).Pairwise dJ:=h.sublist (gG b snaps L)
theorem om {X:List aw} {d:aw} (h:d.dead=true):gC (X++[d])=gC X:=by
 unfold gC;rw[List.reverse_append,List.reverse_singleton,List.singleton_append,List.dropWhile_cons,if_pos h]
theorem oo {X:List aw} {d:aw} (h:d.dead=false):gC (X++[d])=X++[d]:=by
 unfold gC;rw[List.reverse_append,List.reverse_singleton,List.singleton_append,List.dropWhile_cons,if_neg (by rw[h];simp),List.reverse_cons,List.reverse_reverse]
theorem GI:gC []=[]:=rfl
theorem Je {X:List aw} {d:aw} (h:d.dead=true) (k:List UInt8) (s:Int):ew k s (X++[d])=ew k s X:=by
 unfold ew mw;rw[List.find?_append]
 cases hx:X.find? (qP k s) with
 | some e=>rfl
 | none=>
  show ([d].find? (qP k s)).bind vy=none;rw[List.find?_cons]
  cases qP k s d with
  | true=>show vy d=none;unfold vy;rw[if_pos h]
  | false=>rfl
theorem CX (k:List UInt8) (s:Int): ∀ (n:Nat) (X:List aw),X.length<=n->ew k s (gC X)=ew k s X
 | n,X,h=>by
  rcases List.eq_nil_or_concat X with rfl | ⟨Y,d,rfl⟩
  .rfl
  .rw[List.concat_eq_append] at h ⊢
   cases hd:d.dead with
   | false=>rw[oo hd]
   | true=>
    cases n with
    | zero=>simp at h
    | succ n=>
     rw[om hd,Je hd];exact CX k s n Y (by rw[List.length_append] at h;simp at h;omega)
def asked (snaps:List Int) (s:Int) (L:List aw):Prop:=s ∈ snaps\/ ∀ x ∈ L,x.seq<=s
theorem wX (snaps:List Int) (k:List UInt8) (s:Int) (hs:s ∈ snaps): ∀ (g:List aw) (q:Int),s<q->mw k s (df snaps (some q) g)=mw k s g\/ ∃ x ∈ g,x.key≠k
 | [],q,_=> .inl rfl
 | x::g,q,hq=>by
  by_cases hk:x.key=k
  .unfold df;by_cases hx:x.seq<=s
   .left
    have:pt snaps (some q) x=true:=List.any_eq_true.2 ⟨s,hs,by rw[decide_eq_true hx,decide_eq_true hq];rfl⟩;rw[if_pos this,mM ⟨hk,hx⟩,mM ⟨hk,hx⟩]
   .rcases wX snaps k s hs g x.seq (by omega) with ih | ⟨y,hy,h⟩
    .left
     rw[rV (e:=x) (fun h=>hx h.2)];split
     .rw[rV (e:=x) (fun h=>hx h.2)];exact ih
     .exact ih
    .exact .inr ⟨y,List.mem_cons_of_mem _ hy,h⟩
  .exact .inr ⟨x,List.mem_cons_self,hk⟩
theorem CF {snaps:List Int} {k:List UInt8} {s:Int} {g:List aw} (hs:asked snaps s g) (hg: ∀ x ∈ g,x.key=k):mw k s (df snaps none g)=mw k s g:=by
 cases g with
 | nil=>rfl
 | cons x g=>
  have hk:=hg x List.mem_cons_self;have e:df snaps none (x::g)=x::df snaps (some x.seq) g:=by
   show (if pt snaps none x=true then x::df snaps (some x.seq) g else df snaps (some x.seq) g)=_;rw[if_pos (show pt snaps none x=true from rfl)]
  rw[e];by_cases hx:x.seq<=s
  .rw[mM ⟨hk,hx⟩,mM ⟨hk,hx⟩]
  .rw[rV (fun h=>hx h.2),rV (fun h=>hx h.2)];rcases hs with hs | hs
   .rcases wX snaps k s hs g x.seq (by omega) with h | ⟨y,hy,h⟩
    .exact h
    .exact absurd (hg y (List.mem_cons_of_mem _ hy)) h
   .exact absurd (hs x List.mem_cons_self) hx
theorem mQ {e:aw} {L:List aw} (h:(e::L).Pairwise dJ):(∀ x ∈ e::L.takeWhile (bJ e),x.key=e.key)/\(∀ x ∈ L.dropWhile (bJ e),x.key≠e.key)/\(L.dropWhile (bJ e)).Pairwise dJ/\(e::L.takeWhile (bJ e)).Pairwise dJ:=by
 obtain⟨h1,h2⟩:=List.pairwise_cons.1 h;refine⟨fun x hx=>?_,fun x hx=>?_,h2.sublist (List.dropWhile_sublist _),h.sublist ((List.takeWhile_sublist _).cons_cons _)⟩
 .rcases List.mem_cons.1 hx with rfl | hx
  .rfl
  .exact of_decide_eq_true (gQ (f:=bJ e) hx)
 .cases hd:L.dropWhile (bJ e) with
  | nil=>rw[hd] at hx;cases hx
  | cons y T=>
   have hy:bJ e y=false:=by
    have:=List.head_dropWhile_not (p:=bJ e) (l:=L) (by rw[hd];simp);simp only[hd,List.head_cons] at this;exact this
   have hye:y ∈ L:=(List.dropWhile_sublist (bJ e)).mem (by rw[hd];exact List.mem_cons_self);have hlt:Lib.compareBytes e.key y.key<0:=by
    rcases cU.1 (h1 y hye) with h3 | ⟨h3,_⟩
    .exact h3
    .exact absurd h3.symm (of_decide_eq_false hy)
   rw[hd] at hx;have h4:=h2.sublist (List.dropWhile_sublist (bJ e));rw[hd] at h4;rcases List.mem_cons.1 hx with rfl | hx
   .exact(dG hlt).symm
   .rcases cU.1 ((List.pairwise_cons.1 h4).1 x hx) with h5 | ⟨h5,_⟩
    .exact(dG (dI hlt h5)).symm
    .rw[<-h5];exact(dG hlt).symm
theorem IQ (snaps:List Int) (k:List UInt8) (s:Int): ∀ (n:Nat) (L:List aw),L.length<=n->L.Pairwise dJ->asked snaps s L->mw k s (cZ false snaps L)=mw k s L
 | _,[],_,_,_=>by rw[jE]
 | 0,e::L,h,_,_=>by simp at h
 | n+1,e::L,h,hp,hs=>by
  obtain⟨g1,g2,g3,g4⟩:=mQ hp;have h4:e::L=(e::L.takeWhile (bJ e))++L.dropWhile (bJ e):=by rw[List.cons_append,List.takeWhile_append_dropWhile]
  have hsg:asked snaps s (e::L.takeWhile (bJ e)):=hs.imp id fun h x hx=>h x (by rw[h4];exact List.mem_append_left _ hx)
  have hsr:asked snaps s (L.dropWhile (bJ e)):=hs.imp id fun h x hx=>h x (by rw[h4];exact List.mem_append_right _ hx)
  have ih:=IQ snaps k s n _ (by have:=iw (bJ e) L;simp at h;omega) g3 hsr;rw[gP];have hsub:=(kO snaps (e::L.takeWhile (bJ e)) none);show mw k s (df snaps none _++_)=_;by_cases hk:e.key=k
  .rw[mV (fun x hx=>by rw[<-hk];exact g2 x ((gG false snaps _).mem hx)),CF hsg (fun x hx=>(g1 x hx).trans hk)]
   conv=>rhs;rw[h4]
   rw[mV (fun x hx=>by rw[<-hk];exact g2 x hx)]
  .rw[mi (fun x hx=>by rw[g1 x (hsub.mem hx)];exact hk),ih]
   conv=>rhs;rw[h4]
   rw[mi (fun x hx=>by rw[g1 x hx];exact hk)]
theorem uu {k:List UInt8} {s:Int} {A B:List aw} (h: ∀ x ∈ A,x.key≠k):ew k s (A++B)=ew k s B:=by unfold ew;rw[mi h]
theorem sB {k:List UInt8} {s:Int} {A B:List aw} (h: ∀ x ∈ B,x.key≠k):ew k s (A++B)=ew k s A:=by unfold ew;rw[mV h]
theorem zu (b:Bool) (snaps:List Int) (k:List UInt8) (s:Int): ∀ (n:Nat) (L:List aw),L.length<=n->L.Pairwise dJ->asked snaps s L->ew k s (cZ b snaps L)=ew k s L
 | _,[],_,_,_=>by rw[jE]
 | 0,e::L,h,_,_=>by simp at h
 | n+1,e::L,h,hp,hs=>by
  obtain⟨g1,g2,g3,g4⟩:=mQ hp;have h4:e::L=(e::L.takeWhile (bJ e))++L.dropWhile (bJ e):=by rw[List.cons_append,List.takeWhile_append_dropWhile]
  have hsg:asked snaps s (e::L.takeWhile (bJ e)):=hs.imp id fun h x hx=>h x (by rw[h4];exact List.mem_append_left _ hx)
  have hsr:asked snaps s (L.dropWhile (bJ e)):=hs.imp id fun h x hx=>h x (by rw[h4];exact List.mem_append_right _ hx)
  have ih:=zu b snaps k s n _ (by have:=iw (bJ e) L;simp at h;omega) g3 hsr;rw[gP];have hsub:=nV b snaps (e::L.takeWhile (bJ e));by_cases hk:e.key=k
  .rw[sB (fun x hx=>by rw[<-hk];exact g2 x ((gG b snaps _).mem hx))];have h5:ew k s (jF b snaps (e::L.takeWhile (bJ e)))=ew k s (e::L.takeWhile (bJ e)):=by
    have h6:ew k s (df snaps none (e::L.takeWhile (bJ e)))=ew k s (e::L.takeWhile (bJ e)):=by
     unfold ew;rw[CF hsg (fun x hx=>(g1 x hx).trans hk)]
    unfold jF;split
    .rw[CX k s _ _ (Nat.le_refl _),h6]
    .exact h6
   rw[h5]
   conv=>rhs;rw[h4]
   rw[sB (fun x hx=>by rw[<-hk];exact g2 x hx)]
  .rw[uu (fun x hx=>by rw[g1 x (hsub.mem hx)];exact hk),ih]
   conv=>rhs;rw[h4]
   rw[uu (fun x hx=>by rw[g1 x hx];exact hk)]
theorem wu {b:Bool} {snaps:List Int} {k:List UInt8} {s:Int} {L:List aw} (h:L.Pairwise dJ) (hs:asked snaps s L):ew k s (cZ b snaps L)=ew k s L:=zu b snaps k s _ L (Nat.le_refl _) h hs
theorem tZ (x:aw): ∀ (g:List aw) (q:Int),df [] (some q) g=[]
 | [],_=>rfl
 | y::g,q=>by unfold df;rw[if_neg (by simp[pt])];exact tZ x g _
theorem xO (e:aw) (L:List aw):jF true [] (e::L)=if e.dead=true then [] else [e]:=by
 unfold jF df;rw[if_pos rfl,if_pos (show pt [] none e=true from rfl),tZ e]
 cases h:e.dead with
 | true=>exact(om (X:=[]) h).trans GI
 | false=>exact oo (X:=[]) h
theorem ou: ∀ (n:Nat) (L:List aw),L.length<=n-> ∀ x ∈ cZ true [] L,x.dead=false
 | _,[],_=>by rw[jE];simp
 | 0,e::L,h=>by simp at h
 | n+1,e::L,h=>fun x hx=>by
  rw[gP,xO] at hx;rcases List.mem_append.1 hx with hx | hx
  .cases hd:e.dead with
   | true=>rw[hd] at hx;cases hx
   | false=>
    rw[hd] at hx;have:x=e:=by simpa using hx
    rw[this,hd]
  .exact ou n _ (by have:=iw (bJ e) L;simp at h;omega) x hx
theorem oz: ∀ (n:Nat) (L:List aw),L.length<=n->L.Pairwise dJ->(cZ true [] L).Pairwise fun a b=>Lib.compareBytes a.key b.key<0
 | _,[],_,_=>by rw[jE];exact List.Pairwise.nil
 | 0,e::L,h,_=>by simp at h
 | n+1,e::L,h,hp=>by
  obtain⟨g1,g2,g3,g4⟩:=mQ hp;have ih:=oz n _ (by have:=iw (bJ e) L;simp at h;omega) g3;rw[gP,xO];split
  .exact ih
  .refine List.pairwise_cons.2 ⟨fun x hx=>?_,ih⟩;have hx2:=(gG true [] _).mem hx;have hxl:=(List.dropWhile_sublist (bJ e)).mem hx2;rcases cU.1 ((List.pairwise_cons.1 hp).1 x hxl) with h5 | ⟨h5,_⟩
   .exact h5
   .exact absurd h5.symm (g2 x hx2)
theorem D5 {L:List aw} {s:Int} (h:L.Pairwise dJ) (hs: ∀ x ∈ L,x.seq<=s):(cZ true [] L).map cT=eP s L:=by
 have hp:((cZ true [] L).map cT).Pairwise nH:=by rw[List.pairwise_map];exact oz _ L (Nat.le_refl _) h
 refine nD hp (iU h) fun k=>?_
 rw[nO h, <-wu (b:=true) (snaps:=[]) h (.inr hs)];have hl:=ou _ L (Nat.le_refl _);have hm: ∀ x ∈ cZ true [] L,x.seq<=s:=fun x hx=>hs x ((gG true [] L).mem hx)
 generalize cZ true [] L=K at*
 induction K with
 | nil=>rfl
 | cons e K ih=>
  show (if e.key=k then some e.value else ba k (K.map cT))=_;rw[List.map_cons,List.pairwise_cons] at hp;have ih2:=ih hp.2 (fun x hx=>hl x (List.mem_cons_of_mem _ hx)) (fun x hx=>hm x (List.mem_cons_of_mem _ hx));by_cases hk:e.key=k
  .rw[if_pos hk,qG ⟨hk,hm e List.mem_cons_self⟩];unfold vy;rw[if_neg (by rw[hl e List.mem_cons_self];simp)]
  .rw[if_neg hk,pb (fun h=>hk h.1),ih2]
def iG (p:cJ):List UInt8:=[if p.dead=true then 1 else 0,UInt8.ofNat p.key.length]++(ai p.value.length 2++(p.key++p.value))
def aJ (ps:List cJ):List UInt8:=(ps.map iG).flatten
def CW (p:cJ):Prop:=1<=p.key.length/\p.key.length<=128/\p.value.length<=16384
theorem gp (p:cJ):(iG p).length=4+p.key.length+p.value.length:=by
 unfold iG;simp only[List.length_append,List.length_cons,List.length_nil,aB];omega
theorem tf (ps:List cJ) (p:cJ):aJ (ps++[p])=aJ ps++iG p:=by
 unfold aJ;rw[List.map_append,List.flatten_append];simp
theorem gT (p:cJ) (ps:List cJ):aJ (p::ps)=iG p++aJ ps:=rfl
theorem Kc (p:cJ) (r:List UInt8) (h:CW p):(iG p++r)[0]?=some (if p.dead=true then 1 else 0)/\(iG p++r)[1]?=some (UInt8.ofNat p.key.length)/\((iG p++r).take 4).drop 2=ai p.value.length 2/\
 ((iG p++r).take (4+p.key.length)).drop 4=p.key/\((iG p++r).take (4+p.key.length+p.value.length)).drop (4+p.key.length)=p.value/\(iG p++r).drop (4+p.key.length+p.value.length)=r:=by
 have h2:(ai p.value.length 2).length=2:=aB _ _;obtain⟨q,hq⟩: ∃ q,q=ai p.value.length 2:=⟨_,rfl⟩;rw[<-hq] at h2
 match q,h2 with
 | [a,b],_=>
  have e:iG p++r=[if p.dead=true then 1 else 0,UInt8.ofNat p.key.length,a,b]++(p.key++(p.value++r)):=by
   unfold iG;rw[<-hq];simp
  rw[e];generalize hl4:[if p.dead=true then (1:UInt8) else 0,UInt8.ofNat p.key.length,a,b]=l4;have h4:l4.length=4:=by rw[<-hl4];rfl
  refine⟨by rw[<-hl4];rfl,by rw[<-hl4];rfl,by rw[<-hl4, <-hq];rfl,?_,?_,?_⟩
  .rw[<-List.append_assoc,List.take_left' (by rw[List.length_append,h4]),List.drop_left' h4]
  .rw[<-List.append_assoc, <-List.append_assoc,List.take_left' (by rw[List.length_append,List.length_append,h4]),List.drop_left' (by rw[List.length_append,h4])]
  .rw[<-List.append_assoc, <-List.append_assoc,List.drop_left' (by rw[List.length_append,List.length_append,h4])]
theorem flatK {α:Type} {f:α->List Value} {K:Nat} (hf: ∀ x,(f x).length=K): ∀ (l:List α) (i j:Nat) (hi:i<l.length) (hj:j<K),(l.flatMap f)[i*K+j]?=(f l[i])[j]?
 | [],i,j,hi,hj=>by simp at hi
 | x::l,0,j,hi,hj=>by
  rw[List.flatMap_cons,Nat.zero_mul,Nat.zero_add,List.getElem?_append_left (by rw[hf];exact hj)];rfl
 | x::l,i+1,j,hi,hj=>by
  have e:(i+1)*K+j=K+(i*K+j):=by rw[Nat.add_mul,Nat.one_mul];omega
  rw[List.flatMap_cons,List.getElem?_append_right (by rw[hf,e];omega),hf,e];have:=flatK hf l i j (by simpa using hi) hj;rw[show K+(i*K+j) - K=i*K+j by omega,this];rfl
theorem dL {α:Type} {f:α->List Value} {K:Nat} (hf: ∀ x,(f x).length=K): ∀ (l:List α),(l.flatMap f).length=l.length*K
 | []=>by simp
 | x::l=>by rw[List.flatMap_cons,List.length_append,hf,dL hf l,List.length_cons,Nat.add_mul,Nat.one_mul];omega
theorem fo (e:En):(cu e).length=4:=rfl
section
variable {w w':World} {A:Option Addr} {es:List En}
theorem eh (h:aH w A (es.flatMap cu)) (hn:0<es.length): ∃ b o,A=some ⟨b,o,none⟩/\ ∀ i (hi:i<es.length),
 w.cell? ⟨b,o+i*4,none⟩=some (aO es[i].key)/\w.cell? ⟨b,o+i*4+1,none⟩=some (aO es[i].value)/\w.cell? ⟨b,o+i*4+2,none⟩=some (.int .i64 es[i].seq)/\w.cell? ⟨b,o+i*4+3,none⟩=some (.bool es[i].dead):=by
 have hl:=dL fo es;obtain⟨b,o,rfl,_⟩:=aH.get h (j:=0) (by omega);refine⟨b,o,rfl,fun i hi=>?_⟩;have key: ∀ j,j<4->w.cell? ⟨b,o+i*4+j,none⟩=(cu es[i])[j]?:=fun j hj=>by
  have hij:i*4+j<(es.flatMap cu).length:=by omega
  obtain⟨b',o',e,hc⟩:=aH.get h hij;injection e with e
  injection e with e1 e2
  subst e1;subst e2;rw[Nat.add_assoc,hc, <-flatK fo es i j hi hj,List.getElem?_eq_getElem hij]
 exact⟨key 0 (by omega),key 1 (by omega),key 2 (by omega),key 3 (by omega)⟩
def jH (w:World) (es:List En):Prop:= ∀ e ∈ es,pJ w e
end
def dR (l:List aw):Bool:=(List.range (l.length - 1)).all fun i=>match l[i]?,l[i+1]? with | some a,some b=>aF a b | _,_=>true
theorem iS (l:List aw):dR l=true↔ ∀ i (hi:i+1<l.length),dJ (l[i]'(by omega)) l[i+1]:=by
 unfold dR;rw[List.all_eq_true];constructor
 .intro h i hi;have:=h i (List.mem_range.2 (by omega));rw[List.getElem?_eq_getElem (by omega),List.getElem?_eq_getElem hi] at this;exact this
 .intro h i hi;have hi:i+1<l.length:=by have:=List.mem_range.1 hi;omega
  rw[List.getElem?_eq_getElem (by omega),List.getElem?_eq_getElem hi];exact h i hi
theorem AK (l:List aw) (i:Nat) (hi:i+1<l.length) (h:aF (l[i]'(by omega)) l[i+1]=false):dR l=false:=by
 cases hs:dR l with
 | false=>rfl
 | true=>have:=(iS l).1 hs i hi;unfold dJ at this;rw[h] at this;cases this
theorem gV (A:Option Addr) (c:Nat) (es:List En) (w:World) (h:aH w A (es.flatMap cu)) (hr:jH w es) (hc:es.length<=c) (hm:c<=maxLen):
 Calls Tryz.prog 151 #[.slice A es.length c] w fun e w'=>e = .returned (.bool (dR (es.map En.ao)))/\aq No w w':=by
 have HL:=ah h;have HR:=ah hr;have HE:Hid (∀ e:En,jD e = .agg #[.slice e.key.1 e.key.2.2.length e.key.2.1,.slice e.value.1 e.value.2.2.length e.value.2.1,.int .i64 e.seq,.bool e.dead]):=fun _=>rfl
 unfold maxLen at hm;clear h hr;go_enter Tryz.func151, Tryz.ntmps151;go_wp2_with fail;go_loopw [3] (fun i wr=> ∃ k:Nat,1<=k/\(k<=es.length\/k=1)/\i = .int .i64 k/\Hid (aq No w wr/\ ∀ i (hi:i+1<k) (hk:i+1<es.length),aF (es[i]'(by omega)).ao es[i+1].ao=true)) (fun i _=>es.length - (intOf i).toNat)
 case atStart=>exact⟨1,by omega,by omega,rfl,aq.refl _ _,fun i hi=>by omega⟩
 case round=>
  obtain⟨k,hk1,hk2,rfl,HD⟩:=hrel;by_cases hlt:k<es.length
  .obtain⟨b,o,rfl,hq⟩:=eh (aH.new HL.o HD.o.1) (by omega);obtain⟨j,rfl⟩: ∃ j,k=j+1:=⟨k - 1,by omega⟩;obtain⟨a0,a1,a2,a3⟩:=hq j (by omega);obtain⟨b0,b1,b2,b3⟩:=hq (j+1) hlt;clear hq;unfold aO at a0 a1 b0 b1;have HI:=ah HD.o.1;have HLs:=HD.o.2;clear HD;have hwj:IntKind.i64.wrap (j:Int)=j:=by rw[IntKind.wrap_i64];omega
   have hc2:(0:Int)<=(j:Int)+1:=by omega
   have hc3:j<es.length:=by omega
   go_wp2_with fail;go_region_law (first
    | (go_simp;go_at_call 147;rw[<-HE.o, <-HE.o];refine(sF es[j] es[j+1] _ ((HR.o _ (List.getElem_mem _)).new HI.o.drew) ((HR.o _ (List.getElem_mem _)).new HI.o.drew)).mono ?_;rintro e w5 ⟨rfl,k5⟩)
    | (simp only[hwj,hc2,hc3];go_simp))
   all_goals
    have k6:Hid (aq No w w5):=HI.o.drew.tr k5
    cases hb:aF es[j].ao es[j+1].ao with
    | false=>
     have HQ:Hid (dR (es.map En.ao)=false):=AK _ j (by simpa using hlt) (by simpa using hb);go_wp2_with fail;go_ret;exact⟨by rw[HQ.o];rfl,k6.o⟩
    | true=>
     go_wp2_with fail;go_roundw
     .exact⟨j+1+1,by omega,by omega,by push_cast;rfl,k6.o,fun i hi hk=>if e:i=j then by subst e;exact hb else HLs i (by omega) hk⟩
     .simp[intOf];omega
  .have HQ:Hid (dR (es.map En.ao)=true):=(iS _).2 fun i hi=>by
    have:=HD.o.2 i (by simp at hi;omega) (by simpa using hi);simpa [dJ] using this
   go_wp2_with fail;go_ret;exact⟨by rw[HQ.o];rfl,HD.o.1⟩
structure Nd where
 a:Nat
 r:Nat
 e:En
 h:Nat
 v:Nat
def di (t:Nat->Option Nat) (ns:List Nd) (i:Nat):Option Nat:=match ns.find? (fun n=>decide (i<n.v)) with | some n=>some n.a | none=>t i
def dX (o:Option Nat):Value:= .pointer (o.map fun b=>⟨b,0,none⟩)
def cQ (f:Nat->Option Nat) (h v:Nat):Array Value:=((List.range h).map fun j=>if j<v then dX (f j) else dX none).toArray
def gq (n:Nd):Array Value:= #[.slice (some ⟨n.r,0,none⟩) n.h n.h,aO n.e.key,aO n.e.value,.int .i64 n.e.seq,.bool n.e.dead]
def uD (n:Nd) (f:Nat->Option Nat):SP:=Pt n.a 186 (gq n)*Pt n.r 183 (cQ f n.h n.v)
def bH (t:Nat->Option Nat):List Nd->SP
 | []=>aV
 | n::ns=>uD n (di t ns)*bH t ns
def dq:Nat->Option Nat:=fun _=>none
section
variable {t t':Nat->Option Nat} {n m:Nd} {ns p s:List Nd} {i j h v:Nat}
theorem dH (t:Nat->Option Nat) (n:Nd) (ns:List Nd) (i:Nat):di t (n::ns) i=if i<n.v then some n.a else di t ns i:=by
 unfold di;rw[List.find?_cons];by_cases h:i<n.v
 .simp[h]
 .simp[h]
theorem iT (t:Nat->Option Nat) (s:List Nd): ∀ p:List Nd,di t (p++s)=di (di t s) p
 | []=>rfl
 | n::p=>by
  funext i
  rw[List.cons_append,dH,dH,iT t s p]
theorem lP (h: ∀ n ∈ ns,n.v<=i):di t ns i=t i:=by
 unfold di;rw[List.find?_eq_none.2 (fun n hn=>by have:=h n hn;simp;omega)]
theorem jf (ns:List Nd) (i:Nat):(di dq ns i=none/\ ∀ n ∈ ns,n.v<=i)\/ ∃ p m s,ns=p++m::s/\di dq ns i=some m.a/\i<m.v/\ ∀ n ∈ p,n.v<=i:=by
 induction ns with
 | nil=>exact .inl ⟨rfl,by simp⟩
 | cons n ns ih=>
  by_cases h:i<n.v
  .exact .inr ⟨[],n,ns,rfl,by rw[dH,if_pos h],h,by simp⟩
  .rcases ih with ⟨h1,h2⟩ | ⟨p,m,s,rfl,h2,h3,h4⟩
   .exact .inl ⟨by rw[dH,if_neg h,h1],fun x hx=>(List.mem_cons.1 hx).elim (fun e=>by subst e;omega) (h2 x)⟩
   .exact .inr ⟨n::p,m,s,rfl,by rw[dH,if_neg h];exact h2,h3,fun x hx=>(List.mem_cons.1 hx).elim (fun e=>by subst e;omega) (h4 x)⟩
theorem rE {f g:Nat->Option Nat} (hfg: ∀ j,j<h->j<v->f j=g j):cQ f h v=cQ g h v:=by
 unfold cQ;congr 1
 apply List.map_congr_left;intro j hj;have hj:=List.mem_range.1 hj;by_cases hv:j<v
 .rw[if_pos hv,if_pos hv,hfg j hj hv]
 .rw[if_neg hv,if_neg hv]
theorem ll (f:Nat->Option Nat) (hj:j<h):(cQ f h v)[j]?=some (if j<v then dX (f j) else dX none):=by
 unfold cQ;simp[hj]
theorem lQ (t:Nat->Option Nat) (s:List Nd): ∀ p:List Nd,bH t (p++s)=bH (di t s) p*bH t s
 | []=>(aX _).symm
 | n::p=>by
  show uD n (di t (p++s))*bH t (p++s)=uD n (di (di t s) p)*bH (di t s) p*bH t s;rw[iT,lQ t s p,aj]
theorem oN: ∀ {ns:List Nd},(∀ n ∈ ns,n.v<=i)->(∀ j,j<i->t j=t' j)->bH t ns=bH t' ns
 | [],_,_=>rfl
 | n::ns,h,k=>by
  show uD n (di t ns)*bH t ns=uD n (di t' ns)*bH t' ns;rw[oN (fun x hx=>h x (List.mem_cons_of_mem _ hx)) k];have hn:=h n List.mem_cons_self;have e:cQ (di t ns) n.h n.v=cQ (di t' ns) n.h n.v:=rE fun j hj hv=>by
   unfold di
   cases ns.find? (fun n=>decide (j<n.v)) with
   | some _=>rfl
   | none=>exact k j (by omega)
  unfold uD;rw[e]
end
structure xN (ns:List Nd):Prop where
 full: ∀ n ∈ ns,n.v=n.h/\1<=n.h/\n.h<=8
 sort:ns.Pairwise fun a b=>dJ a.e.ao b.e.ao
def MM (l:List aw):Nat:=l.foldr (fun e s=>e.key.length+e.value.length+s) 0
def lq (ns:List Nd):List cW:=ns.flatMap fun n=>[n.e.key,n.e.value]
def de (b hr:Nat) (ns:List Nd) (cnt by':Int):SP:=
 Pt b 173 #[.slice (some ⟨hr,0,none⟩) 8 8,.int .i64 cnt,.int .i64 by']*(Pt hr 183 (cQ (di dq ns) 8 8)*(bH dq ns*ca (lq ns)))
structure View (w:World) (b hr:Nat) (ns:List Nd):Prop where
 head:w.cell? ⟨b,0,none⟩=some (.slice (some ⟨hr,0,none⟩) 8 8)
 links: ∀ i,i<8->w.cell? ⟨hr,i,none⟩=some (dX (di dq ns i))
 node: ∀ p n s,ns=p++n::s->w.cell? ⟨n.a,0,none⟩=some (.slice (some ⟨n.r,0,none⟩) n.h n.h)/\w.cell? ⟨n.a,1,none⟩=some (aO n.e.key)/\w.cell? ⟨n.a,2,none⟩=some (aO n.e.value)/\w.cell? ⟨n.a,3,none⟩=some (.int .i64 n.e.seq)/\w.cell? ⟨n.a,4,none⟩=some (.bool n.e.dead)
  /\(∀ i,i<n.h->w.cell? ⟨n.r,i,none⟩=some (dX (di dq s i)))/\pJ w n.e
 nodup:(ns.map Nd.a).Nodup
section
variable {w0 w w':World} {F:SP} {b hr:Nat} {ns p s:List Nd} {n:Nd} {c y:Int} {t:Nat->Option Nat}
theorem View.new (h:View w b hr ns) (k:aq No w w'):View w' b hr ns:=
 ⟨k.cell h.head id,fun i hi=>k.cell (h.links i hi) id,fun p n s e=>by
  obtain⟨h1,h2,h3,h4,h5,h6,h7⟩:=h.node p n s e;exact⟨k.cell h1 id,k.cell h2 id,k.cell h3 id,k.cell h4 id,k.cell h5 id,fun i hi=>k.cell (h6 i hi) id,h7.new k⟩,h.nodup⟩
theorem kU (t:Nat->Option Nat) (p:List Nd) (n:Nd) (s:List Nd) (F:SP):bH t (p++n::s)*F=Pt n.a 186 (gq n)*(Pt n.r 183 (cQ (di t s) n.h n.v)*(bH (di t (n::s)) p*(bH t s*F))):=by
 rw[lQ];show bH (di t (n::s)) p*(Pt n.a _ (gq n)*Pt n.r _ (cQ (di t s) n.h n.v)*bH t s)*F=_
 ac_rfl
theorem Ef (h:Sat w0 (bH t ns*F) w):(ns.map Nd.a).Nodup:=by
 induction ns generalizing F with
 | nil=>simp
 | cons n ns ih=>
  have h1:Sat w0 (Pt n.a 186 (gq n)*(bH t ns*(Pt n.r 183 (cQ (di t ns) n.h n.v)*F))) w:=h.of (by
   show Pt n.a _ (gq n)*Pt n.r _ (cQ (di t ns) n.h n.v)*bH t ns*F=_
   ac_rfl)
  rw[List.map_cons,List.nodup_cons];refine⟨fun hm=>?_,ih h1.right⟩;obtain⟨m,hm,e⟩:=List.mem_map.1 hm;obtain⟨p,s,rfl⟩:=List.append_of_mem hm;have h2:Sat w0 (Ow n.a _*(Ow m.a _*_)) w:=h1.of (by rw[kU];rfl);exact h2.ne e.symm
theorem Sat.view (h:Sat w0 (de b hr ns c y*F) w) (hok:xN ns):View w b hr ns:=by
 have h1:Sat w0 (Pt b 173 #[.slice (some ⟨hr,0,none⟩) 8 8,.int .i64 c,.int .i64 y]*(Pt hr 183 (cQ (di dq ns) 8 8)*(bH dq ns*(ca (lq ns)*F)))) w:=h.of (by unfold de;ac_rfl);refine⟨h1.cell 0,fun i hi=>?_,fun p n s e=>?_,Ef (h1.bD)⟩
 .rw[h1.av.cell i,ll _ hi,if_pos hi]
 .subst e;have h2:=h1.bD.of (kU dq p n s _);obtain⟨e1,e2,e3⟩:=hok.full n (by simp);refine⟨h2.cell 0,h2.cell 1,h2.cell 2,h2.cell 3,h2.cell 4,fun i hi=>?_,?_⟩
  .rw[h2.av.cell i,ll _ hi,if_pos (by omega)]
  .have h3:=h1.bW;exact⟨h3.Fe (r:=n.e.key) (by unfold lq;simp),h3.Fe (r:=n.e.value) (by unfold lq;simp)⟩
end
def ahead (e:aw) (ns:List Nd):List Nd:=ns.takeWhile fun n=>aF n.e.ao e
def ay (b:Nat):List Nd->Nat->Nat
 | [],_=>b
 | n::ns,i=>if i<n.v then ay n.a ns i else ay b ns i
theorem ie (s:List Nd) (i:Nat): ∀ (p:List Nd) (b:Nat),ay b (p++s) i=ay (ay b p i) s i
 | [],b=>rfl
 | n::p,b=>by
  show (if i<n.v then ay n.a (p++s) i else ay b (p++s) i)=ay (if i<n.v then ay n.a p i else ay b p i) s i;by_cases h:i<n.v
  .rw[if_pos h,if_pos h];exact ie s i p n.a
  .rw[if_neg h,if_neg h];exact ie s i p b
theorem rK {i:Nat}: ∀ {s:List Nd} {b:Nat},(∀ n ∈ s,n.v<=i)->ay b s i=b
 | [],_,_=>rfl
 | n::s,b,h=>by
  unfold ay;rw[if_neg (by have:=h n List.mem_cons_self;omega)];exact rK fun x hx=>h x (List.mem_cons_of_mem _ hx)
theorem E5 {e:aw} {p s:List Nd} (h: ∀ n ∈ p,dJ n.e.ao e):ahead e (p++s)=p++ahead e s:=by
 unfold ahead;exact List.takeWhile_append_of_pos fun n hn=>h n hn
theorem ji {e:aw} {n:Nd}: ∀ {s:List Nd},n ∈ ahead e s->n ∈ s/\dJ n.e.ao e
 | [],h=>by simp[ahead] at h
 | m::s,h=>by
  unfold ahead at h;rw[List.takeWhile_cons] at h;split at h
  .rename_i hl;rcases List.mem_cons.1 h with h | h
   .subst h;exact⟨List.mem_cons_self,hl⟩
   .have:=ji (s:=s) h;exact⟨List.mem_cons_of_mem _ this.1,this.2⟩
  .cases h
structure zK (w:World) (b:Nat) (ns:List Nd) (e:aw) (k:Nat) (p s:List Nd) (A R h:Nat):Prop where
 eq:ns=p++s
 low: ∀ n ∈ p,dJ n.e.ao e
 done: ∀ n ∈ s,dJ n.e.ao e->n.v<=k
 hk:k<=h
 head:w.cell? ⟨A,0,none⟩=some (.slice (some ⟨R,0,none⟩) h h)
 links: ∀ i,i<h->w.cell? ⟨R,i,none⟩=some (dX (di dq s i))
 last: ∀ j,j<h->ay b p j=A
section
variable {w w':World} {b hr k A R h:Nat} {ns p s:List Nd} {e:aw}
theorem zK.new (x:zK w b ns e k p s A R h) (c:aq No w w'):zK w' b ns e k p s A R h:=⟨x.eq,x.low,x.done,x.hk,c.cell x.head id,fun i hi=>c.cell (x.links i hi) id,x.last⟩
theorem View.zF (v:View w b hr ns) (hok:xN ns) (e:aw):zK w b ns e 8 [] ns b hr 8:=
 ⟨rfl,by simp,fun n hn _=>by have:=hok.full n hn;omega,Nat.le_refl _,v.head,v.links,fun _ _=>rfl⟩
theorem zK.step (x:zK w b ns e (k+1) p s A R h) (v:View w b hr ns) (hok:xN ns) {q t:List Nd} {m:Nd} (hs:s=q++m::t) (hm:k<m.v) (hl:dJ m.e.ao e):
 zK w b ns e (k+1) (p++(q++[m])) t m.a m.r m.h:=by
 have he:=x.eq;subst hs;have hf:=hok.full m (by rw[he];simp);obtain⟨h1,_,_,_,_,h6,_⟩:=v.node (p++q) m t (by rw[he];simp);refine⟨by rw[he];simp,fun n hn=>?_,fun n hn=>x.done n (by simp[hn]),by omega,h1,h6,fun j hj=>?_⟩
 .rcases List.mem_append.1 hn with hn | hn
  .exact x.low n hn
  .rcases List.mem_append.1 hn with hn | hn
   .have hsort:=hok.sort;rw[he,List.pairwise_append] at hsort;have h2:=hsort.2.1;rw[List.pairwise_append] at h2;exact jx (h2.2.2 n hn m List.mem_cons_self) hl
   .simp at hn;subst hn;exact hl
 .rw[ie,ie];show (if j<m.v then _ else _)=_;rw[if_pos (by omega)];rfl
theorem zK.down (x:zK w b ns e (k+1) p s A R h) (hd: ∀ n ∈ s,dJ n.e.ao e->n.v<=k):zK w b ns e k p s A R h:=⟨x.eq,x.low,hd,by have:=x.hk;omega,x.head,x.links,x.last⟩
theorem zK.here (x:zK w b ns e (k+1) p s A R h) (hd: ∀ n ∈ s,dJ n.e.ao e->n.v<=k):ay b (ahead e ns) k=A:=by
 have he:=x.eq;rw[he,E5 x.low,ie,x.last k (by have:=x.hk;omega)];exact rK fun n hn=>hd n (ji hn).1 (ji hn).2
theorem Dq (x:zK w b ns e (k+1) p s A R h) (hn: ∀ n ∈ s,n.v<=k): ∀ n ∈ s,dJ n.e.ao e->n.v<=k:=fun n h _=>hn n h
theorem DI (x:zK w b ns e (k+1) p s A R h) (hok:xN ns) {q t:List Nd} {m:Nd} (hs:s=q++m::t) (hq: ∀ n ∈ q,n.v<=k) (hl:¬ dJ m.e.ao e): ∀ n ∈ s,dJ n.e.ao e->n.v<=k:=by
 intro n hn hl2;have he:=x.eq;subst hs;rcases List.mem_append.1 hn with hn | hn
 .exact hq n hn
 .have hsort:=hok.sort;rw[he,List.pairwise_append] at hsort;have h2:=hsort.2.1;rw[List.pairwise_append,List.pairwise_cons] at h2;rcases List.mem_cons.1 hn with e | hn
  .subst e;exact absurd hl2 hl
  .exact absurd (jx (h2.2.1.1 n hn) hl2) hl
end
def Hu (ns:List Nd) (v:Value):Nat:=match v with | .pointer (some A)=>(ns.dropWhile fun n=>decide (n.a≠A.block)).length | _=>0
theorem vE {ns p s:List Nd} {m:Nd} (hd:(ns.map Nd.a).Nodup) (h:ns=p++m::s):Hu ns (.pointer (some ⟨m.a,0,none⟩))=s.length+1:=by
 subst h;show ((p++m::s).dropWhile fun n=>decide (n.a≠m.a)).length=_;have hp: ∀ n ∈ p,decide (n.a≠m.a)=true:=fun n hn=>by
  rw[List.map_append,List.nodup_append] at hd;have:=hd.2.2 n.a (List.mem_map_of_mem hn) m.a (by simp);simpa using this
 rw[List.dropWhile_append_of_pos hp,List.dropWhile_cons];simp
theorem yU {ns p s:List Nd} {i:Nat} (hd:(ns.map Nd.a).Nodup) (h:ns=p++s):Hu ns (dX (di dq s i))<=s.length:=by
 rcases jf s i with ⟨h1,_⟩ | ⟨q,m,t,hs,h2,_,_⟩
 .rw[h1];exact Nat.zero_le _
 .rw[h2];have:=vE (p:=p++q) (s:=t) (m:=m) hd (by rw[h,hs];simp);show Hu ns (.pointer (some ⟨m.a,0,none⟩))<=_;rw[this,hs];simp
def gH (b:Nat) (ps:List Nd) (k:Nat):Array Value:=((List.range 8).map fun j=>if k<=j then dX (some (ay b ps j)) else dX none).toArray
theorem xR (b:Nat) (ps:List Nd) (k:Nat) (hk:k<8):(gH b ps (k+1)).setIfInBounds k (.pointer (some ⟨ay b ps k,0,none⟩))=gH b ps k:=by
 apply Array.ext';apply List.ext_getElem?;intro j;unfold gH;simp only[List.setIfInBounds_toArray,List.getElem?_set,List.getElem?_map,List.length_map,List.length_range];by_cases hj:j<8
 .rw[List.getElem?_range hj];by_cases e:k=j
  .subst e;simp[hk,dX]
  .have:(k+1<=j)=(k<=j):=by apply propext;omega
   simp[e,this]
 .simp[hj,show ¬ k=j by omega]
abbrev F5 (e:En):Array Value:= #[.slice e.key.1 e.key.2.2.length e.key.2.1,.slice e.value.1 e.value.2.2.length e.value.2.1,.int .i64 e.seq,.bool e.dead]
theorem rG (b:Nat) (ps:List Nd) (k:Nat) {j:Nat} (hj:j<8):(gH b ps k)[j]?=some (if k<=j then dX (some (ay b ps j)) else dX none):=by unfold gH;simp[hj]
structure ND (w:World) (b:Nat) (ns:List Nd) (e:En) (E B O V:Nat) (k:Nat) (p s:List Nd) (A R h:Nat) (wr:World):Prop where
 zF:zK w b ns e.ao k p s A R h
 k8:k<=8
 sat:Sat w (Pt O 181 (gH b (ahead e.ao ns) V)*(Pt B 181 (gH b [] 8)*(Pt E 120 (F5 e)*aV))) wr
theorem na (b hr:Nat) (ns:List Nd) (e:En) (w:World) (hv:View w b hr ns) (hok:xN ns) (he:pJ w e):
 Calls Tryz.prog 108 #[.pointer (some ⟨b,0,none⟩),jD e] w fun x w'=>x = .returned (.agg (gH b (ahead e.ao ns) 0))/\aq No w w':=by
 have HV:=ah hv;have HE:=ah he;have HO:=ah hok;have HEA:Hid (∀ e:En,jD e = .agg #[.slice e.key.1 e.key.2.2.length e.key.2.1,.slice e.value.1 e.value.2.2.length e.value.2.1,.int .i64 e.seq,.bool e.dead]):=fun _=>rfl
 rw[HEA.o];clear hv he hok;go_enter Tryz.func108, Tryz.ntmps108;go_wp2_with fail;have s1:=(Sat.start w).bG (b:=w.heap.size) 120 (F5 e) rfl;have s2:=s1.bG (b:=w.heap.size+1) 181 (gH b [] 8) (by simp);have s3:=s2.bG (b:=w.heap.size+1+1) 181 (gH b (ahead e.ao ns) 8) (by simp);obtain⟨W,hW⟩: ∃ W,W=((w.alloc (.cells (F5 e) 120)).alloc (.cells (gH b [] 8) 181)).alloc (.cells (gH b (ahead e.ao ns) 8) 181):=⟨_,rfl⟩;rw[<-hW] at s3;have e8: ∀ ps,gH b ps 8 = #[.pointer none,.pointer none,.pointer none,.pointer none,.pointer none,.pointer none,.pointer none,.pointer none]:=fun _=>rfl
 rw[e8,e8] at hW;rw[<-hW];generalize w.heap.size=E at*
 obtain⟨O,hO⟩: ∃ O,O=E+1+1:=⟨_,rfl⟩;obtain⟨B,hB⟩: ∃ B,B=E+1:=⟨_,rfl⟩;rw[<-hO, <-hB] at s3;rw[<-hO, <-hB];have HS:=ah s3;clear s1 s2 s3 hW e8 hO hB;go_loopw [6,7] (fun at' i wr=> ∃ (k A R h:Nat) (p s:List Nd),i = .int .i64 ((k:Int) - 1)/\at' = .pointer (some ⟨A,0,none⟩)/\k<=8/\Hid (ND w b ns e E B O k k p s A R h wr)) (fun _ i _=>(intOf i+1).toNat)
 case atStart=>exact⟨8,b,hr,8,[],ns,rfl,rfl,by omega,HV.o.zF HO.o _,by omega,HS.o⟩
 case round=>
  obtain⟨k,A,R,h,p,s,rfl,rfl,hk8,HD⟩:=hrel;rcases k with _ | q
  .have eO: ∀ ps,gH b ps 0 = #[.pointer (some ⟨ay b ps 0,0,none⟩),.pointer (some ⟨ay b ps 1,0,none⟩),.pointer (some ⟨ay b ps 2,0,none⟩),.pointer (some ⟨ay b ps 3,0,none⟩),.pointer (some ⟨ay b ps 4,0,none⟩),.pointer (some ⟨ay b ps 5,0,none⟩),.pointer (some ⟨ay b ps 6,0,none⟩),.pointer (some ⟨ay b ps 7,0,none⟩)]:=fun _=>rfl
   have hs:=HD.o.sat;have e8:gH b [] 8 = #[.pointer none,.pointer none,.pointer none,.pointer none,.pointer none,.pointer none,.pointer none,.pointer none]:=rfl;rw[eO,e8] at hs;have c0:=hs.cell 0;have c1:=hs.cell 1;have c2:=hs.cell 2;have c3:=hs.cell 3;have c4:=hs.cell 4;have c5:=hs.cell 5;have c6:=hs.cell 6;have c7:=hs.cell 7;have f0:=hs.av.frozen 0;have f1:=hs.av.frozen 1;have f2:=hs.av.frozen 2;have f3:=hs.av.frozen 3;have f4:=hs.av.frozen 4;have f5:=hs.av.frozen 5;have f6:=hs.av.frozen 6;have f7:=hs.av.frozen 7;have d0:=hs.av.cell 0;have d1:=hs.av.cell 1;have d2:=hs.av.cell 2;have d3:=hs.av.cell 3;have d4:=hs.av.cell 4;have d5:=hs.av.cell 5;have d6:=hs.av.cell 6;have d7:=hs.av.cell 7;have HQ:Hid (Value.agg (gH b (ahead e.ao ns) 0)=_):=congrArg Value.agg (eO _);have HS2:=ah hs;clear hs eO e8;have h9:=(((((((HS2.o.av.set 0 (.pointer (some ⟨ay b (ahead e.ao ns) 0,0,none⟩))).set 1 (.pointer (some ⟨ay b (ahead e.ao ns) 1,0,none⟩))).set 2 (.pointer (some ⟨ay b (ahead e.ao ns) 2,0,none⟩))).set 3 (.pointer (some ⟨ay b (ahead e.ao ns) 3,0,none⟩))).set 4 (.pointer (some ⟨ay b (ahead e.ao ns) 4,0,none⟩))).set 5 (.pointer (some ⟨ay b (ahead e.ao ns) 5,0,none⟩))).set 6 (.pointer (some ⟨ay b (ahead e.ao ns) 6,0,none⟩))).set 7 (.pointer (some ⟨ay b (ahead e.ao ns) 7,0,none⟩));go_wp2_with fail;clear c0 c1 c2 c3 c4 c5 c6 c7 f0 f1 f2 f3 f4 f5 f6 f7 d0 d1 d2 d3 d4 d5 d6 d7;revert h9;generalize World.setCell _ _ _=W2;intro h9;refine bodyPost_ret (results_cell_row (p:=4) (by kernel_rfl) _ _ B 181 _ (0,0) _ rfl h9.at Tryz.underlying181 rfl (by kernel_rfl)) rfl ?_;exact⟨by rw[HQ.o];rfl,h9.aP⟩
  .have HI:Hid (((q+1:Nat):Int) - 1=q):=by unfold Hid;omega
   rw[HI.o];have hh:=HD.o.zF.hk;have q1:=(HD.o.zF.new HD.o.sat.aP).head;have q2:=(HD.o.zF.new HD.o.sat.aP).links q (by omega);have HD0:=HD;clear HD;go_wp2_with fail;clear hh q1 q2;go_loopw [6,8] (fun at' n wr=> ∃ (A R h:Nat) (p s:List Nd),at' = .pointer (some ⟨A,0,none⟩)/\n=dX (di dq s q)/\Hid (ND w b ns e E B O (q+1) (q+1) p s A R h wr)) (fun _ n _=>Hu ns n)
   case atStart=>exact⟨A,R,h,p,s,rfl,rfl,HD0.o⟩
   case round=>
    clear HD0;obtain⟨A1,R1,h1,p1,s1,rfl,rfl,HD⟩:=hrel;have hq:q<8:=by omega
    have wq:IntKind.i64.wrap ((q:Int) - 1)=(q:Int) - 1:=by rw[IntKind.wrap_i64];omega
    rcases jf s1 q with ⟨e1,hlow⟩ | ⟨u,m,t,e2,e1,hm,hu⟩
    .have HX:=ah (Dq HD.o.zF hlow);have e3:dX (di dq s1 q) = .pointer none:=by rw[e1];rfl
     rw[e3];clear e1 e3 hlow;have f1:=HD.o.sat.frozen q;have f2:wr.cell? ⟨O,q,none⟩=some (.pointer none):=by rw[HD.o.sat.cell q,rG _ _ _ hq,if_neg (by omega)];rfl
     go_wp2_with fail;go_region
     go_wp2_with fail;go_roundw
     .have hs:=HD.o.sat.drew.set q (.pointer (some ⟨A1,0,none⟩));rw[<-HD.o.zF.here HX.o,xR _ _ _ hq] at hs;rw[HD.o.zF.here HX.o] at hs;exact⟨q,A1,R1,h1,p1,s1,rfl,rfl,by omega,HD.o.zF.down HX.o,by omega,hs⟩
     .simp[intOf]<;>omega
    .have e3:dX (di dq s1 q) = .pointer (some ⟨m.a,0,none⟩):=by rw[e1];rfl
     rw[e3];have hsp:=HD.o.zF.eq;have hv2:=HV.o.new HD.o.sat.aP;obtain⟨n0,n1,n2,n3,n4,n5,n6⟩:=hv2.node (p1++u) m t (by rw[hsp,e2];simp);unfold aO at n1 n2;have HR2:=ah hv2.nodup;have HN:=ah n6;have c0:=HD.o.sat.right.right.cell 0;have c1:=HD.o.sat.right.right.cell 1;have c2:=HD.o.sat.right.right.cell 2;have c3:=HD.o.sat.right.right.cell 3;have HU:=ah hu;have E2:=ah e2;have E1:=ah hsp;have HM:=ah hm;clear hu e2 hsp hm e1 e3 hv2 n5 n6 n0;have HC:=ah HD.o.sat.aP;go_wp2_with fail;go_region_law (go_simp;go_at_call 147;refine(sF m.e e _ (HN.o.new (aq.refl No wr).drew) (HE.o.new HC.o.drew)).mono ?_;rintro x w5 ⟨rfl,k5⟩)
     all_goals
      cases hb:aF m.e.ao e.ao with
      | false=>
       have HX:=ah (DI HD.o.zF HO.o E2.o HU.o (by unfold dJ;rw[hb];simp));have hs0:=HD.o.sat.drew.new k5;have f1:=hs0.frozen q;have f2:w5.cell? ⟨O,q,none⟩=some (.pointer none):=by rw[hs0.cell q,rG _ _ _ hq,if_neg (by omega)];rfl
       have HS0:=ah hs0;clear hs0;go_wp2_with fail;go_roundw
       .have hs:=HS0.o.set q (.pointer (some ⟨A1,0,none⟩));rw[<-HD.o.zF.here HX.o,xR _ _ _ hq] at hs;rw[HD.o.zF.here HX.o] at hs;exact⟨q,A1,R1,h1,p1,s1,rfl,rfl,by omega,HD.o.zF.down HX.o,by omega,hs⟩
       .simp[intOf]<;>omega
      | true=>
       have HP:=ah (HD.o.zF.step HV.o HO.o E2.o HM.o hb);have HS0:=ah (HD.o.sat.drew.new k5);have hf:=HO.o.full m (by rw[E1.o,E2.o];simp);have hmq:=HM.o;have q3:=(HP.o.new HS0.o.aP).head;have q4:=(HP.o.new HS0.o.aP).links q (by omega);go_wp2_with fail;go_roundw
       .exact⟨m.a,m.r,m.h,_,t,rfl,rfl,HP.o,HD.o.k8,HS0.o⟩
       .have r1:=vE (p:=p1++u) (s:=t) (m:=m) HR2.o (by rw[E1.o,E2.o];simp);have r2:=yU (p:=p1++(u++[m])) (s:=t) (i:=q) HR2.o (by rw[E1.o,E2.o];simp);simp;omega
section
variable {w0 w w':World} {F:SP}
theorem ox (S:Option Addr) (n:Nat) (l:List UInt8) (h:Sat w0 F w) (hr:Rd w S l) (hl:l.length<=140737488355328):
 Calls Tryz.prog 104 #[.slice S l.length n] w fun e w'=> ∃ A c,e = .returned (.slice A l.length c)/\aq No w w'/\Sat w0 (Row 5 1 (.slice A l.length c) l.length (l.map bv)*F) w':=by
 refine(eT S n l w hr hl).mono ?_;rintro e w' ⟨v,rfl,h1,h2,h3⟩;have h4:=h.dP h3 h1;obtain⟨A,c,rfl,_⟩:=h4.aT;exact⟨A,c,rfl,h3,h4⟩
end
def pw (A:SP):Prop:= ∀ h,A h-> ∀ k x,h k=some x->x.1=false
theorem dt:pw aV:=fun h e k x hx=>by unfold aV at e;rw[e] at hx;cases hx
theorem Fh (b:Nat) (o:Obj):pw (Ow b o):=fun h e k x hx=>by
 unfold Ow at e;rw[e] at hx;unfold eo at hx;split at hx
 .injection hx with hx;subst hx;rfl
 .cases hx
theorem bM (e:TypeId) (size:Nat) (v:Value) (n:Nat) (xs:List Value):pw (Row e size v n xs):=fun h he k x hx=>by
 rcases he.2 with ⟨_,_,h1⟩ | ⟨g,cap,cur,_,_,_,_,_,h1⟩
 .exact dt h h1 k x hx
 .exact Fh _ _ h h1 k x hx
theorem bf {A B:SP} (ha:pw A) (hb:pw B):pw (A*B):=fun h ⟨a,b,h1,h2,h3,h4⟩ k x hx=>by
 rw[h2] at hx;unfold Hp.un jn at hx
 cases hk:a k with
 | none=>rw[hk] at hx;exact hb b h4 k x hx
 | some y=>rw[hk] at hx;injection hx with hx;subst hx;exact ha a h3 k _ hk
theorem Sat.join {w0 w w':World} {A F:SP} (h:Sat w0 F w) (k:Sat w A w') (hA:pw A):Sat w0 (A*F) w':=by
 obtain⟨x,h1,h2⟩:=h.hp;obtain⟨y,k1,k2⟩:=k.hp;have hs:=h.size;have hd: ∀ b u v,x b=some u->y b=some v->False:=fun b u v hu hv=>by
  have e1:=lt_of_block (h1 b u hu).1;have e2:=(k1 b v hv).2 (hA y k2 b v hv);omega
 refine⟨h.aP.tr k.aP,y.un x,fun b u hu=>?_,y,x,fun b=>?_,rfl,k2,h2⟩
 .unfold Hp.un jn at hu
  cases hk:y b with
  | none=>
   rw[hk] at hu;have:=h1 b u hu;exact⟨by rw[k.aP.block b (lt_of_block this.1) id];exact this.1,this.2⟩
  | some v=>
   rw[hk] at hu;injection hu with hu;subst hu
   have:=k1 b v hk;exact⟨this.1,fun e=>Nat.le_trans hs (this.2 e)⟩
 .cases hy:y b with
  | none=>exact .inl rfl
  | some v=>
   cases hx:x b with
   | none=>exact .inr (.inl rfl)
   | some u=>exact(hd b u v hx hy).elim
def jW (w0:World) (F:SP) (e:En) (x:Ending) (w':World):Prop:= ∃ A c B d,x = .returned (jD ⟨(A,c,e.key.2.2),(B,d,e.value.2.2),e.seq,e.dead⟩)/\
 Sat w0 (Row 5 1 (.slice A e.key.2.2.length c) e.key.2.2.length (e.key.2.2.map bv)*(Row 5 1 (.slice B e.value.2.2.length d) e.value.2.2.length (e.value.2.2.map bv)*F)) w'
theorem JQ (e:En) (w:World) (hr:pJ w e) (hk:e.key.2.2.length<=140737488355328) (hv:e.value.2.2.length<=140737488355328):
 Calls Tryz.prog 110 #[jD e] w (jW w aV e):=by
 have h:=Sat.start w;obtain⟨⟨kA,kc,k⟩,⟨vA,vc,v⟩,seq,dead⟩:=e;have HRk:Hid (Rd w kA k):=hr.1;have HRv:Hid (Rd w vA v):=hr.2;have hk':k.length<=140737488355328:=hk;have hv':v.length<=140737488355328:=hv;have h1:=h.bG (b:=w.heap.size) 120 #[.slice kA k.length kc,.slice vA v.length vc,.int .i64 seq,.bool dead] rfl;have h2:=h1.bG (b:=w.heap.size+1) 120 #[.slice none 0 0,.slice none 0 0,.int .i64 0,.bool false] (by simp);have hc2:aq No w _:=((aq.refl No w).alloc (.cells #[.slice kA k.length kc,.slice vA v.length vc,.int .i64 seq,.bool dead] 120)).alloc (.cells #[.slice none 0 0,.slice none 0 0,.int .i64 0,.bool false] 120);clear hr h h1;unfold jD;go_enter Tryz.func110, Tryz.ntmps110;go_wp2_with fail;revert h2 hc2;generalize (w.alloc _).alloc _=W;intro h2 hc2;generalize w.heap.size+1=B at*
 generalize w.heap.size=E at*
 have c0:=h2.av.cell 0;have c1:=h2.av.cell 1;have c2:=h2.av.cell 2;have c3:=h2.av.cell 3;have HS0:=ah h2;have HC0:=ah hc2;clear h2 hc2;go_region_law (first
  | (go_simp;go_at_call 104;(with_reducible refine(ox kA kc k HS0.o.drew (HRk.o.new HC0.o.drew) hk').mono ?_);rintro x w1 ⟨A,c,rfl,k1,hs1⟩;have HS1:=ah hs1;have HC1:=ah (HC0.o.drew.tr k1);have c0:=hs1.bD.cell 0;have c1:=hs1.bD.cell 1;have c2:=hs1.bD.cell 2;have c3:=hs1.bD.cell 3;clear hs1 k1)
  | (go_simp;go_at_call 104;(with_reducible refine(ox vA vc v HS1.o (HRv.o.new HC1.o) hv').mono ?_);rintro x w2 ⟨B2,d,rfl,k2,hs2⟩;have HS2:=ah hs2;have HC2:=ah (HC1.o.tr k2);have c0:=hs2.bW.cell 0;have c1:=hs2.bW.cell 1;have c2:=hs2.bW.cell 2;have c3:=hs2.bW.cell 3;have f0:=hs2.bW.frozen 0;have f1:=hs2.bW.frozen 1;clear hs2 k2))
 all_goals
  have h5:=(HS2.o.bW.set 0 (.slice A k.length c)).set 1 (.slice B2 v.length d);clear f0 f1 c0 c1 c2 c3;revert h5;generalize World.setCell _ _ _=w3;intro h5;have c0:=h5.cell 0;have c1:=h5.cell 1;have c2:=h5.cell 2;have c3:=h5.cell 3;have d0:=h5.bW.cell 0;have d1:=h5.bW.cell 1;have d2:=h5.bW.cell 2;have d3:=h5.bW.cell 3;have f0:=h5.bW.frozen 0;have f1:=h5.bW.frozen 1;have f2:=h5.bW.frozen 2;have f3:=h5.bW.frozen 3;have h6:=(((h5.bW.set 0 (.slice A k.length c)).set 1 (.slice B2 v.length d)).set 2 (.int .i64 seq)).set 3 (.bool dead);go_wp2_with fail;revert h6;generalize World.setCell _ _ _=w4;intro h6;refine bodyPost_ret (results_cell_row (p:=2) (by kernel_rfl) _ _ B 120 _ (0,0) _ rfl h6.at Tryz.underlying120 rfl (by kernel_rfl)) rfl ?_;exact⟨A,c,B2,d,rfl,h6.right.right.av⟩
theorem kj (e:En) (w0 w:World) (F:SP) (h:Sat w0 F w) (hr:pJ w e) (hk:e.key.2.2.length<=140737488355328) (hv:e.value.2.2.length<=140737488355328):
 Calls Tryz.prog 110 #[jD e] w fun x w'=>jW w0 F e x w'/\aq No w w':=by
 refine(JQ e w hr hk hv).mono ?_;rintro x w' ⟨A,c,B,d,rfl,hs⟩;exact⟨⟨A,c,B,d,rfl,(h.join hs (bf (bM _ _ _ _ _) (bf (bM _ _ _ _ _) dt))).of (by rw[aj,aj,aX])⟩,hs.aP⟩
theorem yD {f g:Nat->Option Nat} {h v i:Nat} {u:Value} (hi:i<v) (hfg: ∀ j,j<h->j≠i->j<v->f j=g j) (hu:dX (g i)=u):(cQ f h v).setIfInBounds i u=cQ g h v:=by
 apply Array.ext';apply List.ext_getElem?;intro j;unfold cQ;simp only[List.setIfInBounds_toArray,List.getElem?_set,List.getElem?_map,List.length_map,List.length_range];by_cases hj:j<h
 .rw[List.getElem?_range hj];by_cases e:i=j
  .subst e;simp[hj,hi,hu]
  .by_cases hv:j<v
   .simp[e,hv,hfg j hj (fun q=>e q.symm) hv]
   .simp[e,hv]
 .simp[hj];omega
theorem DC {f:Nat->Option Nat} {h i:Nat}:(cQ f h i).setIfInBounds i (dX (f i))=cQ f h (i+1):=by
 apply Array.ext';apply List.ext_getElem?;intro j;unfold cQ;simp only[List.setIfInBounds_toArray,List.getElem?_set,List.getElem?_map,List.length_map,List.length_range];by_cases hj:j<h
 .rw[List.getElem?_range hj];by_cases e:i=j
  .subst e;simp[hj]
  .have:(j<i+1)=(j<i):=by apply propext;omega
   simp[e,this]
 .simp[hj];omega
theorem kD (i:Nat): ∀ (p:List Nd) (b:Nat),((∀ n ∈ p,n.v<=i)/\ay b p i=b)\/ ∃ p1 m p2,p=p1++m::p2/\i<m.v/\(∀ n ∈ p2,n.v<=i)/\ay b p i=m.a
 | [],b=> .inl ⟨by simp,rfl⟩
 | n::p,b=>by
  by_cases h:i<n.v
  .have e:ay b (n::p) i=ay n.a p i:=by show (if i<n.v then _ else _)=_;rw[if_pos h]
   rcases kD i p n.a with ⟨h1,h2⟩ | ⟨p1,m,p2,h1,h2,h3,h4⟩
   .exact .inr ⟨[],n,p,rfl,h,h1,by rw[e,h2]⟩
   .exact .inr ⟨n::p1,m,p2,by rw[h1];rfl,h2,h3,by rw[e,h4]⟩
  .have e:ay b (n::p) i=ay b p i:=by show (if i<n.v then _ else _)=_;rw[if_neg h]
   rcases kD i p b with ⟨h1,h2⟩ | ⟨p1,m,p2,h1,h2,h3,h4⟩
   .exact .inl ⟨fun x hx=>(List.mem_cons.1 hx).elim (fun q=>by subst q;omega) (h1 x),by rw[e,h2]⟩
   .exact .inr ⟨n::p1,m,p2,by rw[h1];rfl,h2,h3,by rw[e,h4]⟩
def Nd.lF (n:Nd) (i:Nat):Nd:={ n with v:=i }
section
variable {w0 w:World} {F:SP} {b hr i:Nat} {pre beh:List Nd} {N:Nd} {c y:Int}
theorem mj (N:Nd) (beh:List Nd) (i j:Nat) (h:j≠i):di dq (N.lF i::beh) j=di dq (N.lF (i+1)::beh) j:=by
 rw[dH,dH];show (if j<i then some N.a else _)=(if j<i+1 then some N.a else _);by_cases hj:j<i
 .rw[if_pos hj,if_pos (by omega)]
 .rw[if_neg hj,if_neg (by omega)]
theorem wC {t t':Nat->Option Nat} {i:Nat} (h:t i=t' i): ∀ ns:List Nd,di t ns i=di t' ns i:=fun ns=>by
 unfold di;cases ns.find? (fun n=>decide (i<n.v)) with | some _=>rfl | none=>exact h
theorem xE (pre beh:List Nd) (N:Nd) (i j:Nat):lq (pre++N.lF i::beh)=lq (pre++N.lF j::beh):=by unfold lq;simp[Nd.lF]
theorem nQ (b hr:Nat) (pre:List Nd) (n:Nd) (beh:List Nd) (c y:Int) (F:SP):de b hr (pre++n::beh) c y*F=
 Pt n.a 186 (gq n)*(Pt n.r 183 (cQ (di dq beh) n.h n.v)*(bH (di dq (n::beh)) pre*(Pt hr 183 (cQ (di (di dq (n::beh)) pre) 8 8)*
  (Pt b 173 #[.slice (some ⟨hr,0,none⟩) 8 8,.int .i64 c,.int .i64 y]*(bH dq beh*(ca (lq (pre++n::beh))*F)))))):=by
 unfold de;rw[iT,lQ];show Pt b _ _*(Pt hr _ _*(bH (di dq (n::beh)) pre*(Pt n.a _ (gq n)*Pt n.r _ (cQ (di dq beh) n.h n.v)*bH dq beh)*ca _))*F=_
 ac_rfl
structure Nb (w0 w:World) (b hr:Nat) (pre beh:List Nd) (N:Nd) (i:Nat) (c y:Int) (F:SP) (A R h:Nat):Prop where
 last:ay b pre i=A
 hi:i<h
 head:w.cell? ⟨A,0,none⟩=some (.slice (some ⟨R,0,none⟩) h h)
 link:w.cell? ⟨R,i,none⟩=some (dX (di dq beh i))
 free:w.frozen? ⟨R,i,none⟩=false
 nhead:w.cell? ⟨N.a,0,none⟩=some (.slice (some ⟨N.r,0,none⟩) N.h N.h)
 nlink:w.cell? ⟨N.r,i,none⟩=some (dX none)
 nfree:w.frozen? ⟨N.r,i,none⟩=false
 apart:R≠N.r
 on:Sat w0 (de b hr (pre++N.lF (i+1)::beh) c y*F) ((w.setCell ⟨N.r,i,none⟩ (dX (di dq beh i))).setCell ⟨R,i,none⟩ (.pointer (some ⟨N.a,0,none⟩)))
theorem Sat.spot (h:Sat w0 (de b hr (pre++N.lF i::beh) c y*F) w) (hN:i<N.h) (h8:N.h<=8) (hp: ∀ n ∈ pre,n.v=n.h): ∃ A R H,Nb w0 w b hr pre beh N i c y F A R H:=by
 have h1:=h.of (nQ b hr pre (N.lF i) beh c y F);have n0:=h1.cell 0;have n1:w.cell? ⟨N.r,i,none⟩=_:=h1.av.cell i;rw[ll _ (show i<(N.lF i).h from hN),if_neg (by show ¬ i<i;omega)] at n1;have n2:w.frozen? ⟨N.r,i,none⟩=false:=h1.av.frozen i;have h2:=h1.av.set i (dX (di dq beh i));rw[show cQ (di dq beh) (N.lF i).h (N.lF i).v=cQ (di dq beh) N.h i from rfl,DC] at h2;have hlow: ∀ j,j<i->di dq (N.lF i::beh) j=di dq (N.lF (i+1)::beh) j:=fun j hj=>mj N beh i j (by omega)
 have hself:di dq (N.lF (i+1)::beh) i=some N.a:=by rw[dH,if_pos (by show i<i+1;omega)];rfl
 have hold:di dq (N.lF i::beh) i=di dq beh i:=by rw[dH,if_neg (by show ¬ i<i;omega)]
 rcases kD i pre b with ⟨hl,ha⟩ | ⟨p1,m,p2,rfl,hm,hl,ha⟩
 .have g1:=h1.gw.cell 0;have g2:=h1.bW.cell i;have g3:=h1.bW.frozen i;have hne:hr≠N.r:=by have:=h1.av.bW;exact(Sat.ne this)
  rw[ll _ (by omega),if_pos (by omega),lP hl,hold] at g2;refine⟨b,hr,8,ha,by omega,g1,g2,g3,n0,n1,n2,hne,?_⟩;have h3:=h2.bW.set i (.pointer (some ⟨N.a,0,none⟩));rw[yD (g:=di (di dq (N.lF (i+1)::beh)) pre) (by omega) (fun j _ hj _=>wC (mj N beh i j hj) pre) (by rw[lP hl,hself];rfl),oN hl hlow,xE pre beh N i (i+1)] at h3;refine Sat.of ?_ (nQ b hr pre (N.lF (i+1)) beh c y F).symm;exact h3.of (by
   show Pt hr _ _*(Pt N.r _ (cQ (di dq beh) N.h (i+1))*(Pt N.a _ (gq N)*(bH _ pre*(Pt b _ _*(bH dq beh*(ca _*F))))))=Pt N.a _ (gq N)*(Pt N.r _ (cQ (di dq beh) N.h (i+1))*(bH _ pre*(Pt hr _ _*(Pt b _ _*(bH dq beh*(ca _*F))))))
   ac_rfl)
 .have h3:=h1.bD.of (kU _ p1 m p2 _);have g1:=h3.cell 0;have g2:=h3.av.cell i;have g3:=h3.av.frozen i;have hmv:=hp m (by simp);have hne:m.r≠N.r:=fun e=>(Sat.ne (h3.right.gw)) e.symm
  rw[ll _ (by omega),if_pos hm,lP hl,hold] at g2;refine⟨m.a,m.r,m.h,ha,by omega,g1,g2,g3,n0,n1,n2,hne,?_⟩;have h4:=(h2.bD.of (kU _ p1 m p2 _)).av.set i (.pointer (some ⟨N.a,0,none⟩));rw[yD (g:=di (di dq (N.lF (i+1)::beh)) p2) hm (fun j _ hj _=>wC (mj N beh i j hj) p2) (by rw[lP hl,hself];rfl),oN hl hlow] at h4;have e1:di (di dq (N.lF i::beh)) (m::p2)=di (di dq (N.lF (i+1)::beh)) (m::p2):=by
   funext j
   by_cases hj:j=i
   .subst hj;rw[dH,dH,if_pos hm,if_pos hm]
   .exact wC (mj N beh i j hj) _
  have e2:di (di dq (N.lF i::beh)) (p1++m::p2)=di (di dq (N.lF (i+1)::beh)) (p1++m::p2):=by rw[iT,iT,e1]
  rw[e1,e2,xE (p1++m::p2) beh N i (i+1)] at h4;refine Sat.of ?_ (nQ b hr (p1++m::p2) (N.lF (i+1)) beh c y F).symm;have e3:=kU (di dq (N.lF (i+1)::beh)) p1 m p2 (Pt N.r 183 (cQ (di dq beh) N.h (i+1))*(Pt N.a 186 (gq N)*(Pt hr 183 (cQ (di (di dq (N.lF (i+1)::beh)) (p1++m::p2)) 8 8)*
   (Pt b 173 #[.slice (some ⟨hr,0,none⟩) 8 8,.int .i64 c,.int .i64 y]*(bH dq beh*(ca (lq (p1++m::p2++N.lF (i+1)::beh))*F))))))
  exact(h4.av.of e3.symm).of (by
   show bH _ (p1++m::p2)*(Pt N.r _ (cQ (di dq beh) N.h (i+1))*(Pt N.a _ (gq N)*(Pt hr _ _*(Pt b _ _*(bH dq beh*(ca _*F))))))=Pt N.a _ (gq N)*(Pt N.r _ (cQ (di dq beh) N.h (i+1))*(bH _ (p1++m::p2)*(Pt hr _ _*(Pt b _ _*(bH dq beh*(ca _*F))))))
   ac_rfl)
end
def behind (e:aw) (ns:List Nd):List Nd:=ns.dropWhile fun n=>aF n.e.ao e
theorem bN (e:aw) (ns:List Nd):ns=ahead e ns++behind e ns:=(List.takeWhile_append_dropWhile).symm
theorem lj {e:aw} {ns s:List Nd} {m:Nd} (h:behind e ns=m::s):¬ dJ m.e.ao e:=by
 have:=List.head?_dropWhile_not (fun n:Nd=>aF n.e.ao e) ns;unfold behind at h;rw[h] at this;simp at this;unfold dJ;rw[this];simp
section
variable {w:World} {b hr:Nat} {ns:List Nd} {e:aw}
def iP (e:aw) (ns:List Nd):Bool:=match behind e ns with | m::_=>decide (pU m.e.ao e=0) | []=>false
theorem D7 (hok:xN ns):iP e ns=true↔ ∃ n ∈ ns,jm n.e.ao e:=by
 unfold iP;have hs:=hok.sort;have ha:=bN e ns;constructor
 .intro h
  cases hb:behind e ns with
  | nil=>rw[hb] at h;simp at h
  | cons m s=>
   rw[hb] at h;refine⟨m,by rw[ha,hb];simp,su.1 (by simpa using h)⟩
 .rintro ⟨n,hn,hsame⟩;rw[ha] at hn;rcases List.mem_append.1 hn with hn | hn
  .exact absurd (ji hn).2 (oD hsame)
  .cases hb:behind e ns with
   | nil=>rw[hb] at hn;simp at hn
   | cons m s=>
    rw[hb] at hn;rcases List.mem_cons.1 hn with q | hn
    .subst q;simpa using su.2 hsame
    .exfalso;rw[ha,hb,List.pairwise_append,List.pairwise_cons] at hs;have h1:=hs.2.1.1 n hn;refine lj hb ?_;rw[cU] at h1 ⊢;rw[<-hsame.1, <-hsame.2];exact h1
theorem View.last (v:View w b hr ns) (hok:xN ns) {pre beh:List Nd} (hs:ns=pre++beh) {i:Nat} (hi:i<8):
 ∃ R h,i<h/\w.cell? ⟨ay b pre i,0,none⟩=some (.slice (some ⟨R,0,none⟩) h h)/\w.cell? ⟨R,i,none⟩=some (dX (di dq beh i)):=by
 subst hs;rcases kD i pre b with ⟨hl,ha⟩ | ⟨p1,m,p2,rfl,hm,hl,ha⟩
 .refine⟨hr,8,hi,by rw[ha];exact v.head,?_⟩;have:=v.links i hi;rwa [iT,lP hl] at this
 .obtain⟨h1,_,_,_,_,h6,_⟩:=v.node p1 m (p2++beh) (by simp);have hf:=hok.full m (by simp);refine⟨m.r,m.h,by omega,by rw[ha];exact h1,?_⟩;have:=h6 i (by omega);rwa [iT,lP hl] at this
end
theorem FH (K:Nat):madeCells #[.pointer none] K=cQ dq K 0:=by
 apply Array.ext';apply List.ext_getElem?;intro i;unfold madeCells cQ;by_cases h:i<K
 .simp[h,dX];rw[Nat.mod_one];rfl
 .simp[h]
theorem Ik:(Tryz.prog.info? 183).map (fun i=>(i.zero,i.size,i.bytes))=some (some (.pointer none),1,8):=by kernel_rfl
theorem tQ (n:Nat) (hn:n<=1000000) (W:World):(Instr.makeSlice 169 (.int .i64 (n:Int)) (.int .i64 (n:Int))).run Tryz.prog W=
 .ok (.slice (some ⟨W.heap.size,0,none⟩) n n) (W.alloc (.cells (cQ dq n 0) 183)):=by
 obtain⟨i0,hi,hz0,hz1,hz2⟩:=info_parts Ik;have hr:=run_make (P:= Tryz.prog) W 169 183 i0 _ Tryz.underlying169 hi hz0 .i64 .i64 n n (by omega) (by omega) (by rw[hz2];omega) (by omega);have hc:(Value.pointer none).cells = #[.pointer none]:=rfl;simpa [hz1,hc,FH] using hr
def fj (H:Int):Nat:=(min (max H 1) 8).toNat
section
variable {w0 w:World} {F G:SP} {b hr:Nat} {pre beh ns:List Nd} {N:Nd} {c y:Int}
theorem xS {A B:Option Addr} {cA cB:Nat} {k v:List UInt8} (h:Sat w0 (Row 5 1 (.slice A k.length cA) k.length (k.map bv)*(Row 5 1 (.slice B v.length cB) v.length (v.map bv)*G)) w):Sat w0 (ca [(A,cA,k),(B,cB,v)]*G) w:=by
 obtain⟨A1,c1,e1,_,_,h1⟩:=h.Be;injection e1 with e1 _ _
 subst e1;obtain⟨B1,d1,e2,_,_,h2⟩:=h1.av.Be;injection e2 with e2 _ _
 subst e2;have h3:Sat w0 (Rb B v*(Rb A k*G)) w:=h2;rw[show Rb B v=ca [(B,cB,v)] from sw (B,cB,v),show Rb A k=ca [(A,cA,k)] from sw (A,cA,k)] at h3;exact h3.av.iL
theorem I8 (h:Sat w0 (Pt N.a 186 (gq N)*(Pt N.r 183 (cQ dq N.h 0)*(ca [N.e.key,N.e.value]*(de b hr (pre++beh) c y*F)))) w):Sat w0 (de b hr (pre++N.lF 0::beh) c y*F) w:=by
 refine Sat.of ?_ (nQ b hr pre (N.lF 0) beh c y F).symm;have e1:di dq (N.lF 0::beh)=di dq beh:=by funext j;rw[dH,if_neg (by show ¬ j<0;omega)]
 have e2:cQ (di dq beh) (N.lF 0).h (N.lF 0).v=cQ dq N.h 0:=rE (fun j _ hj=>by have:j<0:=hj;omega);rw[e1,e2];have h1:Sat w0 (ca ([N.e.key,N.e.value]++lq (pre++beh))*(Pt N.a 186 (gq N)*(Pt N.r 183 (cQ dq N.h 0)*(bH (di dq beh) pre*(Pt hr 183 (cQ (di (di dq beh) pre) 8 8)*
  (Pt b 173 #[.slice (some ⟨hr,0,none⟩) 8 8,.int .i64 c,.int .i64 y]*(bH dq beh*F))))))) w:=h.of (by
  rw[<-iM];unfold de;rw[iT,lQ]
  ac_rfl)
 have h2:=h1.fS (rs':=lq (pre++N.lF 0::beh)) (by intro r hr;unfold lq at hr ⊢;simp[Nd.lF] at hr ⊢;rcases hr with hr | hr | hr | hr<;>simp[hr]);exact h2.of (by
  show ca _*(Pt N.a _ (gq N)*(Pt N.r _ _*(bH _ pre*(Pt hr _ _*(Pt b _ _*(bH dq beh*F))))))=Pt N.a _ (gq N)*(Pt N.r _ _*(bH _ pre*(Pt hr _ _*(Pt b _ _*(bH dq beh*(ca _*F))))))
  ac_rfl)
theorem gg (b hr:Nat) (ns:List Nd) (c y:Int) (F:SP):de b hr ns c y*F=Pt b 173 #[.slice (some ⟨hr,0,none⟩) 8 8,.int .i64 c,.int .i64 y]*(Pt hr 183 (cQ (di dq ns) 8 8)*(bH dq ns*(ca (lq ns)*F))):=by
 unfold de;ac_rfl
theorem Sat.Lk (h:Sat w0 (de b hr ns c y*F) w):w.cell? ⟨b,1,none⟩=some (.int .i64 c):=(h.of (gg ..)).cell 1
theorem Sat.Lu (h:Sat w0 (de b hr ns c y*F) w):w.cell? ⟨b,2,none⟩=some (.int .i64 y):=(h.of (gg ..)).cell 2
theorem Sat.yv (h:Sat w0 (de b hr ns c y*F) w) (i:Nat):w.frozen? ⟨b,i,none⟩=false:=(h.of (gg ..)).frozen i
theorem Sat.Gx (h:Sat w0 (de b hr ns c y*F) w) (c':Int):Sat w0 (de b hr ns c' y*F) (w.setCell ⟨b,1,none⟩ (.int .i64 c')):=Sat.of ((h.of (gg ..)).set 1 (.int .i64 c')) (gg ..).symm
theorem Sat.Fj (h:Sat w0 (de b hr ns c y*F) w) (y':Int):Sat w0 (de b hr ns c y'*F) (w.setCell ⟨b,2,none⟩ (.int .i64 y')):=Sat.of ((h.of (gg ..)).set 2 (.int .i64 y')) (gg ..).symm
end
def M7 (w0:World) (F:SP) (b hr:Nat) (ns:List Nd) (c y:Int) (e:aw) (H:Int) (x:Ending) (w':World):Prop:=
 (iP e ns=true/\x = .returned (.int .i64 50)/\Sat w0 (de b hr ns c y*F) w')\/
 (iP e ns=false/\x = .returned (.int .i64 0)/\ ∃ N:Nd,N.e.ao=e/\N.v=N.h/\N.h=fj H/\Sat w0 (de b hr (ahead e ns++N::behind e ns) (c+1) (y+((e.key.length+e.value.length:Nat):Int))*F) w')
theorem Fo (b hr:Nat) (ns:List Nd) (c y H:Int) (e:En) (w0 w:World) (F:SP) (h:Sat w0 (de b hr ns c y*F) w) (hok:xN ns) (he:pJ w e)
 (hk:e.key.2.2.length<=1000000000) (hv:e.value.2.2.length<=1000000000) (hc:0<=c/\c<=1000000000000) (hy:0<=y/\y<=1000000000000):
 Calls Tryz.prog 62 #[.pointer (some ⟨b,0,none⟩),jD e,.int .i64 H] w (M7 w0 F b hr ns c y e.ao H):=by
 have HEA:Hid (∀ e:En,jD e = .agg #[.slice e.key.1 e.key.2.2.length e.key.2.1,.slice e.value.1 e.value.2.2.length e.value.2.1,.int .i64 e.seq,.bool e.dead]):=fun _=>rfl
 have HV:=ah (h.view hok);have HE:=ah he;have HO:=ah hok;have s1:=h.bG (b:=w.heap.size) 120 (F5 e) rfl;obtain⟨W,hW⟩: ∃ W,W=w.alloc (.cells (F5 e) 120):=⟨_,rfl⟩;obtain⟨E,hE⟩: ∃ E,E=w.heap.size:=⟨_,rfl⟩;have HC1:Hid (aq No w W):=by rw[hW];exact(aq.refl No w).alloc _
 rw[<-hW, <-hE] at s1;have HS1:=ah s1;have HQ:Hid (Value.agg (gH b (ahead e.ao ns) 0) = .agg #[.pointer (some ⟨ay b (ahead e.ao ns) 0,0,none⟩),.pointer (some ⟨ay b (ahead e.ao ns) 1,0,none⟩),.pointer (some ⟨ay b (ahead e.ao ns) 2,0,none⟩),.pointer (some ⟨ay b (ahead e.ao ns) 3,0,none⟩),.pointer (some ⟨ay b (ahead e.ao ns) 4,0,none⟩),.pointer (some ⟨ay b (ahead e.ao ns) 5,0,none⟩),.pointer (some ⟨ay b (ahead e.ao ns) 6,0,none⟩),.pointer (some ⟨ay b (ahead e.ao ns) 7,0,none⟩)]):=rfl;have eC:F5 e = #[.slice e.key.1 e.key.2.2.length e.key.2.1,.slice e.value.1 e.value.2.2.length e.value.2.1,.int .i64 e.seq,.bool e.dead]:=rfl;rw[eC] at hW;rw[HEA.o];clear h he hok;go_enter Tryz.func62, Tryz.ntmps62;clear eC s1;have HW:=ah hW;have HEq:=ah hE;clear hW hE;go_upto_region 3 with (go_at_call 108;rw[<-HW.o, <-HEq.o];refine(na b hr ns e W (HV.o.new HC1.o) HO.o (HE.o.new HC1.o)).mono ?_;rintro x w2 ⟨rfl,k2⟩;rw[HQ.o];have HV2:=ah ((HV.o.new HC1.o).new k2);have HS2:=ah (HS1.o.new k2);obtain⟨R,h',hlt,q0,q1⟩:=(HV2.o.new ((aq.refl No w2).alloc (.cells #[.pointer (some ⟨ay b (ahead e.ao ns) 0,0,none⟩),.pointer (some ⟨ay b (ahead e.ao ns) 1,0,none⟩),.pointer (some ⟨ay b (ahead e.ao ns) 2,0,none⟩),.pointer (some ⟨ay b (ahead e.ao ns) 3,0,none⟩),.pointer (some ⟨ay b (ahead e.ao ns) 4,0,none⟩),.pointer (some ⟨ay b (ahead e.ao ns) 5,0,none⟩),.pointer (some ⟨ay b (ahead e.ao ns) 6,0,none⟩),.pointer (some ⟨ay b (ahead e.ao ns) 7,0,none⟩)] 181))).last HO.o (bN e.ao ns) (i:=0) (by omega))
 obtain⟨W3,hW3⟩: ∃ W3,W3=w2.alloc (.cells #[.pointer (some ⟨ay b (ahead e.ao ns) 0,0,none⟩),.pointer (some ⟨ay b (ahead e.ao ns) 1,0,none⟩),.pointer (some ⟨ay b (ahead e.ao ns) 2,0,none⟩),.pointer (some ⟨ay b (ahead e.ao ns) 3,0,none⟩),.pointer (some ⟨ay b (ahead e.ao ns) 4,0,none⟩),.pointer (some ⟨ay b (ahead e.ao ns) 5,0,none⟩),.pointer (some ⟨ay b (ahead e.ao ns) 6,0,none⟩),.pointer (some ⟨ay b (ahead e.ao ns) 7,0,none⟩)] 181):=⟨_,rfl⟩;obtain⟨O,hO⟩: ∃ O,O=w2.heap.size:=⟨_,rfl⟩;have HS3:Hid (Sat w0 (Pt O 181 (gH b (ahead e.ao ns) 0)*(Pt E 120 (F5 e)*(de b hr ns c y*F))) W3):=by rw[hW3,hO];exact HS2.o.af _ _
 have HV3:Hid (View W3 b hr ns):=by rw[hW3];exact HV2.o.new ((aq.refl No w2).alloc _)
 have HE3:Hid (pJ W3 e):=by rw[hW3];exact((HE.o.new HC1.o).new k2).new ((aq.refl No w2).alloc _)
 rw[<-hW3, <-hO];clear hW3 hO q0 q1 k2 hlt HS2 HV2 HS1 HW HEq HC1;go_cut [8,31] (fun _ s wx=>s = .bool (iP e.ao ns)/\Hid (pJ wx e/\Sat w0 (Pt O 181 (gH b (ahead e.ao ns) 0)*(Pt E 120 (F5 e)*(de b hr ns c y*F))) wx))
 case first=>
  rcases jf (behind e.ao ns) 0 with ⟨e1,hlow⟩ | ⟨u,m,t,e2,e1,hm,hu⟩
  .have hnil:behind e.ao ns=[]:=by
    cases hb:behind e.ao ns with
    | nil=>rfl
    | cons m s=>
     have h1:=hlow m (by rw[hb];simp);have h2:=HO.o.full m (by rw[bN e.ao ns,hb];simp);omega
   have HT:Hid (iP e.ao ns=false):=by unfold Hid iP;rw[hnil]
   have e3:dX (di dq (behind e.ao ns) 0) = .pointer none:=by rw[e1];rfl
   rw[e3];clear e1 e3 hlow hnil;go_region
   go_wp2_with fail;go_meet
   exact⟨by rw[HT.o],HE3.o.new (aq.refl No _).drew,HS3.o.drew⟩
  .have hu0:u=[]:=by
    cases hb:u with
    | nil=>rfl
    | cons x s=>
     have h1:=hu x (by rw[hb];simp);have h2:=HO.o.full x (by rw[bN e.ao ns,e2,hb];simp);omega
   subst hu0;rw[List.nil_append] at e2;have HT0:Hid (iP e.ao ns=decide (pU m.e.ao e.ao=0)):=by unfold Hid iP;rw[e2]
   have e3:dX (di dq (behind e.ao ns) 0) = .pointer (some ⟨m.a,0,none⟩):=by rw[e1];rfl
   rw[e3];obtain⟨n0,n1,n2,n3,n4,n5,n6⟩:=HV3.o.node (ahead e.ao ns) m t (by rw[<-e2];exact bN _ _);unfold aO at n1 n2;have HN:=ah n6;clear e1 e3 hm hu n5 n6 n0 e2;have c0:=HS3.o.av.cell 0;have c1:=HS3.o.av.cell 1;have c2:=HS3.o.av.cell 2;have c3:=HS3.o.av.cell 3;go_region_law (go_simp;go_at_call 109;refine(uq m.e e _ (HN.o.new (aq.refl No W3).drew) (HE3.o.new (aq.refl No W3).drew)).mono ?_;rintro x w5 ⟨rfl,k5⟩)
   all_goals
    go_wp2_with fail;go_meet
    exact⟨by rw[HT0.o];exact congrArg Value.bool (by rw[Bool.eq_iff_iff];simp),(HE3.o.new (aq.refl No W3).drew).new k5,HS3.o.drew.new k5⟩
 case rest=>
  obtain⟨hs,hcut⟩:=hcut;subst hs;obtain⟨w5,hw5⟩: ∃ w5,w5=wc:=⟨_,rfl⟩;rw[<-hw5] at hcut;rw[<-hw5];have HC5:=hcut;clear hw5 HV3 HS3 HE3 hcut wc
  cases hb:iP e.ao ns with
  | true=>
   have HT:=ah hb;clear hb;go_wp2_with fail;go_ret;exact .inl ⟨HT.o,rfl,HC5.o.2.right.right⟩
  | false=>
   have HT:=ah hb;clear hb;go_upto_region 5 with fail;go_cut [2] (fun s wx=>s = .int .i64 (fj H)/\Hid (wx=w5))
   case first=>
    have HK:Hid (fj H=(min (max H 1) 8).toNat):=rfl;go_wp2_with fail
    all_goals
     go_meet
     refine⟨?_,rfl⟩;congr 1
     rw[HK.o];omega
   case rest=>
    obtain⟨hs,hcw⟩:=hcut;subst hs;have hcw:=hcw.o;subst hcw;have hKl:1<=fj H:=by unfold fj;omega
    have hKu:fj H<=8:=by unfold fj;omega
    have HK:Hid (fj H=fj H):=rfl;revert hKl hKu HK;generalize hKK:fj H=K;intro hKl hKu HK;have HKK:=ah hKK;clear hKK HK;have c0:=HC5.o.2.av.cell 0;have c1:=HC5.o.2.av.cell 1;have c2:=HC5.o.2.av.cell 2;have c3:=HC5.o.2.av.cell 3;go_upto_region 6 with fail;go_cut [9] (fun s wx=> ∃ N:Nd,s = .pointer (some ⟨N.a,0,none⟩)/\Hid (N.e.ao=e.ao/\N.h=K/\N.v=0/\
     Sat w0 (Pt N.a 186 (gq N)*(Pt N.r 183 (cQ dq N.h 0)*(ca [N.e.key,N.e.value]*(Pt O 181 (gH b (ahead e.ao ns) 0)*(Pt E 120 (F5 e)*(de b hr ns c y*F)))))) wx))
    case first=>
     have hmk:=fun W=>tQ K (by omega) W
     have d0:=(HC5.o.2.aC (.cells (cQ dq K 0) 183)).av.cell 0;have d1:=(HC5.o.2.aC (.cells (cQ dq K 0) 183)).av.cell 1;have d2:=(HC5.o.2.aC (.cells (cQ dq K 0) 183)).av.cell 2;have d3:=(HC5.o.2.aC (.cells (cQ dq K 0) 183)).av.cell 3;have hk2:e.key.2.2.length<=140737488355328:=by omega
     have hv2:e.value.2.2.length<=140737488355328:=by omega
     go_region_law (first
      | (go_simp;go_at_call 110;refine(kj e w0 _ _ (HC5.o.2.drew) (HC5.o.1.new (aq.refl No wc).drew) hk2 hv2).mono ?_;rintro x w6 ⟨⟨A,cA,B,cB,rfl,hs6⟩,k6⟩;have HS6:=ah hs6;clear hs6 k6;simp only[jD])
      | (go_simp;go_at_call 110;refine(kj e w0 _ _ ((HC5.o.2.drew).af 183 (cQ dq K 0)) (HC5.o.1.new ((aq.refl No wc).drew.alloc (.cells (cQ dq K 0) 183))) hk2 hv2).mono ?_;rintro x w6 ⟨⟨A,cA,B,cB,rfl,hs6⟩,k6⟩;have HS6:=ah hs6;clear hs6 k6;simp only[jD]))
     all_goals
      go_wp2_with fail;go_meet
      first
       | exact⟨⟨_,_,⟨(A,cA,e.key.2.2),(B,cB,e.value.2.2),e.seq,e.dead⟩,K,0⟩,rfl,rfl,rfl,rfl,((xS HS6.o).bG 186 _ rfl).bD.av⟩
       | exact⟨⟨_,_,⟨(A,cA,e.key.2.2),(B,cB,e.value.2.2),e.seq,e.dead⟩,K,0⟩,rfl,rfl,rfl,rfl,((xS HS6.o).af 183 (cQ dq K 0)).bG 186 _ (by simp)⟩
    case rest=>
     obtain⟨N,hs,hN⟩:=hcut;subst hs;have hNe:=hN.o.1;have hNK:=hN.o.2.1;have hx:=hN.o.2.2.2;have e0:=bN e.ao ns;obtain⟨pre,hpre⟩: ∃ pre,pre=ahead e.ao ns:=⟨_,rfl⟩;obtain⟨beh,hbeh⟩: ∃ beh,beh=behind e.ao ns:=⟨_,rfl⟩;rw[<-hpre, <-hbeh] at e0;rw[<-hpre,show de b hr ns c y=de b hr (pre++beh) c y from congrArg (de b hr · c y) e0] at hx;have hx2:=I8 (N:=N) (pre:=pre) (beh:=beh) (hx.of (show _=_*(_*(_*(de b hr (pre++beh) c y*(Pt O 181 (gH b pre 0)*(Pt E 120 (F5 e)*F))))) by ac_rfl));have hfp: ∀ n ∈ pre,n.v=n.h:=fun n hn=>(HO.o.full n (by rw[e0];simp[hn])).1
     have HX:=ah hx2;have HFp:=ah hfp;have HNe:=ah hNe;subst hNK;have Hpre:=ah hpre;have Hbeh:=ah hbeh;clear hx hx2 hfp hNe hpre hbeh e0 hN HC5 c0 c1 c2 c3;go_wp2_with fail;go_loopw [43] (fun i wr=> ∃ k:Nat,k<=N.h/\i = .int .i64 k/\Hid (Sat w0 (de b hr (pre++N.lF k::beh) c y*(Pt O 181 (gH b pre 0)*(Pt E 120 (F5 e)*F))) wr)) (fun i _=>N.h - (intOf i).toNat)
     case atStart=>exact⟨0,by omega,rfl,HX.o⟩
     case round=>
      obtain⟨k,hk9,rfl,HD⟩:=hrel;by_cases hlt:k<N.h
      .obtain⟨A,R,hh,sp⟩:=HD.o.spot hlt hKu HFp.o;have o1:wr.cell? ⟨O,k,none⟩=some (.pointer (some ⟨A,0,none⟩)):=by
        rw[HD.o.av.cell k,rG _ _ _ (by omega),if_pos (by omega),sp.last];rfl
       have p0:=sp.hi;have p1:=sp.head;have p2:=sp.link;have p3:=sp.free;have p4:=sp.nhead;have p5:=sp.nlink;have p6:=sp.nfree;have p7:=sp.apart;have p8:¬ N.r=R:=fun q=>p7 q.symm
       have hon:=sp.on;have e5:dX none = .pointer none:=rfl;rw[e5] at p5;obtain⟨PP,hPP⟩: ∃ PP,dX (di dq beh k) = .pointer PP:=⟨_,rfl⟩;rw[hPP] at p2 hon;have HOn:=ah hon;clear hon hPP e5 sp;have hk8:k<8:=by omega
       go_wp2_with fail;go_region
       go_wp2_with fail;go_roundw
       .exact⟨k+1,by omega,by push_cast;rfl,HOn.o.drew⟩
       .simp[intOf]<;>omega
      .have hkN:k=N.h:=by omega
       subst hkN;have hw1:IntKind.i64.wrap (c+1)=c+1:=by rw[IntKind.wrap_i64];omega
       have hw2:IntKind.i64.wrap ((e.key.2.2.length:Int)+e.value.2.2.length)=(e.key.2.2.length:Int)+e.value.2.2.length:=by rw[IntKind.wrap_i64];omega
       have hw3:IntKind.i64.wrap (y+((e.key.2.2.length:Int)+e.value.2.2.length))=y+((e.key.2.2.length:Int)+e.value.2.2.length):=by rw[IntKind.wrap_i64];omega
       have q1:=HD.o.Lk;have q2:=HD.o.yv 1;have h7:=HD.o.Gx (c+1);have q3:=h7.Lu;have q4:=h7.yv 2;have q5:=h7.bD.cell 0;have q6:=h7.bD.cell 1;have HS7:=ah h7;clear h7;go_wp2_with fail;go_region
       go_wp2_with fail;go_ret;have h9:=(HS7.o.Fj (y+((e.key.2.2.length:Int)+e.value.2.2.length))).drew;rw[Hpre.o,Hbeh.o] at h9;refine .inr ⟨HT.o,rfl,N.lF N.h,HNe.o,rfl,HKK.o.symm,?_⟩;have ey:(((e.ao.key.length+e.ao.value.length:Nat):Int))=(e.key.2.2.length:Int)+e.value.2.2.length:=by push_cast;rfl
       rw[ey];exact h9.bF.bF
end Go.Proofs.YtmbaiglpgaoogaaGreat
