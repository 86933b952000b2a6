/- Joined, as they were built one by one: Mem1 Mem2 Viw Thn Sto0 Mem3 Skip Skip1 Skip2. -/
import Derived.Lib.Bytealg
import Derived.Lib.UnsafeStr
import Derived.Laws.Externs
import Derived.StringKeys
import Derived.Test.YtmbaiglpgaoogaaGreatW02
import Derived.Test.YtmbaiglpgaoogaaGreatW04
set_option maxHeartbeats 16000000
set_option linter.unusedVariables false
set_option maxRecDepth 100000
namespace Go.Proofs.YtmbaiglpgaoogaaGreat
open Go.RowKit Z
structure En where
 key:du
 value:du
 seq:Int
 dead:Bool
structure aq where
 key:List UInt8
 value:List UInt8
 seq:Int
 dead:Bool
def En.ak (e:En):aq:=⟨e.key.2.2,e.value.2.2,e.seq,e.dead⟩
def aJ (s:du):Value:= .slice s.1 s.2.2.length s.2.1
def bV (e:En):List Value:=[aJ e.key,aJ e.value,.int .i64 e.seq,.bool e.dead]
def iN (e:En):Value:= .agg #[.slice e.key.1 e.key.2.2.length e.key.2.1,.slice e.value.1 e.value.2.2.length e.value.2.1,.int .i64 e.seq,.bool e.dead]
def oD (w:World) (e:En):Prop:=Rd w e.key.1 e.key.2.2/\Rd w e.value.1 e.value.2.2
theorem oD.new {w w':World} {e:En} (h:oD w e) (k:ao No w w'):oD w' e:=⟨h.1.new k,h.2.new k⟩
def oM (a b:aq):Int:=if Lib.compareBytes a.key b.key=0 then (if b.seq<a.seq then -1 else if a.seq<b.seq then 1 else 0) else Lib.compareBytes a.key b.key
def az (a b:aq):Bool:=decide (oM a b<0)
section
variable {P:Program} {w:World} {A B:Option Addr} {l m:List UInt8}
theorem rM: ∀ (l:List UInt8) (b o:Nat) (acc:ByteArray),(∀ j (hj:j<l.length),w.cell? ⟨b,o+j,none⟩=some (.int .u8 (l[j].toNat:Int)))->
 (Extern.Bytes.loadBytes ⟨b,o,none⟩ l.length acc).run P w = .ok ⟨acc.data++l.toArray⟩ w
 | [],b,o,acc,_=>by simp[Extern.Bytes.loadBytes]
 | x::l,b,o,acc,h=>by
  have h0:w.cell? ⟨b,o,none⟩=some (.int .u8 (x.toNat:Int)):=h 0 (by simp);have ih:=rM l b (o+1) (acc.push x) (fun j hj=>by
   have:=h (j+1) (by simpa using hj);rw[show o+1+j=o+(j+1) by omega];exact this)
  simp only[List.length_cons,Extern.Bytes.loadBytes,Sem.run_bind,run_load,h0,Result.andThen];have e:((x.toNat:Int).toNat.toUInt8)=x:=by simp
  rw[e];show (Extern.Bytes.loadBytes (Addr.add ⟨b,o,none⟩ 1) l.length (acc.push x)).run P w=_;rw[show (Addr.add ⟨b,o,none⟩ 1)=⟨b,o+1,none⟩ from rfl,ih];congr 1
  apply ByteArray.ext;simp[ByteArray.push]
theorem oB (h:Rd w A l) (c:Nat):(Extern.Bytes.bytesOf (.slice A l.length c)).run P w = .ok ⟨l.toArray⟩ w:=by
 rcases A with _ | a
 .have hl:l=[]:=by
   rcases l with _ | ⟨x,l⟩
   .rfl
   .obtain⟨b,o,e,_⟩:=h (by simp);cases e
  subst hl;rfl
 .by_cases hl:l=[]
  .subst hl;rfl
  .obtain⟨b,o,e,_⟩:=h.get (j:=0) (List.length_pos_iff.2 hl);injection e with e
   subst e;have:=rM (P:=P) (w:=w) l b o .empty (fun j hj=>by
    obtain⟨b',o',e,hc⟩:=h.get hj;injection e with e
    injection e with e1 e2
    subst e1;subst e2;exact hc)
   show (Extern.Bytes.loadBytes ⟨b,o,none⟩ l.length .empty).run P w=_;rw[this];congr 1
   apply ByteArray.ext;simp
theorem FG (h:Rd w A l) (k:Rd w B m) (c d:Nat):(Extern.BytealgCompare.compare #[.slice A l.length c,.slice B m.length d]).run P w = .ok (.int .i64 (Lib.compareBytes l m)) w:=by
 change Sem.run P (do pure (goInt (Extern.BytealgCompare.cmp (<-Extern.Bytes.bytesOf (.slice A l.length c)) (<-Extern.Bytes.bytesOf (.slice B m.length d))))) w=_
 simp only[Sem.run_bind,Sem.run_pure,oB h,oB k,Result.andThen];rw[Lib.cmp_eq];rfl
end
theorem pS (a b:du) (w:World) (h:Rd w a.1 a.2.2) (k:Rd w b.1 b.2.2):
 Calls Tryz.prog 145 #[.slice a.1 a.2.2.length a.2.1,.slice b.1 b.2.2.length b.2.1] w fun e w'=>e = .returned (.int .i64 (Lib.compareBytes a.2.2 b.2.2))/\w'=w:=by
 go_enter Tryz.func145, Tryz.ntmps145;go_wp2;rw[run_callFunc_extern Tryz.func185 (by kernel_rfl) (by kernel_rfl) (by kernel_rfl) (e:=Extern.BytealgCompare.compare) (by kernel_rfl),FG h k];simp only[Result.andThen];rw[Oper.upon_value];go_wp2;go_ret;exact⟨rfl,rfl⟩
theorem ES (x:Int) (w:World):Calls Tryz.prog 133 #[.int .i64 x] w fun e w'=>e = .returned (.bool false)/\w'=w:=by
 go_enter Tryz.func133, Tryz.ntmps133;go_wp2;go_ret;exact⟨by simp,rfl⟩
def Ee (a b:Int):Int:=if a<b then -1 else if b<a then 1 else 0
theorem Es (a b:Int) (w:World):Calls Tryz.prog 96 #[.int .i64 a,.int .i64 b] w fun e w'=>e = .returned (.int .i64 (Ee a b))/\w'=w:=by
 unfold Ee;go_enter Tryz.func96, Tryz.ntmps96;go_wp2_with (go_at_call 133;refine(ES _ _).mono ?_;rintro e w' ⟨rfl,rfl⟩)
 all_goals (go_ret;refine⟨?_,rfl⟩;simp<;>omega)
theorem GO (a b:aq) (c:Int) (h:Lib.compareBytes a.key b.key=c):oM a b=if c=0 then Ee b.seq a.seq else c:=by unfold oM Ee;rw[h]
theorem rH (a b:En) (w:World) (h:oD w a) (k:oD w b):
 Calls Tryz.prog 109 #[iN a,iN b] w fun e w'=>e = .returned (.int .i64 (oM a.ak b.ak))/\ao No w w':=by
 have HQ:Hid (oM a.ak b.ak=if Lib.compareBytes a.key.2.2 b.key.2.2=0 then Ee b.seq a.seq else Lib.compareBytes a.key.2.2 b.key.2.2):=GO _ _ _ rfl;unfold iN;go_enter Tryz.func109, Tryz.ntmps109;have HL:=ah h;have HK:=ah k;clear h k;go_wp2_with (first
  | (go_at_call 145;refine(pS a.key b.key _ (HL.o.1.alloc _ |>.alloc _) (HK.o.1.alloc _ |>.alloc _)).mono ?_;rintro e w' ⟨rfl,rfl⟩)
  | (go_at_call 96;refine(Es _ _ _).mono ?_;rintro e w' ⟨rfl,rfl⟩))
 .go_ret;have hn:¬ Lib.compareBytes a.key.2.2 b.key.2.2=0:=by first | assumption | simp_all
  exact⟨by rw[HQ.o,if_neg hn];rfl,((ao.refl No w).alloc _).alloc _⟩
 .go_ret;have hn:Lib.compareBytes a.key.2.2 b.key.2.2=0:=by first | assumption | simp_all
  exact⟨by rw[HQ.o,if_pos hn];rfl,((ao.refl No w).alloc _).alloc _⟩
theorem qC (a b:En) (w:World) (h:oD w a) (k:oD w b):
 Calls Tryz.prog 147 #[iN a,iN b] w fun e w'=>e = .returned (.bool (az a.ak b.ak))/\ao No w w':=by
 have HQ:Hid (az a.ak b.ak=decide (oM a.ak b.ak<0)):=rfl;have HE:Hid (∀ e:En,iN e = .agg #[.slice e.key.1 e.key.2.2.length e.key.2.1,.slice e.value.1 e.value.2.2.length e.value.2.1,.int .i64 e.seq,.bool e.dead]):=fun _=>rfl
 rw[HE.o,HE.o];go_enter Tryz.func147, Tryz.ntmps147;have HL:=ah h;have HK:=ah k;clear h k;have k0:ao No w ((w.alloc (.cells #[.slice a.key.1 a.key.2.2.length a.key.2.1,.slice a.value.1 a.value.2.2.length a.value.2.1,.int .i64 a.seq,.bool a.dead] 120)).alloc (.cells #[.slice b.key.1 b.key.2.2.length b.key.2.1,.slice b.value.1 b.value.2.2.length b.value.2.1,.int .i64 b.seq,.bool b.dead] 120)):=((ao.refl No w).alloc _).alloc _;go_wp2_with (go_at_call 109;rw[<-HE.o, <-HE.o];refine(rH a b _ (HL.o.new k0) (HK.o.new k0)).mono ?_;rintro e w' ⟨rfl,k1⟩);go_ret;refine⟨by rw[HQ.o];rfl,k0.tr k1⟩
theorem mx: ∀ a:List UInt8,Lib.compareBytes a a=0
 | []=>rfl
 | x::a=>by unfold Lib.compareBytes;rw[if_neg (UInt8.lt_irrefl x),if_neg (UInt8.lt_irrefl x)];exact mx a
theorem tS (x y:UInt8) (h1:¬ x<y) (h2:¬ y<x):x=y:=UInt8.le_antisymm (UInt8.not_lt.1 h2) (UInt8.not_lt.1 h1)
theorem vr: ∀ {a b:List UInt8},Lib.compareBytes a b=0->a=b
 | [],[],_=>rfl
 | [],_::_,h=>by simp[Lib.compareBytes] at h
 | _::_,[],h=>by simp[Lib.compareBytes] at h
 | x::a,y::b,h=>by
  unfold Lib.compareBytes at h;by_cases h1:x<y
  .rw[if_pos h1] at h;omega
  .rw[if_neg h1] at h;by_cases h2:y<x
   .rw[if_pos h2] at h;omega
   .rw[if_neg h2] at h;rw[tS x y h1 h2,vr h]
theorem tW: ∀ (a b:List UInt8),Lib.compareBytes b a = - Lib.compareBytes a b
 | [],[]=>rfl
 | [],_::_=>rfl
 | _::_,[]=>rfl
 | x::a,y::b=>by
  unfold Lib.compareBytes;by_cases h1:x<y
  .rw[if_pos h1,if_neg (UInt8.lt_asymm h1),if_pos h1];rfl
  .rw[if_neg h1];by_cases h2:y<x
   .rw[if_pos h2,if_neg h1,if_pos h2]
   .rw[if_neg h2,if_neg h2,if_neg h1];exact tW a b
theorem il: ∀ (a b:List UInt8),Op.bytesLess a b=decide (Lib.compareBytes a b<0)
 | [],[]=>rfl
 | [],_::_=>rfl
 | _::_,[]=>rfl
 | x::a,y::b=>by
  unfold Lib.compareBytes Op.bytesLess;by_cases h1:x<y
  .rw[if_pos h1];simp[h1]
  .rw[if_neg h1];by_cases h2:y<x
   .have:¬ x=y:=fun e=>by subst e;exact UInt8.lt_irrefl _ h2
    rw[if_pos h2];simp[h1,this]
   .rw[if_neg h2,tS x y h1 h2,il a b];simp
theorem dA: ∀ {a b c:List UInt8},Lib.compareBytes a b<0->Lib.compareBytes b c<0->Lib.compareBytes a c<0
 | [],[],_,h,_=>by simp[Lib.compareBytes] at h
 | _::_,[],_,h,_=>by simp[Lib.compareBytes] at h
 | [],_::_,[],_,h=>by simp[Lib.compareBytes] at h
 | [],_::_,_::_,_,_=>by simp[Lib.compareBytes]
 | _::_,_::_,[],_,h=>by simp[Lib.compareBytes] at h
 | x::a,y::b,z::c,h,k=>by
  unfold Lib.compareBytes at h k ⊢;by_cases h1:x<y
  .by_cases k1:y<z
   .rw[if_pos (UInt8.lt_trans h1 k1)];omega
   .rw[if_neg k1] at k;by_cases k2:z<y
    .rw[if_pos k2] at k;omega
    .rw[<-tS y z k1 k2,if_pos h1];omega
  .rw[if_neg h1] at h;by_cases h2:y<x
   .rw[if_pos h2] at h;omega
   .rw[if_neg h2] at h;rw[tS x y h1 h2];by_cases k1:y<z
    .rw[if_pos k1];omega
    .rw[if_neg k1] at k ⊢;by_cases k2:z<y
     .rw[if_pos k2] at k;omega
     .rw[if_neg k2] at k ⊢;exact dA h k
section
variable {a b c:aq}
def dE (a b:aq):Prop:=az a b=true
theorem cK:dE a b↔Lib.compareBytes a.key b.key<0\/(a.key=b.key/\b.seq<a.seq):=by
 unfold dE az oM;by_cases h:Lib.compareBytes a.key b.key=0
 .rw[if_pos h];have:=vr h;have h0:¬ Lib.compareBytes a.key b.key<0:=by omega
  by_cases h1:b.seq<a.seq
  .rw[if_pos h1];simp[this,h1]
  .rw[if_neg h1];by_cases h2:a.seq<b.seq
   .rw[if_pos h2];simp[h0,h1]
   .rw[if_neg h2];simp[h0,h1]
 .rw[if_neg h];have:¬ a.key=b.key:=fun e=>h (by rw[e];exact mx _)
  simp[this]
theorem jf (h:dE a b) (k:dE b c):dE a c:=by
 rw[cK] at*
 rcases h with h | ⟨h,h'⟩<;>rcases k with k | ⟨k,k'⟩
 .exact .inl (dA h k)
 .rw[<-k];exact .inl h
 .rw[h];exact .inl k
 .exact .inr ⟨h.trans k,by omega⟩
def iX (a b:aq):Prop:=a.key=b.key/\a.seq=b.seq
theorem pE:oM a b=0↔iX a b:=by
 unfold oM iX;by_cases h:Lib.compareBytes a.key b.key=0
 .rw[if_pos h];have:=vr h;by_cases h1:b.seq<a.seq
  .rw[if_pos h1];simp;intro _;omega
  .rw[if_neg h1];by_cases h2:a.seq<b.seq
   .rw[if_pos h2];simp;intro _;omega
   .rw[if_neg h2];simp[this];omega
 .rw[if_neg h];have:¬ a.key=b.key:=fun e=>h (by rw[e];exact mx _)
  simp[this,h]
theorem Aq (a b:aq):dE a b\/dE b a\/iX a b:=by
 rw[cK,cK,tW a.key b.key];unfold iX;by_cases h:Lib.compareBytes a.key b.key=0
 .have:=vr h;rw[this];rcases Int.lt_trichotomy a.seq b.seq with q | q | q
  .exact .inr (.inl (.inr ⟨rfl,q⟩))
  .exact .inr (.inr ⟨rfl,q⟩)
  .exact .inl (.inr ⟨rfl,q⟩)
 .by_cases h1:Lib.compareBytes a.key b.key<0
  .exact .inl (.inl h1)
  .exact .inr (.inl (.inl (by omega)))
theorem np (h:iX a b):¬ dE a b:=by
 rw[cK,h.1,h.2,mx];simp
theorem iX.symm (h:iX a b):iX b a:=⟨h.1.symm,h.2.symm⟩
instance (a b:aq):Decidable (dE a b):=inferInstanceAs (Decidable (_=_))
end
theorem gv {α:Type} {f:α->Bool}: ∀ {L:List α} {x:α},x ∈ L.takeWhile f->f x=true
 | [],_,h=>by cases h
 | y::L,x,h=>by
  rw[List.takeWhile_cons] at h;split at h
  .rename_i h1;rcases List.mem_cons.1 h with rfl | h
   .exact h1
   .exact gv h
  .cases h
theorem nA {α:Type} {f:α->Bool}: ∀ {L:List α},(∀ x ∈ L,f x=true)->L.takeWhile f=L/\L.dropWhile f=[]
 | [],_=>⟨rfl,rfl⟩
 | y::L,h=>by
  obtain⟨h1,h2⟩:=nA (L:=L) fun x hx=>h x (List.mem_cons_of_mem _ hx)
  rw[List.takeWhile_cons,List.dropWhile_cons,h y List.mem_cons_self,h1];exact⟨rfl,h2⟩
abbrev Kv:=List UInt8 × List UInt8
def mO (a b:Kv):Prop:=Lib.compareBytes a.1 b.1<0
def bI (k:List UInt8):List Kv->Option (List UInt8)
 | []=>none
 | p::M=>if p.1=k then some p.2 else bI k M
def qU (k:List UInt8) (s:Int) (e:aq):Bool:=decide (e.key=k) && decide (e.seq<=s)
def lG (k:List UInt8) (s:Int) (L:List aq):Option aq:=L.find? (qU k s)
def ug (e:aq):Option (List UInt8):=if e.dead=true then none else some e.value
def dX (k:List UInt8) (s:Int) (L:List aq):Option (List UInt8):=(lG k s L).bind ug
def cp (s:Int):Option (List UInt8)->List aq->List aq
 | _,[]=>[]
 | c,e::L=>if s<e.seq\/c=some e.key then cp s c L else (if e.dead=true then cp s (some e.key) L else e::cp s (some e.key) L)
def cZ (e:aq):Kv:=(e.key,e.value)
def eS (s:Int) (L:List aq):List Kv:=(cp s none L).map cZ
theorem mJ {k:List UInt8} {s:Int} {e:aq}:qU k s e=true↔e.key=k/\e.seq<=s:=by unfold qU;simp
theorem mr {k:List UInt8} {s:Int} {e:aq} {L:List aq} (h:e.key=k/\e.seq<=s):lG k s (e::L)=some e:=by
 unfold lG;rw[List.find?_cons,mJ.2 h]
theorem pn {k:List UInt8} {s:Int} {e:aq} {L:List aq} (h:¬ (e.key=k/\e.seq<=s)):lG k s (e::L)=lG k s L:=by
 unfold lG;rw[List.find?_cons];have h2:qU k s e=false:=by rw[Bool.eq_false_iff];exact fun h3=>h (mJ.1 h3)
 rw[h2]
theorem zM {k:List UInt8} {s:Int} {L:List aq} (h: ∀ x ∈ L,x.key≠k):lG k s L=none:=by
 unfold lG;rw[List.find?_eq_none];exact fun x hx h2=>h x hx (mJ.1 h2).1
theorem lj {k:List UInt8} {s:Int} {A B:List aq} (h: ∀ x ∈ A,x.key≠k):lG k s (A++B)=lG k s B:=by
 unfold lG;rw[List.find?_append];have:A.find? (qU k s)=none:=by rw[List.find?_eq_none];exact fun x hx h2=>h x hx (mJ.1 h2).1
 rw[this];rfl
theorem mo {k:List UInt8} {s:Int} {A B:List aq} (h: ∀ x ∈ B,x.key≠k):lG k s (A++B)=lG k s A:=by
 unfold lG;rw[List.find?_append];have:B.find? (qU k s)=none:=by rw[List.find?_eq_none];exact fun x hx h2=>h x hx (mJ.1 h2).1
 rw[this];cases A.find? (qU k s)<;>rfl
theorem Ie {k:List UInt8} {s:Int} {L:List aq} (h: ∀ x ∈ L,x.key≠k):dX k s L=none:=by unfold dX;rw[zM h];rfl
theorem qF {k:List UInt8} {s:Int} {e:aq} {L:List aq} (h:e.key=k/\e.seq<=s):dX k s (e::L)=ug e:=by unfold dX;rw[mr h];rfl
theorem nV {k:List UInt8} {s:Int} {e:aq} {L:List aq} (h:¬ (e.key=k/\e.seq<=s)):dX k s (e::L)=dX k s L:=by unfold dX;rw[pn h]
theorem dz {a b:List UInt8} (h:Lib.compareBytes a b<0):a≠b:=fun e=>by subst e;rw[mx] at h;omega
theorem tJ (a b:List UInt8):Lib.compareBytes a b<0\/a=b\/Lib.compareBytes b a<0:=by
 rcases Int.lt_trichotomy (Lib.compareBytes a b) 0 with h | h | h
 .exact .inl h
 .exact .inr (.inl (vr h))
 .exact .inr (.inr (by rw[tW a b];omega))
def JW (k:List UInt8) (L:List aq):Prop:= ∀ x ∈ L,k=x.key\/Lib.compareBytes k x.key<0
theorem qk {e:aq} {L:List aq} (h:(e::L).Pairwise dE):JW e.key L:=fun x hx=>by
 rcases cK.1 ((List.pairwise_cons.1 h).1 x hx) with h2 | ⟨h2,_⟩
 .exact .inr h2
 .exact .inl h2
theorem km (s:Int): ∀ (L:List aq) (c:Option (List UInt8)),(cp s c L).Sublist L
 | [],c=>List.Sublist.refl _
 | e::L,c=>by
  unfold cp;split
  .exact(km s L c).cons _
  .split
   .exact(km s L _).cons _
   .exact(km s L _).cons_cons _
theorem kg (s:Int): ∀ (L:List aq) (c:Option (List UInt8)),L.Pairwise dE->(∀ k,c=some k->JW k L)->
 (cp s c L).Pairwise (fun a b=>Lib.compareBytes a.key b.key<0)/\ ∀ k,c=some k-> ∀ x ∈ cp s c L,Lib.compareBytes k x.key<0
 | [],c,_,_=>⟨List.Pairwise.nil,fun k _ x hx=>by cases hx⟩
 | e::L,c,h,hc=>by
  have h2:=(List.pairwise_cons.1 h).2;have hc2: ∀ k,c=some k->JW k L:=fun k hk x hx=>hc k hk x (List.mem_cons_of_mem _ hx)
  obtain⟨i1,i2⟩:=kg s L c h2 hc2;obtain⟨j1,j2⟩:=kg s L (some e.key) h2 (fun k hk=>by injection hk with hk;subst hk;exact qk h);have key:¬ (s<e.seq\/c=some e.key)-> ∀ k,c=some k->Lib.compareBytes k e.key<0:=fun hn k hk=>by
   rcases hc k hk e List.mem_cons_self with h3 | h3
   .exact absurd (.inr (by rw[hk,h3])) hn
   .exact h3
  unfold cp;split
  .exact⟨i1,i2⟩
  .rename_i hn;split
   .exact⟨j1,fun k hk x hx=>dA (key hn k hk) (j2 _ rfl x hx)⟩
   .refine⟨List.pairwise_cons.2 ⟨fun x hx=>j2 _ rfl x hx,j1⟩,fun k hk x hx=>?_⟩;rcases List.mem_cons.1 hx with rfl | hx
    .exact key hn k hk
    .exact dA (key hn k hk) (j2 _ rfl x hx)
theorem iu {s:Int} {L:List aq} (h:L.Pairwise dE):(eS s L).Pairwise mO:=by
 unfold eS;rw[List.pairwise_map];exact(kg s L none h (fun k hk=>by cases hk)).1
theorem ph (s:Int) (k:List UInt8): ∀ (L:List aq) (c:Option (List UInt8)),L.Pairwise dE->(∀ k,c=some k->JW k L)->
 bI k ((cp s c L).map cZ)=if c=some k then none else dX k s L
 | [],c,_,_=>by unfold cp;split<;>rfl
 | e::L,c,h,hc=>by
  have h2:=(List.pairwise_cons.1 h).2;have hc2: ∀ k,c=some k->JW k L:=fun k hk x hx=>hc k hk x (List.mem_cons_of_mem _ hx)
  have ih:=ph s k L c h2 hc2;have jh:=ph s k L (some e.key) h2 (fun k hk=>by injection hk with hk;subst hk;exact qk h);unfold cp;by_cases h1:s<e.seq
  .rw[if_pos (.inl h1),ih,nV (e:=e) (fun h3=>by omega)]
  .by_cases h3:c=some e.key
   .rw[if_pos (.inr h3),ih];by_cases hk:e.key=k
    .rw[if_pos (by rw[h3,hk]),if_pos (by rw[h3,hk])]
    .rw[if_neg (by rw[h3];simpa using hk),if_neg (by rw[h3];simpa using hk),nV (fun h4=>hk h4.1)]
   .rw[if_neg (fun h4=>h4.elim h1 h3)];by_cases hk:e.key=k
    .have hck:¬ c=some k:=by rw[<-hk];exact h3
     rw[if_neg hck,qF ⟨hk,by omega⟩];unfold ug;split
     .rw[jh,if_pos (by rw[hk])]
     .rw[List.map_cons];unfold bI;rw[if_pos (show (cZ e).1=k from hk)];rfl
    .have hn:c=some k->dX k s L=none:=fun h4=>by
      apply Ie;intro x hx h5;rcases hc k h4 e List.mem_cons_self with h6 | h6
      .exact hk h6.symm
      .rcases qk h x hx with h7 | h7
       .exact hk (h7.trans h5)
       .exact dz (dA h6 h7) h5.symm
     have hal:(if c=some k then none else dX k s (e::L))=dX k s L:=by
      rw[nV (fun h4=>hk h4.1)];split
      .rename_i h4;rw[hn h4]
      .rfl
     rw[hal];have h5:¬ (some e.key=some k):=by simpa using hk
     split
     .rw[jh,if_neg h5]
     .rw[List.map_cons];unfold bI;rw[if_neg (show ¬ (cZ e).1=k from hk),jh,if_neg h5]
theorem mL {s:Int} {L:List aq} (h:L.Pairwise dE) (k:List UInt8):bI k (eS s L)=dX k s L:=by
 unfold eS;rw[ph s k L none h (fun k hk=>by cases hk),if_neg (by simp)]
theorem ft {k:List UInt8}: ∀ {M:List Kv},(∀ p ∈ M,p.1≠k)->bI k M=none
 | [],_=>rfl
 | p::M,h=>by unfold bI;rw[if_neg (h p List.mem_cons_self)];exact ft fun q hq=>h q (List.mem_cons_of_mem _ hq)
theorem mT: ∀ {A B:List Kv},A.Pairwise mO->B.Pairwise mO->(∀ k,bI k A=bI k B)->A=B
 | [],[],_,_,_=>rfl
 | [],b::B,_,_,h=>by
  have:=h b.1;unfold bI at this;rw[if_pos rfl] at this
  cases this
 | a::A,[],_,_,h=>by
  have:=h a.1;unfold bI at this;rw[if_pos rfl] at this
  cases this
 | a::A,b::B,ha,hb,h=>by
  obtain⟨a1,a2⟩:=List.pairwise_cons.1 ha;obtain⟨b1,b2⟩:=List.pairwise_cons.1 hb;have hk:a.1=b.1:=by
   rcases tJ a.1 b.1 with h1 | h1 | h1
   .have h2:=h a.1;rw[ft (M:=b::B) (fun p hp=>?_)] at h2
    .unfold bI at h2;rw[if_pos rfl] at h2;cases h2
    .rcases List.mem_cons.1 hp with rfl | hp
     .exact(dz h1).symm
     .exact(dz (dA h1 (b1 p hp))).symm
   .exact h1
   .have h2:=h b.1;rw[ft (M:=a::A) (fun p hp=>?_)] at h2
    .unfold bI at h2;rw[if_pos rfl] at h2;cases h2
    .rcases List.mem_cons.1 hp with rfl | hp
     .exact(dz h1).symm
     .exact(dz (dA h1 (a1 p hp))).symm
  have hv:a.2=b.2:=by
   have h2:=h a.1;unfold bI at h2;rw[if_pos rfl,if_pos hk.symm] at h2;injection h2
  have he:a=b:=Prod.ext hk hv;subst he;rw[mT a2 b2 fun k=>?_];have h2:=h k;unfold bI at h2;by_cases hka:a.1=k
  .rw[ft (fun p hp=>by rw[<-hka];exact(dz (a1 p hp)).symm),ft (fun p hp=>by rw[<-hka];exact(dz (b1 p hp)).symm)]
  .rwa [if_neg hka,if_neg hka] at h2
theorem GN {s:Int} {L:List aq} {M:List Kv} (h:L.Pairwise dE) (hM:M.Pairwise mO) (he: ∀ k,dX k s L=bI k M):eS s L=M:=
 mT (iu h) hM fun k=>by rw[mL h,he]
structure cE where
 key:List UInt8
 value:List UInt8
 dead:Bool
def za (p:cE):Option (List UInt8):=if p.dead=true then none else some p.value
def dK (p:cE) (M:List Kv):List Kv:=M.takeWhile (fun q=>Lib.compareBytes q.1 p.key<0)++((if p.dead=true then [] else [(p.key,p.value)])++(match M.dropWhile (fun q=>Lib.compareBytes q.1 p.key<0) with | []=>[] | q::T=>if q.1=p.key then T else q::T))
theorem qT (p:cE) {M:List Kv} (h:M.Pairwise mO): ∃ A B,dK p M=A++((if p.dead=true then [] else [(p.key,p.value)])++B)/\(∀ q ∈ A,Lib.compareBytes q.1 p.key<0)/\(∀ q ∈ B,Lib.compareBytes p.key q.1<0)/\(A++B).Pairwise mO/\(∀ k,k≠p.key->bI k (A++B)=bI k M):=by
 have e:=(List.takeWhile_append_dropWhile (p:=fun q:Kv=>decide (Lib.compareBytes q.1 p.key<0)) (l:=M));have hA: ∀ q ∈ M.takeWhile (fun q=>Lib.compareBytes q.1 p.key<0),Lib.compareBytes q.1 p.key<0:=fun q hq=>by
  have:=gv hq;simpa using this
 have gapp: ∀ (k:List UInt8) (A B C:List Kv),bI k B=bI k C->bI k (A++B)=bI k (A++C):=fun k A B C h=>by
  induction A with
  | nil=>exact h
  | cons a A ih=>show (if a.1=k then some a.2 else bI k (A++B))=(if a.1=k then some a.2 else bI k (A++C));rw[ih]
 unfold dK
 cases hd:M.dropWhile (fun q=>Lib.compareBytes q.1 p.key<0) with
 | nil=>
  rw[hd,List.append_nil] at e;exact⟨_,[],rfl,hA,by simp,by rw[List.append_nil,e];exact h,fun k _=>by rw[List.append_nil,e]⟩
 | cons q T=>
  rw[hd] at e;have hq:¬ Lib.compareBytes q.1 p.key<0:=by
   have:=List.head_dropWhile_not (p:=fun q:Kv=>decide (Lib.compareBytes q.1 p.key<0)) (l:=M) (by rw[hd];simp);simp only[hd,List.head_cons] at this;simpa using this
  have hp:=h;rw[<-e] at hp;obtain⟨_,h2,h3⟩:=List.pairwise_append.1 hp;obtain⟨h4,h5⟩:=List.pairwise_cons.1 h2;by_cases hqk:q.1=p.key
  .refine⟨_,T,by simp only[if_pos hqk],hA,fun x hx=>by rw[<-hqk];exact h4 x hx,?_,fun k hk=>?_⟩
   .exact hp.sublist (List.Sublist.append (List.Sublist.refl _) (List.sublist_cons_self _ _))
   .have h6:=congrArg (bI k) e;rw[<-h6];refine gapp k _ _ _ ?_;show _=if q.1=k then some q.2 else bI k T
    rw[if_neg (by rw[hqk];exact fun h=>hk h.symm)]
  .have hlt:Lib.compareBytes p.key q.1<0:=by
    rcases tJ p.key q.1 with h6 | h6 | h6
    .exact h6
    .exact absurd h6.symm hqk
    .exact absurd h6 hq
   refine⟨_,q::T,by simp only[if_neg hqk],hA,fun x hx=>?_,hp,fun k hk=>by rw[e]⟩;rcases List.mem_cons.1 hx with rfl | hx
   .exact hlt
   .exact dA hlt (h4 x hx)
theorem oF (p:cE) {M:List Kv} (h:M.Pairwise mO):(dK p M).Pairwise mO:=by
 obtain⟨A,B,e,hA,hB,hAB,_⟩:=qT p h;rw[e];split
 .exact hAB
 .obtain⟨h1,h2,h3⟩:=List.pairwise_append.1 hAB;refine List.pairwise_append.2 ⟨h1,List.pairwise_cons.2 ⟨fun q hq=>hB q hq,h2⟩,fun a ha b hb=>?_⟩;rcases List.mem_cons.1 hb with rfl | hb
  .exact hA a ha
  .exact h3 a ha b hb
theorem wY (p:cE) {M:List Kv} (h:M.Pairwise mO) (k:List UInt8):bI k (dK p M)=if p.key=k then za p else bI k M:=by
 obtain⟨A,B,e,hA,hB,hAB,hg⟩:=qT p h;have gno: ∀ (A B:List Kv),(∀ q ∈ A,q.1≠k)->bI k (A++B)=bI k B:=fun A B h=>by
  induction A with
  | nil=>rfl
  | cons a A ih=>
   show (if a.1=k then some a.2 else bI k (A++B))=_;rw[if_neg (h a List.mem_cons_self),ih fun q hq=>h q (List.mem_cons_of_mem _ hq)]
 rw[e];by_cases hk:p.key=k
 .rw[if_pos hk,gno A _ (fun q hq=>by rw[<-hk];exact dz (hA q hq))];unfold za;split
  .rw[List.nil_append];exact ft fun q hq=>by rw[<-hk];exact(dz (hB q hq)).symm
  .show (if p.key=k then some p.value else _)=_;rw[if_pos hk]
 .rw[if_neg hk, <-hg k (fun h=>hk h.symm)];split
  .rfl
  .have gapp: ∀ (A:List Kv),bI k (A++([(p.key,p.value)]++B))=bI k (A++B):=fun A=>by
    induction A with
    | nil=>show (if p.key=k then some p.value else bI k B)=_;rw[if_neg hk];rfl
    | cons a A ih=>show (if a.1=k then some a.2 else bI k (A++_))=(if a.1=k then some a.2 else bI k (A++B));rw[ih]
   exact gapp A
def aZ (ps:List cE) (M:List Kv):List Kv:=ps.foldl (fun M p=>dK p M) M
def gM (k:List UInt8):List cE->Option cE
 | []=>none
 | p::l=>match gM k l with | some q=>some q | none=>if p.key=k then some p else none
def dw:List cE->List cE
 | []=>[]
 | p::l=>if l.any (fun q=>decide (q.key=p.key))=true then dw l else p::dw l
theorem lV {k:List UInt8}: ∀ {l:List cE},gM k l=none↔ ∀ q ∈ l,q.key≠k
 | []=>by simp[gM]
 | p::l=>by
  have ih:=lV (k:=k) (l:=l);unfold gM
  cases h:gM k l with
  | some q=>
   simp only;constructor
   .intro h2;cases h2
   .intro h2;have:=ih.2 fun q hq=>h2 q (List.mem_cons_of_mem _ hq)
    rw[h] at this;cases this
  | none=>
   have h3:=ih.1 h;simp only;constructor
   .intro h2 q hq;rcases List.mem_cons.1 hq with rfl | hq
    .intro h4;rw[if_pos h4] at h2;cases h2
    .exact h3 q hq
   .intro h2;rw[if_neg (h2 p List.mem_cons_self)]
theorem pt (k:List UInt8): ∀ l:List cE,(dw l).find? (fun q=>decide (q.key=k))=gM k l
 | []=>rfl
 | p::l=>by
  have ih:=pt k l;unfold dw;split
  .rename_i h;rw[ih];show gM k l=match gM k l with | some q=>some q | none=>if p.key=k then some p else none
   cases h2:gM k l with
   | some q=>rfl
   | none=>
    simp only;rw[if_neg];intro h3;obtain⟨q,hq,h4⟩:=List.any_eq_true.1 h;exact lV.1 h2 q hq (by rw[<-h3];simpa using h4)
  .rename_i h;rw[List.find?_cons];show _=match gM k l with | some q=>some q | none=>if p.key=k then some p else none
   by_cases hk:p.key=k
   .rw[decide_eq_true hk];have h2:gM k l=none:=lV.2 fun q hq h3=>h (List.any_eq_true.2 ⟨q,hq,by rw[hk];simpa using h3⟩)
    rw[h2];simp only;rw[if_pos hk]
   .rw[decide_eq_false hk,ih]
    cases gM k l with
    | some q=>rfl
    | none=>simp only;rw[if_neg hk]
theorem lr: ∀ {l:List cE} {p:cE},p ∈ dw l->p ∈ l
 | [],p,h=>h
 | q::l,p,h=>by
  unfold dw at h;split at h
  .exact List.mem_cons_of_mem _ (lr h)
  .rcases List.mem_cons.1 h with rfl | h
   .exact List.mem_cons_self
   .exact List.mem_cons_of_mem _ (lr h)
theorem fm: ∀ l:List cE,(dw l).Pairwise fun a b=>a.key≠b.key
 | []=>List.Pairwise.nil
 | p::l=>by
  unfold dw;split
  .exact fm l
  .rename_i h;refine List.pairwise_cons.2 ⟨fun q hq h2=>h (List.any_eq_true.2 ⟨q,lr hq,by simpa using h2.symm⟩),fm l⟩
theorem fX: ∀ (ps:List cE) {M:List Kv},M.Pairwise mO->(aZ ps M).Pairwise mO
 | [],M,h=>h
 | p::ps,M,h=>fX ps (oF p h)
theorem rQ (k:List UInt8): ∀ (ps:List cE) {M:List Kv},M.Pairwise mO->bI k (aZ ps M)=match gM k ps with | some p=>za p | none=>bI k M
 | [],M,h=>rfl
 | p::ps,M,h=>by
  show bI k (aZ ps (dK p M))=match (match gM k ps with | some q=>some q | none=>if p.key=k then some p else none) with | some p=>za p | none=>bI k M
  rw[rQ k ps (oF p h)]
  cases gM k ps with
  | some q=>rfl
  | none=>
   simp only;rw[wY p h];split<;>rfl
def jU (e:aq) (L:List aq):List aq:=L.takeWhile (fun x=>az x e)++e::L.dropWhile (fun x=>az x e)
theorem mf (e:aq) (L:List aq): ∃ A B,L=A++B/\jU e L=A++e::B/\ ∀ x ∈ A,dE x e:=by
 refine⟨_,_,(List.takeWhile_append_dropWhile (p:=fun x=>az x e) (l:=L)).symm,rfl,fun x hx=>?_⟩;exact gv (f:=fun x=>az x e) hx
theorem Hh {e:aq} {L:List aq} (h: ∀ x ∈ L,x.key=e.key->x.seq<e.seq) (k:List UInt8) (s:Int):lG k s (jU e L)=if e.key=k/\e.seq<=s then some e else lG k s L:=by
 obtain⟨A,B,h1,h2,h3⟩:=mf e L;rw[h2];split
 .rename_i hk;rw[lj,mr hk];intro x hx h4;rcases cK.1 (h3 x hx) with h5 | ⟨h5,h6⟩
  .exact dz h5 (h4.trans hk.1.symm)
  .have:=h x (by rw[h1];exact List.mem_append_left _ hx) h5;omega
 .rename_i hk;rw[h1];unfold lG;rw[List.find?_append,List.find?_append];have:=pn (L:=B) hk;unfold lG at this;rw[this]
theorem Hv {e:aq} {L:List aq} (h: ∀ x ∈ L,x.key=e.key->x.seq<e.seq) (k:List UInt8) (s:Int):dX k s (jU e L)=if e.key=k/\e.seq<=s then ug e else dX k s L:=by
 unfold dX;rw[Hh h];split<;>rfl
theorem qZ {e x:aq} {L:List aq}:x ∈ jU e L↔x=e\/x ∈ L:=by
 obtain⟨A,B,h1,h2,_⟩:=mf e L;rw[h2,h1,List.mem_append,List.mem_cons,List.mem_append];constructor
 .rintro (h | h | h)
  .exact .inr (.inl h)
  .exact .inl h
  .exact .inr (.inr h)
 .rintro (h | h | h)
  .exact .inr (.inl h)
  .exact .inl h
  .exact .inr (.inr h)
theorem tq {e:aq} {L:List aq} (h: ∀ x ∈ L,dE x e):jU e L=L++[e]:=by
 unfold jU;obtain⟨h1,h2⟩:=nA (f:=fun x=>az x e) (L:=L) h;rw[h1,h2]
def uf (n:Int) (p:cE):aq:=⟨p.key,p.value,n,p.dead⟩
def lP (n:Int) (ps:List cE) (L:List aq):List aq:=ps.foldl (fun L p=>jU (uf n p) L) L
theorem mP {n:Int} {x:aq}: ∀ {ps:List cE} {L:List aq},x ∈ lP n ps L↔x ∈ L\/ ∃ p ∈ ps,x=uf n p
 | [],L=>by simp[lP]
 | p::ps,L=>by
  show x ∈ lP n ps (jU (uf n p) L)↔_;rw[mP,qZ];constructor
  .rintro ((h | h) | ⟨q,hq,h⟩)
   .exact .inr ⟨p,List.mem_cons_self,h⟩
   .exact .inl h
   .exact .inr ⟨q,List.mem_cons_of_mem _ hq,h⟩
  .rintro (h | ⟨q,hq,h⟩)
   .exact .inl (.inr h)
   .rcases List.mem_cons.1 hq with rfl | hq
    .exact .inl (.inl h)
    .exact .inr ⟨q,hq,h⟩
theorem tL (n:Int) (k:List UInt8) (s:Int): ∀ (ps:List cE) (L:List aq),(ps.Pairwise fun a b=>a.key≠b.key)->(∀ p ∈ ps, ∀ x ∈ L,x.key=p.key->x.seq<n)->
 dX k s (lP n ps L)=if n<=s then (match ps.find? (fun q=>decide (q.key=k)) with | some p=>za p | none=>dX k s L) else dX k s L
 | [],L,_,_=>by simp[lP]
 | p::ps,L,h,hl=>by
  obtain⟨h1,h2⟩:=List.pairwise_cons.1 h;show dX k s (lP n ps (jU (uf n p) L))=_;rw[tL n k s ps _ h2 (fun q hq x hx hk=>by
   rcases qZ.1 hx with rfl | hx
   .exact absurd hk (h1 q hq)
   .exact hl q (List.mem_cons_of_mem _ hq) x hx hk)]
  have h3:=Hv (e:=uf n p) (L:=L) (fun x hx hk=>hl p List.mem_cons_self x hx hk) k s;rw[h3,List.find?_cons];show (if n<=s then _ else if p.key=k/\n<=s then za p else dX k s L)=_;by_cases hn:n<=s
  .rw[if_pos hn,if_pos hn];by_cases hk:p.key=k
   .rw[decide_eq_true hk];have h4:ps.find? (fun q=>decide (q.key=k))=none:=by
     rw[List.find?_eq_none];intro q hq h5;exact h1 q hq (by rw[hk];simpa using (of_decide_eq_true h5).symm)
    rw[h4];simp only;rw[if_pos ⟨hk,hn⟩];rfl
   .rw[decide_eq_false hk]
    cases ps.find? (fun q=>decide (q.key=k)) with
    | some q=>rfl
    | none=>simp only;rw[if_neg (fun h5=>hk h5.1)]
  .rw[if_neg hn,if_neg hn,if_neg (fun h5=>hn h5.2)]
theorem FX {n s:Int} {ps:List cE} {L:List aq} {M:List Kv} (hn:n<=s) (hl: ∀ x ∈ L,x.seq<n) (hM:M.Pairwise mO) (h: ∀ k,dX k s L=bI k M) (k:List UInt8):dX k s (lP n (dw ps) L)=bI k (aZ ps M):=by
 rw[tL n k s _ _ (fm ps) (fun p _ x hx _=>hl x hx),if_pos hn,pt,rQ k ps hM,h]
theorem BD {n s:Int} {ps:List cE} {L:List aq} (hn:s<n) (hl: ∀ x ∈ L,x.seq<n) (k:List UInt8):dX k s (lP n (dw ps) L)=dX k s L:=by
 rw[tL n k s _ _ (fm ps) (fun p _ x hx _=>hl x hx),if_neg (by omega)]
theorem EK {s t:Int} {L:List aq} (hs: ∀ x ∈ L,x.seq<=s) (ht: ∀ x ∈ L,x.seq<=t) (k:List UInt8):dX k s L=dX k t L:=by
 have:lG k s L=lG k t L:=by
  unfold lG
  induction L with
  | nil=>rfl
  | cons e L ih=>
   rw[List.find?_cons,List.find?_cons,ih (fun x hx=>hs x (List.mem_cons_of_mem _ hx)) (fun x hx=>ht x (List.mem_cons_of_mem _ hx))];have h1:=hs e List.mem_cons_self;have h2:=ht e List.mem_cons_self;unfold qU;rw[decide_eq_true h1,decide_eq_true h2]
 unfold dX;rw[this]
def ot (snaps:List Int) (q:Option Int) (x:aq):Bool:=match q with | none=>true | some q=>snaps.any fun s=>decide (x.seq<=s) && decide (s<q)
def cU (snaps:List Int):Option Int->List aq->List aq
 | _,[]=>[]
 | q,x::g=>if ot snaps q x=true then x::cU snaps (some x.seq) g else cU snaps (some x.seq) g
def fT (X:List aq):List aq:=(X.reverse.dropWhile (fun e=>e.dead)).reverse
def iQ (b:Bool) (snaps:List Int) (g:List aq):List aq:=if b=true then fT (cU snaps none g) else cU snaps none g
def bz (e x:aq):Bool:=decide (x.key=e.key)
theorem gF {α:Type} (f:α->Bool): ∀ L:List α,(L.dropWhile f).length<=L.length
 | []=>Nat.le_refl _
 | x::L=>by
  rw[List.dropWhile_cons];split
  .exact Nat.le_succ_of_le (gF f L)
  .exact Nat.le_refl _
def cP (b:Bool) (snaps:List Int):List aq->List aq
 | []=>[]
 | e::L=>iQ b snaps (e::L.takeWhile (bz e))++cP b snaps (L.dropWhile (bz e))
termination_by L=>L.length
decreasing_by exact Nat.lt_succ_of_le (gF _ _)
theorem iT (b:Bool) (snaps:List Int):cP b snaps []=[]:=by rw[cP]
theorem gu (b:Bool) (snaps:List Int) (e:aq) (L:List aq):cP b snaps (e::L)=iQ b snaps (e::L.takeWhile (bz e))++cP b snaps (L.dropWhile (bz e)):=by rw[cP]
theorem jV (snaps:List Int): ∀ (g:List aq) (q:Option Int),(cU snaps q g).Sublist g
 | [],q=>List.Sublist.refl _
 | x::g,q=>by
  unfold cU;split
  .exact(jV snaps g _).cons_cons _
  .exact(jV snaps g _).cons _
theorem EF (X:List aq):(fT X).Sublist X:=by
 unfold fT;have h:=List.dropWhile_sublist (fun e:aq=>e.dead) (l:=X.reverse);have h2:=h.reverse;rwa [List.reverse_reverse] at h2
theorem nb (b:Bool) (snaps:List Int) (g:List aq):(iQ b snaps g).Sublist g:=by
 unfold iQ;split
 .exact(EF _).trans (jV snaps g none)
 .exact jV snaps g none
theorem wU (b:Bool) (snaps:List Int): ∀ (n:Nat) (L:List aq),L.length<=n->(cP b snaps L).Sublist L
 | _,[],_=>by rw[iT];exact List.Sublist.refl _
 | 0,e::L,h=>by simp at h
 | n+1,e::L,h=>by
  rw[gu];have h1:=nb b snaps (e::L.takeWhile (bz e));have h2:=wU b snaps n (L.dropWhile (bz e)) (by have:=gF (bz e) L;simp at h;omega);have h3:=List.Sublist.append h1 h2;have h4:e::L.takeWhile (bz e)++L.dropWhile (bz e)=e::L:=by rw[List.cons_append,List.takeWhile_append_dropWhile]
  rwa [h4] at h3
theorem fY (b:Bool) (snaps:List Int) (L:List aq):(cP b snaps L).Sublist L:=wU b snaps L.length L (Nat.le_refl _)
theorem oC {b:Bool} {snaps:List Int} {L:List aq} (h:L.Pairwise dE):(cP b snaps L).Pairwise dE:=h.sublist (fY b snaps L)
theorem nD {X:List aq} {d:aq} (h:d.dead=true):fT (X++[d])=fT X:=by
 unfold fT;rw[List.reverse_append,List.reverse_singleton,List.singleton_append,List.dropWhile_cons,if_pos h]
theorem ni {X:List aq} {d:aq} (h:d.dead=false):fT (X++[d])=X++[d]:=by
 unfold fT;rw[List.reverse_append,List.reverse_singleton,List.singleton_append,List.dropWhile_cons,if_neg (by rw[h];simp),List.reverse_cons,List.reverse_reverse]
theorem Fy:fT []=[]:=rfl
theorem GX {X:List aq} {d:aq} (h:d.dead=true) (k:List UInt8) (s:Int):dX k s (X++[d])=dX k s X:=by
 unfold dX lG;rw[List.find?_append]
 cases hx:X.find? (qU k s) with
 | some e=>rfl
 | none=>
  show ([d].find? (qU k s)).bind ug=none;rw[List.find?_cons]
  cases qU k s d with
  | true=>show ug d=none;unfold ug;rw[if_pos h]
  | false=>rfl
theorem Am (k:List UInt8) (s:Int): ∀ (n:Nat) (X:List aq),X.length<=n->dX k s (fT X)=dX k s X
 | n,X,h=>by
  rcases List.eq_nil_or_concat X with rfl | ⟨Y,d,rfl⟩
  .rfl
  .rw[List.concat_eq_append] at h ⊢
   cases hd:d.dead with
   | false=>rw[ni hd]
   | true=>
    cases n with
    | zero=>simp at h
    | succ n=>
     rw[nD hd,GX hd];exact Am k s n Y (by rw[List.length_append] at h;simp at h;omega)
def asked (snaps:List Int) (s:Int) (L:List aq):Prop:=s ∈ snaps\/ ∀ x ∈ L,x.seq<=s
theorem uO (snaps:List Int) (k:List UInt8) (s:Int) (hs:s ∈ snaps): ∀ (g:List aq) (q:Int),s<q->lG k s (cU snaps (some q) g)=lG k s g\/ ∃ x ∈ g,x.key≠k
 | [],q,_=> .inl rfl
 | x::g,q,hq=>by
  by_cases hk:x.key=k
  .unfold cU;by_cases hx:x.seq<=s
   .left
    have:ot snaps (some q) x=true:=List.any_eq_true.2 ⟨s,hs,by rw[decide_eq_true hx,decide_eq_true hq];rfl⟩;rw[if_pos this,mr ⟨hk,hx⟩,mr ⟨hk,hx⟩]
   .rcases uO snaps k s hs g x.seq (by omega) with ih | ⟨y,hy,h⟩
    .left
     rw[pn (e:=x) (fun h=>hx h.2)];split
     .rw[pn (e:=x) (fun h=>hx h.2)];exact ih
     .exact ih
    .exact .inr ⟨y,List.mem_cons_of_mem _ hy,h⟩
  .exact .inr ⟨x,List.mem_cons_self,hk⟩
theorem zI {snaps:List Int} {k:List UInt8} {s:Int} {g:List aq} (hs:asked snaps s g) (hg: ∀ x ∈ g,x.key=k):lG k s (cU snaps none g)=lG k s g:=by
 cases g with
 | nil=>rfl
 | cons x g=>
  have hk:=hg x List.mem_cons_self;have e:cU snaps none (x::g)=x::cU snaps (some x.seq) g:=by
   show (if ot snaps none x=true then x::cU snaps (some x.seq) g else cU snaps (some x.seq) g)=_;rw[if_pos (show ot snaps none x=true from rfl)]
  rw[e];by_cases hx:x.seq<=s
  .rw[mr ⟨hk,hx⟩,mr ⟨hk,hx⟩]
  .rw[pn (fun h=>hx h.2),pn (fun h=>hx h.2)];rcases hs with hs | hs
   .rcases uO snaps k s hs g x.seq (by omega) with h | ⟨y,hy,h⟩
    .exact h
    .exact absurd (hg y (List.mem_cons_of_mem _ hy)) h
   .exact absurd (hs x List.mem_cons_self) hx
theorem lW {e:aq} {L:List aq} (h:(e::L).Pairwise dE):(∀ x ∈ e::L.takeWhile (bz e),x.key=e.key)/\(∀ x ∈ L.dropWhile (bz e),x.key≠e.key)/\(L.dropWhile (bz e)).Pairwise dE/\(e::L.takeWhile (bz e)).Pairwise dE:=by
 obtain⟨h1,h2⟩:=List.pairwise_cons.1 h;refine⟨fun x hx=>?_,fun x hx=>?_,h2.sublist (List.dropWhile_sublist _),h.sublist ((List.takeWhile_sublist _).cons_cons _)⟩
 .rcases List.mem_cons.1 hx with rfl | hx
  .rfl
  .exact of_decide_eq_true (gv (f:=bz e) hx)
 .cases hd:L.dropWhile (bz e) with
  | nil=>rw[hd] at hx;cases hx
  | cons y T=>
   have hy:bz e y=false:=by
    have:=List.head_dropWhile_not (p:=bz e) (l:=L) (by rw[hd];simp);simp only[hd,List.head_cons] at this;exact this
   have hye:y ∈ L:=(List.dropWhile_sublist (bz e)).mem (by rw[hd];exact List.mem_cons_self);have hlt:Lib.compareBytes e.key y.key<0:=by
    rcases cK.1 (h1 y hye) with h3 | ⟨h3,_⟩
    .exact h3
    .exact absurd h3.symm (of_decide_eq_false hy)
   rw[hd] at hx;have h4:=h2.sublist (List.dropWhile_sublist (bz e));rw[hd] at h4;rcases List.mem_cons.1 hx with rfl | hx
   .exact(dz hlt).symm
   .rcases cK.1 ((List.pairwise_cons.1 h4).1 x hx) with h5 | ⟨h5,_⟩
    .exact(dz (dA hlt h5)).symm
    .rw[<-h5];exact(dz hlt).symm
theorem Gx (snaps:List Int) (k:List UInt8) (s:Int): ∀ (n:Nat) (L:List aq),L.length<=n->L.Pairwise dE->asked snaps s L->lG k s (cP false snaps L)=lG k s L
 | _,[],_,_,_=>by rw[iT]
 | 0,e::L,h,_,_=>by simp at h
 | n+1,e::L,h,hp,hs=>by
  obtain⟨g1,g2,g3,g4⟩:=lW hp;have h4:e::L=(e::L.takeWhile (bz e))++L.dropWhile (bz e):=by rw[List.cons_append,List.takeWhile_append_dropWhile]
  have hsg:asked snaps s (e::L.takeWhile (bz e)):=hs.imp id fun h x hx=>h x (by rw[h4];exact List.mem_append_left _ hx)
  have hsr:asked snaps s (L.dropWhile (bz e)):=hs.imp id fun h x hx=>h x (by rw[h4];exact List.mem_append_right _ hx)
  have ih:=Gx snaps k s n _ (by have:=gF (bz e) L;simp at h;omega) g3 hsr;rw[gu];have hsub:=(jV snaps (e::L.takeWhile (bz e)) none);show lG k s (cU snaps none _++_)=_;by_cases hk:e.key=k
  .rw[mo (fun x hx=>by rw[<-hk];exact g2 x ((fY false snaps _).mem hx)),zI hsg (fun x hx=>(g1 x hx).trans hk)]
   conv=>rhs;rw[h4]
   rw[mo (fun x hx=>by rw[<-hk];exact g2 x hx)]
  .rw[lj (fun x hx=>by rw[g1 x (hsub.mem hx)];exact hk),ih]
   conv=>rhs;rw[h4]
   rw[lj (fun x hx=>by rw[g1 x hx];exact hk)]
theorem rC {k:List UInt8} {s:Int} {A B:List aq} (h: ∀ x ∈ A,x.key≠k):dX k s (A++B)=dX k s B:=by unfold dX;rw[lj h]
theorem pM {k:List UInt8} {s:Int} {A B:List aq} (h: ∀ x ∈ B,x.key≠k):dX k s (A++B)=dX k s A:=by unfold dX;rw[mo h]
theorem wh (b:Bool) (snaps:List Int) (k:List UInt8) (s:Int): ∀ (n:Nat) (L:List aq),L.length<=n->L.Pairwise dE->asked snaps s L->dX k s (cP b snaps L)=dX k s L
 | _,[],_,_,_=>by rw[iT]
 | 0,e::L,h,_,_=>by simp at h
 | n+1,e::L,h,hp,hs=>by
  obtain⟨g1,g2,g3,g4⟩:=lW hp;have h4:e::L=(e::L.takeWhile (bz e))++L.dropWhile (bz e):=by rw[List.cons_append,List.takeWhile_append_dropWhile]
  have hsg:asked snaps s (e::L.takeWhile (bz e)):=hs.imp id fun h x hx=>h x (by rw[h4];exact List.mem_append_left _ hx)
  have hsr:asked snaps s (L.dropWhile (bz e)):=hs.imp id fun h x hx=>h x (by rw[h4];exact List.mem_append_right _ hx)
  have ih:=wh b snaps k s n _ (by have:=gF (bz e) L;simp at h;omega) g3 hsr;rw[gu];have hsub:=nb b snaps (e::L.takeWhile (bz e));by_cases hk:e.key=k
  .rw[pM (fun x hx=>by rw[<-hk];exact g2 x ((fY b snaps _).mem hx))];have h5:dX k s (iQ b snaps (e::L.takeWhile (bz e)))=dX k s (e::L.takeWhile (bz e)):=by
    have h6:dX k s (cU snaps none (e::L.takeWhile (bz e)))=dX k s (e::L.takeWhile (bz e)):=by
     unfold dX;rw[zI hsg (fun x hx=>(g1 x hx).trans hk)]
    unfold iQ;split
    .rw[Am k s _ _ (Nat.le_refl _),h6]
    .exact h6
   rw[h5]
   conv=>rhs;rw[h4]
   rw[pM (fun x hx=>by rw[<-hk];exact g2 x hx)]
  .rw[rC (fun x hx=>by rw[g1 x (hsub.mem hx)];exact hk),ih]
   conv=>rhs;rw[h4]
   rw[rC (fun x hx=>by rw[g1 x hx];exact hk)]
theorem uu {b:Bool} {snaps:List Int} {k:List UInt8} {s:Int} {L:List aq} (h:L.Pairwise dE) (hs:asked snaps s L):dX k s (cP b snaps L)=dX k s L:=wh b snaps k s _ L (Nat.le_refl _) h hs
theorem sB (x:aq): ∀ (g:List aq) (q:Int),cU [] (some q) g=[]
 | [],_=>rfl
 | y::g,q=>by unfold cU;rw[if_neg (by simp[ot])];exact sB x g _
theorem wH (e:aq) (L:List aq):iQ true [] (e::L)=if e.dead=true then [] else [e]:=by
 unfold iQ cU;rw[if_pos rfl,if_pos (show ot [] none e=true from rfl),sB e]
 cases h:e.dead with
 | true=>exact(nD (X:=[]) h).trans Fy
 | false=>exact ni (X:=[]) h
theorem nh: ∀ (n:Nat) (L:List aq),L.length<=n-> ∀ x ∈ cP true [] L,x.dead=false
 | _,[],_=>by rw[iT];simp
 | 0,e::L,h=>by simp at h
 | n+1,e::L,h=>fun x hx=>by
  rw[gu,wH] at hx;rcases List.mem_append.1 hx with hx | hx
  .cases hd:e.dead with
   | true=>rw[hd] at hx;cases hx
   | false=>
    rw[hd] at hx;have:x=e:=by simpa using hx
    rw[this,hd]
  .exact nh n _ (by have:=gF (bz e) L;simp at h;omega) x hx
theorem nJ: ∀ (n:Nat) (L:List aq),L.length<=n->L.Pairwise dE->(cP true [] L).Pairwise fun a b=>Lib.compareBytes a.key b.key<0
 | _,[],_,_=>by rw[iT];exact List.Pairwise.nil
 | 0,e::L,h,_=>by simp at h
 | n+1,e::L,h,hp=>by
  obtain⟨g1,g2,g3,g4⟩:=lW hp;have ih:=nJ n _ (by have:=gF (bz e) L;simp at h;omega) g3;rw[gu,wH];split
  .exact ih
  .refine List.pairwise_cons.2 ⟨fun x hx=>?_,ih⟩;have hx2:=(fY true [] _).mem hx;have hxl:=(List.dropWhile_sublist (bz e)).mem hx2;rcases cK.1 ((List.pairwise_cons.1 hp).1 x hxl) with h5 | ⟨h5,_⟩
   .exact h5
   .exact absurd h5.symm (g2 x hx2)
theorem BX {L:List aq} {s:Int} (h:L.Pairwise dE) (hs: ∀ x ∈ L,x.seq<=s):(cP true [] L).map cZ=eS s L:=by
 have hp:((cP true [] L).map cZ).Pairwise mO:=by rw[List.pairwise_map];exact nJ _ L (Nat.le_refl _) h
 refine mT hp (iu h) fun k=>?_
 rw[mL h, <-uu (b:=true) (snaps:=[]) h (.inr hs)];have hl:=nh _ L (Nat.le_refl _);have hm: ∀ x ∈ cP true [] L,x.seq<=s:=fun x hx=>hs x ((fY true [] L).mem hx)
 generalize cP true [] L=K at*
 induction K with
 | nil=>rfl
 | cons e K ih=>
  show (if e.key=k then some e.value else bI k (K.map cZ))=_;rw[List.map_cons,List.pairwise_cons] at hp;have ih2:=ih hp.2 (fun x hx=>hl x (List.mem_cons_of_mem _ hx)) (fun x hx=>hm x (List.mem_cons_of_mem _ hx));by_cases hk:e.key=k
  .rw[if_pos hk,qF ⟨hk,hm e List.mem_cons_self⟩];unfold ug;rw[if_neg (by rw[hl e List.mem_cons_self];simp)]
  .rw[if_neg hk,nV (fun h=>hk h.1),ih2]
def gT (p:cE):List UInt8:=[if p.dead=true then 1 else 0,UInt8.ofNat p.key.length]++(ai p.value.length 2++(p.key++p.value))
def aE (ps:List cE):List UInt8:=(ps.map gT).flatten
def zL (p:cE):Prop:=1<=p.key.length/\p.key.length<=128/\p.value.length<=16384
theorem fL (p:cE):(gT p).length=4+p.key.length+p.value.length:=by
 unfold gT;simp only[List.length_append,List.length_cons,List.length_nil,aw];omega
theorem sH (ps:List cE) (p:cE):aE (ps++[p])=aE ps++gT p:=by
 unfold aE;rw[List.map_append,List.flatten_append];simp
theorem gj (p:cE) (ps:List cE):aE (p::ps)=gT p++aE ps:=rfl
theorem G9 (p:cE) (r:List UInt8) (h:zL p):(gT p++r)[0]?=some (if p.dead=true then 1 else 0)/\(gT p++r)[1]?=some (UInt8.ofNat p.key.length)/\((gT p++r).take 4).drop 2=ai p.value.length 2/\
 ((gT p++r).take (4+p.key.length)).drop 4=p.key/\((gT p++r).take (4+p.key.length+p.value.length)).drop (4+p.key.length)=p.value/\(gT p++r).drop (4+p.key.length+p.value.length)=r:=by
 have h2:(ai p.value.length 2).length=2:=aw _ _;obtain⟨q,hq⟩: ∃ q,q=ai p.value.length 2:=⟨_,rfl⟩;rw[<-hq] at h2
 match q,h2 with
 | [a,b],_=>
  have e:gT p++r=[if p.dead=true then 1 else 0,UInt8.ofNat p.key.length,a,b]++(p.key++(p.value++r)):=by
   unfold gT;rw[<-hq];simp
  rw[e];generalize hl4:[if p.dead=true then (1:UInt8) else 0,UInt8.ofNat p.key.length,a,b]=l4;have h4:l4.length=4:=by rw[<-hl4];rfl
  refine⟨by rw[<-hl4];rfl,by rw[<-hl4];rfl,by rw[<-hl4, <-hq];rfl,?_,?_,?_⟩
  .rw[<-List.append_assoc,List.take_left' (by rw[List.length_append,h4]),List.drop_left' h4]
  .rw[<-List.append_assoc, <-List.append_assoc,List.take_left' (by rw[List.length_append,List.length_append,h4]),List.drop_left' (by rw[List.length_append,h4])]
  .rw[<-List.append_assoc, <-List.append_assoc,List.drop_left' (by rw[List.length_append,List.length_append,h4])]
theorem flatK {α:Type} {f:α->List Value} {K:Nat} (hf: ∀ x,(f x).length=K): ∀ (l:List α) (i j:Nat) (hi:i<l.length) (hj:j<K),(l.flatMap f)[i*K+j]?=(f l[i])[j]?
 | [],i,j,hi,hj=>by simp at hi
 | x::l,0,j,hi,hj=>by
  rw[List.flatMap_cons,Nat.zero_mul,Nat.zero_add,List.getElem?_append_left (by rw[hf];exact hj)];rfl
 | x::l,i+1,j,hi,hj=>by
  have e:(i+1)*K+j=K+(i*K+j):=by rw[Nat.add_mul,Nat.one_mul];omega
  rw[List.flatMap_cons,List.getElem?_append_right (by rw[hf,e];omega),hf,e];have:=flatK hf l i j (by simpa using hi) hj;rw[show K+(i*K+j) - K=i*K+j by omega,this];rfl
theorem dD {α:Type} {f:α->List Value} {K:Nat} (hf: ∀ x,(f x).length=K): ∀ (l:List α),(l.flatMap f).length=l.length*K
 | []=>by simp
 | x::l=>by rw[List.flatMap_cons,List.length_append,hf,dD hf l,List.length_cons,Nat.add_mul,Nat.one_mul];omega
theorem eF (e:En):(bV e).length=4:=rfl
section
variable {w w':World} {A:Option Addr} {es:List En}
theorem dU (h:aF w A (es.flatMap bV)) (hn:0<es.length): ∃ b o,A=some ⟨b,o,none⟩/\ ∀ i (hi:i<es.length),
 w.cell? ⟨b,o+i*4,none⟩=some (aJ es[i].key)/\w.cell? ⟨b,o+i*4+1,none⟩=some (aJ es[i].value)/\w.cell? ⟨b,o+i*4+2,none⟩=some (.int .i64 es[i].seq)/\w.cell? ⟨b,o+i*4+3,none⟩=some (.bool es[i].dead):=by
 have hl:=dD eF es;obtain⟨b,o,rfl,_⟩:=aF.get h (j:=0) (by omega);refine⟨b,o,rfl,fun i hi=>?_⟩;have key: ∀ j,j<4->w.cell? ⟨b,o+i*4+j,none⟩=(bV es[i])[j]?:=fun j hj=>by
  have hij:i*4+j<(es.flatMap bV).length:=by omega
  obtain⟨b',o',e,hc⟩:=aF.get h hij;injection e with e
  injection e with e1 e2
  subst e1;subst e2;rw[Nat.add_assoc,hc, <-flatK eF es i j hi hj,List.getElem?_eq_getElem hij]
 exact⟨key 0 (by omega),key 1 (by omega),key 2 (by omega),key 3 (by omega)⟩
def jG (w:World) (es:List En):Prop:= ∀ e ∈ es,oD w e
end
def dH (l:List aq):Bool:=(List.range (l.length - 1)).all fun i=>match l[i]?,l[i+1]? with | some a,some b=>az a b | _,_=>true
theorem iz (l:List aq):dH l=true↔ ∀ i (hi:i+1<l.length),dE (l[i]'(by omega)) l[i+1]:=by
 unfold dH;rw[List.all_eq_true];constructor
 .intro h i hi;have:=h i (List.mem_range.2 (by omega));rw[List.getElem?_eq_getElem (by omega),List.getElem?_eq_getElem hi] at this;exact this
 .intro h i hi;have hi:i+1<l.length:=by have:=List.mem_range.1 hi;omega
  rw[List.getElem?_eq_getElem (by omega),List.getElem?_eq_getElem hi];exact h i hi
theorem xS (l:List aq) (i:Nat) (hi:i+1<l.length) (h:az (l[i]'(by omega)) l[i+1]=false):dH l=false:=by
 cases hs:dH l with
 | false=>rfl
 | true=>have:=(iz l).1 hs i hi;unfold dE at this;rw[h] at this;cases this
theorem gE (A:Option Addr) (c:Nat) (es:List En) (w:World) (h:aF w A (es.flatMap bV)) (hr:jG w es) (hc:es.length<=c) (hm:c<=maxLen):
 Calls Tryz.prog 151 #[.slice A es.length c] w fun e w'=>e = .returned (.bool (dH (es.map En.ak)))/\ao No w w':=by
 have HL:=ah h;have HR:=ah hr;have HE:Hid (∀ e:En,iN e = .agg #[.slice e.key.1 e.key.2.2.length e.key.2.1,.slice e.value.1 e.value.2.2.length e.value.2.1,.int .i64 e.seq,.bool e.dead]):=fun _=>rfl
 unfold maxLen at hm;clear h hr;go_enter Tryz.func151, Tryz.ntmps151;go_wp2_with fail;go_loopw [3] (fun i wr=> ∃ k:Nat,1<=k/\(k<=es.length\/k=1)/\i = .int .i64 k/\Hid (ao No w wr/\ ∀ i (hi:i+1<k) (hk:i+1<es.length),az (es[i]'(by omega)).ak es[i+1].ak=true)) (fun i _=>es.length - (intOf i).toNat)
 case atStart=>exact⟨1,by omega,by omega,rfl,ao.refl _ _,fun i hi=>by omega⟩
 case round=>
  obtain⟨k,hk1,hk2,rfl,HD⟩:=hrel;by_cases hlt:k<es.length
  .obtain⟨b,o,rfl,hq⟩:=dU (aF.new HL.o HD.o.1) (by omega);obtain⟨j,rfl⟩: ∃ j,k=j+1:=⟨k - 1,by omega⟩;obtain⟨a0,a1,a2,a3⟩:=hq j (by omega);obtain⟨b0,b1,b2,b3⟩:=hq (j+1) hlt;clear hq;unfold aJ at a0 a1 b0 b1;have HI:=ah HD.o.1;have HLs:=HD.o.2;clear HD;have hwj:IntKind.i64.wrap (j:Int)=j:=by rw[IntKind.wrap_i64];omega
   have hc2:(0:Int)<=(j:Int)+1:=by omega
   have hc3:j<es.length:=by omega
   go_wp2_with fail;go_region_law (first
    | (go_simp;go_at_call 147;rw[<-HE.o, <-HE.o];refine(qC es[j] es[j+1] _ ((HR.o _ (List.getElem_mem _)).new HI.o.drew) ((HR.o _ (List.getElem_mem _)).new HI.o.drew)).mono ?_;rintro e w5 ⟨rfl,k5⟩)
    | (simp only[hwj,hc2,hc3];go_simp))
   all_goals
    have k6:Hid (ao No w w5):=HI.o.drew.tr k5
    cases hb:az es[j].ak es[j+1].ak with
    | false=>
     have HQ:Hid (dH (es.map En.ak)=false):=xS _ j (by simpa using hlt) (by simpa using hb);go_wp2_with fail;go_ret;exact⟨by rw[HQ.o];rfl,k6.o⟩
    | true=>
     go_wp2_with fail;go_roundw
     .exact⟨j+1+1,by omega,by omega,by push_cast;rfl,k6.o,fun i hi hk=>if e:i=j then by subst e;exact hb else HLs i (by omega) hk⟩
     .simp[intOf];omega
  .have HQ:Hid (dH (es.map En.ak)=true):=(iz _).2 fun i hi=>by
    have:=HD.o.2 i (by simp at hi;omega) (by simpa using hi);simpa [dE] using this
   go_wp2_with fail;go_ret;exact⟨by rw[HQ.o];rfl,HD.o.1⟩
structure Nd where
 a:Nat
 r:Nat
 e:En
 h:Nat
 v:Nat
def cS (t:Nat->Option Nat) (ns:List Nd) (i:Nat):Option Nat:=match ns.find? (fun n=>decide (i<n.v)) with | some n=>some n.a | none=>t i
def dM (o:Option Nat):Value:= .pointer (o.map fun b=>⟨b,0,none⟩)
def cH (f:Nat->Option Nat) (h v:Nat):Array Value:=((List.range h).map fun j=>if j<v then dM (f j) else dM none).toArray
def fH (n:Nd):Array Value:= #[.slice (some ⟨n.r,0,none⟩) n.h n.h,aJ n.e.key,aJ n.e.value,.int .i64 n.e.seq,.bool n.e.dead]
def rF (n:Nd) (f:Nat->Option Nat):SP:=Pt n.a 186 (fH n)*Pt n.r 183 (cH f n.h n.v)
def br (t:Nat->Option Nat):List Nd->SP
 | []=>bF
 | n::ns=>rF n (cS t ns)*br t ns
def de:Nat->Option Nat:=fun _=>none
section
variable {t t':Nat->Option Nat} {n m:Nd} {ns p s:List Nd} {i j h v:Nat}
theorem dB (t:Nat->Option Nat) (n:Nd) (ns:List Nd) (i:Nat):cS t (n::ns) i=if i<n.v then some n.a else cS t ns i:=by
 unfold cS;rw[List.find?_cons];by_cases h:i<n.v
 .simp[h]
 .simp[h]
theorem ig (t:Nat->Option Nat) (s:List Nd): ∀ p:List Nd,cS t (p++s)=cS (cS t s) p
 | []=>rfl
 | n::p=>by
  funext i
  rw[List.cons_append,dB,dB,ig t s p]
theorem kU (h: ∀ n ∈ ns,n.v<=i):cS t ns i=t i:=by
 unfold cS;rw[List.find?_eq_none.2 (fun n hn=>by have:=h n hn;simp;omega)]
theorem jg (ns:List Nd) (i:Nat):(cS de ns i=none/\ ∀ n ∈ ns,n.v<=i)\/ ∃ p m s,ns=p++m::s/\cS de ns i=some m.a/\i<m.v/\ ∀ n ∈ p,n.v<=i:=by
 induction ns with
 | nil=>exact .inl ⟨rfl,by simp⟩
 | cons n ns ih=>
  by_cases h:i<n.v
  .exact .inr ⟨[],n,ns,rfl,by rw[dB,if_pos h],h,by simp⟩
  .rcases ih with ⟨h1,h2⟩ | ⟨p,m,s,rfl,h2,h3,h4⟩
   .exact .inl ⟨by rw[dB,if_neg h,h1],fun x hx=>(List.mem_cons.1 hx).elim (fun e=>by subst e;omega) (h2 x)⟩
   .exact .inr ⟨n::p,m,s,rfl,by rw[dB,if_neg h];exact h2,h3,fun x hx=>(List.mem_cons.1 hx).elim (fun e=>by subst e;omega) (h4 x)⟩
theorem qW {f g:Nat->Option Nat} (hfg: ∀ j,j<h->j<v->f j=g j):cH f h v=cH g h v:=by
 unfold cH;congr 1
 apply List.map_congr_left;intro j hj;have hj:=List.mem_range.1 hj;by_cases hv:j<v
 .rw[if_pos hv,if_pos hv,hfg j hj hv]
 .rw[if_neg hv,if_neg hv]
theorem ke (f:Nat->Option Nat) (hj:j<h):(cH f h v)[j]?=some (if j<v then dM (f j) else dM none):=by
 unfold cH;simp[hj]
theorem lu (t:Nat->Option Nat) (s:List Nd): ∀ p:List Nd,br t (p++s)=br (cS t s) p*br t s
 | []=>(bf _).symm
 | n::p=>by
  show rF n (cS t (p++s))*br t (p++s)=rF n (cS (cS t s) p)*br (cS t s) p*br t s;rw[ig,lu t s p,aB]
theorem nB: ∀ {ns:List Nd},(∀ n ∈ ns,n.v<=i)->(∀ j,j<i->t j=t' j)->br t ns=br t' ns
 | [],_,_=>rfl
 | n::ns,h,k=>by
  show rF n (cS t ns)*br t ns=rF n (cS t' ns)*br t' ns;rw[nB (fun x hx=>h x (List.mem_cons_of_mem _ hx)) k];have hn:=h n List.mem_cons_self;have e:cH (cS t ns) n.h n.v=cH (cS t' ns) n.h n.v:=qW fun j hj hv=>by
   unfold cS
   cases ns.find? (fun n=>decide (j<n.v)) with
   | some _=>rfl
   | none=>exact k j (by omega)
  unfold rF;rw[e]
end
structure wk (ns:List Nd):Prop where
 full: ∀ n ∈ ns,n.v=n.h/\1<=n.h/\n.h<=8
 sort:ns.Pairwise fun a b=>dE a.e.ak b.e.ak
def Kg (l:List aq):Nat:=l.foldr (fun e s=>e.key.length+e.value.length+s) 0
def jW (ns:List Nd):List du:=ns.flatMap fun n=>[n.e.key,n.e.value]
def cV (b hr:Nat) (ns:List Nd) (cnt by':Int):SP:=
 Pt b 173 #[.slice (some ⟨hr,0,none⟩) 8 8,.int .i64 cnt,.int .i64 by']*(Pt hr 183 (cH (cS de ns) 8 8)*(br de ns*cd (jW ns)))
structure View (w:World) (b hr:Nat) (ns:List Nd):Prop where
 head:w.cell? ⟨b,0,none⟩=some (.slice (some ⟨hr,0,none⟩) 8 8)
 links: ∀ i,i<8->w.cell? ⟨hr,i,none⟩=some (dM (cS de ns i))
 node: ∀ p n s,ns=p++n::s->w.cell? ⟨n.a,0,none⟩=some (.slice (some ⟨n.r,0,none⟩) n.h n.h)/\w.cell? ⟨n.a,1,none⟩=some (aJ n.e.key)/\w.cell? ⟨n.a,2,none⟩=some (aJ n.e.value)/\w.cell? ⟨n.a,3,none⟩=some (.int .i64 n.e.seq)/\w.cell? ⟨n.a,4,none⟩=some (.bool n.e.dead)
  /\(∀ i,i<n.h->w.cell? ⟨n.r,i,none⟩=some (dM (cS de s i)))/\oD w n.e
 nodup:(ns.map Nd.a).Nodup
section
variable {w0 w w':World} {F:SP} {b hr:Nat} {ns p s:List Nd} {n:Nd} {c y:Int} {t:Nat->Option Nat}
theorem View.new (h:View w b hr ns) (k:ao No w w'):View w' b hr ns:=
 ⟨k.cell h.head id,fun i hi=>k.cell (h.links i hi) id,fun p n s e=>by
  obtain⟨h1,h2,h3,h4,h5,h6,h7⟩:=h.node p n s e;exact⟨k.cell h1 id,k.cell h2 id,k.cell h3 id,k.cell h4 id,k.cell h5 id,fun i hi=>k.cell (h6 i hi) id,h7.new k⟩,h.nodup⟩
theorem kj (t:Nat->Option Nat) (p:List Nd) (n:Nd) (s:List Nd) (F:SP):br t (p++n::s)*F=Pt n.a 186 (fH n)*(Pt n.r 183 (cH (cS t s) n.h n.v)*(br (cS t (n::s)) p*(br t s*F))):=by
 rw[lu];show br (cS t (n::s)) p*(Pt n.a _ (fH n)*Pt n.r _ (cH (cS t s) n.h n.v)*br t s)*F=_
 ac_rfl
theorem Ca (h:Sat w0 (br t ns*F) w):(ns.map Nd.a).Nodup:=by
 induction ns generalizing F with
 | nil=>simp
 | cons n ns ih=>
  have h1:Sat w0 (Pt n.a 186 (fH n)*(br t ns*(Pt n.r 183 (cH (cS t ns) n.h n.v)*F))) w:=h.of (by
   show Pt n.a _ (fH n)*Pt n.r _ (cH (cS t ns) n.h n.v)*br t ns*F=_
   ac_rfl)
  rw[List.map_cons,List.nodup_cons];refine⟨fun hm=>?_,ih h1.right⟩;obtain⟨m,hm,e⟩:=List.mem_map.1 hm;obtain⟨p,s,rfl⟩:=List.append_of_mem hm;have h2:Sat w0 (Ow n.a _*(Ow m.a _*_)) w:=h1.of (by rw[kj];rfl);exact h2.ne e.symm
theorem Sat.view (h:Sat w0 (cV b hr ns c y*F) w) (hok:wk ns):View w b hr ns:=by
 have h1:Sat w0 (Pt b 173 #[.slice (some ⟨hr,0,none⟩) 8 8,.int .i64 c,.int .i64 y]*(Pt hr 183 (cH (cS de ns) 8 8)*(br de ns*(cd (jW ns)*F)))) w:=h.of (by unfold cV;ac_rfl);refine⟨h1.cell 0,fun i hi=>?_,fun p n s e=>?_,Ca (h1.bp)⟩
 .rw[h1.ay.cell i,ke _ hi,if_pos hi]
 .subst e;have h2:=h1.bp.of (kj de p n s _);obtain⟨e1,e2,e3⟩:=hok.full n (by simp);refine⟨h2.cell 0,h2.cell 1,h2.cell 2,h2.cell 3,h2.cell 4,fun i hi=>?_,?_⟩
  .rw[h2.ay.cell i,ke _ hi,if_pos (by omega)]
  .have h3:=h1.bL;exact⟨h3.F4 (r:=n.e.key) (by unfold jW;simp),h3.F4 (r:=n.e.value) (by unfold jW;simp)⟩
end
def ahead (e:aq) (ns:List Nd):List Nd:=ns.takeWhile fun n=>az n.e.ak e
def au (b:Nat):List Nd->Nat->Nat
 | [],_=>b
 | n::ns,i=>if i<n.v then au n.a ns i else au b ns i
theorem ia (s:List Nd) (i:Nat): ∀ (p:List Nd) (b:Nat),au b (p++s) i=au (au b p i) s i
 | [],b=>rfl
 | n::p,b=>by
  show (if i<n.v then au n.a (p++s) i else au b (p++s) i)=au (if i<n.v then au n.a p i else au b p i) s i;by_cases h:i<n.v
  .rw[if_pos h,if_pos h];exact ia s i p n.a
  .rw[if_neg h,if_neg h];exact ia s i p b
theorem qd {i:Nat}: ∀ {s:List Nd} {b:Nat},(∀ n ∈ s,n.v<=i)->au b s i=b
 | [],_,_=>rfl
 | n::s,b,h=>by
  unfold au;rw[if_neg (by have:=h n List.mem_cons_self;omega)];exact qd fun x hx=>h x (List.mem_cons_of_mem _ hx)
theorem Bm {e:aq} {p s:List Nd} (h: ∀ n ∈ p,dE n.e.ak e):ahead e (p++s)=p++ahead e s:=by
 unfold ahead;exact List.takeWhile_append_of_pos fun n hn=>h n hn
theorem ja {e:aq} {n:Nd}: ∀ {s:List Nd},n ∈ ahead e s->n ∈ s/\dE n.e.ak e
 | [],h=>by simp[ahead] at h
 | m::s,h=>by
  unfold ahead at h;rw[List.takeWhile_cons] at h;split at h
  .rename_i hl;rcases List.mem_cons.1 h with h | h
   .subst h;exact⟨List.mem_cons_self,hl⟩
   .have:=ja (s:=s) h;exact⟨List.mem_cons_of_mem _ this.1,this.2⟩
  .cases h
structure zm (w:World) (b:Nat) (ns:List Nd) (e:aq) (k:Nat) (p s:List Nd) (A R h:Nat):Prop where
 eq:ns=p++s
 low: ∀ n ∈ p,dE n.e.ak e
 done: ∀ n ∈ s,dE n.e.ak e->n.v<=k
 hk:k<=h
 head:w.cell? ⟨A,0,none⟩=some (.slice (some ⟨R,0,none⟩) h h)
 links: ∀ i,i<h->w.cell? ⟨R,i,none⟩=some (dM (cS de s i))
 last: ∀ j,j<h->au b p j=A
section
variable {w w':World} {b hr k A R h:Nat} {ns p s:List Nd} {e:aq}
theorem zm.new (x:zm w b ns e k p s A R h) (c:ao No w w'):zm w' b ns e k p s A R h:=⟨x.eq,x.low,x.done,x.hk,c.cell x.head id,fun i hi=>c.cell (x.links i hi) id,x.last⟩
theorem View.zA (v:View w b hr ns) (hok:wk ns) (e:aq):zm w b ns e 8 [] ns b hr 8:=
 ⟨rfl,by simp,fun n hn _=>by have:=hok.full n hn;omega,Nat.le_refl _,v.head,v.links,fun _ _=>rfl⟩
theorem zm.step (x:zm w b ns e (k+1) p s A R h) (v:View w b hr ns) (hok:wk ns) {q t:List Nd} {m:Nd} (hs:s=q++m::t) (hm:k<m.v) (hl:dE m.e.ak e):
 zm w b ns e (k+1) (p++(q++[m])) t m.a m.r m.h:=by
 have he:=x.eq;subst hs;have hf:=hok.full m (by rw[he];simp);obtain⟨h1,_,_,_,_,h6,_⟩:=v.node (p++q) m t (by rw[he];simp);refine⟨by rw[he];simp,fun n hn=>?_,fun n hn=>x.done n (by simp[hn]),by omega,h1,h6,fun j hj=>?_⟩
 .rcases List.mem_append.1 hn with hn | hn
  .exact x.low n hn
  .rcases List.mem_append.1 hn with hn | hn
   .have hsort:=hok.sort;rw[he,List.pairwise_append] at hsort;have h2:=hsort.2.1;rw[List.pairwise_append] at h2;exact jf (h2.2.2 n hn m List.mem_cons_self) hl
   .simp at hn;subst hn;exact hl
 .rw[ia,ia];show (if j<m.v then _ else _)=_;rw[if_pos (by omega)];rfl
theorem zm.down (x:zm w b ns e (k+1) p s A R h) (hd: ∀ n ∈ s,dE n.e.ak e->n.v<=k):zm w b ns e k p s A R h:=⟨x.eq,x.low,hd,by have:=x.hk;omega,x.head,x.links,x.last⟩
theorem zm.here (x:zm w b ns e (k+1) p s A R h) (hd: ∀ n ∈ s,dE n.e.ak e->n.v<=k):au b (ahead e ns) k=A:=by
 have he:=x.eq;rw[he,Bm x.low,ia,x.last k (by have:=x.hk;omega)];exact qd fun n hn=>hd n (ja hn).1 (ja hn).2
theorem Bo (x:zm w b ns e (k+1) p s A R h) (hn: ∀ n ∈ s,n.v<=k): ∀ n ∈ s,dE n.e.ak e->n.v<=k:=fun n h _=>hn n h
theorem BH (x:zm w b ns e (k+1) p s A R h) (hok:wk ns) {q t:List Nd} {m:Nd} (hs:s=q++m::t) (hq: ∀ n ∈ q,n.v<=k) (hl:¬ dE m.e.ak e): ∀ n ∈ s,dE n.e.ak e->n.v<=k:=by
 intro n hn hl2;have he:=x.eq;subst hs;rcases List.mem_append.1 hn with hn | hn
 .exact hq n hn
 .have hsort:=hok.sort;rw[he,List.pairwise_append] at hsort;have h2:=hsort.2.1;rw[List.pairwise_append,List.pairwise_cons] at h2;rcases List.mem_cons.1 hn with e | hn
  .subst e;exact absurd hl2 hl
  .exact absurd (jf (h2.2.1.1 n hn) hl2) hl
end
def DU (ns:List Nd) (v:Value):Nat:=match v with | .pointer (some A)=>(ns.dropWhile fun n=>decide (n.a≠A.block)).length | _=>0
theorem tX {ns p s:List Nd} {m:Nd} (hd:(ns.map Nd.a).Nodup) (h:ns=p++m::s):DU ns (.pointer (some ⟨m.a,0,none⟩))=s.length+1:=by
 subst h;show ((p++m::s).dropWhile fun n=>decide (n.a≠m.a)).length=_;have hp: ∀ n ∈ p,decide (n.a≠m.a)=true:=fun n hn=>by
  rw[List.map_append,List.nodup_append] at hd;have:=hd.2.2 n.a (List.mem_map_of_mem hn) m.a (by simp);simpa using this
 rw[List.dropWhile_append_of_pos hp,List.dropWhile_cons];simp
theorem vy {ns p s:List Nd} {i:Nat} (hd:(ns.map Nd.a).Nodup) (h:ns=p++s):DU ns (dM (cS de s i))<=s.length:=by
 rcases jg s i with ⟨h1,_⟩ | ⟨q,m,t,hs,h2,_,_⟩
 .rw[h1];exact Nat.zero_le _
 .rw[h2];have:=tX (p:=p++q) (s:=t) (m:=m) hd (by rw[h,hs];simp);show DU ns (.pointer (some ⟨m.a,0,none⟩))<=_;rw[this,hs];simp
def gg (b:Nat) (ps:List Nd) (k:Nat):Array Value:=((List.range 8).map fun j=>if k<=j then dM (some (au b ps j)) else dM none).toArray
theorem wT (b:Nat) (ps:List Nd) (k:Nat) (hk:k<8):(gg b ps (k+1)).setIfInBounds k (.pointer (some ⟨au b ps k,0,none⟩))=gg b ps k:=by
 apply Array.ext';apply List.ext_getElem?;intro j;unfold gg;simp only[List.setIfInBounds_toArray,List.getElem?_set,List.getElem?_map,List.length_map,List.length_range];by_cases hj:j<8
 .rw[List.getElem?_range hj];by_cases e:k=j
  .subst e;simp[hk,dM]
  .have:(k+1<=j)=(k<=j):=by apply propext;omega
   simp[e,this]
 .simp[hj,show ¬ k=j by omega]
abbrev Ey (e:En):Array Value:= #[.slice e.key.1 e.key.2.2.length e.key.2.1,.slice e.value.1 e.value.2.2.length e.value.2.1,.int .i64 e.seq,.bool e.dead]
theorem pU (b:Nat) (ps:List Nd) (k:Nat) {j:Nat} (hj:j<8):(gg b ps k)[j]?=some (if k<=j then dM (some (au b ps j)) else dM none):=by unfold gg;simp[hj]
structure Lf (w:World) (b:Nat) (ns:List Nd) (e:En) (E B O V:Nat) (k:Nat) (p s:List Nd) (A R h:Nat) (wr:World):Prop where
 zA:zm w b ns e.ak k p s A R h
 k8:k<=8
 sat:Sat w (Pt O 181 (gg b (ahead e.ak ns) V)*(Pt B 181 (gg b [] 8)*(Pt E 120 (Ey e)*bF))) wr
theorem mi (b hr:Nat) (ns:List Nd) (e:En) (w:World) (hv:View w b hr ns) (hok:wk ns) (he:oD w e):
 Calls Tryz.prog 108 #[.pointer (some ⟨b,0,none⟩),iN e] w fun x w'=>x = .returned (.agg (gg b (ahead e.ak ns) 0))/\ao No w w':=by
 have HV:=ah hv;have HE:=ah he;have HO:=ah hok;have HEA:Hid (∀ e:En,iN e = .agg #[.slice e.key.1 e.key.2.2.length e.key.2.1,.slice e.value.1 e.value.2.2.length e.value.2.1,.int .i64 e.seq,.bool e.dead]):=fun _=>rfl
 rw[HEA.o];clear hv he hok;go_enter Tryz.func108, Tryz.ntmps108;go_wp2_with fail;have s1:=(Sat.start w).bO (b:=w.heap.size) 120 (Ey e) rfl;have s2:=s1.bO (b:=w.heap.size+1) 181 (gg b [] 8) (by simp);have s3:=s2.bO (b:=w.heap.size+1+1) 181 (gg b (ahead e.ak ns) 8) (by simp);obtain⟨W,hW⟩: ∃ W,W=((w.alloc (.cells (Ey e) 120)).alloc (.cells (gg b [] 8) 181)).alloc (.cells (gg b (ahead e.ak ns) 8) 181):=⟨_,rfl⟩;rw[<-hW] at s3;have e8: ∀ ps,gg b ps 8 = #[.pointer none,.pointer none,.pointer none,.pointer none,.pointer none,.pointer none,.pointer none,.pointer none]:=fun _=>rfl
 rw[e8,e8] at hW;rw[<-hW];generalize w.heap.size=E at*
 obtain⟨O,hO⟩: ∃ O,O=E+1+1:=⟨_,rfl⟩;obtain⟨B,hB⟩: ∃ B,B=E+1:=⟨_,rfl⟩;rw[<-hO, <-hB] at s3;rw[<-hO, <-hB];have HS:=ah s3;clear s1 s2 s3 hW e8 hO hB;go_loopw [6,7] (fun at' i wr=> ∃ (k A R h:Nat) (p s:List Nd),i = .int .i64 ((k:Int) - 1)/\at' = .pointer (some ⟨A,0,none⟩)/\k<=8/\Hid (Lf w b ns e E B O k k p s A R h wr)) (fun _ i _=>(intOf i+1).toNat)
 case atStart=>exact⟨8,b,hr,8,[],ns,rfl,rfl,by omega,HV.o.zA HO.o _,by omega,HS.o⟩
 case round=>
  obtain⟨k,A,R,h,p,s,rfl,rfl,hk8,HD⟩:=hrel;rcases k with _ | q
  .have eO: ∀ ps,gg b ps 0 = #[.pointer (some ⟨au b ps 0,0,none⟩),.pointer (some ⟨au b ps 1,0,none⟩),.pointer (some ⟨au b ps 2,0,none⟩),.pointer (some ⟨au b ps 3,0,none⟩),.pointer (some ⟨au b ps 4,0,none⟩),.pointer (some ⟨au b ps 5,0,none⟩),.pointer (some ⟨au b ps 6,0,none⟩),.pointer (some ⟨au b ps 7,0,none⟩)]:=fun _=>rfl
   have hs:=HD.o.sat;have e8:gg b [] 8 = #[.pointer none,.pointer none,.pointer none,.pointer none,.pointer none,.pointer none,.pointer none,.pointer none]:=rfl;rw[eO,e8] at hs;have c0:=hs.cell 0;have c1:=hs.cell 1;have c2:=hs.cell 2;have c3:=hs.cell 3;have c4:=hs.cell 4;have c5:=hs.cell 5;have c6:=hs.cell 6;have c7:=hs.cell 7;have f0:=hs.ay.frozen 0;have f1:=hs.ay.frozen 1;have f2:=hs.ay.frozen 2;have f3:=hs.ay.frozen 3;have f4:=hs.ay.frozen 4;have f5:=hs.ay.frozen 5;have f6:=hs.ay.frozen 6;have f7:=hs.ay.frozen 7;have d0:=hs.ay.cell 0;have d1:=hs.ay.cell 1;have d2:=hs.ay.cell 2;have d3:=hs.ay.cell 3;have d4:=hs.ay.cell 4;have d5:=hs.ay.cell 5;have d6:=hs.ay.cell 6;have d7:=hs.ay.cell 7;have HQ:Hid (Value.agg (gg b (ahead e.ak ns) 0)=_):=congrArg Value.agg (eO _);have HS2:=ah hs;clear hs eO e8;have h9:=(((((((HS2.o.ay.set 0 (.pointer (some ⟨au b (ahead e.ak ns) 0,0,none⟩))).set 1 (.pointer (some ⟨au b (ahead e.ak ns) 1,0,none⟩))).set 2 (.pointer (some ⟨au b (ahead e.ak ns) 2,0,none⟩))).set 3 (.pointer (some ⟨au b (ahead e.ak ns) 3,0,none⟩))).set 4 (.pointer (some ⟨au b (ahead e.ak ns) 4,0,none⟩))).set 5 (.pointer (some ⟨au b (ahead e.ak ns) 5,0,none⟩))).set 6 (.pointer (some ⟨au b (ahead e.ak ns) 6,0,none⟩))).set 7 (.pointer (some ⟨au b (ahead e.ak ns) 7,0,none⟩));go_wp2_with fail;clear c0 c1 c2 c3 c4 c5 c6 c7 f0 f1 f2 f3 f4 f5 f6 f7 d0 d1 d2 d3 d4 d5 d6 d7;revert h9;generalize World.setCell _ _ _=W2;intro h9;refine bodyPost_ret (results_cell_row (p:=4) (by kernel_rfl) _ _ B 181 _ (0,0) _ rfl h9.at Tryz.underlying181 rfl (by kernel_rfl)) rfl ?_;exact⟨by rw[HQ.o];rfl,h9.aL⟩
  .have HI:Hid (((q+1:Nat):Int) - 1=q):=by unfold Hid;omega
   rw[HI.o];have hh:=HD.o.zA.hk;have q1:=(HD.o.zA.new HD.o.sat.aL).head;have q2:=(HD.o.zA.new HD.o.sat.aL).links q (by omega);have HD0:=HD;clear HD;go_wp2_with fail;clear hh q1 q2;go_loopw [6,8] (fun at' n wr=> ∃ (A R h:Nat) (p s:List Nd),at' = .pointer (some ⟨A,0,none⟩)/\n=dM (cS de s q)/\Hid (Lf w b ns e E B O (q+1) (q+1) p s A R h wr)) (fun _ n _=>DU ns n)
   case atStart=>exact⟨A,R,h,p,s,rfl,rfl,HD0.o⟩
   case round=>
    clear HD0;obtain⟨A1,R1,h1,p1,s1,rfl,rfl,HD⟩:=hrel;have hq:q<8:=by omega
    have wq:IntKind.i64.wrap ((q:Int) - 1)=(q:Int) - 1:=by rw[IntKind.wrap_i64];omega
    rcases jg s1 q with ⟨e1,hlow⟩ | ⟨u,m,t,e2,e1,hm,hu⟩
    .have HX:=ah (Bo HD.o.zA hlow);have e3:dM (cS de s1 q) = .pointer none:=by rw[e1];rfl
     rw[e3];clear e1 e3 hlow;have f1:=HD.o.sat.frozen q;have f2:wr.cell? ⟨O,q,none⟩=some (.pointer none):=by rw[HD.o.sat.cell q,pU _ _ _ hq,if_neg (by omega)];rfl
     go_wp2_with fail;go_region
     go_wp2_with fail;go_roundw
     .have hs:=HD.o.sat.drew.set q (.pointer (some ⟨A1,0,none⟩));rw[<-HD.o.zA.here HX.o,wT _ _ _ hq] at hs;rw[HD.o.zA.here HX.o] at hs;exact⟨q,A1,R1,h1,p1,s1,rfl,rfl,by omega,HD.o.zA.down HX.o,by omega,hs⟩
     .simp[intOf]<;>omega
    .have e3:dM (cS de s1 q) = .pointer (some ⟨m.a,0,none⟩):=by rw[e1];rfl
     rw[e3];have hsp:=HD.o.zA.eq;have hv2:=HV.o.new HD.o.sat.aL;obtain⟨n0,n1,n2,n3,n4,n5,n6⟩:=hv2.node (p1++u) m t (by rw[hsp,e2];simp);unfold aJ at n1 n2;have HR2:=ah hv2.nodup;have HN:=ah n6;have c0:=HD.o.sat.right.right.cell 0;have c1:=HD.o.sat.right.right.cell 1;have c2:=HD.o.sat.right.right.cell 2;have c3:=HD.o.sat.right.right.cell 3;have HU:=ah hu;have E2:=ah e2;have E1:=ah hsp;have HM:=ah hm;clear hu e2 hsp hm e1 e3 hv2 n5 n6 n0;have HC:=ah HD.o.sat.aL;go_wp2_with fail;go_region_law (go_simp;go_at_call 147;refine(qC m.e e _ (HN.o.new (ao.refl No wr).drew) (HE.o.new HC.o.drew)).mono ?_;rintro x w5 ⟨rfl,k5⟩)
     all_goals
      cases hb:az m.e.ak e.ak with
      | false=>
       have HX:=ah (BH HD.o.zA HO.o E2.o HU.o (by unfold dE;rw[hb];simp));have hs0:=HD.o.sat.drew.new k5;have f1:=hs0.frozen q;have f2:w5.cell? ⟨O,q,none⟩=some (.pointer none):=by rw[hs0.cell q,pU _ _ _ hq,if_neg (by omega)];rfl
       have HS0:=ah hs0;clear hs0;go_wp2_with fail;go_roundw
       .have hs:=HS0.o.set q (.pointer (some ⟨A1,0,none⟩));rw[<-HD.o.zA.here HX.o,wT _ _ _ hq] at hs;rw[HD.o.zA.here HX.o] at hs;exact⟨q,A1,R1,h1,p1,s1,rfl,rfl,by omega,HD.o.zA.down HX.o,by omega,hs⟩
       .simp[intOf]<;>omega
      | true=>
       have HP:=ah (HD.o.zA.step HV.o HO.o E2.o HM.o hb);have HS0:=ah (HD.o.sat.drew.new k5);have hf:=HO.o.full m (by rw[E1.o,E2.o];simp);have hmq:=HM.o;have q3:=(HP.o.new HS0.o.aL).head;have q4:=(HP.o.new HS0.o.aL).links q (by omega);go_wp2_with fail;go_roundw
       .exact⟨m.a,m.r,m.h,_,t,rfl,rfl,HP.o,HD.o.k8,HS0.o⟩
       .have r1:=tX (p:=p1++u) (s:=t) (m:=m) HR2.o (by rw[E1.o,E2.o];simp);have r2:=vy (p:=p1++(u++[m])) (s:=t) (i:=q) HR2.o (by rw[E1.o,E2.o];simp);simp;omega
end Go.Proofs.YtmbaiglpgaoogaaGreat
