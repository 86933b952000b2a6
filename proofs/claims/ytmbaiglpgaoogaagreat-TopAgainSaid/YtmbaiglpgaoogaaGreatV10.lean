/- Joined, as they were built one by one: Mem1 Mem2 Viw Thn Sto0 Mem3. -/
import Derived.Lib.Bytealg
import Derived.Lib.UnsafeStr
import Derived.Laws.Externs
import Derived.StringKeys
import Derived.Test.YtmbaiglpgaoogaaGreatV08
import Derived.Test.YtmbaiglpgaoogaaGreatV09
set_option maxHeartbeats 16000000
namespace Go.Proofs.YtmbaiglpgaoogaaGreat
open Go.RowKit
set_option linter.unusedVariables false
set_option maxRecDepth 100000
structure En where
 key:Slc
 value:Slc
 seq:Int
 dead:Bool
structure Ent where
 key:List UInt8
 value:List UInt8
 seq:Int
 dead:Bool
def En.ent (e:En):Ent:=⟨e.key.2.2,e.value.2.2,e.seq,e.dead⟩
def slv' (s:Slc):Value:= .slice s.1 s.2.2.length s.2.1
def enV (e:En):List Value:=[slv' e.key,slv' e.value,.int .i64 e.seq,.bool e.dead]
def enA (e:En):Value:= .agg #[.slice e.key.1 e.key.2.2.length e.key.2.1,.slice e.value.1 e.value.2.2.length e.value.2.1,.int .i64 e.seq,.bool e.dead]
def EnR (w:World) (e:En):Prop:=Rd w e.key.1 e.key.2.2/\Rd w e.value.1 e.value.2.2
theorem EnR.new {w w':World} {e:En} (h:EnR w e) (k:Chg No w w'):EnR w' e:=⟨h.1.new k,h.2.new k⟩
def ordE (a b:Ent):Int:=if Lib.compareBytes a.key b.key=0 then (if b.seq<a.seq then -1 else if a.seq<b.seq then 1 else 0) else Lib.compareBytes a.key b.key
def lessE (a b:Ent):Bool:=decide (ordE a b<0)
section
variable {P:Program} {w:World} {A B:Option Addr} {l m:List UInt8}
theorem run_load8: ∀ (l:List UInt8) (b o:Nat) (acc:ByteArray),(∀ j (hj:j<l.length),w.cell? ⟨b,o+j,none⟩=some (.int .u8 (l[j].toNat:Int)))->
  (Extern.Bytes.loadBytes ⟨b,o,none⟩ l.length acc).run P w = .ok ⟨acc.data++l.toArray⟩ w
 | [],b,o,acc,_=>by simp[Extern.Bytes.loadBytes]
 | x::l,b,o,acc,h=>by
  have h0:w.cell? ⟨b,o,none⟩=some (.int .u8 (x.toNat:Int)):=h 0 (by simp);have ih:=run_load8 l b (o+1) (acc.push x) (fun j hj=>by
   have:=h (j+1) (by simpa using hj);rw[show o+1+j=o+(j+1) by omega];exact this)
  simp only[List.length_cons,Extern.Bytes.loadBytes,Sem.run_bind,run_load,h0,Result.andThen];have e:((x.toNat:Int).toNat.toUInt8)=x:=by simp
  rw[e];show (Extern.Bytes.loadBytes (Addr.add ⟨b,o,none⟩ 1) l.length (acc.push x)).run P w=_;rw[show (Addr.add ⟨b,o,none⟩ 1)=⟨b,o+1,none⟩ from rfl,ih];congr 1
  apply ByteArray.ext;simp[ByteArray.push]
theorem run_bytesOf (h:Rd w A l) (c:Nat):(Extern.Bytes.bytesOf (.slice A l.length c)).run P w = .ok ⟨l.toArray⟩ w:=by
 rcases A with _ | a
 .have hl:l=[]:=by
   rcases l with _ | ⟨x,l⟩
   .rfl
   .obtain⟨b,o,e,_⟩:=h (by simp);cases e
  subst hl;rfl
 .by_cases hl:l=[]
  .subst hl;rfl
  .obtain⟨b,o,e,_⟩:=h.get (j:=0) (List.length_pos_iff.2 hl);injection e with e
   subst e;have:=run_load8 (P:=P) (w:=w) l b o .empty (fun j hj=>by
    obtain⟨b',o',e,hc⟩:=h.get hj;injection e with e
    injection e with e1 e2
    subst e1;subst e2;exact hc)
   show (Extern.Bytes.loadBytes ⟨b,o,none⟩ l.length .empty).run P w=_;rw[this];congr 1
   apply ByteArray.ext;simp
theorem run_cmpB (h:Rd w A l) (k:Rd w B m) (c d:Nat):(Extern.BytealgCompare.compare #[.slice A l.length c,.slice B m.length d]).run P w = .ok (.int .i64 (Lib.compareBytes l m)) w:=by
 change Sem.run P (do pure (goInt (Extern.BytealgCompare.cmp (<-Extern.Bytes.bytesOf (.slice A l.length c)) (<-Extern.Bytes.bytesOf (.slice B m.length d))))) w=_
 simp only[Sem.run_bind,Sem.run_pure,run_bytesOf h,run_bytesOf k,Result.andThen];rw[Lib.cmp_eq];rfl
end
set_option maxRecDepth 100000 in
theorem cmpB_any (a b:Slc) (w:World) (h:Rd w a.1 a.2.2) (k:Rd w b.1 b.2.2):
  Calls Tryz.prog 145 #[.slice a.1 a.2.2.length a.2.1,.slice b.1 b.2.2.length b.2.1] w fun e w'=>e = .returned (.int .i64 (Lib.compareBytes a.2.2 b.2.2))/\w'=w:=by
 go_enter Tryz.func145, Tryz.ntmps145;go_wp2;rw[run_callFunc_extern Tryz.func185 (by kernel_rfl) (by kernel_rfl) (by kernel_rfl) (e:=Extern.BytealgCompare.compare) (by kernel_rfl),run_cmpB h k];simp only[Result.andThen];rw[Oper.upon_value];go_wp2;go_ret;exact⟨rfl,rfl⟩
theorem nanI_any (x:Int) (w:World):Calls Tryz.prog 133 #[.int .i64 x] w fun e w'=>e = .returned (.bool false)/\w'=w:=by
 go_enter Tryz.func133, Tryz.ntmps133;go_wp2;go_ret;exact⟨by simp,rfl⟩
def cmpI (a b:Int):Int:=if a<b then -1 else if b<a then 1 else 0
theorem cmpI_any (a b:Int) (w:World):Calls Tryz.prog 96 #[.int .i64 a,.int .i64 b] w fun e w'=>e = .returned (.int .i64 (cmpI a b))/\w'=w:=by
 unfold cmpI;go_enter Tryz.func96, Tryz.ntmps96;go_wp2_with (go_at_call 133;refine(nanI_any _ _).mono ?_;rintro e w' ⟨rfl,rfl⟩)
 all_goals (go_ret;refine⟨?_,rfl⟩;simp<;>omega)
theorem ordE_eq (a b:Ent) (c:Int) (h:Lib.compareBytes a.key b.key=c):ordE a b=if c=0 then cmpI b.seq a.seq else c:=by unfold ordE cmpI;rw[h]
theorem order_any (a b:En) (w:World) (h:EnR w a) (k:EnR w b):
  Calls Tryz.prog 109 #[enA a,enA b] w fun e w'=>e = .returned (.int .i64 (ordE a.ent b.ent))/\Chg No w w':=by
 have HQ:Hid (ordE a.ent b.ent=if Lib.compareBytes a.key.2.2 b.key.2.2=0 then cmpI b.seq a.seq else Lib.compareBytes a.key.2.2 b.key.2.2):=ordE_eq _ _ _ rfl;unfold enA;go_enter Tryz.func109, Tryz.ntmps109;have HL:=ah h;have HK:=ah k;clear h k;go_wp2_with (first
  | (go_at_call 145;refine(cmpB_any a.key b.key _ (HL.o.1.alloc _ |>.alloc _) (HK.o.1.alloc _ |>.alloc _)).mono ?_;rintro e w' ⟨rfl,rfl⟩)
  | (go_at_call 96;refine(cmpI_any _ _ _).mono ?_;rintro e w' ⟨rfl,rfl⟩))
 .go_ret;have hn:¬ Lib.compareBytes a.key.2.2 b.key.2.2=0:=by first | assumption | simp_all
  exact⟨by rw[HQ.o,if_neg hn];rfl,((Chg.refl No w).alloc _).alloc _⟩
 .go_ret;have hn:Lib.compareBytes a.key.2.2 b.key.2.2=0:=by first | assumption | simp_all
  exact⟨by rw[HQ.o,if_pos hn];rfl,((Chg.refl No w).alloc _).alloc _⟩
theorem less_any (a b:En) (w:World) (h:EnR w a) (k:EnR w b):
  Calls Tryz.prog 147 #[enA a,enA b] w fun e w'=>e = .returned (.bool (lessE a.ent b.ent))/\Chg No w w':=by
 have HQ:Hid (lessE a.ent b.ent=decide (ordE a.ent b.ent<0)):=rfl;have HE:Hid (∀ e:En,enA e = .agg #[.slice e.key.1 e.key.2.2.length e.key.2.1,.slice e.value.1 e.value.2.2.length e.value.2.1,.int .i64 e.seq,.bool e.dead]):=fun _=>rfl
 rw[HE.o,HE.o];go_enter Tryz.func147, Tryz.ntmps147;have HL:=ah h;have HK:=ah k;clear h k;have k0:Chg No w ((w.alloc (.cells #[.slice a.key.1 a.key.2.2.length a.key.2.1,.slice a.value.1 a.value.2.2.length a.value.2.1,.int .i64 a.seq,.bool a.dead] 120)).alloc (.cells #[.slice b.key.1 b.key.2.2.length b.key.2.1,.slice b.value.1 b.value.2.2.length b.value.2.1,.int .i64 b.seq,.bool b.dead] 120)):=((Chg.refl No w).alloc _).alloc _;go_wp2_with (go_at_call 109;rw[<-HE.o, <-HE.o];refine(order_any a b _ (HL.o.new k0) (HK.o.new k0)).mono ?_;rintro e w' ⟨rfl,k1⟩);go_ret;refine⟨by rw[HQ.o];rfl,k0.tr k1⟩
theorem cb_refl: ∀ a:List UInt8,Lib.compareBytes a a=0
 | []=>rfl
 | x::a=>by unfold Lib.compareBytes;rw[if_neg (UInt8.lt_irrefl x),if_neg (UInt8.lt_irrefl x)];exact cb_refl a
theorem u8_tri (x y:UInt8) (h1:¬ x<y) (h2:¬ y<x):x=y:=UInt8.le_antisymm (UInt8.not_lt.1 h2) (UInt8.not_lt.1 h1)
theorem cb_eq: ∀ {a b:List UInt8},Lib.compareBytes a b=0->a=b
 | [],[],_=>rfl
 | [],_::_,h=>by simp[Lib.compareBytes] at h
 | _::_,[],h=>by simp[Lib.compareBytes] at h
 | x::a,y::b,h=>by
  unfold Lib.compareBytes at h;by_cases h1:x<y
  .rw[if_pos h1] at h;omega
  .rw[if_neg h1] at h;by_cases h2:y<x
   .rw[if_pos h2] at h;omega
   .rw[if_neg h2] at h;rw[u8_tri x y h1 h2,cb_eq h]
theorem cb_swap: ∀ (a b:List UInt8),Lib.compareBytes b a = - Lib.compareBytes a b
 | [],[]=>rfl
 | [],_::_=>rfl
 | _::_,[]=>rfl
 | x::a,y::b=>by
  unfold Lib.compareBytes;by_cases h1:x<y
  .rw[if_pos h1,if_neg (UInt8.lt_asymm h1),if_pos h1];rfl
  .rw[if_neg h1];by_cases h2:y<x
   .rw[if_pos h2,if_neg h1,if_pos h2]
   .rw[if_neg h2,if_neg h2,if_neg h1];exact cb_swap a b
theorem cb_less: ∀ (a b:List UInt8),Op.bytesLess a b=decide (Lib.compareBytes a b<0)
 | [],[]=>rfl
 | [],_::_=>rfl
 | _::_,[]=>rfl
 | x::a,y::b=>by
  unfold Lib.compareBytes Op.bytesLess;by_cases h1:x<y
  .rw[if_pos h1];simp[h1]
  .rw[if_neg h1];by_cases h2:y<x
   .have:¬ x=y:=fun e=>by subst e;exact UInt8.lt_irrefl _ h2
    rw[if_pos h2];simp[h1,this]
   .rw[if_neg h2,u8_tri x y h1 h2,cb_less a b];simp
theorem cb_trans: ∀ {a b c:List UInt8},Lib.compareBytes a b<0->Lib.compareBytes b c<0->Lib.compareBytes a c<0
 | [],[],_,h,_=>by simp[Lib.compareBytes] at h
 | _::_,[],_,h,_=>by simp[Lib.compareBytes] at h
 | [],_::_,[],_,h=>by simp[Lib.compareBytes] at h
 | [],_::_,_::_,_,_=>by simp[Lib.compareBytes]
 | _::_,_::_,[],_,h=>by simp[Lib.compareBytes] at h
 | x::a,y::b,z::c,h,k=>by
  unfold Lib.compareBytes at h k ⊢;by_cases h1:x<y
  .by_cases k1:y<z
   .rw[if_pos (UInt8.lt_trans h1 k1)];omega
   .rw[if_neg k1] at k;by_cases k2:z<y
    .rw[if_pos k2] at k;omega
    .rw[<-u8_tri y z k1 k2,if_pos h1];omega
  .rw[if_neg h1] at h;by_cases h2:y<x
   .rw[if_pos h2] at h;omega
   .rw[if_neg h2] at h;rw[u8_tri x y h1 h2];by_cases k1:y<z
    .rw[if_pos k1];omega
    .rw[if_neg k1] at k ⊢;by_cases k2:z<y
     .rw[if_pos k2] at k;omega
     .rw[if_neg k2] at k ⊢;exact cb_trans h k
section
variable {a b c:Ent}
def LTE (a b:Ent):Prop:=lessE a b=true
theorem lte_iff:LTE a b↔Lib.compareBytes a.key b.key<0\/(a.key=b.key/\b.seq<a.seq):=by
 unfold LTE lessE ordE;by_cases h:Lib.compareBytes a.key b.key=0
 .rw[if_pos h];have:=cb_eq h;have h0:¬ Lib.compareBytes a.key b.key<0:=by omega
  by_cases h1:b.seq<a.seq
  .rw[if_pos h1];simp[this,h1]
  .rw[if_neg h1];by_cases h2:a.seq<b.seq
   .rw[if_pos h2];simp[h0,h1]
   .rw[if_neg h2];simp[h0,h1]
 .rw[if_neg h];have:¬ a.key=b.key:=fun e=>h (by rw[e];exact cb_refl _)
  simp[this]
theorem lte_trans (h:LTE a b) (k:LTE b c):LTE a c:=by
 rw[lte_iff] at*
 rcases h with h | ⟨h,h'⟩<;>rcases k with k | ⟨k,k'⟩
 .exact .inl (cb_trans h k)
 .rw[<-k];exact .inl h
 .rw[h];exact .inl k
 .exact .inr ⟨h.trans k,by omega⟩
def same1 (a b:Ent):Prop:=a.key=b.key/\a.seq=b.seq
theorem ord_zero:ordE a b=0↔same1 a b:=by
 unfold ordE same1;by_cases h:Lib.compareBytes a.key b.key=0
 .rw[if_pos h];have:=cb_eq h;by_cases h1:b.seq<a.seq
  .rw[if_pos h1];simp;intro _;omega
  .rw[if_neg h1];by_cases h2:a.seq<b.seq
   .rw[if_pos h2];simp;intro _;omega
   .rw[if_neg h2];simp[this];omega
 .rw[if_neg h];have:¬ a.key=b.key:=fun e=>h (by rw[e];exact cb_refl _)
  simp[this,h]
theorem lte_tri (a b:Ent):LTE a b\/LTE b a\/same1 a b:=by
 rw[lte_iff,lte_iff,cb_swap a.key b.key];unfold same1;by_cases h:Lib.compareBytes a.key b.key=0
 .have:=cb_eq h;rw[this];rcases Int.lt_trichotomy a.seq b.seq with q | q | q
  .exact .inr (.inl (.inr ⟨rfl,q⟩))
  .exact .inr (.inr ⟨rfl,q⟩)
  .exact .inl (.inr ⟨rfl,q⟩)
 .by_cases h1:Lib.compareBytes a.key b.key<0
  .exact .inl (.inl h1)
  .exact .inr (.inl (.inl (by omega)))
theorem same1_not (h:same1 a b):¬ LTE a b:=by
 rw[lte_iff,h.1,h.2,cb_refl];simp
theorem same1.symm (h:same1 a b):same1 b a:=⟨h.1.symm,h.2.symm⟩
instance (a b:Ent):Decidable (LTE a b):=inferInstanceAs (Decidable (_=_))
end
theorem takeW_mem {α:Type} {f:α->Bool}: ∀ {L:List α} {x:α},x ∈ L.takeWhile f->f x=true
 | [],_,h=>by cases h
 | y::L,x,h=>by
  rw[List.takeWhile_cons] at h;split at h
  .rename_i h1;rcases List.mem_cons.1 h with rfl | h
   .exact h1
   .exact takeW_mem h
  .cases h
theorem takeW_all {α:Type} {f:α->Bool}: ∀ {L:List α},(∀ x ∈ L,f x=true)->L.takeWhile f=L/\L.dropWhile f=[]
 | [],_=>⟨rfl,rfl⟩
 | y::L,h=>by
  obtain⟨h1,h2⟩:=takeW_all (L:=L) fun x hx=>h x (List.mem_cons_of_mem _ hx)
  rw[List.takeWhile_cons,List.dropWhile_cons,h y List.mem_cons_self,h1];exact⟨rfl,h2⟩
abbrev Kv:=List UInt8 × List UInt8
def kLT (a b:Kv):Prop:=Lib.compareBytes a.1 b.1<0
def getK (k:List UInt8):List Kv->Option (List UInt8)
 | []=>none
 | p::M=>if p.1=k then some p.2 else getK k M
def hitE (k:List UInt8) (s:Int) (e:Ent):Bool:=decide (e.key=k) && decide (e.seq<=s)
def lkE (k:List UInt8) (s:Int) (L:List Ent):Option Ent:=L.find? (hitE k s)
def livE (e:Ent):Option (List UInt8):=if e.dead=true then none else some e.value
def alE (k:List UInt8) (s:Int) (L:List Ent):Option (List UInt8):=(lkE k s L).bind livE
def scanE (s:Int):Option (List UInt8)->List Ent->List Ent
 | _,[]=>[]
 | c,e::L=>if s<e.seq\/c=some e.key then scanE s c L else (if e.dead=true then scanE s (some e.key) L else e::scanE s (some e.key) L)
def pairE (e:Ent):Kv:=(e.key,e.value)
def viewE (s:Int) (L:List Ent):List Kv:=(scanE s none L).map pairE
theorem hit_iff {k:List UInt8} {s:Int} {e:Ent}:hitE k s e=true↔e.key=k/\e.seq<=s:=by unfold hitE;simp
theorem lk_yes {k:List UInt8} {s:Int} {e:Ent} {L:List Ent} (h:e.key=k/\e.seq<=s):lkE k s (e::L)=some e:=by
 unfold lkE;rw[List.find?_cons,hit_iff.2 h]
theorem lk_no {k:List UInt8} {s:Int} {e:Ent} {L:List Ent} (h:¬ (e.key=k/\e.seq<=s)):lkE k s (e::L)=lkE k s L:=by
 unfold lkE;rw[List.find?_cons];have h2:hitE k s e=false:=by rw[Bool.eq_false_iff];exact fun h3=>h (hit_iff.1 h3)
 rw[h2]
theorem lk_none {k:List UInt8} {s:Int} {L:List Ent} (h: ∀ x ∈ L,x.key≠k):lkE k s L=none:=by
 unfold lkE;rw[List.find?_eq_none];exact fun x hx h2=>h x hx (hit_iff.1 h2).1
theorem lk_app_no {k:List UInt8} {s:Int} {A B:List Ent} (h: ∀ x ∈ A,x.key≠k):lkE k s (A++B)=lkE k s B:=by
 unfold lkE;rw[List.find?_append];have:A.find? (hitE k s)=none:=by rw[List.find?_eq_none];exact fun x hx h2=>h x hx (hit_iff.1 h2).1
 rw[this];rfl
theorem lk_app_no2 {k:List UInt8} {s:Int} {A B:List Ent} (h: ∀ x ∈ B,x.key≠k):lkE k s (A++B)=lkE k s A:=by
 unfold lkE;rw[List.find?_append];have:B.find? (hitE k s)=none:=by rw[List.find?_eq_none];exact fun x hx h2=>h x hx (hit_iff.1 h2).1
 rw[this];cases A.find? (hitE k s)<;>rfl
theorem al_none {k:List UInt8} {s:Int} {L:List Ent} (h: ∀ x ∈ L,x.key≠k):alE k s L=none:=by unfold alE;rw[lk_none h];rfl
theorem al_yes {k:List UInt8} {s:Int} {e:Ent} {L:List Ent} (h:e.key=k/\e.seq<=s):alE k s (e::L)=livE e:=by unfold alE;rw[lk_yes h];rfl
theorem al_no {k:List UInt8} {s:Int} {e:Ent} {L:List Ent} (h:¬ (e.key=k/\e.seq<=s)):alE k s (e::L)=alE k s L:=by unfold alE;rw[lk_no h]
theorem kcb_ne {a b:List UInt8} (h:Lib.compareBytes a b<0):a≠b:=fun e=>by subst e;rw[cb_refl] at h;omega
theorem kcb_tri (a b:List UInt8):Lib.compareBytes a b<0\/a=b\/Lib.compareBytes b a<0:=by
 rcases Int.lt_trichotomy (Lib.compareBytes a b) 0 with h | h | h
 .exact .inl h
 .exact .inr (.inl (cb_eq h))
 .exact .inr (.inr (by rw[cb_swap a b];omega))
def kLe (k:List UInt8) (L:List Ent):Prop:= ∀ x ∈ L,k=x.key\/Lib.compareBytes k x.key<0
theorem kLe_self {e:Ent} {L:List Ent} (h:(e::L).Pairwise LTE):kLe e.key L:=fun x hx=>by
 rcases lte_iff.1 ((List.pairwise_cons.1 h).1 x hx) with h2 | ⟨h2,_⟩
 .exact .inr h2
 .exact .inl h2
theorem scan_sub (s:Int): ∀ (L:List Ent) (c:Option (List UInt8)),(scanE s c L).Sublist L
 | [],c=>List.Sublist.refl _
 | e::L,c=>by
  unfold scanE;split
  .exact(scan_sub s L c).cons _
  .split
   .exact(scan_sub s L _).cons _
   .exact(scan_sub s L _).cons_cons _
theorem scan_sorted (s:Int): ∀ (L:List Ent) (c:Option (List UInt8)),L.Pairwise LTE->(∀ k,c=some k->kLe k L)->
  (scanE s c L).Pairwise (fun a b=>Lib.compareBytes a.key b.key<0)/\ ∀ k,c=some k-> ∀ x ∈ scanE s c L,Lib.compareBytes k x.key<0
 | [],c,_,_=>⟨List.Pairwise.nil,fun k _ x hx=>by cases hx⟩
 | e::L,c,h,hc=>by
  have h2:=(List.pairwise_cons.1 h).2;have hc2: ∀ k,c=some k->kLe k L:=fun k hk x hx=>hc k hk x (List.mem_cons_of_mem _ hx)
  obtain⟨i1,i2⟩:=scan_sorted s L c h2 hc2;obtain⟨j1,j2⟩:=scan_sorted s L (some e.key) h2 (fun k hk=>by injection hk with hk;subst hk;exact kLe_self h);have key:¬ (s<e.seq\/c=some e.key)-> ∀ k,c=some k->Lib.compareBytes k e.key<0:=fun hn k hk=>by
   rcases hc k hk e List.mem_cons_self with h3 | h3
   .exact absurd (.inr (by rw[hk,h3])) hn
   .exact h3
  unfold scanE;split
  .exact⟨i1,i2⟩
  .rename_i hn;split
   .exact⟨j1,fun k hk x hx=>cb_trans (key hn k hk) (j2 _ rfl x hx)⟩
   .refine⟨List.pairwise_cons.2 ⟨fun x hx=>j2 _ rfl x hx,j1⟩,fun k hk x hx=>?_⟩;rcases List.mem_cons.1 hx with rfl | hx
    .exact key hn k hk
    .exact cb_trans (key hn k hk) (j2 _ rfl x hx)
theorem view_sorted {s:Int} {L:List Ent} (h:L.Pairwise LTE):(viewE s L).Pairwise kLT:=by
 unfold viewE;rw[List.pairwise_map];exact(scan_sorted s L none h (fun k hk=>by cases hk)).1
theorem scan_get (s:Int) (k:List UInt8): ∀ (L:List Ent) (c:Option (List UInt8)),L.Pairwise LTE->(∀ k,c=some k->kLe k L)->
  getK k ((scanE s c L).map pairE)=if c=some k then none else alE k s L
 | [],c,_,_=>by unfold scanE;split<;>rfl
 | e::L,c,h,hc=>by
  have h2:=(List.pairwise_cons.1 h).2;have hc2: ∀ k,c=some k->kLe k L:=fun k hk x hx=>hc k hk x (List.mem_cons_of_mem _ hx)
  have ih:=scan_get s k L c h2 hc2;have jh:=scan_get s k L (some e.key) h2 (fun k hk=>by injection hk with hk;subst hk;exact kLe_self h);unfold scanE;by_cases h1:s<e.seq
  .rw[if_pos (.inl h1),ih,al_no (e:=e) (fun h3=>by omega)]
  .by_cases h3:c=some e.key
   .rw[if_pos (.inr h3),ih];by_cases hk:e.key=k
    .rw[if_pos (by rw[h3,hk]),if_pos (by rw[h3,hk])]
    .rw[if_neg (by rw[h3];simpa using hk),if_neg (by rw[h3];simpa using hk),al_no (fun h4=>hk h4.1)]
   .rw[if_neg (fun h4=>h4.elim h1 h3)];by_cases hk:e.key=k
    .have hck:¬ c=some k:=by rw[<-hk];exact h3
     rw[if_neg hck,al_yes ⟨hk,by omega⟩];unfold livE;split
     .rw[jh,if_pos (by rw[hk])]
     .rw[List.map_cons];unfold getK;rw[if_pos (show (pairE e).1=k from hk)];rfl
    .have hn:c=some k->alE k s L=none:=fun h4=>by
      apply al_none;intro x hx h5;rcases hc k h4 e List.mem_cons_self with h6 | h6
      .exact hk h6.symm
      .rcases kLe_self h x hx with h7 | h7
       .exact hk (h7.trans h5)
       .exact kcb_ne (cb_trans h6 h7) h5.symm
     have hal:(if c=some k then none else alE k s (e::L))=alE k s L:=by
      rw[al_no (fun h4=>hk h4.1)];split
      .rename_i h4;rw[hn h4]
      .rfl
     rw[hal];have h5:¬ (some e.key=some k):=by simpa using hk
     split
     .rw[jh,if_neg h5]
     .rw[List.map_cons];unfold getK;rw[if_neg (show ¬ (pairE e).1=k from hk),jh,if_neg h5]
theorem view_get {s:Int} {L:List Ent} (h:L.Pairwise LTE) (k:List UInt8):getK k (viewE s L)=alE k s L:=by
 unfold viewE;rw[scan_get s k L none h (fun k hk=>by cases hk),if_neg (by simp)]
theorem getK_none {k:List UInt8}: ∀ {M:List Kv},(∀ p ∈ M,p.1≠k)->getK k M=none
 | [],_=>rfl
 | p::M,h=>by unfold getK;rw[if_neg (h p List.mem_cons_self)];exact getK_none fun q hq=>h q (List.mem_cons_of_mem _ hq)
theorem kmap_ext: ∀ {A B:List Kv},A.Pairwise kLT->B.Pairwise kLT->(∀ k,getK k A=getK k B)->A=B
 | [],[],_,_,_=>rfl
 | [],b::B,_,_,h=>by
  have:=h b.1;unfold getK at this;rw[if_pos rfl] at this
  cases this
 | a::A,[],_,_,h=>by
  have:=h a.1;unfold getK at this;rw[if_pos rfl] at this
  cases this
 | a::A,b::B,ha,hb,h=>by
  obtain⟨a1,a2⟩:=List.pairwise_cons.1 ha;obtain⟨b1,b2⟩:=List.pairwise_cons.1 hb;have hk:a.1=b.1:=by
   rcases kcb_tri a.1 b.1 with h1 | h1 | h1
   .have h2:=h a.1;rw[getK_none (M:=b::B) (fun p hp=>?_)] at h2
    .unfold getK at h2;rw[if_pos rfl] at h2;cases h2
    .rcases List.mem_cons.1 hp with rfl | hp
     .exact(kcb_ne h1).symm
     .exact(kcb_ne (cb_trans h1 (b1 p hp))).symm
   .exact h1
   .have h2:=h b.1;rw[getK_none (M:=a::A) (fun p hp=>?_)] at h2
    .unfold getK at h2;rw[if_pos rfl] at h2;cases h2
    .rcases List.mem_cons.1 hp with rfl | hp
     .exact(kcb_ne h1).symm
     .exact(kcb_ne (cb_trans h1 (a1 p hp))).symm
  have hv:a.2=b.2:=by
   have h2:=h a.1;unfold getK at h2;rw[if_pos rfl,if_pos hk.symm] at h2;injection h2
  have he:a=b:=Prod.ext hk hv;subst he;rw[kmap_ext a2 b2 fun k=>?_];have h2:=h k;unfold getK at h2;by_cases hka:a.1=k
  .rw[getK_none (fun p hp=>by rw[<-hka];exact(kcb_ne (a1 p hp)).symm),getK_none (fun p hp=>by rw[<-hka];exact(kcb_ne (b1 p hp)).symm)]
  .rwa [if_neg hka,if_neg hka] at h2
theorem view_is {s:Int} {L:List Ent} {M:List Kv} (h:L.Pairwise LTE) (hM:M.Pairwise kLT) (he: ∀ k,alE k s L=getK k M):viewE s L=M:=
 kmap_ext (view_sorted h) hM fun k=>by rw[view_get h,he]
structure Chn where
 key:List UInt8
 value:List UInt8
 dead:Bool
def livC (p:Chn):Option (List UInt8):=if p.dead=true then none else some p.value
def putM (p:Chn) (M:List Kv):List Kv:=M.takeWhile (fun q=>Lib.compareBytes q.1 p.key<0)++((if p.dead=true then [] else [(p.key,p.value)])++(match M.dropWhile (fun q=>Lib.compareBytes q.1 p.key<0) with | []=>[] | q::T=>if q.1=p.key then T else q::T))
theorem putM_parts (p:Chn) {M:List Kv} (h:M.Pairwise kLT): ∃ A B,putM p M=A++((if p.dead=true then [] else [(p.key,p.value)])++B)/\(∀ q ∈ A,Lib.compareBytes q.1 p.key<0)/\(∀ q ∈ B,Lib.compareBytes p.key q.1<0)/\(A++B).Pairwise kLT/\(∀ k,k≠p.key->getK k (A++B)=getK k M):=by
 have e:=(List.takeWhile_append_dropWhile (p:=fun q:Kv=>decide (Lib.compareBytes q.1 p.key<0)) (l:=M));have hA: ∀ q ∈ M.takeWhile (fun q=>Lib.compareBytes q.1 p.key<0),Lib.compareBytes q.1 p.key<0:=fun q hq=>by
  have:=takeW_mem hq;simpa using this
 have gapp: ∀ (k:List UInt8) (A B C:List Kv),getK k B=getK k C->getK k (A++B)=getK k (A++C):=fun k A B C h=>by
  induction A with
  | nil=>exact h
  | cons a A ih=>show (if a.1=k then some a.2 else getK k (A++B))=(if a.1=k then some a.2 else getK k (A++C));rw[ih]
 unfold putM
 cases hd:M.dropWhile (fun q=>Lib.compareBytes q.1 p.key<0) with
 | nil=>
  rw[hd,List.append_nil] at e;exact⟨_,[],rfl,hA,by simp,by rw[List.append_nil,e];exact h,fun k _=>by rw[List.append_nil,e]⟩
 | cons q T=>
  rw[hd] at e;have hq:¬ Lib.compareBytes q.1 p.key<0:=by
   have:=List.head_dropWhile_not (p:=fun q:Kv=>decide (Lib.compareBytes q.1 p.key<0)) (l:=M) (by rw[hd];simp);simp only[hd,List.head_cons] at this;simpa using this
  have hp:=h;rw[<-e] at hp;obtain⟨_,h2,h3⟩:=List.pairwise_append.1 hp;obtain⟨h4,h5⟩:=List.pairwise_cons.1 h2;by_cases hqk:q.1=p.key
  .refine⟨_,T,by simp only[if_pos hqk],hA,fun x hx=>by rw[<-hqk];exact h4 x hx,?_,fun k hk=>?_⟩
   .exact hp.sublist (List.Sublist.append (List.Sublist.refl _) (List.sublist_cons_self _ _))
   .have h6:=congrArg (getK k) e;rw[<-h6];refine gapp k _ _ _ ?_;show _=if q.1=k then some q.2 else getK k T
    rw[if_neg (by rw[hqk];exact fun h=>hk h.symm)]
  .have hlt:Lib.compareBytes p.key q.1<0:=by
    rcases kcb_tri p.key q.1 with h6 | h6 | h6
    .exact h6
    .exact absurd h6.symm hqk
    .exact absurd h6 hq
   refine⟨_,q::T,by simp only[if_neg hqk],hA,fun x hx=>?_,hp,fun k hk=>by rw[e]⟩;rcases List.mem_cons.1 hx with rfl | hx
   .exact hlt
   .exact cb_trans hlt (h4 x hx)
theorem putM_sorted (p:Chn) {M:List Kv} (h:M.Pairwise kLT):(putM p M).Pairwise kLT:=by
 obtain⟨A,B,e,hA,hB,hAB,_⟩:=putM_parts p h;rw[e];split
 .exact hAB
 .obtain⟨h1,h2,h3⟩:=List.pairwise_append.1 hAB;refine List.pairwise_append.2 ⟨h1,List.pairwise_cons.2 ⟨fun q hq=>hB q hq,h2⟩,fun a ha b hb=>?_⟩;rcases List.mem_cons.1 hb with rfl | hb
  .exact hA a ha
  .exact h3 a ha b hb
theorem putM_get (p:Chn) {M:List Kv} (h:M.Pairwise kLT) (k:List UInt8):getK k (putM p M)=if p.key=k then livC p else getK k M:=by
 obtain⟨A,B,e,hA,hB,hAB,hg⟩:=putM_parts p h;have gno: ∀ (A B:List Kv),(∀ q ∈ A,q.1≠k)->getK k (A++B)=getK k B:=fun A B h=>by
  induction A with
  | nil=>rfl
  | cons a A ih=>
   show (if a.1=k then some a.2 else getK k (A++B))=_;rw[if_neg (h a List.mem_cons_self),ih fun q hq=>h q (List.mem_cons_of_mem _ hq)]
 rw[e];by_cases hk:p.key=k
 .rw[if_pos hk,gno A _ (fun q hq=>by rw[<-hk];exact kcb_ne (hA q hq))];unfold livC;split
  .rw[List.nil_append];exact getK_none fun q hq=>by rw[<-hk];exact(kcb_ne (hB q hq)).symm
  .show (if p.key=k then some p.value else _)=_;rw[if_pos hk]
 .rw[if_neg hk, <-hg k (fun h=>hk h.symm)];split
  .rfl
  .have gapp: ∀ (A:List Kv),getK k (A++([(p.key,p.value)]++B))=getK k (A++B):=fun A=>by
    induction A with
    | nil=>show (if p.key=k then some p.value else getK k B)=_;rw[if_neg hk];rfl
    | cons a A ih=>show (if a.1=k then some a.2 else getK k (A++_))=(if a.1=k then some a.2 else getK k (A++B));rw[ih]
   exact gapp A
def putsM (ps:List Chn) (M:List Kv):List Kv:=ps.foldl (fun M p=>putM p M) M
def lastC (k:List UInt8):List Chn->Option Chn
 | []=>none
 | p::l=>match lastC k l with | some q=>some q | none=>if p.key=k then some p else none
def lastB:List Chn->List Chn
 | []=>[]
 | p::l=>if l.any (fun q=>decide (q.key=p.key))=true then lastB l else p::lastB l
theorem lastC_none {k:List UInt8}: ∀ {l:List Chn},lastC k l=none↔ ∀ q ∈ l,q.key≠k
 | []=>by simp[lastC]
 | p::l=>by
  have ih:=lastC_none (k:=k) (l:=l);unfold lastC
  cases h:lastC k l with
  | some q=>
   simp only;constructor
   .intro h2;cases h2
   .intro h2;have:=ih.2 fun q hq=>h2 q (List.mem_cons_of_mem _ hq)
    rw[h] at this;cases this
  | none=>
   have h3:=ih.1 h;simp only;constructor
   .intro h2 q hq;rcases List.mem_cons.1 hq with rfl | hq
    .intro h4;rw[if_pos h4] at h2;cases h2
    .exact h3 q hq
   .intro h2;rw[if_neg (h2 p List.mem_cons_self)]
theorem lastB_find (k:List UInt8): ∀ l:List Chn,(lastB l).find? (fun q=>decide (q.key=k))=lastC k l
 | []=>rfl
 | p::l=>by
  have ih:=lastB_find k l;unfold lastB;split
  .rename_i h;rw[ih];show lastC k l=match lastC k l with | some q=>some q | none=>if p.key=k then some p else none
   cases h2:lastC k l with
   | some q=>rfl
   | none=>
    simp only;rw[if_neg];intro h3;obtain⟨q,hq,h4⟩:=List.any_eq_true.1 h;exact lastC_none.1 h2 q hq (by rw[<-h3];simpa using h4)
  .rename_i h;rw[List.find?_cons];show _=match lastC k l with | some q=>some q | none=>if p.key=k then some p else none
   by_cases hk:p.key=k
   .rw[decide_eq_true hk];have h2:lastC k l=none:=lastC_none.2 fun q hq h3=>h (List.any_eq_true.2 ⟨q,hq,by rw[hk];simpa using h3⟩)
    rw[h2];simp only;rw[if_pos hk]
   .rw[decide_eq_false hk,ih]
    cases lastC k l with
    | some q=>rfl
    | none=>simp only;rw[if_neg hk]
theorem lastB_mem: ∀ {l:List Chn} {p:Chn},p ∈ lastB l->p ∈ l
 | [],p,h=>h
 | q::l,p,h=>by
  unfold lastB at h;split at h
  .exact List.mem_cons_of_mem _ (lastB_mem h)
  .rcases List.mem_cons.1 h with rfl | h
   .exact List.mem_cons_self
   .exact List.mem_cons_of_mem _ (lastB_mem h)
theorem lastB_once: ∀ l:List Chn,(lastB l).Pairwise fun a b=>a.key≠b.key
 | []=>List.Pairwise.nil
 | p::l=>by
  unfold lastB;split
  .exact lastB_once l
  .rename_i h;refine List.pairwise_cons.2 ⟨fun q hq h2=>h (List.any_eq_true.2 ⟨q,lastB_mem hq,by simpa using h2.symm⟩),lastB_once l⟩
theorem putsM_sorted: ∀ (ps:List Chn) {M:List Kv},M.Pairwise kLT->(putsM ps M).Pairwise kLT
 | [],M,h=>h
 | p::ps,M,h=>putsM_sorted ps (putM_sorted p h)
theorem putsM_get (k:List UInt8): ∀ (ps:List Chn) {M:List Kv},M.Pairwise kLT->getK k (putsM ps M)=match lastC k ps with | some p=>livC p | none=>getK k M
 | [],M,h=>rfl
 | p::ps,M,h=>by
  show getK k (putsM ps (putM p M))=match (match lastC k ps with | some q=>some q | none=>if p.key=k then some p else none) with | some p=>livC p | none=>getK k M
  rw[putsM_get k ps (putM_sorted p h)]
  cases lastC k ps with
  | some q=>rfl
  | none=>
   simp only;rw[putM_get p h];split<;>rfl
def insE (e:Ent) (L:List Ent):List Ent:=L.takeWhile (fun x=>lessE x e)++e::L.dropWhile (fun x=>lessE x e)
theorem insE_parts (e:Ent) (L:List Ent): ∃ A B,L=A++B/\insE e L=A++e::B/\ ∀ x ∈ A,LTE x e:=by
 refine⟨_,_,(List.takeWhile_append_dropWhile (p:=fun x=>lessE x e) (l:=L)).symm,rfl,fun x hx=>?_⟩;exact takeW_mem (f:=fun x=>lessE x e) hx
theorem insE_lk {e:Ent} {L:List Ent} (h: ∀ x ∈ L,x.key=e.key->x.seq<e.seq) (k:List UInt8) (s:Int):lkE k s (insE e L)=if e.key=k/\e.seq<=s then some e else lkE k s L:=by
 obtain⟨A,B,h1,h2,h3⟩:=insE_parts e L;rw[h2];split
 .rename_i hk;rw[lk_app_no,lk_yes hk];intro x hx h4;rcases lte_iff.1 (h3 x hx) with h5 | ⟨h5,h6⟩
  .exact kcb_ne h5 (h4.trans hk.1.symm)
  .have:=h x (by rw[h1];exact List.mem_append_left _ hx) h5;omega
 .rename_i hk;rw[h1];unfold lkE;rw[List.find?_append,List.find?_append];have:=lk_no (L:=B) hk;unfold lkE at this;rw[this]
theorem insE_al {e:Ent} {L:List Ent} (h: ∀ x ∈ L,x.key=e.key->x.seq<e.seq) (k:List UInt8) (s:Int):alE k s (insE e L)=if e.key=k/\e.seq<=s then livE e else alE k s L:=by
 unfold alE;rw[insE_lk h];split<;>rfl
theorem insE_mem {e x:Ent} {L:List Ent}:x ∈ insE e L↔x=e\/x ∈ L:=by
 obtain⟨A,B,h1,h2,_⟩:=insE_parts e L;rw[h2,h1,List.mem_append,List.mem_cons,List.mem_append];constructor
 .rintro (h | h | h)
  .exact .inr (.inl h)
  .exact .inl h
  .exact .inr (.inr h)
 .rintro (h | h | h)
  .exact .inr (.inl h)
  .exact .inl h
  .exact .inr (.inr h)
theorem insE_last {e:Ent} {L:List Ent} (h: ∀ x ∈ L,LTE x e):insE e L=L++[e]:=by
 unfold insE;obtain⟨h1,h2⟩:=takeW_all (f:=fun x=>lessE x e) (L:=L) h;rw[h1,h2]
def entC (n:Int) (p:Chn):Ent:=⟨p.key,p.value,n,p.dead⟩
def insL (n:Int) (ps:List Chn) (L:List Ent):List Ent:=ps.foldl (fun L p=>insE (entC n p) L) L
theorem insL_mem {n:Int} {x:Ent}: ∀ {ps:List Chn} {L:List Ent},x ∈ insL n ps L↔x ∈ L\/ ∃ p ∈ ps,x=entC n p
 | [],L=>by simp[insL]
 | p::ps,L=>by
  show x ∈ insL n ps (insE (entC n p) L)↔_;rw[insL_mem,insE_mem];constructor
  .rintro ((h | h) | ⟨q,hq,h⟩)
   .exact .inr ⟨p,List.mem_cons_self,h⟩
   .exact .inl h
   .exact .inr ⟨q,List.mem_cons_of_mem _ hq,h⟩
  .rintro (h | ⟨q,hq,h⟩)
   .exact .inl (.inr h)
   .rcases List.mem_cons.1 hq with rfl | hq
    .exact .inl (.inl h)
    .exact .inr ⟨q,hq,h⟩
theorem insL_al (n:Int) (k:List UInt8) (s:Int): ∀ (ps:List Chn) (L:List Ent),(ps.Pairwise fun a b=>a.key≠b.key)->(∀ p ∈ ps, ∀ x ∈ L,x.key=p.key->x.seq<n)->
  alE k s (insL n ps L)=if n<=s then (match ps.find? (fun q=>decide (q.key=k)) with | some p=>livC p | none=>alE k s L) else alE k s L
 | [],L,_,_=>by simp[insL]
 | p::ps,L,h,hl=>by
  obtain⟨h1,h2⟩:=List.pairwise_cons.1 h;show alE k s (insL n ps (insE (entC n p) L))=_;rw[insL_al n k s ps _ h2 (fun q hq x hx hk=>by
   rcases insE_mem.1 hx with rfl | hx
   .exact absurd hk (h1 q hq)
   .exact hl q (List.mem_cons_of_mem _ hq) x hx hk)]
  have h3:=insE_al (e:=entC n p) (L:=L) (fun x hx hk=>hl p List.mem_cons_self x hx hk) k s;rw[h3,List.find?_cons];show (if n<=s then _ else if p.key=k/\n<=s then livC p else alE k s L)=_;by_cases hn:n<=s
  .rw[if_pos hn,if_pos hn];by_cases hk:p.key=k
   .rw[decide_eq_true hk];have h4:ps.find? (fun q=>decide (q.key=k))=none:=by
     rw[List.find?_eq_none];intro q hq h5;exact h1 q hq (by rw[hk];simpa using (of_decide_eq_true h5).symm)
    rw[h4];simp only;rw[if_pos ⟨hk,hn⟩];rfl
   .rw[decide_eq_false hk]
    cases ps.find? (fun q=>decide (q.key=k)) with
    | some q=>rfl
    | none=>simp only;rw[if_neg (fun h5=>hk h5.1)]
  .rw[if_neg hn,if_neg hn,if_neg (fun h5=>hn h5.2)]
theorem done_now {n s:Int} {ps:List Chn} {L:List Ent} {M:List Kv} (hn:n<=s) (hl: ∀ x ∈ L,x.seq<n) (hM:M.Pairwise kLT) (h: ∀ k,alE k s L=getK k M) (k:List UInt8):alE k s (insL n (lastB ps) L)=getK k (putsM ps M):=by
 rw[insL_al n k s _ _ (lastB_once ps) (fun p _ x hx _=>hl x hx),if_pos hn,lastB_find,putsM_get k ps hM,h]
theorem done_then {n s:Int} {ps:List Chn} {L:List Ent} (hn:s<n) (hl: ∀ x ∈ L,x.seq<n) (k:List UInt8):alE k s (insL n (lastB ps) L)=alE k s L:=by
 rw[insL_al n k s _ _ (lastB_once ps) (fun p _ x hx _=>hl x hx),if_neg (by omega)]
theorem al_above {s t:Int} {L:List Ent} (hs: ∀ x ∈ L,x.seq<=s) (ht: ∀ x ∈ L,x.seq<=t) (k:List UInt8):alE k s L=alE k t L:=by
 have:lkE k s L=lkE k t L:=by
  unfold lkE
  induction L with
  | nil=>rfl
  | cons e L ih=>
   rw[List.find?_cons,List.find?_cons,ih (fun x hx=>hs x (List.mem_cons_of_mem _ hx)) (fun x hx=>ht x (List.mem_cons_of_mem _ hx))];have h1:=hs e List.mem_cons_self;have h2:=ht e List.mem_cons_self;unfold hitE;rw[decide_eq_true h1,decide_eq_true h2]
 unfold alE;rw[this]
def seenX (snaps:List Int) (q:Option Int) (x:Ent):Bool:=match q with | none=>true | some q=>snaps.any fun s=>decide (x.seq<=s) && decide (s<q)
def keptX (snaps:List Int):Option Int->List Ent->List Ent
 | _,[]=>[]
 | q,x::g=>if seenX snaps q x=true then x::keptX snaps (some x.seq) g else keptX snaps (some x.seq) g
def trimD (X:List Ent):List Ent:=(X.reverse.dropWhile (fun e=>e.dead)).reverse
def keptB (b:Bool) (snaps:List Int) (g:List Ent):List Ent:=if b=true then trimD (keptX snaps none g) else keptX snaps none g
def sameK (e x:Ent):Bool:=decide (x.key=e.key)
theorem dropW_le {α:Type} (f:α->Bool): ∀ L:List α,(L.dropWhile f).length<=L.length
 | []=>Nat.le_refl _
 | x::L=>by
  rw[List.dropWhile_cons];split
  .exact Nat.le_succ_of_le (dropW_le f L)
  .exact Nat.le_refl _
def thinE (b:Bool) (snaps:List Int):List Ent->List Ent
 | []=>[]
 | e::L=>keptB b snaps (e::L.takeWhile (sameK e))++thinE b snaps (L.dropWhile (sameK e))
termination_by L=>L.length
decreasing_by exact Nat.lt_succ_of_le (dropW_le _ _)
theorem thin_nil (b:Bool) (snaps:List Int):thinE b snaps []=[]:=by rw[thinE]
theorem thin_cons (b:Bool) (snaps:List Int) (e:Ent) (L:List Ent):thinE b snaps (e::L)=keptB b snaps (e::L.takeWhile (sameK e))++thinE b snaps (L.dropWhile (sameK e)):=by rw[thinE]
theorem kept_sub (snaps:List Int): ∀ (g:List Ent) (q:Option Int),(keptX snaps q g).Sublist g
 | [],q=>List.Sublist.refl _
 | x::g,q=>by
  unfold keptX;split
  .exact(kept_sub snaps g _).cons_cons _
  .exact(kept_sub snaps g _).cons _
theorem trim_sub (X:List Ent):(trimD X).Sublist X:=by
 unfold trimD;have h:=List.dropWhile_sublist (fun e:Ent=>e.dead) (l:=X.reverse);have h2:=h.reverse;rwa [List.reverse_reverse] at h2
theorem keptB_sub (b:Bool) (snaps:List Int) (g:List Ent):(keptB b snaps g).Sublist g:=by
 unfold keptB;split
 .exact(trim_sub _).trans (kept_sub snaps g none)
 .exact kept_sub snaps g none
theorem thin_sub (b:Bool) (snaps:List Int): ∀ (n:Nat) (L:List Ent),L.length<=n->(thinE b snaps L).Sublist L
 | _,[],_=>by rw[thin_nil];exact List.Sublist.refl _
 | 0,e::L,h=>by simp at h
 | n+1,e::L,h=>by
  rw[thin_cons];have h1:=keptB_sub b snaps (e::L.takeWhile (sameK e));have h2:=thin_sub b snaps n (L.dropWhile (sameK e)) (by have:=dropW_le (sameK e) L;simp at h;omega);have h3:=List.Sublist.append h1 h2;have h4:e::L.takeWhile (sameK e)++L.dropWhile (sameK e)=e::L:=by rw[List.cons_append,List.takeWhile_append_dropWhile]
  rwa [h4] at h3
theorem thin_in (b:Bool) (snaps:List Int) (L:List Ent):(thinE b snaps L).Sublist L:=thin_sub b snaps L.length L (Nat.le_refl _)
theorem thin_sorted {b:Bool} {snaps:List Int} {L:List Ent} (h:L.Pairwise LTE):(thinE b snaps L).Pairwise LTE:=h.sublist (thin_in b snaps L)
theorem trim_last {X:List Ent} {d:Ent} (h:d.dead=true):trimD (X++[d])=trimD X:=by
 unfold trimD;rw[List.reverse_append,List.reverse_singleton,List.singleton_append,List.dropWhile_cons,if_pos h]
theorem trim_stop {X:List Ent} {d:Ent} (h:d.dead=false):trimD (X++[d])=X++[d]:=by
 unfold trimD;rw[List.reverse_append,List.reverse_singleton,List.singleton_append,List.dropWhile_cons,if_neg (by rw[h];simp),List.reverse_cons,List.reverse_reverse]
theorem trim_nil:trimD []=[]:=rfl
theorem al_snoc {X:List Ent} {d:Ent} (h:d.dead=true) (k:List UInt8) (s:Int):alE k s (X++[d])=alE k s X:=by
 unfold alE lkE;rw[List.find?_append]
 cases hx:X.find? (hitE k s) with
 | some e=>rfl
 | none=>
  show ([d].find? (hitE k s)).bind livE=none;rw[List.find?_cons]
  cases hitE k s d with
  | true=>show livE d=none;unfold livE;rw[if_pos h]
  | false=>rfl
theorem trim_al (k:List UInt8) (s:Int): ∀ (n:Nat) (X:List Ent),X.length<=n->alE k s (trimD X)=alE k s X
 | n,X,h=>by
  rcases List.eq_nil_or_concat X with rfl | ⟨Y,d,rfl⟩
  .rfl
  .rw[List.concat_eq_append] at h ⊢
   cases hd:d.dead with
   | false=>rw[trim_stop hd]
   | true=>
    cases n with
    | zero=>simp at h
    | succ n=>
     rw[trim_last hd,al_snoc hd];exact trim_al k s n Y (by rw[List.length_append] at h;simp at h;omega)
def asked (snaps:List Int) (s:Int) (L:List Ent):Prop:=s ∈ snaps\/ ∀ x ∈ L,x.seq<=s
theorem kept_lk2 (snaps:List Int) (k:List UInt8) (s:Int) (hs:s ∈ snaps): ∀ (g:List Ent) (q:Int),s<q->lkE k s (keptX snaps (some q) g)=lkE k s g\/ ∃ x ∈ g,x.key≠k
 | [],q,_=> .inl rfl
 | x::g,q,hq=>by
  by_cases hk:x.key=k
  .unfold keptX;by_cases hx:x.seq<=s
   .left
    have:seenX snaps (some q) x=true:=List.any_eq_true.2 ⟨s,hs,by rw[decide_eq_true hx,decide_eq_true hq];rfl⟩;rw[if_pos this,lk_yes ⟨hk,hx⟩,lk_yes ⟨hk,hx⟩]
   .rcases kept_lk2 snaps k s hs g x.seq (by omega) with ih | ⟨y,hy,h⟩
    .left
     rw[lk_no (e:=x) (fun h=>hx h.2)];split
     .rw[lk_no (e:=x) (fun h=>hx h.2)];exact ih
     .exact ih
    .exact .inr ⟨y,List.mem_cons_of_mem _ hy,h⟩
  .exact .inr ⟨x,List.mem_cons_self,hk⟩
theorem kept_lk {snaps:List Int} {k:List UInt8} {s:Int} {g:List Ent} (hs:asked snaps s g) (hg: ∀ x ∈ g,x.key=k):lkE k s (keptX snaps none g)=lkE k s g:=by
 cases g with
 | nil=>rfl
 | cons x g=>
  have hk:=hg x List.mem_cons_self;have e:keptX snaps none (x::g)=x::keptX snaps (some x.seq) g:=by
   show (if seenX snaps none x=true then x::keptX snaps (some x.seq) g else keptX snaps (some x.seq) g)=_;rw[if_pos (show seenX snaps none x=true from rfl)]
  rw[e];by_cases hx:x.seq<=s
  .rw[lk_yes ⟨hk,hx⟩,lk_yes ⟨hk,hx⟩]
  .rw[lk_no (fun h=>hx h.2),lk_no (fun h=>hx h.2)];rcases hs with hs | hs
   .rcases kept_lk2 snaps k s hs g x.seq (by omega) with h | ⟨y,hy,h⟩
    .exact h
    .exact absurd (hg y (List.mem_cons_of_mem _ hy)) h
   .exact absurd (hs x List.mem_cons_self) hx
theorem group_rest {e:Ent} {L:List Ent} (h:(e::L).Pairwise LTE):(∀ x ∈ e::L.takeWhile (sameK e),x.key=e.key)/\(∀ x ∈ L.dropWhile (sameK e),x.key≠e.key)/\(L.dropWhile (sameK e)).Pairwise LTE/\(e::L.takeWhile (sameK e)).Pairwise LTE:=by
 obtain⟨h1,h2⟩:=List.pairwise_cons.1 h;refine⟨fun x hx=>?_,fun x hx=>?_,h2.sublist (List.dropWhile_sublist _),h.sublist ((List.takeWhile_sublist _).cons_cons _)⟩
 .rcases List.mem_cons.1 hx with rfl | hx
  .rfl
  .exact of_decide_eq_true (takeW_mem (f:=sameK e) hx)
 .cases hd:L.dropWhile (sameK e) with
  | nil=>rw[hd] at hx;cases hx
  | cons y T=>
   have hy:sameK e y=false:=by
    have:=List.head_dropWhile_not (p:=sameK e) (l:=L) (by rw[hd];simp);simp only[hd,List.head_cons] at this;exact this
   have hye:y ∈ L:=(List.dropWhile_sublist (sameK e)).mem (by rw[hd];exact List.mem_cons_self);have hlt:Lib.compareBytes e.key y.key<0:=by
    rcases lte_iff.1 (h1 y hye) with h3 | ⟨h3,_⟩
    .exact h3
    .exact absurd h3.symm (of_decide_eq_false hy)
   rw[hd] at hx;have h4:=h2.sublist (List.dropWhile_sublist (sameK e));rw[hd] at h4;rcases List.mem_cons.1 hx with rfl | hx
   .exact(kcb_ne hlt).symm
   .rcases lte_iff.1 ((List.pairwise_cons.1 h4).1 x hx) with h5 | ⟨h5,_⟩
    .exact(kcb_ne (cb_trans hlt h5)).symm
    .rw[<-h5];exact(kcb_ne hlt).symm
theorem thin_lk (snaps:List Int) (k:List UInt8) (s:Int): ∀ (n:Nat) (L:List Ent),L.length<=n->L.Pairwise LTE->asked snaps s L->lkE k s (thinE false snaps L)=lkE k s L
 | _,[],_,_,_=>by rw[thin_nil]
 | 0,e::L,h,_,_=>by simp at h
 | n+1,e::L,h,hp,hs=>by
  obtain⟨g1,g2,g3,g4⟩:=group_rest hp;have h4:e::L=(e::L.takeWhile (sameK e))++L.dropWhile (sameK e):=by rw[List.cons_append,List.takeWhile_append_dropWhile]
  have hsg:asked snaps s (e::L.takeWhile (sameK e)):=hs.imp id fun h x hx=>h x (by rw[h4];exact List.mem_append_left _ hx)
  have hsr:asked snaps s (L.dropWhile (sameK e)):=hs.imp id fun h x hx=>h x (by rw[h4];exact List.mem_append_right _ hx)
  have ih:=thin_lk snaps k s n _ (by have:=dropW_le (sameK e) L;simp at h;omega) g3 hsr;rw[thin_cons];have hsub:=(kept_sub snaps (e::L.takeWhile (sameK e)) none);show lkE k s (keptX snaps none _++_)=_;by_cases hk:e.key=k
  .rw[lk_app_no2 (fun x hx=>by rw[<-hk];exact g2 x ((thin_in false snaps _).mem hx)),kept_lk hsg (fun x hx=>(g1 x hx).trans hk)]
   conv=>rhs;rw[h4]
   rw[lk_app_no2 (fun x hx=>by rw[<-hk];exact g2 x hx)]
  .rw[lk_app_no (fun x hx=>by rw[g1 x (hsub.mem hx)];exact hk),ih]
   conv=>rhs;rw[h4]
   rw[lk_app_no (fun x hx=>by rw[g1 x hx];exact hk)]
theorem al_app_no {k:List UInt8} {s:Int} {A B:List Ent} (h: ∀ x ∈ A,x.key≠k):alE k s (A++B)=alE k s B:=by unfold alE;rw[lk_app_no h]
theorem al_app_no2 {k:List UInt8} {s:Int} {A B:List Ent} (h: ∀ x ∈ B,x.key≠k):alE k s (A++B)=alE k s A:=by unfold alE;rw[lk_app_no2 h]
theorem thin_al_ (b:Bool) (snaps:List Int) (k:List UInt8) (s:Int): ∀ (n:Nat) (L:List Ent),L.length<=n->L.Pairwise LTE->asked snaps s L->alE k s (thinE b snaps L)=alE k s L
 | _,[],_,_,_=>by rw[thin_nil]
 | 0,e::L,h,_,_=>by simp at h
 | n+1,e::L,h,hp,hs=>by
  obtain⟨g1,g2,g3,g4⟩:=group_rest hp;have h4:e::L=(e::L.takeWhile (sameK e))++L.dropWhile (sameK e):=by rw[List.cons_append,List.takeWhile_append_dropWhile]
  have hsg:asked snaps s (e::L.takeWhile (sameK e)):=hs.imp id fun h x hx=>h x (by rw[h4];exact List.mem_append_left _ hx)
  have hsr:asked snaps s (L.dropWhile (sameK e)):=hs.imp id fun h x hx=>h x (by rw[h4];exact List.mem_append_right _ hx)
  have ih:=thin_al_ b snaps k s n _ (by have:=dropW_le (sameK e) L;simp at h;omega) g3 hsr;rw[thin_cons];have hsub:=keptB_sub b snaps (e::L.takeWhile (sameK e));by_cases hk:e.key=k
  .rw[al_app_no2 (fun x hx=>by rw[<-hk];exact g2 x ((thin_in b snaps _).mem hx))];have h5:alE k s (keptB b snaps (e::L.takeWhile (sameK e)))=alE k s (e::L.takeWhile (sameK e)):=by
    have h6:alE k s (keptX snaps none (e::L.takeWhile (sameK e)))=alE k s (e::L.takeWhile (sameK e)):=by
     unfold alE;rw[kept_lk hsg (fun x hx=>(g1 x hx).trans hk)]
    unfold keptB;split
    .rw[trim_al k s _ _ (Nat.le_refl _),h6]
    .exact h6
   rw[h5]
   conv=>rhs;rw[h4]
   rw[al_app_no2 (fun x hx=>by rw[<-hk];exact g2 x hx)]
  .rw[al_app_no (fun x hx=>by rw[g1 x (hsub.mem hx)];exact hk),ih]
   conv=>rhs;rw[h4]
   rw[al_app_no (fun x hx=>by rw[g1 x hx];exact hk)]
theorem thin_al {b:Bool} {snaps:List Int} {k:List UInt8} {s:Int} {L:List Ent} (h:L.Pairwise LTE) (hs:asked snaps s L):alE k s (thinE b snaps L)=alE k s L:=thin_al_ b snaps k s _ L (Nat.le_refl _) h hs
theorem kept_none (x:Ent): ∀ (g:List Ent) (q:Int),keptX [] (some q) g=[]
 | [],_=>rfl
 | y::g,q=>by unfold keptX;rw[if_neg (by simp[seenX])];exact kept_none x g _
theorem thin_now (e:Ent) (L:List Ent):keptB true [] (e::L)=if e.dead=true then [] else [e]:=by
 unfold keptB keptX;rw[if_pos rfl,if_pos (show seenX [] none e=true from rfl),kept_none e]
 cases h:e.dead with
 | true=>exact(trim_last (X:=[]) h).trans trim_nil
 | false=>exact trim_stop (X:=[]) h
theorem thin_live: ∀ (n:Nat) (L:List Ent),L.length<=n-> ∀ x ∈ thinE true [] L,x.dead=false
 | _,[],_=>by rw[thin_nil];simp
 | 0,e::L,h=>by simp at h
 | n+1,e::L,h=>fun x hx=>by
  rw[thin_cons,thin_now] at hx;rcases List.mem_append.1 hx with hx | hx
  .cases hd:e.dead with
   | true=>rw[hd] at hx;cases hx
   | false=>
    rw[hd] at hx;have:x=e:=by simpa using hx
    rw[this,hd]
  .exact thin_live n _ (by have:=dropW_le (sameK e) L;simp at h;omega) x hx
theorem thin_keys: ∀ (n:Nat) (L:List Ent),L.length<=n->L.Pairwise LTE->(thinE true [] L).Pairwise fun a b=>Lib.compareBytes a.key b.key<0
 | _,[],_,_=>by rw[thin_nil];exact List.Pairwise.nil
 | 0,e::L,h,_=>by simp at h
 | n+1,e::L,h,hp=>by
  obtain⟨g1,g2,g3,g4⟩:=group_rest hp;have ih:=thin_keys n _ (by have:=dropW_le (sameK e) L;simp at h;omega) g3;rw[thin_cons,thin_now];split
  .exact ih
  .refine List.pairwise_cons.2 ⟨fun x hx=>?_,ih⟩;have hx2:=(thin_in true [] _).mem hx;have hxl:=(List.dropWhile_sublist (sameK e)).mem hx2;rcases lte_iff.1 ((List.pairwise_cons.1 hp).1 x hxl) with h5 | ⟨h5,_⟩
   .exact h5
   .exact absurd h5.symm (g2 x hx2)
theorem thin_view {L:List Ent} {s:Int} (h:L.Pairwise LTE) (hs: ∀ x ∈ L,x.seq<=s):(thinE true [] L).map pairE=viewE s L:=by
 have hp:((thinE true [] L).map pairE).Pairwise kLT:=by rw[List.pairwise_map];exact thin_keys _ L (Nat.le_refl _) h
 refine kmap_ext hp (view_sorted h) fun k=>?_
 rw[view_get h, <-thin_al (b:=true) (snaps:=[]) h (.inr hs)];have hl:=thin_live _ L (Nat.le_refl _);have hm: ∀ x ∈ thinE true [] L,x.seq<=s:=fun x hx=>hs x ((thin_in true [] L).mem hx)
 generalize thinE true [] L=K at*
 induction K with
 | nil=>rfl
 | cons e K ih=>
  show (if e.key=k then some e.value else getK k (K.map pairE))=_;rw[List.map_cons,List.pairwise_cons] at hp;have ih2:=ih hp.2 (fun x hx=>hl x (List.mem_cons_of_mem _ hx)) (fun x hx=>hm x (List.mem_cons_of_mem _ hx));by_cases hk:e.key=k
  .rw[if_pos hk,al_yes ⟨hk,hm e List.mem_cons_self⟩];unfold livE;rw[if_neg (by rw[hl e List.mem_cons_self];simp)]
  .rw[if_neg hk,al_no (fun h=>hk h.1),ih2]
def lai1 (p:Chn):List UInt8:=[if p.dead=true then 1 else 0,UInt8.ofNat p.key.length]++(putB p.value.length 2++(p.key++p.value))
def laiB (ps:List Chn):List UInt8:=(ps.map lai1).flatten
def ChnOk (p:Chn):Prop:=1<=p.key.length/\p.key.length<=128/\p.value.length<=16384
theorem lai1_len (p:Chn):(lai1 p).length=4+p.key.length+p.value.length:=by
 unfold lai1;simp only[List.length_append,List.length_cons,List.length_nil,putB_len];omega
theorem laiB_snoc (ps:List Chn) (p:Chn):laiB (ps++[p])=laiB ps++lai1 p:=by
 unfold laiB;rw[List.map_append,List.flatten_append];simp
theorem laiB_cons (p:Chn) (ps:List Chn):laiB (p::ps)=lai1 p++laiB ps:=rfl
theorem lai1_at (p:Chn) (r:List UInt8) (h:ChnOk p):(lai1 p++r)[0]?=some (if p.dead=true then 1 else 0)/\(lai1 p++r)[1]?=some (UInt8.ofNat p.key.length)/\((lai1 p++r).take 4).drop 2=putB p.value.length 2/\
  ((lai1 p++r).take (4+p.key.length)).drop 4=p.key/\((lai1 p++r).take (4+p.key.length+p.value.length)).drop (4+p.key.length)=p.value/\(lai1 p++r).drop (4+p.key.length+p.value.length)=r:=by
 have h2:(putB p.value.length 2).length=2:=putB_len _ _;obtain⟨q,hq⟩: ∃ q,q=putB p.value.length 2:=⟨_,rfl⟩;rw[<-hq] at h2
 match q,h2 with
 | [a,b],_=>
  have e:lai1 p++r=[if p.dead=true then 1 else 0,UInt8.ofNat p.key.length,a,b]++(p.key++(p.value++r)):=by
   unfold lai1;rw[<-hq];simp
  rw[e];generalize hl4:[if p.dead=true then (1:UInt8) else 0,UInt8.ofNat p.key.length,a,b]=l4;have h4:l4.length=4:=by rw[<-hl4];rfl
  refine⟨by rw[<-hl4];rfl,by rw[<-hl4];rfl,by rw[<-hl4, <-hq];rfl,?_,?_,?_⟩
  .rw[<-List.append_assoc,List.take_left' (by rw[List.length_append,h4]),List.drop_left' h4]
  .rw[<-List.append_assoc, <-List.append_assoc,List.take_left' (by rw[List.length_append,List.length_append,h4]),List.drop_left' (by rw[List.length_append,h4])]
  .rw[<-List.append_assoc, <-List.append_assoc,List.drop_left' (by rw[List.length_append,List.length_append,h4])]
theorem flatK {α:Type} {f:α->List Value} {K:Nat} (hf: ∀ x,(f x).length=K): ∀ (l:List α) (i j:Nat) (hi:i<l.length) (hj:j<K),(l.flatMap f)[i*K+j]?=(f l[i])[j]?
 | [],i,j,hi,hj=>by simp at hi
 | x::l,0,j,hi,hj=>by
  rw[List.flatMap_cons,Nat.zero_mul,Nat.zero_add,List.getElem?_append_left (by rw[hf];exact hj)];rfl
 | x::l,i+1,j,hi,hj=>by
  have e:(i+1)*K+j=K+(i*K+j):=by rw[Nat.add_mul,Nat.one_mul];omega
  rw[List.flatMap_cons,List.getElem?_append_right (by rw[hf,e];omega),hf,e];have:=flatK hf l i j (by simpa using hi) hj;rw[show K+(i*K+j) - K=i*K+j by omega,this];rfl
theorem flatK_len {α:Type} {f:α->List Value} {K:Nat} (hf: ∀ x,(f x).length=K): ∀ (l:List α),(l.flatMap f).length=l.length*K
 | []=>by simp
 | x::l=>by rw[List.flatMap_cons,List.length_append,hf,flatK_len hf l,List.length_cons,Nat.add_mul,Nat.one_mul];omega
theorem enV_len (e:En):(enV e).length=4:=rfl
section
variable {w w':World} {A:Option Addr} {es:List En}
theorem ents_at (h:RdV w A (es.flatMap enV)) (hn:0<es.length): ∃ b o,A=some ⟨b,o,none⟩/\ ∀ i (hi:i<es.length),
  w.cell? ⟨b,o+i*4,none⟩=some (slv' es[i].key)/\w.cell? ⟨b,o+i*4+1,none⟩=some (slv' es[i].value)/\w.cell? ⟨b,o+i*4+2,none⟩=some (.int .i64 es[i].seq)/\w.cell? ⟨b,o+i*4+3,none⟩=some (.bool es[i].dead):=by
 have hl:=flatK_len enV_len es;obtain⟨b,o,rfl,_⟩:=RdV.get h (j:=0) (by omega);refine⟨b,o,rfl,fun i hi=>?_⟩;have key: ∀ j,j<4->w.cell? ⟨b,o+i*4+j,none⟩=(enV es[i])[j]?:=fun j hj=>by
  have hij:i*4+j<(es.flatMap enV).length:=by omega
  obtain⟨b',o',e,hc⟩:=RdV.get h hij;injection e with e
  injection e with e1 e2
  subst e1;subst e2;rw[Nat.add_assoc,hc, <-flatK enV_len es i j hi hj,List.getElem?_eq_getElem hij]
 exact⟨key 0 (by omega),key 1 (by omega),key 2 (by omega),key 3 (by omega)⟩
def EnsR (w:World) (es:List En):Prop:= ∀ e ∈ es,EnR w e
end
def sortedB (l:List Ent):Bool:=(List.range (l.length - 1)).all fun i=>match l[i]?,l[i+1]? with | some a,some b=>lessE a b | _,_=>true
theorem sortedB_iff (l:List Ent):sortedB l=true↔ ∀ i (hi:i+1<l.length),LTE (l[i]'(by omega)) l[i+1]:=by
 unfold sortedB;rw[List.all_eq_true];constructor
 .intro h i hi;have:=h i (List.mem_range.2 (by omega));rw[List.getElem?_eq_getElem (by omega),List.getElem?_eq_getElem hi] at this;exact this
 .intro h i hi;have hi:i+1<l.length:=by have:=List.mem_range.1 hi;omega
  rw[List.getElem?_eq_getElem (by omega),List.getElem?_eq_getElem hi];exact h i hi
theorem sortedB_no (l:List Ent) (i:Nat) (hi:i+1<l.length) (h:lessE (l[i]'(by omega)) l[i+1]=false):sortedB l=false:=by
 cases hs:sortedB l with
 | false=>rfl
 | true=>have:=(sortedB_iff l).1 hs i hi;unfold LTE at this;rw[h] at this;cases this
theorem sorted_any (A:Option Addr) (c:Nat) (es:List En) (w:World) (h:RdV w A (es.flatMap enV)) (hr:EnsR w es) (hc:es.length<=c) (hm:c<=maxLen):
  Calls Tryz.prog 151 #[.slice A es.length c] w fun e w'=>e = .returned (.bool (sortedB (es.map En.ent)))/\Chg No w w':=by
 have HL:=ah h;have HR:=ah hr;have HE:Hid (∀ e:En,enA e = .agg #[.slice e.key.1 e.key.2.2.length e.key.2.1,.slice e.value.1 e.value.2.2.length e.value.2.1,.int .i64 e.seq,.bool e.dead]):=fun _=>rfl
 unfold maxLen at hm;clear h hr;go_enter Tryz.func151, Tryz.ntmps151;go_wp2_with fail;go_loopw [3] (fun i wr=> ∃ k:Nat,1<=k/\(k<=es.length\/k=1)/\i = .int .i64 k/\Hid (Chg No w wr/\ ∀ i (hi:i+1<k) (hk:i+1<es.length),lessE (es[i]'(by omega)).ent es[i+1].ent=true)) (fun i _=>es.length - (intOf i).toNat)
 case atStart=>exact⟨1,by omega,by omega,rfl,Chg.refl _ _,fun i hi=>by omega⟩
 case round=>
  obtain⟨k,hk1,hk2,rfl,HD⟩:=hrel;by_cases hlt:k<es.length
  .obtain⟨b,o,rfl,hq⟩:=ents_at (RdV.new HL.o HD.o.1) (by omega);obtain⟨j,rfl⟩: ∃ j,k=j+1:=⟨k - 1,by omega⟩;obtain⟨a0,a1,a2,a3⟩:=hq j (by omega);obtain⟨b0,b1,b2,b3⟩:=hq (j+1) hlt;clear hq;unfold slv' at a0 a1 b0 b1;have HI:=ah HD.o.1;have HLs:=HD.o.2;clear HD;have hwj:IntKind.i64.wrap (j:Int)=j:=by rw[IntKind.wrap_i64];omega
   have hc2:(0:Int)<=(j:Int)+1:=by omega
   have hc3:j<es.length:=by omega
   go_wp2_with fail;go_region_law (first
    | (go_simp;go_at_call 147;rw[<-HE.o, <-HE.o];refine(less_any es[j] es[j+1] _ ((HR.o _ (List.getElem_mem _)).new HI.o.drew) ((HR.o _ (List.getElem_mem _)).new HI.o.drew)).mono ?_;rintro e w5 ⟨rfl,k5⟩)
    | (simp only[hwj,hc2,hc3];go_simp))
   all_goals
    have k6:Hid (Chg No w w5):=HI.o.drew.tr k5
    cases hb:lessE es[j].ent es[j+1].ent with
    | false=>
     have HQ:Hid (sortedB (es.map En.ent)=false):=sortedB_no _ j (by simpa using hlt) (by simpa using hb);go_wp2_with fail;go_ret;exact⟨by rw[HQ.o];rfl,k6.o⟩
    | true=>
     go_wp2_with fail;go_roundw
     .exact⟨j+1+1,by omega,by omega,by push_cast;rfl,k6.o,fun i hi hk=>if e:i=j then by subst e;exact hb else HLs i (by omega) hk⟩
     .simp[intOf];omega
  .have HQ:Hid (sortedB (es.map En.ent)=true):=(sortedB_iff _).2 fun i hi=>by
    have:=HD.o.2 i (by simp at hi;omega) (by simpa using hi);simpa [LTE] using this
   go_wp2_with fail;go_ret;exact⟨by rw[HQ.o];rfl,HD.o.1⟩
end Go.Proofs.YtmbaiglpgaoogaaGreat
