/- Joined, as they were built one by one: MemG. -/
import Derived.Test.YtmbaiglpgaoogaaGreatS05
import Derived.Test.YtmbaiglpgaoogaaGreatS19
namespace Go.Proofs.YtmbaiglpgaoogaaGreat
open Go.RowKit
set_option linter.unusedVariables false
set_option maxRecDepth 100000
structure TabG (ns:List Nd) (n:Nat):Prop where
 ok:NOk ns
 len:ns.length≤n
 each: ∀ m ∈ ns,m.e.key.2.2.length≤200∧m.e.value.2.2.length≤20000∧m.e.seq≤topSeq
theorem bytG_le: ∀ l:List Nd,(∀ m ∈ l,m.e.key.2.2.length≤200∧m.e.value.2.2.length≤20000∧m.e.seq≤topSeq)→bytN l≤l.length*20200
 | [],_=>Nat.zero_le _
 | x::l,h=>by
  have h3:=bytG_le l fun m hm=>h m (List.mem_cons_of_mem _ hm)
  have h4:=h x List.mem_cons_self;show x.e.key.2.2.length+x.e.value.2.2.length+bytN l≤_;simp only[List.length_cons];omega
theorem TabG.bytle {ns:List Nd} {n:Nat} (h:TabG ns n):bytN ns≤n*20200:=by
 exact Nat.le_trans (bytG_le ns h.each) (Nat.mul_le_mul_right _ h.len)
theorem TabG.small {ns:List Nd} {n:Nat} (h:TabG ns n) (hn:n≤100000):Small ns:=⟨by have:=h.len;omega,fun m hm=>by have:=h.each m hm;omega⟩
theorem tabG_nil (n:Nat):TabG [] n:=⟨nok_nil,Nat.zero_le _,by simp⟩
def PutG (w0:World) (F:SP) (b hr:Nat) (ns:List Nd) (n:Nat) (e:Ent) (H:Int) (x:Ending) (w':World):Prop:=
 ∃ ns',x = .returned (.int .i64 (if twiceM e (absL ns) then 50 else 0))∧TabG ns' (n+1)∧absL ns'=insM e (clampH H) (absL ns)∧Sat w0 (SkipT b hr ns'*F) w'
theorem putG_any (b hr:Nat) (ns:List Nd) (n:Nat) (H:Int) (e:En) (w0 w:World) (F:SP) (h:Sat w0 (SkipT b hr ns*F) w) (ht:TabG ns n) (hn:n≤100000) (he:EnR w e)
  (hk:e.key.2.2.length≤200) (hv:e.value.2.2.length≤20000) (hsq:e.seq≤topSeq):
  Calls Tryz.prog 62 #[.pointer (some ⟨b,0,none⟩),enA e,.int .i64 H] w (PutG w0 F b hr ns n e.ent H):=by
 have hb:0≤(bytN ns:Int)∧(bytN ns:Int)≤1000000000000:=by
  have:=ht.bytle;generalize bytN ns=q at*
  omega
 have hl:=ht.len;refine(mput_any b hr ns ns.length (bytN ns) H e w0 w F h ht.ok he (by omega) (by omega) (by omega) hb).mono ?_;rintro x w' (⟨h1,rfl,h2⟩ | ⟨h1,rfl,N,a1,a2,a3,h2⟩)
 ·rw[abs_twice] at h1;exact⟨ns,by rw[h1];rfl,⟨ht.ok,by omega,ht.each⟩,by unfold insM;rw[h1];rfl,h2⟩
 ·have hok:=nok_put (H:=H) ht.ok h1 a1 a2 a3;have hab:=ahead_behind e.ent ns;have hlen:ns.length=(ahead e.ent ns).length+(behind e.ent ns).length:=by conv=>lhs;rw[hab,List.length_append]
  have hbyt:bytN ns=bytN (ahead e.ent ns)+bytN (behind e.ent ns):=by
   conv=>lhs;rw[hab]
   unfold bytN;rw[List.map_append,byt_app]
  rw[abs_twice] at h1;refine⟨ahead e.ent ns++N::behind e.ent ns,by rw[h1];rfl,⟨hok,?_,?_⟩,?_,?_⟩
  ·rw[List.length_append,List.length_cons];omega
  ·intro m hm;rcases List.mem_append.1 hm with hm | hm
   ·exact ht.each m (by rw[hab];exact List.mem_append_left _ hm)
   ·rcases List.mem_cons.1 hm with rfl | hm
    ·have k1:m.e.key.2.2=e.key.2.2:=congrArg Ent.key a1;have k2:m.e.value.2.2=e.value.2.2:=congrArg Ent.value a1;have k3:m.e.seq=e.seq:=congrArg Ent.seq a1;rw[k1,k2,k3];exact⟨hk,hv,hsq⟩
    ·exact ht.each m (by rw[hab];exact List.mem_append_right _ hm)
  ·unfold insM;rw[h1, ←abs_ahead, ←abs_behind];show absL (_++N::_)=absL _++_::absL _;unfold absL;rw[List.map_append,List.map_cons];have:absN N=(e.ent,clampH H):=by unfold absN;rw[a1,a3]
   rw[this]
  ·refine h2.of ?_;unfold SkipT;have e1:((ahead e.ent ns++N::behind e.ent ns).length:Int)=(ns.length:Int)+1:=by rw[List.length_append,List.length_cons];omega
   have e2:(bytN (ahead e.ent ns++N::behind e.ent ns):Int)=(bytN ns:Int)+((e.ent.key.length+e.ent.value.length:Nat):Int):=by
    have:bytN (ahead e.ent ns++N::behind e.ent ns)=bytN (ahead e.ent ns)+(N.e.ent.key.length+N.e.ent.value.length+bytN (behind e.ent ns)):=by
     unfold bytN;rw[List.map_append,byt_app];rfl
    rw[this,a1];omega
   rw[e1,e2]
def entsN (ns:List Nd):List Ent:=(absL ns).map (·.1)
theorem entsN_pw {ns:List Nd} (h:NOk ns):(entsN ns).Pairwise LTE:=by
 unfold entsN absL;rw[List.map_map,List.pairwise_map];exact h.sort
theorem insM_ents (e:Ent) (h:Nat) (L:List Pr) (hn:twiceM e L=false):(insM e h L).map (·.1)=insE e (L.map (·.1)):=by
 unfold insM;rw[if_neg (by rw[hn];simp)];unfold insE aheadM behindM;rw[List.map_append,List.map_cons];have h1: ∀ L:List Pr,(L.takeWhile fun p=>lessE p.1 e).map (·.1)=(L.map (·.1)).takeWhile fun x=>lessE x e:=fun L=>by
  induction L with
  | nil=>rfl
  | cons p L ih=>
   rw[List.takeWhile_cons,List.map_cons,List.takeWhile_cons];split
   ·rw[List.map_cons,ih]
   ·rfl
 have h2: ∀ L:List Pr,(L.dropWhile fun p=>lessE p.1 e).map (·.1)=(L.map (·.1)).dropWhile fun x=>lessE x e:=fun L=>by
  induction L with
  | nil=>rfl
  | cons p L ih=>
   rw[List.dropWhile_cons,List.map_cons,List.dropWhile_cons];split
   ·exact ih
   ·rfl
 rw[h1,h2]
theorem twiceM_no {e:Ent} {L:List Pr} (h: ∀ x ∈ L.map (·.1),¬ same1 x e):twiceM e L=false:=by
 unfold twiceM;split
 ·rename_i p s hp;rw[decide_eq_false_iff_not];intro h0;have hm:p ∈ behindM e L:=by rw[hp];exact List.mem_cons_self
  exact h p.1 (List.mem_map_of_mem ((List.dropWhile_sublist _).mem hm)) (ord_zero.1 h0)
 ·rfl
theorem getL_lk {key:List UInt8} {seq:Int}: ∀ {L:List Ent},L.Pairwise LTE→getL key seq L=lkE key seq L
 | [],_=>rfl
 | x::L,h=>by
  obtain⟨h1,h2⟩:=List.pairwise_cons.1 h;have ih:=getL_lk (key:=key) (seq:=seq) h2;unfold getL at ih ⊢;rw[List.dropWhile_cons];by_cases hx:lessE x (seekE key seq)=true
  ·rw[if_pos hx,ih,lk_no];rintro ⟨e1,e2⟩;rcases lte_iff.1 (show LTE x (seekE key seq) from hx) with h3 | ⟨_,h3⟩
   ·exact kcb_ne h3 e1
   ·have h4:seq<x.seq:=h3;omega
  ·rw[if_neg hx];simp only;by_cases hk:x.key=key
   ·rw[if_pos hk,lk_yes ⟨hk,?_⟩];rcases Int.lt_or_le seq x.seq with h3 | h3
    ·exact absurd (show lessE x (seekE key seq)=true from lte_iff.2 (.inr ⟨hk,h3⟩)) hx
    ·exact h3
   ·rw[if_neg hk,lk_none];intro y hy e;have hlt:Lib.compareBytes key x.key<0:=by
     rcases kcb_tri key x.key with h3 | h3 | h3
     ·exact h3
     ·exact absurd h3.symm hk
     ·exact absurd (show lessE x (seekE key seq)=true from lte_iff.2 (.inl h3)) hx
    rcases List.mem_cons.1 hy with rfl | hy
    ·exact hk e
    ·rcases lte_iff.1 (h1 y hy) with h4 | ⟨h4,_⟩
     ·have:=cb_trans hlt h4;rw[e] at this;exact kcb_ne this rfl
     ·exact hk (h4.trans e)
theorem putN_any (b hr:Nat) (ns:List Nd) (n:Nat) (H:Int) (e:En) (w0 w:World) (F:SP) (h:Sat w0 (SkipT b hr ns*F) w) (ht:TabG ns n) (hn:n≤100000) (he:EnR w e)
  (hk:e.key.2.2.length≤200) (hv:e.value.2.2.length≤20000) (hsq:e.seq≤topSeq) (hnew: ∀ x ∈ entsN ns,¬ same1 x e.ent):
  Calls Tryz.prog 62 #[.pointer (some ⟨b,0,none⟩),enA e,.int .i64 H] w fun x w'=> ∃ ns',x = .returned (.int .i64 0)∧TabG ns' (n+1)∧entsN ns'=insE e.ent (entsN ns)∧Sat w0 (SkipT b hr ns'*F) w':=by
 refine(putG_any b hr ns n H e w0 w F h ht hn he hk hv hsq).mono ?_;rintro x w' ⟨ns',rfl,h1,h2,h3⟩;have h4:=twiceM_no (e:=e.ent) (L:=absL ns) hnew;refine⟨ns',by rw[h4];rfl,h1,?_,h3⟩;unfold entsN;rw[h2,insM_ents _ _ _ h4]
end Go.Proofs.YtmbaiglpgaoogaaGreat
