/- Joined, as they were built one by one: MemBest MemG. -/
import Derived.Test.YtmbaiglpgaoogaaGreatW05
import Derived.Test.YtmbaiglpgaoogaaGreatW15
namespace Go.Proofs.YtmbaiglpgaoogaaGreat
open Go.RowKit
set_option linter.unusedVariables false
set_option maxRecDepth 100000
section
variable {key:List UInt8} {seq:Int} {L:List aq}
def Fv (key:List UInt8) (seq:Int) (L:List aq):Option aq:=match L.dropWhile (fun x=>az x (cN key seq)) with
 | x::_=>if x.key=key then some x else none
 | []=>none
theorem Dz (key:List UInt8) (seq:Int) (ns:List Nd):yJ key seq ns=Fv key seq ((fL ns).map (·.1)):=by
 have e:(fL ns).map (·.1)=ns.map fun n=>n.e.ak:=by unfold fL;rw[List.map_map];rfl
 rw[e];have h:(ns.map fun n=>n.e.ak).dropWhile (fun x=>az x (cN key seq))=(behind (cN key seq) ns).map fun n=>n.e.ak:=by
  unfold behind
  induction ns with
  | nil=>rfl
  | cons n ns ih=>
   rw[List.map_cons,List.dropWhile_cons,List.dropWhile_cons];show (if az n.e.ak (cN key seq)=true then _ else _)=List.map _ (if az n.e.ak (cN key seq)=true then _ else _);split
   .exact ih (by unfold fL;rw[List.map_map];rfl)
   .rfl
 unfold yJ Fv;rw[h]
 cases behind (cN key seq) ns<;>rfl
theorem ke (f:aq->Bool) (L:List aq):L=L.takeWhile f++L.dropWhile f:=(List.takeWhile_append_dropWhile).symm
theorem xS {f:aq->Bool}: ∀ {L:List aq} {x:aq},x ∈ L.takeWhile f->f x=true
 | [],_,h=>by simp at h
 | y::L,x,h=>by
  rw[List.takeWhile_cons] at h;split at h
  .rename_i hy;rcases List.mem_cons.1 h with rfl | h
   .exact hy
   .exact xS h
  .simp at h
end
structure dQ (ns:List Nd) (n:Nat):Prop where
 ok:vw ns
 len:ns.length<=n
 each: ∀ m ∈ ns,m.e.key.2.2.length<=200/\m.e.value.2.2.length<=20000/\m.e.seq<=ew
theorem yV: ∀ l:List Nd,(∀ m ∈ l,m.e.key.2.2.length<=200/\m.e.value.2.2.length<=20000/\m.e.seq<=ew)->jQ l<=l.length*20200
 | [],_=>Nat.zero_le _
 | x::l,h=>by
  have h3:=yV l fun m hm=>h m (List.mem_cons_of_mem _ hm)
  have h4:=h x List.mem_cons_self;show x.e.key.2.2.length+x.e.value.2.2.length+jQ l<=_;simp only[List.length_cons];omega
theorem dQ.I2 {ns:List Nd} {n:Nat} (h:dQ ns n):jQ ns<=n*20200:=by
 exact Nat.le_trans (yV ns h.each) (Nat.mul_le_mul_right _ h.len)
theorem dQ.small {ns:List Nd} {n:Nat} (h:dQ ns n) (hn:n<=100000):Small ns:=⟨by have:=h.len;omega,fun m hm=>by have:=h.each m hm;omega⟩
theorem vM (n:Nat):dQ [] n:=⟨GD,Nat.zero_le _,by simp⟩
def Kd (w0:World) (F:SP) (b hr:Nat) (ns:List Nd) (n:Nat) (e:aq) (H:Int) (x:Ending) (w':World):Prop:=
 ∃ ns',x = .returned (.int .i64 (if lS e (fL ns) then 50 else 0))/\dQ ns' (n+1)/\fL ns'=EP e (eF H) (fL ns)/\Sat w0 (bD b hr ns'*F) w'
theorem DK (b hr:Nat) (ns:List Nd) (n:Nat) (H:Int) (e:En) (w0 w:World) (F:SP) (h:Sat w0 (bD b hr ns*F) w) (ht:dQ ns n) (hn:n<=100000) (he:nS w e)
 (hk:e.key.2.2.length<=200) (hv:e.value.2.2.length<=20000) (hsq:e.seq<=ew):
 Calls Tryz.prog 62 #[.pointer (some ⟨b,0,none⟩),iZ e,.int .i64 H] w (Kd w0 F b hr ns n e.ak H):=by
 have hb:0<=(jQ ns:Int)/\(jQ ns:Int)<=1000000000000:=by
  have:=ht.I2;generalize jQ ns=q at*
  omega
 have hl:=ht.len;refine(Es b hr ns ns.length (jQ ns) H e w0 w F h ht.ok he (by omega) (by omega) (by omega) hb).mono ?_;rintro x w' (⟨h1,rfl,h2⟩ | ⟨h1,rfl,N,a1,a2,a3,h2⟩)
 .rw[rC] at h1;exact⟨ns,by rw[h1];rfl,⟨ht.ok,by omega,ht.each⟩,by unfold EP;rw[h1];rfl,h2⟩
 .have hok:=Gu (H:=H) ht.ok h1 a1 a2 a3;have hab:=bC e.ak ns;have hlen:ns.length=(ahead e.ak ns).length+(behind e.ak ns).length:=by conv=>lhs;rw[hab,List.length_append]
  have hbyt:jQ ns=jQ (ahead e.ak ns)+jQ (behind e.ak ns):=by
   conv=>lhs;rw[hab]
   unfold jQ;rw[List.map_append,zV]
  rw[rC] at h1;refine⟨ahead e.ak ns++N::behind e.ak ns,by rw[h1];rfl,⟨hok,?_,?_⟩,?_,?_⟩
  .rw[List.length_append,List.length_cons];omega
  .intro m hm;rcases List.mem_append.1 hm with hm | hm
   .exact ht.each m (by rw[hab];exact List.mem_append_left _ hm)
   .rcases List.mem_cons.1 hm with rfl | hm
    .have k1:m.e.key.2.2=e.key.2.2:=congrArg aq.key a1;have k2:m.e.value.2.2=e.value.2.2:=congrArg aq.value a1;have k3:m.e.seq=e.seq:=congrArg aq.seq a1;rw[k1,k2,k3];exact⟨hk,hv,hsq⟩
    .exact ht.each m (by rw[hab];exact List.mem_append_right _ hm)
  .unfold EP;rw[h1, <-Bc, <-pn];show fL (_++N::_)=fL _++_::fL _;unfold fL;rw[List.map_append,List.map_cons];have:ES N=(e.ak,eF H):=by unfold ES;rw[a1,a3]
   rw[this]
  .refine h2.of ?_;unfold bD;have e1:((ahead e.ak ns++N::behind e.ak ns).length:Int)=(ns.length:Int)+1:=by rw[List.length_append,List.length_cons];omega
   have e2:(jQ (ahead e.ak ns++N::behind e.ak ns):Int)=(jQ ns:Int)+((e.ak.key.length+e.ak.value.length:Nat):Int):=by
    have:jQ (ahead e.ak ns++N::behind e.ak ns)=jQ (ahead e.ak ns)+(N.e.ak.key.length+N.e.ak.value.length+jQ (behind e.ak ns)):=by
     unfold jQ;rw[List.map_append,zV];rfl
    rw[this,a1];omega
   rw[e1,e2]
def cn (ns:List Nd):List aq:=(fL ns).map (·.1)
theorem mr {ns:List Nd} (h:vw ns):(cn ns).Pairwise dA:=by
 unfold cn fL;rw[List.map_map,List.pairwise_map];exact h.sort
theorem Bb (e:aq) (h:Nat) (L:List Pr) (hn:lS e L=false):(EP e h L).map (·.1)=jR e (L.map (·.1)):=by
 unfold EP;rw[if_neg (by rw[hn];simp)];unfold jR td kQ;rw[List.map_append,List.map_cons];have h1: ∀ L:List Pr,(L.takeWhile fun p=>az p.1 e).map (·.1)=(L.map (·.1)).takeWhile fun x=>az x e:=fun L=>by
  induction L with
  | nil=>rfl
  | cons p L ih=>
   rw[List.takeWhile_cons,List.map_cons,List.takeWhile_cons];split
   .rw[List.map_cons,ih]
   .rfl
 have h2: ∀ L:List Pr,(L.dropWhile fun p=>az p.1 e).map (·.1)=(L.map (·.1)).dropWhile fun x=>az x e:=fun L=>by
  induction L with
  | nil=>rfl
  | cons p L ih=>
   rw[List.dropWhile_cons,List.map_cons,List.dropWhile_cons];split
   .exact ih
   .rfl
 rw[h1,h2]
theorem BJ {e:aq} {L:List Pr} (h: ∀ x ∈ L.map (·.1),¬ iL x e):lS e L=false:=by
 unfold lS;split
 .rename_i p s hp;rw[decide_eq_false_iff_not];intro h0;have hm:p ∈ kQ e L:=by rw[hp];exact List.mem_cons_self
  exact h p.1 (List.mem_map_of_mem ((List.dropWhile_sublist _).mem hm)) (o7.1 h0)
 .rfl
theorem zf {key:List UInt8} {seq:Int}: ∀ {L:List aq},L.Pairwise dA->Fv key seq L=lq key seq L
 | [],_=>rfl
 | x::L,h=>by
  obtain⟨h1,h2⟩:=List.pairwise_cons.1 h;have ih:=zf (key:=key) (seq:=seq) h2;unfold Fv at ih ⊢;rw[List.dropWhile_cons];by_cases hx:az x (cN key seq)=true
  .rw[if_pos hx,ih,qi];rintro ⟨e1,e2⟩;rcases cH.1 (show dA x (cN key seq) from hx) with h3 | ⟨_,h3⟩
   .exact dv h3 e1
   .have h4:seq<x.seq:=h3;omega
  .rw[if_neg hx];simp only;by_cases hk:x.key=key
   .rw[if_pos hk,lT ⟨hk,?_⟩];rcases Int.lt_or_le seq x.seq with h3 | h3
    .exact absurd (show az x (cN key seq)=true from cH.2 (.inr ⟨hk,h3⟩)) hx
    .exact h3
   .rw[if_neg hk,zT];intro y hy e;have hlt:Lib.compareBytes key x.key<0:=by
     rcases tj key x.key with h3 | h3 | h3
     .exact h3
     .exact absurd h3.symm hk
     .exact absurd (show az x (cN key seq)=true from cH.2 (.inl h3)) hx
    rcases List.mem_cons.1 hy with rfl | hy
    .exact hk e
    .rcases cH.1 (h1 y hy) with h4 | ⟨h4,_⟩
     .have:=dy hlt h4;rw[e] at this;exact dv this rfl
     .exact hk (h4.trans e)
theorem qD (b hr:Nat) (ns:List Nd) (n:Nat) (H:Int) (e:En) (w0 w:World) (F:SP) (h:Sat w0 (bD b hr ns*F) w) (ht:dQ ns n) (hn:n<=100000) (he:nS w e)
 (hk:e.key.2.2.length<=200) (hv:e.value.2.2.length<=20000) (hsq:e.seq<=ew) (hnew: ∀ x ∈ cn ns,¬ iL x e.ak):
 Calls Tryz.prog 62 #[.pointer (some ⟨b,0,none⟩),iZ e,.int .i64 H] w fun x w'=> ∃ ns',x = .returned (.int .i64 0)/\dQ ns' (n+1)/\cn ns'=jR e.ak (cn ns)/\Sat w0 (bD b hr ns'*F) w':=by
 refine(DK b hr ns n H e w0 w F h ht hn he hk hv hsq).mono ?_;rintro x w' ⟨ns',rfl,h1,h2,h3⟩;have h4:=BJ (e:=e.ak) (L:=fL ns) hnew;refine⟨ns',by rw[h4];rfl,h1,?_,h3⟩;unfold cn;rw[h2,Bb _ _ _ h4]
end Go.Proofs.YtmbaiglpgaoogaaGreat
