/- Joined, as they were built one by one: MemBest MemG. -/
import Derived.Test.YtmbaiglpgaoogaaGreatW05
import Derived.Test.YtmbaiglpgaoogaaGreatW15
set_option linter.unusedVariables false
set_option maxRecDepth 100000
namespace Go.Proofs.YtmbaiglpgaoogaaGreat
open Go.RowKit Z
section
variable {key:List UInt8} {seq:Int} {L:List aq}
def G1 (key:List UInt8) (seq:Int) (L:List aq):Option aq:=match L.dropWhile (fun x=>az x (cO key seq)) with
 | x::_=>if x.key=key then some x else none
 | []=>none
theorem ED (key:List UInt8) (seq:Int) (ns:List Nd):yR key seq ns=G1 key seq ((fM ns).map (·.1)):=by
 have e:(fM ns).map (·.1)=ns.map fun n=>n.e.ak:=by unfold fM;rw[List.map_map];rfl
 rw[e];have h:(ns.map fun n=>n.e.ak).dropWhile (fun x=>az x (cO key seq))=(behind (cO key seq) ns).map fun n=>n.e.ak:=by
  unfold behind
  induction ns with
  | nil=>rfl
  | cons n ns ih=>
   rw[List.map_cons,List.dropWhile_cons,List.dropWhile_cons];show (if az n.e.ak (cO key seq)=true then _ else _)=List.map _ (if az n.e.ak (cO key seq)=true then _ else _);split
   .exact ih (by unfold fM;rw[List.map_map];rfl)
   .rfl
 unfold yR G1;rw[h]
 cases behind (cO key seq) ns<;>rfl
theorem kT (f:aq->Bool) (L:List aq):L=L.takeWhile f++L.dropWhile f:=(List.takeWhile_append_dropWhile).symm
theorem yO {f:aq->Bool}: ∀ {L:List aq} {x:aq},x ∈ L.takeWhile f->f x=true
 | [],_,h=>by simp at h
 | y::L,x,h=>by
  rw[List.takeWhile_cons] at h;split at h
  .rename_i hy;rcases List.mem_cons.1 h with rfl | h
   .exact hy
   .exact yO h
  .simp at h
end
structure dS (ns:List Nd) (n:Nat):Prop where
 ok:wk ns
 len:ns.length<=n
 each: ∀ m ∈ ns,m.e.key.2.2.length<=200/\m.e.value.2.2.length<=20000/\m.e.seq<=eE
theorem zT: ∀ l:List Nd,(∀ m ∈ l,m.e.key.2.2.length<=200/\m.e.value.2.2.length<=20000/\m.e.seq<=eE)->jT l<=l.length*20200
 | [],_=>Nat.zero_le _
 | x::l,h=>by
  have h3:=zT l fun m hm=>h m (List.mem_cons_of_mem _ hm)
  have h4:=h x List.mem_cons_self;show x.e.key.2.2.length+x.e.value.2.2.length+jT l<=_;simp only[List.length_cons];omega
theorem dS.J1 {ns:List Nd} {n:Nat} (h:dS ns n):jT ns<=n*20200:=by
 exact Nat.le_trans (zT ns h.each) (Nat.mul_le_mul_right _ h.len)
theorem dS.small {ns:List Nd} {n:Nat} (h:dS ns n) (hn:n<=100000):Small ns:=⟨by have:=h.len;omega,fun m hm=>by have:=h.each m hm;omega⟩
theorem vV (n:Nat):dS [] n:=⟨GY,Nat.zero_le _,by simp⟩
def KY (w0:World) (F:SP) (b hr:Nat) (ns:List Nd) (n:Nat) (e:aq) (H:Int) (x:Ending) (w':World):Prop:=
 ∃ ns',x = .returned (.int .i64 (if ma e (fM ns) then 50 else 0))/\dS ns' (n+1)/\fM ns'=FQ e (eJ H) (fM ns)/\Sat w0 (bE b hr ns'*F) w'
theorem EZ (b hr:Nat) (ns:List Nd) (n:Nat) (H:Int) (e:En) (w0 w:World) (F:SP) (h:Sat w0 (bE b hr ns*F) w) (ht:dS ns n) (hn:n<=100000) (he:oD w e)
 (hk:e.key.2.2.length<=200) (hv:e.value.2.2.length<=20000) (hsq:e.seq<=eE):
 Calls Tryz.prog 62 #[.pointer (some ⟨b,0,none⟩),iN e,.int .i64 H] w (KY w0 F b hr ns n e.ak H):=by
 have hb:0<=(jT ns:Int)/\(jT ns:Int)<=1000000000000:=by
  have:=ht.J1;generalize jT ns=q at*
  omega
 have hl:=ht.len;refine(De b hr ns ns.length (jT ns) H e w0 w F h ht.ok he (by omega) (by omega) (by omega) hb).mono ?_;rintro x w' (⟨h1,rfl,h2⟩ | ⟨h1,rfl,N,a1,a2,a3,h2⟩)
 .rw[sz] at h1;exact⟨ns,by rw[h1];rfl,⟨ht.ok,by omega,ht.each⟩,by unfold FQ;rw[h1];rfl,h2⟩
 .have hok:=Gw (H:=H) ht.ok h1 a1 a2 a3;have hab:=bD e.ak ns;have hlen:ns.length=(ahead e.ak ns).length+(behind e.ak ns).length:=by conv=>lhs;rw[hab,List.length_append]
  have hbyt:jT ns=jT (ahead e.ak ns)+jT (behind e.ak ns):=by
   conv=>lhs;rw[hab]
   unfold jT;rw[List.map_append,zE]
  rw[sz] at h1;refine⟨ahead e.ak ns++N::behind e.ak ns,by rw[h1];rfl,⟨hok,?_,?_⟩,?_,?_⟩
  .rw[List.length_append,List.length_cons];omega
  .intro m hm;rcases List.mem_append.1 hm with hm | hm
   .exact ht.each m (by rw[hab];exact List.mem_append_left _ hm)
   .rcases List.mem_cons.1 hm with rfl | hm
    .have k1:m.e.key.2.2=e.key.2.2:=congrArg aq.key a1;have k2:m.e.value.2.2=e.value.2.2:=congrArg aq.value a1;have k3:m.e.seq=e.seq:=congrArg aq.seq a1;rw[k1,k2,k3];exact⟨hk,hv,hsq⟩
    .exact ht.each m (by rw[hab];exact List.mem_append_right _ hm)
  .unfold FQ;rw[h1, <-BE, <-qe];show fM (_++N::_)=fM _++_::fM _;unfold fM;rw[List.map_append,List.map_cons];have:Fa N=(e.ak,eJ H):=by unfold Fa;rw[a1,a3]
   rw[this]
  .refine h2.of ?_;unfold bE;have e1:((ahead e.ak ns++N::behind e.ak ns).length:Int)=(ns.length:Int)+1:=by rw[List.length_append,List.length_cons];omega
   have e2:(jT (ahead e.ak ns++N::behind e.ak ns):Int)=(jT ns:Int)+((e.ak.key.length+e.ak.value.length:Nat):Int):=by
    have:jT (ahead e.ak ns++N::behind e.ak ns)=jT (ahead e.ak ns)+(N.e.ak.key.length+N.e.ak.value.length+jT (behind e.ak ns)):=by
     unfold jT;rw[List.map_append,zE];rfl
    rw[this,a1];omega
   rw[e1,e2]
def cn (ns:List Nd):List aq:=(fM ns).map (·.1)
theorem mA {ns:List Nd} (h:wk ns):(cn ns).Pairwise dE:=by
 unfold cn fM;rw[List.map_map,List.pairwise_map];exact h.sort
theorem Bw (e:aq) (h:Nat) (L:List Pr) (hn:ma e L=false):(FQ e h L).map (·.1)=jU e (L.map (·.1)):=by
 unfold FQ;rw[if_neg (by rw[hn];simp)];unfold jU tH kX;rw[List.map_append,List.map_cons];have h1: ∀ L:List Pr,(L.takeWhile fun p=>az p.1 e).map (·.1)=(L.map (·.1)).takeWhile fun x=>az x e:=fun L=>by
  induction L with
  | nil=>rfl
  | cons p L ih=>
   rw[List.takeWhile_cons,List.map_cons,List.takeWhile_cons];split
   .rw[List.map_cons,ih]
   .rfl
 have h2: ∀ L:List Pr,(L.dropWhile fun p=>az p.1 e).map (·.1)=(L.map (·.1)).dropWhile fun x=>az x e:=fun L=>by
  induction L with
  | nil=>rfl
  | cons p L ih=>
   rw[List.dropWhile_cons,List.map_cons,List.dropWhile_cons];split
   .exact ih
   .rfl
 rw[h1,h2]
theorem CE {e:aq} {L:List Pr} (h: ∀ x ∈ L.map (·.1),¬ iX x e):ma e L=false:=by
 unfold ma;split
 .rename_i p s hp;rw[decide_eq_false_iff_not];intro h0;have hm:p ∈ kX e L:=by rw[hp];exact List.mem_cons_self
  exact h p.1 (List.mem_map_of_mem ((List.dropWhile_sublist _).mem hm)) (pE.1 h0)
 .rfl
theorem Ah {key:List UInt8} {seq:Int}: ∀ {L:List aq},L.Pairwise dE->G1 key seq L=lG key seq L
 | [],_=>rfl
 | x::L,h=>by
  obtain⟨h1,h2⟩:=List.pairwise_cons.1 h;have ih:=Ah (key:=key) (seq:=seq) h2;unfold G1 at ih ⊢;rw[List.dropWhile_cons];by_cases hx:az x (cO key seq)=true
  .rw[if_pos hx,ih,pn];rintro ⟨e1,e2⟩;rcases cK.1 (show dE x (cO key seq) from hx) with h3 | ⟨_,h3⟩
   .exact dz h3 e1
   .have h4:seq<x.seq:=h3;omega
  .rw[if_neg hx];simp only;by_cases hk:x.key=key
   .rw[if_pos hk,mr ⟨hk,?_⟩];rcases Int.lt_or_le seq x.seq with h3 | h3
    .exact absurd (show az x (cO key seq)=true from cK.2 (.inr ⟨hk,h3⟩)) hx
    .exact h3
   .rw[if_neg hk,zM];intro y hy e;have hlt:Lib.compareBytes key x.key<0:=by
     rcases tJ key x.key with h3 | h3 | h3
     .exact h3
     .exact absurd h3.symm hk
     .exact absurd (show az x (cO key seq)=true from cK.2 (.inl h3)) hx
    rcases List.mem_cons.1 hy with rfl | hy
    .exact hk e
    .rcases cK.1 (h1 y hy) with h4 | ⟨h4,_⟩
     .have:=dA hlt h4;rw[e] at this;exact dz this rfl
     .exact hk (h4.trans e)
theorem qf (b hr:Nat) (ns:List Nd) (n:Nat) (H:Int) (e:En) (w0 w:World) (F:SP) (h:Sat w0 (bE b hr ns*F) w) (ht:dS ns n) (hn:n<=100000) (he:oD w e)
 (hk:e.key.2.2.length<=200) (hv:e.value.2.2.length<=20000) (hsq:e.seq<=eE) (hnew: ∀ x ∈ cn ns,¬ iX x e.ak):
 Calls Tryz.prog 62 #[.pointer (some ⟨b,0,none⟩),iN e,.int .i64 H] w fun x w'=> ∃ ns',x = .returned (.int .i64 0)/\dS ns' (n+1)/\cn ns'=jU e.ak (cn ns)/\Sat w0 (bE b hr ns'*F) w':=by
 refine(EZ b hr ns n H e w0 w F h ht hn he hk hv hsq).mono ?_;rintro x w' ⟨ns',rfl,h1,h2,h3⟩;have h4:=CE (e:=e.ak) (L:=fM ns) hnew;refine⟨ns',by rw[h4];rfl,h1,?_,h3⟩;unfold cn;rw[h2,Bw _ _ _ h4]
end Go.Proofs.YtmbaiglpgaoogaaGreat
