/- Joined, as they were built one by one: StpA StpB StpC StpD Sto14 StpG. -/
import Derived.Test.YtmbaiglpgaoogaaGreatW12
import Derived.Test.YtmbaiglpgaoogaaGreatW15
import Derived.Test.YtmbaiglpgaoogaaGreatW18
import Derived.Test.YtmbaiglpgaoogaaGreatW19
import Derived.Test.YtmbaiglpgaoogaaGreatW25
import Derived.Test.YtmbaiglpgaoogaaGreatW26
set_option maxHeartbeats 16000000
namespace Go.Proofs.YtmbaiglpgaoogaaGreat
open Go.RowKit
set_option linter.unusedVariables false
set_option maxRecDepth 100000
def cF (M:List Kv):Nat:=(M.map fun p=>p.1.length+p.2.length+40).sum
def ae:List aq->List UInt8
 | []=>[]
 | e::L=>ai (aN (e::L)).length 4++aN (e::L)
def fP:Nat->List UInt8->List (List UInt8)
 | 0,_=>[]
 | n+1,b=>if b.length=0 then [] else b.take 480::fP n (b.drop 480)
def aj (b:List UInt8):List (List UInt8):=fP b.length b
theorem ph: ∀ (n:Nat) (b:List UInt8),b.length<=n->(fP n b).flatten=b
 | 0,b,h=>by rw[List.eq_nil_of_length_eq_zero (by omega:b.length=0)];rfl
 | n+1,b,h=>by
  unfold fP;split
  .rename_i h1;rw[List.eq_nil_of_length_eq_zero h1];rfl
  .rw[List.flatten_cons,ph n _ (by rw[List.length_drop];omega),List.take_append_drop]
theorem sj: ∀ (n:Nat) (b:List UInt8),b.length<=n->(fP n b).length=(b.length+479) / 480
 | 0,b,h=>by rw[show b.length=0 by omega];rfl
 | n+1,b,h=>by
  unfold fP;split
  .rename_i h1;rw[h1];rfl
  .rw[List.length_cons,sj n _ (by rw[List.length_drop];omega),List.length_drop];omega
theorem pA: ∀ (n:Nat) (b:List UInt8), ∀ p ∈ fP n b,p.length<=480
 | 0,b,p,h=>by cases h
 | n+1,b,p,h=>by
  unfold fP at h;split at h
  .cases h
  .rcases List.mem_cons.1 h with rfl | h
   .rw[List.length_take];omega
   .exact pA n _ p h
theorem rP: ∀ (n m:Nat) (b:List UInt8),b.length<=n->b.length<=m->fP n b=fP m b
 | 0,m,b,h,_=>by
  have h0:b.length=0:=by omega
  cases m with
  | zero=>rfl
  | succ m=>unfold fP;rw[if_pos h0]
 | n+1,0,b,_,h=>by
  have h0:b.length=0:=by omega
  unfold fP;rw[if_pos h0]
 | n+1,m+1,b,h1,h2=>by
  unfold fP;split
  .rfl
  .rw[rP n m _ (by rw[List.length_drop];omega) (by rw[List.length_drop];omega)]
theorem Bi (b:List UInt8):(aj b).flatten=b:=ph _ b (Nat.le_refl _)
theorem qe (b:List UInt8):(aj b).length=(b.length+479) / 480:=sj _ b (Nat.le_refl _)
theorem BU {b p:List UInt8} (h:p ∈ aj b):p.length<=480:=pA _ b p h
theorem rZ {b:List UInt8} (h:b.length≠0):aj b=b.take 480::aj (b.drop 480):=by
 unfold aj;obtain⟨n,hn⟩: ∃ n,b.length=n+1:=⟨b.length - 1,by omega⟩;rw[hn];have e:fP (n+1) b=b.take 480::fP n (b.drop 480):=by
  show (if b.length=0 then [] else b.take 480::fP n (b.drop 480))=_;rw[if_neg h]
 rw[e,rP n _ _ (by rw[List.length_drop];omega) (Nat.le_refl _)]
def oB (L:List aq):Nat:=(L.map fun e=>e.key.length+e.value.length).sum
theorem AZ (L:List aq) (e:aq):oB (L++[e])=oB L+(e.key.length+e.value.length):=by
 unfold oB;rw[List.map_append,List.sum_append];rfl
theorem F1 (al:List UInt8) (e:aq):(jD al e).length<=13+(e.key.length+e.value.length):=by
 unfold jD;simp[aw];omega
theorem uw (L:List aq): ∀ k,k<=L.length->(cW L k).length<=8+oB (L.take k)+13*k
 | 0,_=>by simp[cW,dG,aw]
 | k+1,h=>by
  have h1:=uw L k (by omega);have h2:(jO L k).length<=13+(L[k].key.length+L[k].value.length):=by
   unfold jO;rw[List.getElem?_eq_getElem (by omega)];exact F1 _ _
  rw[jt,List.length_append,List.take_add_one,List.getElem?_eq_getElem (by omega),show (some L[k]).toList=[L[k]] from rfl,AZ];omega
theorem Ab (L:List aq) (h: ∀ e ∈ L,e.key.length<=128/\e.value.length<=16384): ∀ k,(fm L k).length<=4+133*((k+7) / 8)
 | 0=>by simp[fm,aw]
 | k+1=>by
  have h1:=Ab L h k;rw[lh,List.length_append];by_cases h8:k % 8=0
  .have h2:=rW L k h;have h3:(k+1+7) / 8=(k+7) / 8+1:=by omega
   rw[h3];omega
  .have h2:(lF L k).length=0:=by unfold lF;rw[if_neg h8];rfl
   have h3:(k+7) / 8<=(k+1+7) / 8:=by omega
   omega
theorem mW (L:List aq) (h: ∀ e ∈ L,e.key.length<=128/\e.value.length<=16384):(aN L).length<=oB L+32*L.length+200:=by
 have h1:=uw L L.length (Nat.le_refl _);have h2:=Ab L h L.length;have h3:=mX L;have h4:=gO L L.length;have h5:dC (cP L L.length).length 10<=(10*L.length+71) / 8:=by
  unfold dC;omega
 rw[List.take_length] at h1;unfold aN Bl;simp only[List.length_append,aw];omega
theorem rS (L:List aq):cF (L.map cX)=oB L+40*L.length:=by
 induction L with
 | nil=>rfl
 | cons e L ih=>
  unfold cF oB at*
  rw[List.map_cons,List.map_cons,List.sum_cons,List.map_cons,List.sum_cons,ih,List.length_cons];show e.key.length+e.value.length+40+_=_;omega
theorem uF (L:List aq) (h: ∀ e ∈ L,e.key.length<=128/\e.value.length<=16384):(ae L).length<=204+cF (L.map cX):=by
 cases L with
 | nil=>exact Nat.zero_le _
 | cons e L=>
  have h1:=mW (e::L) h;rw[rS];unfold ae;rw[List.length_append,aw];omega
structure zQ (e:aq):Prop where
 key:1<=e.key.length/\e.key.length<=128
 val:e.value.length<=16384
 dead:e.dead=true->e.value.length=0
 seq:0<=e.seq/\e.seq<=1000000000
structure fB (E:List aq):Prop where
 sort:E.Pairwise fun a b=>Lib.compareBytes a.key b.key<0
 each: ∀ e ∈ E,zQ e/\e.dead=false
theorem F4:fB []:=⟨List.Pairwise.nil,fun e h=>by cases h⟩
theorem fB.JN {E:List aq} (h:fB E):E.Pairwise dA:=h.sort.imp fun h=>cH.2 (.inl h)
theorem fB.build {E:List aq} (h:fB E) (hn:E.length<=65536):bR E=0:=by
 unfold bR;rw[qA h.JN,if_neg (by simp),if_neg];rintro (h1 | h1)
 .omega
 .obtain⟨e,he,h2⟩:=List.any_eq_true.1 h1;have h3:=(h.each e he).1;have h4:fS e=true:=gG.2 ⟨h3.key.2,h3.val,h3.dead,h3.seq.1⟩;rw[h4] at h2
  cases h2
theorem fB.seq {E:List aq} (h:fB E): ∀ e ∈ E,e.seq<9223372036854775808:=fun e he=>by have:=(h.each e he).1.seq;omega
theorem fB.gR {E:List aq} (h:fB E):(E.map cX).Pairwise mn:=by rw[List.pairwise_map];exact h.sort
theorem ur (s:Int) (k:List UInt8): ∀ {K:List aq},(K.map cX).Pairwise mn->(∀ x ∈ K,x.dead=false)->(∀ x ∈ K,x.seq<=s)->dU k s K=bH k (K.map cX)
 | [],_,_,_=>rfl
 | e::K,hp,hl,hm=>by
  show _=(if e.key=k then some e.value else bH k (K.map cX));rw[List.map_cons,List.pairwise_cons] at hp;have ih2:=ur s k hp.2 (fun x hx=>hl x (List.mem_cons_of_mem _ hx)) (fun x hx=>hm x (List.mem_cons_of_mem _ hx));by_cases hk:e.key=k
  .rw[if_pos hk,oR ⟨hk,hm e List.mem_cons_self⟩];unfold tI;rw[if_neg (by rw[hl e List.mem_cons_self];simp)]
  .rw[if_neg hk,nR (fun h=>hk h.1),ih2]
structure cD (L:List aq) (q:Nat) (M:List Kv) (t:Nat):Prop where
 sort:L.Pairwise dA
 each: ∀ x ∈ L,zQ x
 top: ∀ x ∈ L,x.seq<=q
 len:L.length<=t
 gR:M.Pairwise mn
 tells: ∀ k,dU k q L=bH k M
theorem cD.view {L:List aq} {q t:Nat} {M:List Kv} (h:cD L q M t):eQ q L=M:=F3 h.sort h.gR h.tells
theorem fB.mem {E:List aq} {q:Nat} (h:fB E) (hq: ∀ x ∈ E,x.seq<=q):cD E q (E.map cX) E.length:=
 ⟨h.JN,fun x hx=>(h.each x hx).1,hq,Nat.le_refl _,h.gR,fun k=>ur _ k h.gR (fun x hx=>(h.each x hx).2) hq⟩
structure ix (p:cw):Prop where
 key:1<=p.key.length/\p.key.length<=128
 val:p.value.length<=16384
 dead:p.dead=true->p.value.length=0
theorem ix.bo {p:cw} (h:ix p):yU p:=⟨h.key.1,h.key.2,h.val⟩
structure oe (cs:List cw):Prop where
 each: ∀ p ∈ cs,ix p
 sum:(cs.map jF).sum<=262144
theorem vu {cs:List cw}:dm cs=0↔oe cs:=by
 have hK:cs.any oO=false↔ ∀ p ∈ cs,1<=p.key.length/\p.key.length<=128:=by
  rw[List.any_eq_false];refine forall_congr' fun p=>forall_congr' fun hp=>?_
  unfold oO;simp only[Bool.or_eq_true,decide_eq_true_eq];omega
 have hV:cs.any jN=false↔ ∀ p ∈ cs,p.value.length<=16384/\(p.dead=true->p.value.length=0):=by
  rw[List.any_eq_false];refine forall_congr' fun p=>forall_congr' fun hp=>?_
  unfold jN;simp only[Bool.or_eq_true,decide_eq_true_eq,Bool.and_eq_true,not_or,not_and];refine and_congr (by omega) (forall_congr' fun _=>by omega)
 unfold dm;constructor
 .intro h;split at h
  .omega
  .rename_i h1;split at h
   .omega
   .rename_i h2;split at h
    .omega
    .rename_i h3;have h1':=hK.1 (by simpa using h1);have h2':=hV.1 (by simpa using h2);exact⟨fun p hp=>⟨h1' p hp,(h2' p hp).1,(h2' p hp).2⟩,by omega⟩
 .rintro ⟨h1,h2⟩;rw[hK.2 fun p hp=>(h1 p hp).key,hV.2 fun p hp=>⟨(h1 p hp).val,(h1 p hp).dead⟩];simp only[Bool.false_eq_true,if_false];rw[if_neg (by omega)]
theorem tH {cs:List cw} (h:oe cs):(aE cs).length<=262144:=by
 have: ∀ l:List cw,(aE l).length<=(l.map jF).sum:=fun l=>by
  induction l with
  | nil=>exact Nat.le_refl _
  | cons p l ih=>
   rw[fY,List.length_append,fD,List.map_cons,List.sum_cons];have:jF p=p.key.length+p.value.length+16:=rfl;omega
 exact Nat.le_trans (this cs) h.sum
theorem iJ: ∀ cs:List cw,(dt cs).Sublist cs
 | []=>List.Sublist.refl _
 | p::cs=>by
  unfold dt;split
  .exact(iJ cs).cons _
  .exact(iJ cs).cons_cons _
theorem Cz (e:aq) (L:List aq):(jR e L).length=L.length+1:=by
 obtain⟨A,B,h1,h2,_⟩:=lM e L;rw[h2,h1,List.length_append,List.length_append,List.length_cons];omega
theorem py (n:Int): ∀ (ps:List cw) (L:List aq),(lH n ps L).length=L.length+ps.length
 | [],L=>rfl
 | p::ps,L=>by
  show (lH n ps (jR (tZ n p) L)).length=_;rw[py n ps,Cz,List.length_cons];omega
theorem Gw {e:aq} {L:List aq} (h:L.Pairwise dA) (hn: ∀ x ∈ L,¬ iL x e):(jR e L).Pairwise dA:=by
 have e0:=List.takeWhile_append_dropWhile (p:=fun x=>az x e) (l:=L);have h1:=h;rw[<-e0] at h1;obtain⟨p1,p2,p3⟩:=List.pairwise_append.1 h1;have hA: ∀ x ∈ L.takeWhile (fun x=>az x e),dA x e:=fun x hx=>gg (f:=fun x=>az x e) hx
 have hB: ∀ x ∈ L.dropWhile (fun x=>az x e),dA e x:=by
  intro x hx
  cases hd:L.dropWhile (fun x=>az x e) with
  | nil=>rw[hd] at hx;cases hx
  | cons y T=>
   have hy:az y e=false:=by
    have:=List.head_dropWhile_not (p:=fun x=>az x e) (l:=L) (by rw[hd];simp);simp only[hd,List.head_cons] at this;exact this
   have hyL:y ∈ L:=(List.dropWhile_sublist (fun x=>az x e)).mem (by rw[hd];exact List.mem_cons_self);have hey:dA e y:=by
    rcases zz y e with h2 | h2 | h2
    .have h3:az y e=true:=h2;rw[hy] at h3;cases h3
    .exact h2
    .exact absurd h2 (hn y hyL)
   rw[hd] at hx p2;rcases List.mem_cons.1 hx with rfl | hx
   .exact hey
   .exact iT hey ((List.pairwise_cons.1 p2).1 x hx)
 unfold jR;refine List.pairwise_append.2 ⟨p1,List.pairwise_cons.2 ⟨hB,p2⟩,fun a ha b hb=>?_⟩;rcases List.mem_cons.1 hb with rfl | hb
 .exact hA a ha
 .exact p3 a ha b hb
theorem yX {n:Int}: ∀ {ps:List cw} {L:List aq},(ps.Pairwise fun a b=>a.key≠b.key)->L.Pairwise dA->(∀ p ∈ ps, ∀ x ∈ L,x.key=p.key->x.seq<n)->(lH n ps L).Pairwise dA
 | [],L,_,h,_=>h
 | p::ps,L,hp,h,hl=>by
  obtain⟨h1,h2⟩:=List.pairwise_cons.1 hp;refine yX (L:=jR (tZ n p) L) h2 (Gw h fun x hx hs=>?_) fun q hq x hx hk=>?_
  .have h3:=hl p List.mem_cons_self x hx hs.1;have h4:x.seq=n:=hs.2;omega
  .rcases pC.1 hx with rfl | hx
   .exact absurd hk (h1 q hq)
   .exact hl q (List.mem_cons_of_mem _ hq) x hx hk
def fO (q:Nat) (cs:List cw) (L:List aq):List aq:=lH ((q+1:Nat):Int) (dt cs) L
theorem cD.done {L:List aq} {q t:Nat} {M:List Kv} (h:cD L q M t) {cs:List cw} (hc: ∀ p ∈ cs,ix p) (hq:q+1<=1000000000):cD (fO q cs L) (q+1) (aZ cs M) (t+cs.length):=by
 have hlt: ∀ x ∈ L,x.seq<((q+1:Nat):Int):=fun x hx=>by have:=h.top x hx;omega
 have hm: ∀ x ∈ fO q cs L,x ∈ L\/ ∃ p ∈ cs,x=tZ ((q+1:Nat):Int) p:=fun x hx=>by
  rcases l9.1 hx with h1 | ⟨p,hp,h1⟩
  .exact .inl h1
  .exact .inr ⟨p,kX hp,h1⟩
 refine⟨yX (fk cs) h.sort (fun p _ x hx _=>hlt x hx),fun x hx=>?_,fun x hx=>?_,?_,fT cs h.gR,fun k=>?_⟩
 .rcases hm x hx with h1 | ⟨p,hp,rfl⟩
  .exact h.each x h1
  .have h2:=hc p hp;exact⟨h2.key,h2.val,h2.dead,by show 0<=((q+1:Nat):Int)/\((q+1:Nat):Int)<=_;omega⟩
 .rcases hm x hx with h1 | ⟨p,hp,rfl⟩
  .have:=h.top x h1;omega
  .exact Int.le_refl _
 .unfold fO;rw[py];have h1:=h.len;have h2:=(iJ cs).length_le;omega
 .refine CL (Int.le_refl _) hlt h.gR (fun k=>?_) k;rw[<-h.tells k];exact Df (fun x hx=>by have:=h.top x hx;omega) h.top k
theorem cD.then {L:List aq} {q t:Nat} {M:List Kv} (h:cD L q M t) (cs:List cw) {s:Int} (hs:s<=q) (k:List UInt8):dU k s (fO q cs L)=dU k s L:=
 BT (by omega) (fun x hx=>by have:=h.top x hx;omega) k
def dY (ss:List Int) (L:List aq):List aq:=if 2*(cK true ss L).length+16<L.length then cK true ss L else L
theorem cD.thin {L:List aq} {q t:Nat} {M:List Kv} (h:cD L q M t) (ss:List Int):cD (cK true ss L) q M t:=by
 have hs:=fR true ss L;exact⟨nI h.sort,fun x hx=>h.each x (hs.mem hx),fun x hx=>h.top x (hs.mem hx),Nat.le_trans hs.length_le h.len,h.gR,fun k=>by rw[sV h.sort (.inr h.top),h.tells]⟩
theorem cD.tidy {L:List aq} {q t:Nat} {M:List Kv} (h:cD L q M t) (ss:List Int):cD (dY ss L) q M t:=by
 unfold dY;split
 .exact h.thin ss
 .exact h
theorem cD.kept {L:List aq} {q t:Nat} {M:List Kv} (h:cD L q M t) {ss:List Int} {s:Int} (hs:s ∈ ss) (k:List UInt8):dU k s (dY ss L)=dU k s L:=by
 unfold dY;split
 .exact sV h.sort (.inl hs)
 .rfl
def cT (L:List aq):List aq:=cK true [] L
theorem cD.ud {L:List aq} {q t:Nat} {M:List Kv} (h:cD L q M t):fB (cT L)/\(cT L).map cX=M/\(cT L).length<=t/\ ∀ x ∈ cT L,x.seq<=q:=by
 have hs:=fR true [] L;refine⟨⟨nA _ L (Nat.le_refl _) h.sort,fun e he=>⟨h.each e (hs.mem he),nb _ L (Nat.le_refl _) e he⟩⟩,?_,Nat.le_trans hs.length_le h.len,fun x hx=>h.top x (hs.mem hx)⟩;rw[<-h.view];exact BF h.sort h.top
def iD (E:List aq) (bs:List (List cw)):List Kv:=bs.foldl (fun M cs=>aZ cs M) (E.map cX)
theorem kW (E:List aq) (bs:List (List cw)) (cs:List cw):iD E (bs++[cs])=aZ cs (iD E bs):=by unfold iD;rw[List.foldl_append];rfl
section
variable {D:Dk} {S:aK} {sf:Nat->Nat} {lim n m k:Nat} {f:Fl} {p:List UInt8}
theorem yc (k:Nat) (p:List UInt8) {x:Int} (h:S.find x=some f) (hk:f.num=k):(S.grow k p).find x=some { f with aa:=f.aa++[p] }:=by
 rw[zC,qu,h];simp[hk]
theorem sE {x:Int}: ∀ (ps:List (List UInt8)) {S:aK} {D:Dk} {f:Fl},Good D S sf lim->S.find x=some f->(∀ p ∈ ps,p.length<=480)->f.aa.length+ps.length<=f.blocks->1<=D.armed->D.armed<=ps.length->
 ∃ S' D' Dv j,aK.cC x ps S D=(S',D',21)/\D'.off=true/\Good Dv (S.eT f.num (ps.take j)) sf lim/\(∀ keep torn bytes,D'.bY keep torn bytes=Dv.bY keep torn bytes)/\(∀ m,dj D m->dj D' (m+ps.length))/\D'.cells.length=D.cells.length
 | [],S,D,f,hg,hf,hp,hl,h1,ha=>by
  simp at ha;omega
 | p::ps,S,D,f,hg,hf,hp,hl,h1,ha=>by
  rw[List.length_cons] at hl ha;have h:=jw hg x p
  cases h with
  | none h1 e=>rw[hf] at h1;cases h1
  | CY f' h1 h2 e=>have:=hp p List.mem_cons_self;omega
  | full f' h1 h2 h3 e=>
   rw[hf] at h1;injection h1 with h1
   subst h1;omega
  | off f' h1 h2 h3 h4 e=>
   obtain⟨hm,_⟩:=gJ h1;have hg2:=nW hg hm (p:=p) (by omega) (by omega);rw[hf] at h1;injection h1 with h1
   subst h1;exact⟨_,_,D.wr (f.first+f.aa.length) (bz f.birth f.life p),1,by rw[fe,e];exact if_neg (by simp),uq h4,hg2,fun keep torn bytes=>oZ _ _ _ _ _ _,fun m hm=>hm.dz.mono (by rw[List.length_cons];omega),rfl⟩
  | ok f' h1 h2 h3 h4 e g=>
   rw[hf] at h1;injection h1 with h1
   subst h1;rw[e] at g;have e2:aK.cC x (p::ps) S D=aK.cC x ps (S.grow f.num p) (D.wr (f.first+f.aa.length) (bz f.birth f.life p)):=by
    rw[fe,e];exact if_pos rfl
   obtain⟨S',D',Dv,j,i1,i2,i3,i4,i5,i6⟩:=sE ps g (yc f.num p hf rfl) (fun q hq=>hp q (List.mem_cons_of_mem _ hq)) (by simp only[List.length_append,List.length_singleton];omega) (by rw[u2];omega) (by rw[u2];omega);refine⟨S',D',Dv,j+1,e2.trans i1,i2,?_,i4,fun m hm=>(i5 _ hm.wr).mono (by rw[List.length_cons];omega),i6⟩;rw[List.take_succ_cons];rw[qm] at i3;exact i3
inductive Hh (S:aK) (D:Dk) (sf:Nat->Nat) (lim:Nat) (f:Fl) (ps:List (List UInt8)) (r:aK × Dk × Int):Prop where
 | ok (D':Dk) (e:r=(S.eT f.num ps,D',0)) (g:Good D' (S.eT f.num ps) sf lim) (c: ∀ m,dj D m->dj D' (m+ps.length)) (l:D'.cells.length=D.cells.length) (a:D'.armed<=D.armed)
 | off (ha:D.armed≠0) (S':aK) (D' Dv:Dk) (j:Nat) (e:r=(S',D',21)) (o:D'.off=true) (g:Good Dv (S.eT f.num (ps.take j)) sf lim) (cr: ∀ keep torn bytes,D'.bY keep torn bytes=Dv.bY keep torn bytes) (c: ∀ m,dj D m->dj D' (m+ps.length)) (l:D'.cells.length=D.cells.length)
theorem oW (hg:Good D S sf lim) {x:Int} (hf:S.find x=some f) {ps:List (List UInt8)} (hp: ∀ p ∈ ps,p.length<=480) (hl:f.aa.length+ps.length<=f.blocks):Hh S D sf lim f ps (aK.cC x ps S D):=by
 by_cases ha:D.armed=0\/ps.length<D.armed
 .obtain⟨D',e,g,c,l,a⟩:=u0 ps hg hf hp hl ha;exact .ok D' e g c l (by omega)
 .obtain⟨S',D',Dv,j,e,o,g,cr,c,l⟩:=sE ps hg hf hp hl (by omega) (by omega);exact .off (by omega) S' D' Dv j e o g cr c l
theorem x9 (hg:Good D S sf lim) {x:Int} (hf:S.find x=some f) {b:List UInt8} (hb:b.length<=262144) (hl:f.aa.length+ba b.length<=f.blocks):Hh S D sf lim f (split b) (S.gU x b D):=by
 have h1:=iK b;have e:S.gU x b D=aK.cC x (split b) S D:=by
  unfold aK.gU;rw[hf];simp only;rw[if_neg (by omega),if_neg (by omega)]
 rw[e];exact oW hg hf (fun p hp=>pI hp) (by omega)
end
def iB (n:Nat) (lo:Bool):Nat:=if lo=true then 2 else 2+aC n+bh n
abbrev Xf:=Option (Nat × Nat × List (List UInt8))
def Br (n i:Nat) (lo:Bool):Xf->List Fl
 | none=>[]
 | some x=>[⟨i+2,iB n (!lo),aC n,x.1,x.2.1,x.2.2⟩]
def bT (slot turn n i:Nat) (lo:Bool) (a b:Nat × Nat) (IF LF:List (List UInt8)) (x:Xf):aK:=⟨slot,turn,⟨i,iB n lo,aC n,a.1,a.2,IF⟩::⟨i+1,iB n lo+aC n,bh n,b.1,b.2,LF⟩::Br n i lo x⟩
section
variable {slot turn n i:Nat} {lo:Bool} {a b:Nat × Nat} {IF LF:List (List UInt8)} {x:Xf}
theorem vU:(bT slot turn n i lo a b IF LF x).find (i:Nat)=some ⟨i,iB n lo,aC n,a.1,a.2,IF⟩:=by
 unfold aK.find bT;rw[List.find?_cons];simp
theorem s7:(bT slot turn n i lo a b IF LF x).find ((i:Int)+1)=some ⟨i+1,iB n lo+aC n,bh n,b.1,b.2,LF⟩:=by
 unfold aK.find bT;rw[List.find?_cons,List.find?_cons];have h1:(((i:Nat):Int)==(i:Int)+1)=false:=by rw[beq_eq_false_iff_ne];omega
 have h2:(((i+1:Nat):Int)==(i:Int)+1)=true:=by rw[beq_iff_eq];omega
 simp only[h1,h2]
theorem wV {y:Nat × Nat × List (List UInt8)}:(bT slot turn n i lo a b IF LF (some y)).find ((i:Int)+2)=some ⟨i+2,iB n (!lo),aC n,y.1,y.2.1,y.2.2⟩:=by
 unfold aK.find bT Br;rw[List.find?_cons,List.find?_cons,List.find?_cons];have h1:(((i:Nat):Int)==(i:Int)+2)=false:=by rw[beq_eq_false_iff_ne];omega
 have h2:(((i+1:Nat):Int)==(i:Int)+2)=false:=by rw[beq_eq_false_iff_ne];omega
 have h3:(((i+2:Nat):Int)==(i:Int)+2)=true:=by rw[beq_iff_eq];omega
 simp only[h1,h2,h3]
theorem ql (z:Int) (h1:z≠i) (h2:z≠(i:Int)+1) (h3:x.isSome=true->z≠(i:Int)+2):(bT slot turn n i lo a b IF LF x).find z=none:=by
 unfold aK.find bT;rw[List.find?_cons,List.find?_cons];have e1:(((i:Nat):Int)==z)=false:=by rw[beq_eq_false_iff_ne];omega
 have e2:(((i+1:Nat):Int)==z)=false:=by rw[beq_eq_false_iff_ne];omega
 simp only[e1,e2]
 cases x with
 | none=>rfl
 | some y=>
  have e3:(((i+2:Nat):Int)==z)=false:=by rw[beq_eq_false_iff_ne];have:=h3 rfl;omega
  unfold Br;rw[List.find?_cons];simp only[e3];rfl
theorem nV (ps:List (List UInt8)):(bT slot turn n i lo a b IF LF x).eT (i+1) ps=bT slot turn n i lo a b IF (LF++ps) x:=by
 unfold aK.eT bT
 cases x with
 | none=>simp[Br]
 | some y=>simp[Br]
theorem lD (y:Nat × Nat × List (List UInt8)) (ps:List (List UInt8)):(bT slot turn n i lo a b IF LF (some y)).eT (i+2) ps=bT slot turn n i lo a b IF LF (some (y.1,y.2.1,y.2.2++ps)):=by
 unfold aK.eT bT;simp[Br]
theorem tm (slot turn n i:Nat) (lo:Bool) (a b:Nat × Nat) (IF LF:List (List UInt8)) (x:Xf):(bT slot turn n i lo a b IF LF x).files.length<=3:=by
 unfold bT
 cases x<;>simp[Br]
theorem Cc (hi:2<=i/\i<=2147483000) (hI:1<=aC n):(bT slot turn n i lo a b IF LF none).may [⟨(i:Int)+2,0,aC n⟩] []=true:=by
 have hf:=ql (slot:=slot) (turn:=turn) (n:=n) (i:=i) (lo:=lo) (a:=a) (b:=b) (IF:=IF) (LF:=LF) (x:=none) ((i:Int)+2) (by omega) (by omega) (by simp);unfold aK.may;rw[Bool.and_eq_true];refine⟨rfl,gQ [_] [] |>.2 ⟨fun y hy=>?_,by simp⟩⟩;rw[List.mem_singleton.1 hy];exact⟨⟨by dsimp only;omega,by dsimp only;omega,by dsimp only;omega⟩,by simp,.inl (by dsimp only;rw[hf];rfl)⟩
theorem Ct (hi:2<=i/\i<=2147483000) (hI:1<=bh n):(bT slot turn n i lo a b IF LF x).may [⟨(i:Int)+3,0,bh n⟩] [(i:Int),(i:Int)+1]=true:=by
 have hf:=ql (slot:=slot) (turn:=turn) (n:=n) (i:=i) (lo:=lo) (a:=a) (b:=b) (IF:=IF) (LF:=LF) (x:=x) ((i:Int)+3) (by omega) (by omega) (fun _=>by omega);unfold aK.may;rw[Bool.and_eq_true];refine⟨fF [_,_] [] |>.2 ⟨fun z hz=>⟨?_,by simp⟩,?_⟩,gQ [_] [] |>.2 ⟨fun y hy=>?_,by simp⟩⟩
 .rcases List.mem_cons.1 hz with rfl | hz
  .rw[vU];rfl
  .rw[List.mem_singleton.1 hz,s7];rfl
 .simp;omega
 .rw[List.mem_singleton.1 hy];exact⟨⟨by dsimp only;omega,by dsimp only;omega,by dsimp only;omega⟩,by simp,.inl (by dsimp only;rw[hf];rfl)⟩
theorem DP (y:Nat × Nat × List (List UInt8)):(bT slot turn n i lo a b IF LF (some y)).may [] [(i:Int)+2]=true:=by
 unfold aK.may;rw[Bool.and_eq_true];refine⟨fF [_] [] |>.2 ⟨fun z hz=>⟨?_,by simp⟩,by simp⟩,rfl⟩;rw[List.mem_singleton.1 hz,wV];rfl
theorem Hm {p q r s:Nat} (h:p<=r):de [(p,q),(r,s)]=[(p,q),(r,s)]:=by
 unfold de;simp[tC,h]
theorem Ht {p q r s t u:Nat} (h1:p<=r) (h2:r<=t):de [(p,q),(r,s),(t,u)]=[(p,q),(r,s),(t,u)]:=by
 unfold de;simp[tC,h1,h2]
theorem FC {p q r s t u:Nat} (h1:p<=r) (h2:t<p):de [(p,q),(r,s),(t,u)]=[(t,u),(p,q),(r,s)]:=by
 unfold de;have h3:¬ r<=t:=by omega
 have h4:¬ p<=t:=by omega
 simp[tC,h1,h3,h4]
theorem BM (hfit:2+2*aC n+2*bh n<=n) (hI:1<=aC n) (hL:1<=bh n):
 dT n (turn+1) [⟨(i:Int)+2,0,aC n⟩] (bT slot turn n i lo a b IF LF none).di ((bT slot turn n i lo a b IF LF none).files.filter fun f=> !([]:List Int).contains (f.num:Int))=some (bT slot turn n i lo a b IF LF (some (turn+1,1,[]))).files:=by
 have hF:(bT slot turn n i lo a b IF LF none).files.filter (fun f=> !([]:List Int).contains (f.num:Int))=(bT slot turn n i lo a b IF LF none).files:=by
  rw[List.filter_eq_self];simp
 have hlie:(bT slot turn n i lo a b IF LF none).di=[(iB n lo,aC n),(iB n lo+aC n,bh n)]:=rfl;have hpl:aU n ((aC n:Nat):Int) 2 (de [(iB n lo,aC n),(iB n lo+aC n,bh n)])=(iB n (!lo),true):=by
  rw[Hm (by omega)]
  cases lo with
  | true=>
   show aU n _ 2 [(2,aC n),(2+aC n,bh n)]=(2+aC n+bh n,true);unfold aU;rw[if_neg (by simp only[];omega)];unfold aU;rw[if_neg (by simp only[];omega)];unfold aU;rw[decide_eq_true (by simp only[];omega)]
  | false=>
   show aU n _ 2 [(2+aC n+bh n,aC n),(2+aC n+bh n+aC n,bh n)]=(2,true);unfold aU;rw[if_pos (by simp only[];omega)]
 rw[hF,hlie,km hpl];unfold dT;show some ((bT slot turn n i lo a b IF LF none).files++_)=_;have e:((i:Int)+2).toNat=i+2:=by omega
 simp only[e,Int.toNat_natCast];rfl
theorem CB (hfit:2+2*aC n+2*bh n<=n) (hI:1<=aC n) (hL:1<=bh n) (y:Nat × Nat × List (List UInt8)):
 dT n (turn+1) [⟨(i:Int)+3,0,bh n⟩] (bT slot turn n i lo a b IF LF (some y)).di ((bT slot turn n i lo a b IF LF (some y)).files.filter fun f=> !([(i:Int),(i:Int)+1]:List Int).contains (f.num:Int))=some (bT slot turn n (i+2) (!lo) (y.1,y.2.1) (turn+1,1) y.2.2 [] none).files:=by
 have hF:(bT slot turn n i lo a b IF LF (some y)).files.filter (fun f=> !([(i:Int),(i:Int)+1]:List Int).contains (f.num:Int))=[⟨i+2,iB n (!lo),aC n,y.1,y.2.1,y.2.2⟩]:=by
  unfold bT Br;have h1:([(i:Int),(i:Int)+1]:List Int).contains ((i:Nat):Int)=true:=by simp
  have h2:([(i:Int),(i:Int)+1]:List Int).contains ((i+1:Nat):Int)=true:=by simp
  have h3:([(i:Int),(i:Int)+1]:List Int).contains ((i+2:Nat):Int)=false:=by
   rw[Bool.eq_false_iff];intro h;rw[List.contains_iff_mem] at h;rcases List.mem_cons.1 h with h | h
   .omega
   .have:=List.mem_singleton.1 h;omega
  rw[List.filter_cons,List.filter_cons,List.filter_cons];simp only[h1,h2,h3];rfl
 have hlie:(bT slot turn n i lo a b IF LF (some y)).di=[(iB n lo,aC n),(iB n lo+aC n,bh n),(iB n (!lo),aC n)]:=rfl;have hpl:aU n ((bh n:Nat):Int) 2 (de [(iB n lo,aC n),(iB n lo+aC n,bh n),(iB n (!lo),aC n)])=(iB n (!lo)+aC n,true):=by
  cases lo with
  | true=>
   show aU n _ 2 (de [(2,aC n),(2+aC n,bh n),(2+aC n+bh n,aC n)])=(2+aC n+bh n+aC n,true);rw[Ht (by omega) (by omega)];unfold aU;rw[if_neg (by simp only[];omega)];unfold aU;rw[if_neg (by simp only[];omega)];unfold aU;rw[if_neg (by simp only[];omega)];unfold aU;rw[decide_eq_true (by simp only[];omega)]
  | false=>
   show aU n _ 2 (de [(2+aC n+bh n,aC n),(2+aC n+bh n+aC n,bh n),(2,aC n)])=(2+aC n,true);rw[FC (by omega) (by omega)];unfold aU;rw[if_neg (by simp only[];omega)];unfold aU;rw[if_pos (by simp only[];omega)]
 rw[hF,hlie,km hpl];unfold dT;have e:((i:Int)+3).toNat=i+3:=by omega
 simp only[e,Int.toNat_natCast];rfl
theorem DF (y:Nat × Nat × List (List UInt8)):
 dT n (turn+1) [] (bT slot turn n i lo a b IF LF (some y)).di ((bT slot turn n i lo a b IF LF (some y)).files.filter fun f=> !([(i:Int)+2]:List Int).contains (f.num:Int))=some (bT slot turn n i lo a b IF LF none).files:=by
 unfold dT;congr 1
 unfold bT Br;have h1:([(i:Int)+2]:List Int).contains ((i:Nat):Int)=false:=by
  rw[Bool.eq_false_iff];intro h;rw[List.contains_iff_mem] at h;have:=List.mem_singleton.1 h;omega
 have h2:([(i:Int)+2]:List Int).contains ((i+1:Nat):Int)=false:=by
  rw[Bool.eq_false_iff];intro h;rw[List.contains_iff_mem] at h;have:=List.mem_singleton.1 h;omega
 have h3:([(i:Int)+2]:List Int).contains ((i+2:Nat):Int)=true:=by simp
 rw[List.filter_cons,List.filter_cons,List.filter_cons];simp only[h1,h2,h3];rfl
theorem Cs {f g:Fl} (h:f.num<=g.num):dS [f,g]=[f,g]:=by
 unfold dS;simp[wC,h]
theorem Iw {f g k:Fl} (h:f.num<=g.num) (h2:g.num<=k.num):dS [f,g,k]=[f,g,k]:=by
 unfold dS;simp[wC,h,h2]
theorem sR:dS (bT slot turn n i lo a b IF LF x).files=(bT slot turn n i lo a b IF LF x).files:=by
 cases x with
 | none=>exact Cs (Nat.le_succ i)
 | some y=>exact Iw (Nat.le_succ i) (Nat.le_succ (i+1))
end
structure oK (n t q:Nat) (E:List aq) (bs:List (List cw)):Prop where
 ud:fB E
 bats: ∀ cs ∈ bs,oe cs
 bO:E.length+(bs.map List.length).sum<=t
 siz:cF (iD E bs)+400<=aC n*480
 seqs: ∀ x ∈ E,x.seq+bs.length<=q
 bl:bs.length<=q
theorem oK.mono {n t q t' q':Nat} {E:List aq} {bs:List (List cw)} (h:oK n t q E bs) (ht:t<=t') (hq:q<=q'):oK n t' q' E bs:=
 ⟨h.ud,h.bats,Nat.le_trans h.bO ht,h.siz,fun x hx=>by have:=h.seqs x hx;omega,Nat.le_trans h.bl hq⟩
theorem oK.aa {n t q:Nat} {E:List aq} {bs:List (List cw)} (h:cF (E.map cX)+400<=aC n*480) (hi:fB E):(aj (ae E)).length<=aC n:=by
 have h1:=uF E fun e he=>⟨(hi.each e he).1.key.2,(hi.each e he).1.val⟩
 rw[qe];omega
structure iF (n:Nat) (D:Dk) (slot turn:Nat) (lo:Bool) (a b:Nat × Nat) (LF:List (List UInt8)) (y:Xf) (sf:Nat->Nat) (lim i:Nat) (E:List aq) (bs:List (List cw)) (safe:Nat):Prop where
 good:Good D (bT slot turn n i lo a b (aj (ae E)) LF y) sf lim
 len:D.cells.length=n
 big:64<=n
 num:2<=i/\i % 2=0
 tel:tS LF (bs.map aE)
 cra:qJ LF (bs.map aE) safe (sf (i+1))
 safeI:(aj (ae E)).length<=sf i
 safe:safe<=bs.length
def EW (n:Nat) (D:Dk) (S:aK) (sf:Nat->Nat) (lim i:Nat) (E:List aq) (bs:List (List cw)) (safe:Nat) (x:Bool):Prop:=
 ∃ slot turn lo a b LF y,S=bT slot turn n i lo a b (aj (ae E)) LF y/\y.isSome=x/\iF n D slot turn lo a b LF y sf lim i E bs safe
section
variable {n:Nat} {D D':Dk} {slot turn:Nat} {lo:Bool} {a b:Nat × Nat} {LF:List (List UInt8)} {y:Xf} {sf:Nat->Nat} {lim i:Nat} {E E':List aq} {bs:List (List cw)} {safe:Nat} {S:aK} {cs:List cw} {x:Bool}
theorem iF.Fm (h:iF n D slot turn lo a b LF y sf lim i E bs safe):EW n D (bT slot turn n i lo a b (aj (ae E)) LF y) sf lim i E bs safe y.isSome:=⟨slot,turn,lo,a,b,LF,y,rfl,rfl,h⟩
theorem iF.aF (h:iF n D slot turn lo a b LF y sf lim i E bs safe):n<=65536:=by have:=h.good.fils.aF;rw[h.len] at this;exact this
theorem iF.fit (h:iF n D slot turn lo a b LF y sf lim i E bs safe):2+2*aC n+2*bh n<=n/\1<=bh n/\1<=aC n:=by
 have h1:=kU h.big;have h2:=jB h.aF;omega
theorem iF.Je (h:iF n D slot turn lo a b LF y sf lim i E bs safe) {l:Nat} (h1:lim<=l) (h2:l<=1000000000):iF n D slot turn lo a b LF y sf l i E bs safe:=
 ⟨mB h.good h1 h2,h.len,h.big,h.num,h.tel,h.cra,h.safeI,h.safe⟩
theorem dM:dh (bT slot turn n i lo a b (aj (ae E)) LF y).files i=(aj (ae E)).length:=by
 unfold dh bT;simp
theorem eY {IF:List (List UInt8)}:dh (bT slot turn n i lo a b IF LF y).files (i+1)=LF.length:=by
 unfold dh bT;rw[List.find?_cons,List.find?_cons];have h1:(i==i+1)=false:=by rw[beq_eq_false_iff_ne];omega
 have h2:(i+1==i+1)=true:=by simp
 simp only[h1,h2]
theorem vJ {IF:List (List UInt8)} {z:Nat × Nat × List (List UInt8)}:dh (bT slot turn n i lo a b IF LF (some z)).files (i+2)=z.2.2.length:=by
 unfold dh bT Br;rw[List.find?_cons,List.find?_cons,List.find?_cons];have h1:(i==i+2)=false:=by rw[beq_eq_false_iff_ne];omega
 have h2:(i+1==i+2)=false:=by rw[beq_eq_false_iff_ne];omega
 have h3:(i+2==i+2)=true:=by simp
 simp only[h1,h2,h3]
theorem wP {IF:List (List UInt8)} {gs:List Fl} (h:fC sf (bT slot turn n i lo a b IF LF y).files gs): ∃ a' b' m m' y',gs=(bT slot turn n i lo a' b' (IF.take m) (LF.take m') y').files/\sf i<=m/\m<=IF.length/\sf (i+1)<=m'/\m'<=LF.length/\y'.isSome=y.isSome:=by
 cases y with
 | none=>
  match gs,h with
  | [f',g'],⟨⟨a1,a2,a3,a4,m,a5,a6,a7⟩,⟨b1,b2,b3,b4,m',b5,b6,b7⟩,_⟩=>
   obtain⟨fn,ff,fb,fi,fl,fr⟩:=f';obtain⟨gn,gf,gb,gi,gl,gr⟩:=g';simp only at a1 a2 a3 a4 a7 b1 b2 b3 b4 b7;subst a1;subst a2;subst a3;subst a4;subst a7;subst b1;subst b2;subst b3;subst b4;subst b7;exact⟨(a.1,fl),(b.1,gl),m,m',none,rfl,a5,a6,b5,b6,rfl⟩
 | some z=>
  match gs,h with
  | [f',g',k'],⟨⟨a1,a2,a3,a4,m,a5,a6,a7⟩,⟨b1,b2,b3,b4,m',b5,b6,b7⟩,⟨c1,c2,c3,c4,m2,c5,c6,c7⟩,_⟩=>
   obtain⟨fn,ff,fb,fi,fl,fr⟩:=f';obtain⟨gn,gf,gb,gi,gl,gr⟩:=g';obtain⟨kn,kf,kb,ki,kl,kr⟩:=k';simp only at a1 a2 a3 a4 a7 b1 b2 b3 b4 b7 c1 c2 c3 c4 c7;subst a1;subst a2;subst a3;subst a4;subst a7;subst b1;subst b2;subst b3;subst b4;subst b7;subst c1;subst c2;subst c3;subst c4;subst c7;exact⟨(a.1,fl),(b.1,gl),m,m',some (z.1,kl,z.2.2.take m2),rfl,a5,a6,b5,b6,rfl⟩
theorem fy {V:Dk} {sl tu:Nat} {fs':List Fl} {l:Nat} (hlen:V.cells.length=n) (hbig:64<=n) (hnum:2<=i/\i % 2=0) (cra:qJ LF (bs.map aE) safe (sf (i+1))) (safeI:(aj (ae E)).length<=sf i)
 (hf:fC sf (bT sl tu n i lo a b (aj (ae E)) LF y).files fs') (hg:Good V ⟨sl,tu,fs'⟩ (dh fs') l):
 ∃ m,safe<=m/\m<=bs.length/\ ∃ sf',EW n V ⟨sl,tu,fs'⟩ sf' l i E (bs.take m) m y.isSome:=by
 obtain⟨a',b',m,m',y',rfl,h1,h2,h3,h4,h5⟩:=wP hf;have hm:(aj (ae E)).take m=aj (ae E):=List.take_of_length_le (by omega);rw[hm] at hg ⊢;obtain⟨r,r1,r2,r3⟩:=cra m' h3 h4;rw[List.length_map] at r2;rw[<-List.map_take] at r3;have hl:(bs.take r).length=r:=by rw[List.length_take];omega
 refine⟨r,r1,r2,_,sl,tu,lo,a',b',LF.take m',y',rfl,h5,hg,hlen,hbig,hnum,r3,?_,?_,by rw[hl];exact Nat.le_refl _⟩
 .have h6:=qJ.all r3;rw[List.length_map,hl] at h6;rw[eY (IF:=aj (ae E))];exact h6
 .rw[dM];exact Nat.le_refl _
theorem iF.again (h:iF n D slot turn lo a b LF y sf lim i E bs safe) (hlim:lim+1<=1000000000):
 ∃ S',cG D=(some S',0)/\EW n D S' sf (lim+1) i E bs safe y.isSome:=by
 obtain⟨gs,e1,e2,e3⟩:=nF h.good hlim;obtain⟨a',b',m,m',y',rfl,h1,h2,h3,h4,h5⟩:=wP e2;rw[dM] at h1;rw[eY (IF:=aj (ae E))] at h3;have hm:(aj (ae E)).take m=aj (ae E):=List.take_of_length_le (by omega);have hm':LF.take m'=LF:=List.take_of_length_le (by omega);rw[hm,hm'] at e1 e3;exact⟨_,e1,slot,turn,lo,a',b',LF,y',rfl,h5,e3,h.len,h.big,h.num,h.tel,h.cra,h.safeI,h.safe⟩
theorem iF.sync (h:iF n D slot turn lo a b LF y sf lim i E bs safe):D.flush.2=0/\iF n D.flush.1 slot turn lo a b LF y (dh (bT slot turn n i lo a b (aj (ae E)) LF y).files) lim i E bs bs.length:=by
 have ho:=h.good.fils.off;refine⟨by rw[df D ho],pf h.good,(eb h.good.fils.wf ho).len.trans h.len,h.big,h.num,h.tel,?_,?_,Nat.le_refl _⟩
 .have h6:=qJ.all h.tel;rw[List.length_map] at h6;rw[eY (IF:=aj (ae E))];exact h6
 .rw[dM];exact Nat.le_refl _
def gq (n:Nat) (D:Dk) (lim i:Nat) (E:List aq) (bs:List (List cw)) (safe:Nat):Prop:= ∀ keep torn bytes,
 ∃ S',cG (D.bY keep torn bytes)=(some S',0)/\ ∃ m,safe<=m/\m<=bs.length/\ ∃ sf' x,EW n (D.bY keep torn bytes) S' sf' lim i E (bs.take m) m x
inductive Ki (n:Nat) (D:Dk) (slot turn:Nat) (lo:Bool) (a b:Nat × Nat) (LF:List (List UInt8)) (sf:Nat->Nat) (lim i:Nat) (E:List aq) (bs:List (List cw)) (safe:Nat) (cs:List cw) (r:aK × Dk × Int):Prop where
 | no (h:bh n<LF.length+ba (aE cs).length) (e:r=(bT slot turn n i lo a b (aj (ae E)) LF none,D,41))
 | ok (D':Dk) (e:r=(bT slot turn n i lo a b (aj (ae E)) (LF++split (aE cs)) none,D',0)) (h:iF n D' slot turn lo a b (LF++split (aE cs)) none sf lim i E (bs++[cs]) safe) (c: ∀ m,dj D m->dj D' (m+548)) (r:D'.armed<=D.armed)
 | off (ha:D.armed≠0) (S':aK) (D':Dk) (e:r=(S',D',21)) (o:D'.off=true) (h:gq n D' (lim+1) i E (bs++[cs]) safe) (c: ∀ m,dj D m->dj D' (m+548)) (l:D'.cells.length=n)
theorem iF.put (h:iF n D slot turn lo a b LF none sf lim i E bs safe) (hlim:lim+1<=1000000000) (hc:oe cs):Ki n D slot turn lo a b LF sf lim i E bs safe cs ((bT slot turn n i lo a b (aj (ae E)) LF none).gU ((i:Int)+1) (aE cs) D):=by
 have hb:=tH hc;have hsp:=iK (aE cs);have hnd:=o9 (aE cs).length;by_cases hr:bh n<LF.length+ba (aE cs).length
 .exact .no hr (Gd s7 hb hr)
 .have hmp:(bs++[cs]).map aE=bs.map aE++[aE cs]:=by simp
  have hcr:qJ (LF++split (aE cs)) ((bs++[cs]).map aE) safe (sf (i+1)):=by
   rw[hmp];exact h.cra.put h.tel (by rw[List.length_map];exact h.safe) hb
  have hs:safe<=(bs++[cs]).length:=by rw[List.length_append];have:=h.safe;omega
  have ha:=x9 (b:=aE cs) h.good s7 hb (show LF.length+ba (aE cs).length<=bh n by omega)
  cases ha with
  | ok D' e g c l r=>
   have e2:=nV (slot:=slot) (turn:=turn) (n:=n) (i:=i) (lo:=lo) (a:=a) (b:=b) (IF:=aj (ae E)) (LF:=LF) (x:=none) (split (aE cs));simp only at e g;rw[e2] at e g;refine .ok D' e ⟨g,l.trans h.len,h.big,h.num,?_,hcr,h.safeI,hs⟩ (fun m hm=>(c m hm).mono (by omega)) r;rw[hmp];exact h.tel.put hb
  | off ha S' D' Dv j e o g cr c l=>
   have e2:=nV (slot:=slot) (turn:=turn) (n:=n) (i:=i) (lo:=lo) (a:=a) (b:=b) (IF:=aj (ae E)) (LF:=LF) (x:=none) ((split (aE cs)).take j);simp only at g;rw[e2] at g;refine .off ha S' D' e o (fun keep torn bytes=>?_) (fun m hm=>(c m hm).mono (by omega)) (l.trans h.len);obtain⟨gs,f1,f2,f3⟩:=oq g hlim (lJ (keep:=keep) (torn:=torn) (bytes:=bytes) g.fils.wf);obtain⟨m,m1,m2,sf',m3⟩:=fy (bs:=bs++[cs]) (safe:=safe) (by rw[<-cr,et,l];exact h.len) h.big h.num (qJ.sub (j:=j) hcr) h.safeI f2 f3;exact⟨_,by rw[cr];exact f1,m,m1,m2,sf',_,by rw[cr];exact m3⟩
end
section
variable {D:Dk} {S:aK} {sf:Nat->Nat} {lim:Nat} {add:List Fi} {drop:List Int} {fs:List Fl}
inductive Ku (S:aK) (D:Dk) (sf:Nat->Nat) (lim:Nat) (add:List Fi) (fs:List Fl) (r:aK × Dk × Int):Prop where
 | ok (D':Dk) (e:r=(⟨1 - S.slot,S.turn+1,fs⟩,D',0)) (g:Good D' ⟨1 - S.slot,S.turn+1,fs⟩ (dh fs) (lim+1)) (c: ∀ m,dj D m->dj D' (m+1)) (l:D'.cells.length=D.cells.length) (a:D'.armed<=D.armed)
 | off (ha:D.armed≠0) (D':Dk) (e:r=(S,D',21)) (o:D'.off=true) (c: ∀ m,dj D m->dj D' (m+1)) (l:D'.cells.length=D.cells.length)
  (f: ∀ keep torn bytes,(∃ fs',cG (D'.bY keep torn bytes)=(some ⟨S.slot,S.turn,fs'⟩,0)/\fC sf S.files fs'/\Good (D'.bY keep torn bytes) ⟨S.slot,S.turn,fs'⟩ (dh fs') (lim+1))\/
   (∃ fs',cG (D'.bY keep torn bytes)=(some ⟨1 - S.slot,S.turn+1,fs'⟩,0)/\fC (fun num=>if (num:Int) ∈ add.map (·.num) then 0 else sf num) fs fs'/\Good (D'.bY keep torn bytes) ⟨1 - S.slot,S.turn+1,fs'⟩ (dh fs') (lim+2)))
theorem px (hg:Good D S sf lim) (hlim:lim+2<=1000000000) (hm:S.may add drop=true) (hc:(S.files.length:Int)+add.length - drop.length<=24)
 (hx:dT D.cells.length (S.turn+1) add S.di (S.files.filter fun f=> !drop.contains (f.num:Int))=some fs) (hs:dS fs=fs):Ku S D sf lim add fs (S.switch add drop D):=by
 have h:=th hg (by omega) add drop
 cases h with
 | no h1 e=>rw[hm] at h1;cases h1
 | many h1 h2 e=>omega
 | full h1 h2 h3 e=>rw[hx] at h3;cases h3
 | off fs' h1 h2 h3 h4 hn e=>
  rw[hx] at h3;injection h3 with h3
  subst h3;rw[hs] at hn e;refine .off (by omega) _ e (uq h4) (fun m hm=>hm.dz) rfl fun keep torn bytes=>?_
  have hcm:ub (D.wr (1 - S.slot) (bM (S.turn+1) (fs.map Fl.hd))) ((D.dz (1 - S.slot) (bM (S.turn+1) (fs.map Fl.hd))).bY keep torn bytes):=by
   rw[oZ];exact lJ (ux hg.fils.wf (by have:=hg.fils.two;omega) (fo (by rw[List.length_map];exact hn.ok.count)))
  exact x6 hg hn hlim hcm
 | ok fs' h1 h2 h3 h4 hn e g=>
  rw[hx] at h3;injection h3 with h3
  subst h3;rw[hs] at hn e g;rw[e] at g;have hl:(bM (S.turn+1) (fs.map Fl.hd)).length=512:=fo (by rw[List.length_map];exact hn.ok.count);have hwf:xx (D.wr (1 - S.slot) (bM (S.turn+1) (fs.map Fl.hd))):=ux hg.fils.wf (by have:=hg.fils.two;omega) hl;exact .ok _ e g (fun n hn=>hn.wr.flush rfl) (eb hwf rfl).len (by rw[eo rfl];exact Nat.sub_le _ _)
end
section
variable {n:Nat} {D D':Dk} {slot turn:Nat} {lo:Bool} {a b:Nat × Nat} {LF:List (List UInt8)} {y:Xf} {sf:Nat->Nat} {lim i:Nat} {E E':List aq} {bs:List (List cw)} {safe:Nat} {S:aK} {cs:List cw} {x:Bool}
theorem gq.up {l l':Nat} (h:gq n D l i E bs safe) (h1:l<=l') (h2:l'<=1000000000):gq n D l' i E bs safe:=fun keep torn bytes=>by
 obtain⟨S',e,m,m1,m2,sf',x,slot,turn,lo,a,b,LF,y,e1,e2,e3⟩:=h keep torn bytes;exact⟨S',e,m,m1,m2,sf',x,slot,turn,lo,a,b,LF,y,e1,e2,e3.Je h1 h2⟩
inductive JU (n:Nat) (D:Dk) (slot turn:Nat) (lo:Bool) (a b:Nat × Nat) (LF:List (List UInt8)) (lim i:Nat) (E:List aq) (bs:List (List cw)) (r:aK × Dk × Int):Prop where
 | ok (D':Dk) (sf':Nat->Nat) (e:r=(bT (1 - slot) (turn+1) n i lo a b (aj (ae E)) LF (some (turn+1,1,[])),D',0)) (h:iF n D' (1 - slot) (turn+1) lo a b LF (some (turn+1,1,[])) sf' (lim+1) i E bs bs.length) (c: ∀ m,dj D m->dj D' (m+1)) (r:D'.armed<=D.armed)
 | off (ha:D.armed≠0) (S':aK) (D':Dk) (e:r=(S',D',21)) (o:D'.off=true) (h:gq n D' (lim+2) i E bs bs.length) (c: ∀ m,dj D m->dj D' (m+1)) (l:D'.cells.length=n)
theorem iF.Kz (h:iF n D slot turn lo a b LF none sf lim i E bs bs.length) (hlim:lim+2<=1000000000) (hi:i<=2147483000):
 JU n D slot turn lo a b LF lim i E bs ((bT slot turn n i lo a b (aj (ae E)) LF none).switch [⟨(i:Int)+2,0,aC n⟩] [] D):=by
 obtain⟨f1,f2,f3⟩:=h.fit;have hsw:=px (add:=[⟨(i:Int)+2,0,aC n⟩]) (drop:=[]) h.good hlim (Cc ⟨h.num.1,hi⟩ f3) (by have:=tm slot turn n i lo a b (aj (ae E)) LF none;show ((bT slot turn n i lo a b (aj (ae E)) LF none).files.length:Int)+1 - 0<=24;omega) (by rw[h.len];exact BM f1 f3 f2) sR
 cases hsw with
 | ok D' e g c l ar=>
  have e':(bT slot turn n i lo a b (aj (ae E)) LF none).switch [⟨(i:Int)+2,0,aC n⟩] [] D=(bT (1 - slot) (turn+1) n i lo a b (aj (ae E)) LF (some (turn+1,1,[])),D',0):=e;have g':Good D' (bT (1 - slot) (turn+1) n i lo a b (aj (ae E)) LF (some (turn+1,1,[]))) (dh (bT (1 - slot) (turn+1) n i lo a b (aj (ae E)) LF (some (turn+1,1,[]))).files) (lim+1):=g;have h6:=qJ.all h.tel;rw[List.length_map] at h6;refine .ok D' _ e' ⟨g',l.trans h.len,h.big,h.num,h.tel,?_,?_,Nat.le_refl _⟩ c ar
  .rw[eY (IF:=aj (ae E))];exact h6
  .rw[dM];exact Nat.le_refl _
 | off ha D' e o c l f=>
  refine .off ha _ D' e o (fun keep torn bytes=>?_) c (l.trans h.len);have hcl:(D'.bY keep torn bytes).cells.length=n:=by rw[et,l];exact h.len
  rcases f keep torn bytes with ⟨fs',o1,o2,o3⟩ | ⟨fs',o1,o2,o3⟩
  .obtain⟨m,m1,m2,sf',m3⟩:=fy hcl h.big h.num h.cra h.safeI o2 (mB o3 (by omega) (by omega:lim+2<=1000000000));exact⟨_,o1,m,m1,m2,sf',_,m3⟩
  .have o2':fC (fun num=>if ((num:Nat):Int) ∈ [(i:Int)+2] then 0 else sf num) (bT (1 - slot) (turn+1) n i lo a b (aj (ae E)) LF (some (turn+1,1,[]))).files fs':=o2;obtain⟨m,m1,m2,sf',m3⟩:=fy (sl:=1 - slot) (tu:=turn+1) (y:=some (turn+1,1,[])) hcl h.big h.num (by
    show qJ LF _ _ (if ((i+1:Nat):Int) ∈ [(i:Int)+2] then 0 else sf (i+1));rw[if_neg (by intro h;have:=List.mem_singleton.1 h;omega)];exact h.cra) (by
    show _<=(if ((i:Nat):Int) ∈ [(i:Int)+2] then 0 else sf i);rw[if_neg (by intro h;have:=List.mem_singleton.1 h;omega)];exact h.safeI) o2' o3
   exact⟨_,o1,m,m1,m2,sf',_,m3⟩
inductive I5 (n:Nat) (D:Dk) (slot turn:Nat) (lo:Bool) (a b:Nat × Nat) (LF:List (List UInt8)) (u v:Nat) (lim i:Nat) (E:List aq) (bs:List (List cw)) (ps:List (List UInt8)) (r:aK × Dk × Int):Prop where
 | ok (D':Dk) (sf':Nat->Nat) (e:r=(bT slot turn n i lo a b (aj (ae E)) LF (some (u,v,ps)),D',0)) (h:iF n D' slot turn lo a b LF (some (u,v,ps)) sf' lim i E bs bs.length) (c: ∀ m,dj D m->dj D' (m+ps.length)) (r:D'.armed<=D.armed)
 | off (ha:D.armed≠0) (S':aK) (D':Dk) (e:r=(S',D',21)) (o:D'.off=true) (h:gq n D' (lim+1) i E bs bs.length) (c: ∀ m,dj D m->dj D' (m+ps.length)) (l:D'.cells.length=n)
theorem iF.fill {u v:Nat} (h:iF n D slot turn lo a b LF (some (u,v,[])) sf lim i E bs bs.length) (hlim:lim+1<=1000000000) {ps:List (List UInt8)} (hp: ∀ p ∈ ps,p.length<=480) (hl:ps.length<=aC n):
 I5 n D slot turn lo a b LF u v lim i E bs ps (aK.cC ((i:Int)+2) ps (bT slot turn n i lo a b (aj (ae E)) LF (some (u,v,[]))) D):=by
 have ha:=oW h.good wV hp (show 0+ps.length<=aC n by omega)
 cases ha with
 | ok D' e g c l r=>
  simp only at e g;rw[lD (u,v,[]) ps] at e g;exact .ok D' sf e ⟨g,l.trans h.len,h.big,h.num,h.tel,h.cra,h.safeI,h.safe⟩ c r
 | off ha S' D' Dv j e o g cr c l=>
  simp only at g;rw[lD (u,v,[]) (ps.take j)] at g;refine .off ha S' D' e o (fun keep torn bytes=>?_) c (l.trans h.len);obtain⟨gs,f1,f2,f3⟩:=oq g hlim (lJ (keep:=keep) (torn:=torn) (bytes:=bytes) g.fils.wf);obtain⟨m,m1,m2,sf',m3⟩:=fy (by rw[<-cr,et,l];exact h.len) h.big h.num h.cra h.safeI f2 f3;exact⟨_,by rw[cr];exact f1,m,m1,m2,sf',_,by rw[cr];exact m3⟩
inductive JV (n:Nat) (D:Dk) (slot turn:Nat) (lo:Bool) (a b:Nat × Nat) (LF:List (List UInt8)) (u v:Nat) (lim i:Nat) (E E':List aq) (bs:List (List cw)) (r:aK × Dk × Int):Prop where
 | ok (D':Dk) (sf':Nat->Nat) (e:r=(bT (1 - slot) (turn+1) n (i+2) (!lo) (u,v) (turn+1,1) (aj (ae E')) [] none,D',0)) (h:iF n D' (1 - slot) (turn+1) (!lo) (u,v) (turn+1,1) [] none sf' (lim+1) (i+2) E' [] 0) (c: ∀ m,dj D m->dj D' (m+1)) (r:D'.armed<=D.armed)
 | off (ha:D.armed≠0) (S':aK) (D':Dk) (e:r=(S',D',21)) (o:D'.off=true) (h: ∀ keep torn bytes, ∃ S',cG (D'.bY keep torn bytes)=(some S',0)/\ ∃ sf',((∃ x,EW n (D'.bY keep torn bytes) S' sf' (lim+2) i E bs bs.length x)\/EW n (D'.bY keep torn bytes) S' sf' (lim+2) (i+2) E' [] 0 false)) (c: ∀ m,dj D m->dj D' (m+1)) (l:D'.cells.length=n)
theorem iF.Kx {u v:Nat} (h:iF n D slot turn lo a b LF (some (u,v,aj (ae E'))) sf lim i E bs bs.length) (hsf:(aj (ae E')).length<=sf (i+2)) (hlim:lim+2<=1000000000) (hi:i<=2147483000):
 JV n D slot turn lo a b LF u v lim i E E' bs ((bT slot turn n i lo a b (aj (ae E)) LF (some (u,v,aj (ae E')))).switch [⟨(i:Int)+3,0,bh n⟩] [(i:Int),(i:Int)+1] D):=by
 obtain⟨f1,f2,f3⟩:=h.fit;have hsw:=px (add:=[⟨(i:Int)+3,0,bh n⟩]) (drop:=[(i:Int),(i:Int)+1]) h.good hlim (Ct ⟨h.num.1,hi⟩ f2) (by have:=tm slot turn n i lo a b (aj (ae E)) LF (some (u,v,aj (ae E')));simp only[List.length_cons,List.length_nil];omega) (by rw[h.len];exact CB f1 f3 f2 _) sR
 cases hsw with
 | ok D' e g c l ar=>
  have e':(bT slot turn n i lo a b (aj (ae E)) LF (some (u,v,aj (ae E')))).switch [⟨(i:Int)+3,0,bh n⟩] [(i:Int),(i:Int)+1] D=(bT (1 - slot) (turn+1) n (i+2) (!lo) (u,v) (turn+1,1) (aj (ae E')) [] none,D',0):=e;have g':Good D' (bT (1 - slot) (turn+1) n (i+2) (!lo) (u,v) (turn+1,1) (aj (ae E')) [] none) (dh (bT (1 - slot) (turn+1) n (i+2) (!lo) (u,v) (turn+1,1) (aj (ae E')) [] none).files) (lim+1):=g;have h6:=qJ.all tS.nil;refine .ok D' _ e' ⟨g',l.trans h.len,h.big,by have:=h.num;omega,tS.nil,?_,?_,Nat.le_refl _⟩ c ar
  .rw[eY (IF:=aj (ae E'))];exact h6
  .rw[dM];exact Nat.le_refl _
 | off ha D' e o c l f=>
  refine .off ha _ D' e o (fun keep torn bytes=>?_) c (l.trans h.len);have hcl:(D'.bY keep torn bytes).cells.length=n:=by rw[et,l];exact h.len
  rcases f keep torn bytes with ⟨fs',o1,o2,o3⟩ | ⟨fs',o1,o2,o3⟩
  .obtain⟨m,m1,m2,sf',m3⟩:=fy hcl h.big h.num h.cra h.safeI o2 (mB o3 (by omega) (by omega:lim+2<=1000000000));have hm:m=bs.length:=by omega
   subst hm;rw[List.take_length] at m3;exact⟨_,o1,sf',.inl ⟨_,m3⟩⟩
  .have o2':fC (fun num=>if ((num:Nat):Int) ∈ [(i:Int)+3] then 0 else sf num) (bT (1 - slot) (turn+1) n (i+2) (!lo) (u,v) (turn+1,1) (aj (ae E')) [] none).files fs':=o2;obtain⟨m,m1,m2,sf',m3⟩:=fy (sl:=1 - slot) (tu:=turn+1) (bs:=[]) (safe:=0) hcl h.big (by have:=h.num;omega) (by
    show qJ [] _ _ (if ((i+2+1:Nat):Int) ∈ [(i:Int)+3] then 0 else sf (i+2+1));rw[if_pos (by rw[List.mem_singleton];omega)];exact qJ.all tS.nil) (by
    show _<=(if ((i+2:Nat):Int) ∈ [(i:Int)+3] then 0 else sf (i+2));rw[if_neg (by intro h;have:=List.mem_singleton.1 h;omega)];exact hsf) o2' o3
   have hm:m=0:=by simpa using m2
   subst hm;exact⟨_,o1,sf',.inr m3⟩
theorem Jt {q:Nat} (h:q<=3):(q:Int)+(([]:List Fi).length:Nat) - ((1:Nat):Int)<=24:=by
 rw[List.length_nil];omega
inductive Js (n:Nat) (D:Dk) (slot turn:Nat) (lo:Bool) (a b:Nat × Nat) (LF:List (List UInt8)) (lim i:Nat) (E:List aq) (bs:List (List cw)) (r:aK × Dk × Int):Prop where
 | ok (D':Dk) (sf':Nat->Nat) (e:r=(bT (1 - slot) (turn+1) n i lo a b (aj (ae E)) LF none,D',0)) (h:iF n D' (1 - slot) (turn+1) lo a b LF none sf' (lim+1) i E bs bs.length) (c: ∀ m,dj D m->dj D' (m+1)) (r:D'.armed<=D.armed)
 | off (ha:D.armed≠0) (S':aK) (D':Dk) (e:r=(S',D',21)) (o:D'.off=true) (h:gq n D' (lim+2) i E bs bs.length) (c: ∀ m,dj D m->dj D' (m+1)) (l:D'.cells.length=n)
theorem iF.back {z:Nat × Nat × List (List UInt8)} (h:iF n D slot turn lo a b LF (some z) sf lim i E bs bs.length) (hlim:lim+2<=1000000000):
 Js n D slot turn lo a b LF lim i E bs ((bT slot turn n i lo a b (aj (ae E)) LF (some z)).switch [] [(i:Int)+2] D):=by
 obtain⟨f1,f2,f3⟩:=h.fit;have hm:=DP (slot:=slot) (turn:=turn) (n:=n) (i:=i) (lo:=lo) (a:=a) (b:=b) (IF:=aj (ae E)) (LF:=LF) z;have hx:=DF (slot:=slot) (turn:=turn) (n:=n) (i:=i) (lo:=lo) (a:=a) (b:=b) (IF:=aj (ae E)) (LF:=LF) z;have hso:=sR (slot:=slot) (turn:=turn) (n:=n) (i:=i) (lo:=lo) (a:=a) (b:=b) (IF:=aj (ae E)) (LF:=LF) (x:=none);have hfw:((bT slot turn n i lo a b (aj (ae E)) LF (some z)).files.length:Int)+(([]:List Fi).length:Nat) - (([(i:Int)+2]:List Int).length:Nat)<=24:=by
  rw[show ([(i:Int)+2]:List Int).length=1 from rfl];exact Jt (tm slot turn n i lo a b (aj (ae E)) LF (some z))
 have hsw:=px (add:=[]) (drop:=[(i:Int)+2]) (fs:=(bT slot turn n i lo a b (aj (ae E)) LF none).files) h.good hlim hm hfw (by rw[h.len];exact hx) hso
 cases hsw with
 | ok D' e g c l ar=>
  have e':(bT slot turn n i lo a b (aj (ae E)) LF (some z)).switch [] [(i:Int)+2] D=(bT (1 - slot) (turn+1) n i lo a b (aj (ae E)) LF none,D',0):=e;have g':Good D' (bT (1 - slot) (turn+1) n i lo a b (aj (ae E)) LF none) (dh (bT (1 - slot) (turn+1) n i lo a b (aj (ae E)) LF none).files) (lim+1):=g;have h6:=qJ.all h.tel;rw[List.length_map] at h6;refine .ok D' _ e' ⟨g',l.trans h.len,h.big,h.num,h.tel,?_,?_,Nat.le_refl _⟩ c ar
  .rw[eY (IF:=aj (ae E))];exact h6
  .rw[dM];exact Nat.le_refl _
 | off ha D' e o c l f=>
  refine .off ha _ D' e o (fun keep torn bytes=>?_) c (l.trans h.len);have hcl:(D'.bY keep torn bytes).cells.length=n:=by rw[et,l];exact h.len
  rcases f keep torn bytes with ⟨fs',o1,o2,o3⟩ | ⟨fs',o1,o2,o3⟩
  .obtain⟨m,m1,m2,sf',m3⟩:=fy hcl h.big h.num h.cra h.safeI o2 (mB o3 (by omega) (by omega:lim+2<=1000000000));exact⟨_,o1,m,m1,m2,sf',_,m3⟩
  .have o2':fC (fun num=>if ((num:Nat):Int) ∈ ([]:List Int) then 0 else sf num) (bT (1 - slot) (turn+1) n i lo a b (aj (ae E)) LF none).files fs':=o2;obtain⟨m,m1,m2,sf',m3⟩:=fy (sl:=1 - slot) (tu:=turn+1) hcl h.big h.num (by
    show qJ LF _ _ (if ((i+1:Nat):Int) ∈ ([]:List Int) then 0 else sf (i+1));rw[if_neg (by simp)];exact h.cra) (by
    show _<=(if ((i:Nat):Int) ∈ ([]:List Int) then 0 else sf i);rw[if_neg (by simp)];exact h.safeI) o2' o3
   exact⟨_,o1,m,m1,m2,sf',_,m3⟩
def tT (sl tu n:Nat):aK:=⟨sl,tu,[⟨2,2,aC n,tu,1,[]⟩]⟩
theorem Hy (hg:Good D ⟨slot,turn,[]⟩ sf lim) (hl:D.cells.length=n) (hn:64<=n/\n<=65536) (hlim:lim+2<=1000000000) (ha:D.armed=0):
 ∃ D',(aK.mk slot turn []).switch [⟨2,0,aC n⟩] [] D=(tT (1 - slot) (turn+1) n,D',0)/\Good D' (tT (1 - slot) (turn+1) n) (dh (tT (1 - slot) (turn+1) n).files) (lim+1)/\(∀ m,dj D m->dj D' (m+1))/\D'.cells.length=n/\D'.armed=0:=by
 have h1:=kU hn.1;have h2:=jB hn.2;have hfind: ∀ x,(aK.mk slot turn []).find x=none:=fun x=>rfl
 have h3:(1:Int)<=aC n:=by omega
 have hmay:(aK.mk slot turn []).may [⟨2,0,aC n⟩] []=true:=by
  simp[aK.may,aK.dF,aK.ev,hfind,h3]
 have hsw:=px (add:=[⟨2,0,aC n⟩]) (drop:=[]) (fs:=(tT (1 - slot) (turn+1) n).files) hg hlim hmay (by show (0:Int)+1 - 0<=24;decide) (by
  show dT _ (turn+1) [⟨2,0,aC n⟩] [] []=_;have hpl:aU D.cells.length ((aC n:Nat):Int) 2 (de [])=(2,true):=by
   show (2,decide (((aC n:Nat):Int)<=(D.cells.length:Int) - 2))=_;rw[decide_eq_true (by omega)]
  rw[km hpl];unfold dT;simp only[Int.toNat_natCast];rfl) rfl
 cases hsw with
 | ok D' e g c l ar=>exact⟨D',e,g,c,l.trans hl,by omega⟩
 | off ha2 D' e o c l f=>exact absurd ha ha2
theorem Ii {a1 a2:Nat} (hg:Good D ⟨slot,turn,[⟨2,2,aC n,a1,a2,[]⟩]⟩ sf lim) (hl:D.cells.length=n) (hn:64<=n/\n<=65536) (hlim:lim+2<=1000000000) (ha:D.armed=0):
 ∃ D' sf',(aK.mk slot turn [⟨2,2,aC n,a1,a2,[]⟩]).switch [⟨3,0,bh n⟩] [] D=(bT (1 - slot) (turn+1) n 2 true (a1,a2) (turn+1,1) (aj (ae [])) [] none,D',0)/\iF n D' (1 - slot) (turn+1) true (a1,a2) (turn+1,1) [] none sf' (lim+1) 2 [] [] 0/\(∀ m,dj D m->dj D' (m+1))/\D'.armed=0:=by
 have h1:=kU hn.1;have h2:=jB hn.2;have h3:(1:Int)<=bh n:=by omega
 have hfind:(aK.mk slot turn [⟨2,2,aC n,a1,a2,[]⟩]).find 3=none:=rfl;have hmay:(aK.mk slot turn [⟨2,2,aC n,a1,a2,[]⟩]).may [⟨3,0,bh n⟩] []=true:=by
  simp[aK.may,aK.dF,aK.ev,hfind,h3]
 have hsw:=px (add:=[⟨3,0,bh n⟩]) (drop:=[]) (fs:=(bT (1 - slot) (turn+1) n 2 true (a1,a2) (turn+1,1) (aj (ae [])) [] none).files) hg hlim hmay (by show (1:Int)+1 - 0<=24;decide) (by
  show dT _ (turn+1) [⟨3,0,bh n⟩] [(2,aC n)] [⟨2,2,aC n,a1,a2,[]⟩]=_;have hpl:aU D.cells.length ((bh n:Nat):Int) 2 (de [(2,aC n)])=(2+aC n,true):=by
   show aU _ _ 2 [(2,aC n)]=_;unfold aU;rw[if_neg (by simp only[];omega)];unfold aU;rw[decide_eq_true (by simp only[];omega)]
  rw[km hpl];unfold dT;simp only[Int.toNat_natCast];rfl) (Cs (by show 2<=3;omega))
 cases hsw with
 | ok D' e g c l ar=>
  have g':Good D' (bT (1 - slot) (turn+1) n 2 true (a1,a2) (turn+1,1) (aj (ae [])) [] none) (dh (bT (1 - slot) (turn+1) n 2 true (a1,a2) (turn+1,1) (aj (ae [])) [] none).files) (lim+1):=g;refine⟨D',_,e,⟨g',l.trans hl,hn.1,by omega,tS.nil,?_,?_,Nat.le_refl _⟩,c,by omega⟩
  .rw[eY (IF:=aj (ae []))];exact qJ.all tS.nil
  .rw[dM];exact Nat.le_refl _
 | off ha2 D' e o c l f=>exact absurd ha ha2
theorem GM (hg:Good D ⟨slot,turn,[]⟩ sf lim) (hlim:lim+1<=1000000000):cG D=(some ⟨slot,turn,[]⟩,0):=by
 obtain⟨gs,e1,e2,e3⟩:=nF hg hlim
 match gs,e2 with
 | [],_=>exact e1
end
def kK (x:Int) (ps:List (List UInt8)) (S:aK) (D:Dk):aK × Dk × Int:=
 if (aK.cC x ps S D).2.2=0 then ((aK.cC x ps S D).1,(aK.cC x ps S D).2.1.flush.1,(aK.cC x ps S D).2.1.flush.2) else aK.cC x ps S D
theorem Ck {r:List UInt8} (h0:r.length≠0) (h:r.length<=480):aj r=[r]:=by
 rw[rZ h0,List.take_of_length_le h,List.drop_eq_nil_of_le h];rfl
section
variable {w0 w:World} {F:SP} {s d n m:Nat} {D:Dk} {S:aK} {sf:Nat->Nat} {lim:Nat} {b:List UInt8}
theorem GN (x:Int) (A:Option Addr) (c:Nat) (hg:Good D S sf lim) (hc:dj D m) (hm:m+b.length<=999999000) (ha:D.armed<=9223372036854775807) (h:Sat w0 (ag s d S*(af d D*F)) w) (hp: ∀ W,Sat w0 F W->Rd W A b) (hbc:b.length<=c) (hcm:c<=9223372036854775807):
 Calls Tryz.prog 124 #[.pointer (some ⟨s,0,none⟩),.int .i64 x,.slice A b.length c] w fun e w'=>e = .returned (.int .i64 (kK x (aj b) S D).2.2)/\Sat w0 (ag s d (kK x (aj b) S D).1*(af d (kK x (aj b) S D).2.1*F)) w':=by
 have HS:=ah h;have HG:=ah hg;have HC:=ah hc;have HA:=ah ha;have HP:Hid (∀ W,Sat w0 F W->Rd W A b):=hp;obtain⟨L0,hL0⟩: ∃ L0,L0=b.length:=⟨_,rfl⟩;have HL0:=ah hL0;rw[<-hL0] at hm hbc;rw[<-hL0];clear h hg hc ha hp hL0;go_enter Tryz.func124, Tryz.ntmps124;go_wp2_with fail;go_loopw [2] (fun sv wr=> ∃ (L c' k:Nat) (A':Option Addr),L<=c'/\c'<=9223372036854775807/\sv = .slice A' L c'/\k+L<=L0/\Hid (∃ (r:List UInt8) (S':aK) (D':Dk),L=r.length/\Good D' S' sf lim/\dj D' (m+k)/\D'.armed<=9223372036854775807/\aK.cC x (aj b) S D=aK.cC x (aj r) S' D'/\(∀ W,Sat w0 F W->Rd W A' r)/\Sat w0 (ag s d S'*(af d D'*F)) wr)) (fun sv _=>lenOf sv)
 case atStart=>exact⟨L0,c,0,A,hbc,hcm,rfl,by omega,b,S,D,HL0.o,HG.o,HC.o,HA.o,rfl,HP.o,HS.o⟩
 case round=>
  obtain⟨L,c',k,A',hlc,hcm',rfl,hk,HD⟩:=hrel;obtain⟨r,S',D',hL,hg',hc',ha',heq,hrd,hs'⟩:=HD.o;have HLr:=ah hL;by_cases h0:L=0
  .have HR0:Hid (aK.cC x (aj b) S D=(S',D',0)):=by
    unfold Hid;rw[heq,List.eq_nil_of_length_eq_zero (by omega:r.length=0)];rfl
   have HSy:=ah (tX hs' (by have:=hc'.pend;omega));subst h0;clear hL hg' hc' ha' heq hrd hs' HD;go_wp2_with (go_at_call 56;(with_reducible refine HSy.o.mono ?_);rintro e w4 ⟨rfl,hs⟩;have HS4:=ah hs;clear hs);go_ret;unfold kK;rw[HR0.o,if_pos rfl];exact⟨rfl,HS4.o⟩
  .by_cases h4:480<L
   .have hl0:(0:Int)<L:=by omega
    have hmin:min (L:Int) 480=480:=by omega
    have hmn2:(480:Int)<=L:=by omega
    have hcr:=rZ (b:=r) (by omega);have hpl:(r.take 480).length=480:=by rw[List.length_take];omega
    obtain⟨S2,D2,r2,he⟩: ∃ S2 D2 r2,S'.append x (r.take 480) D'=(S2,D2,r2):=⟨_,_,_,rfl⟩;have hAp:=Dy x A' c' 480 hg' hc' (by omega) ha' hs' (fun W hW=>(hrd W hW).take 480) hpl he;have hst:aK.cC x (aj b) S D=if r2=0 then aK.cC x (aj (r.drop 480)) S2 D2 else (S2,D2,r2):=by
     rw[heq,hcr,fe,he]
    have hnx:=fun h0=>pz hg' x (r.take 480) hc' ha' (by rw[he];exact h0)
    rw[he] at hnx;have hrd2: ∀ W,Sat w0 F W->Rd W (A'.map (·.add 480)) (r.drop 480):=fun W hW=>by
     have h9:=(hrd W hW).drop (k:=480) (cap:=c') (by omega) (by omega);rw[if_neg (by omega)] at h9;exact h9
    have hdl:L - 480=(r.drop 480).length:=by rw[List.length_drop];omega
    have HAp:=ah hAp;have HSt:=ah hst;have HNx:=ah hnx;have HRd2:=ah hrd2;have HDl:=ah hdl;clear hL hg' hc' ha' heq hrd hs' HD hAp hst hnx hrd2 hdl hcr hpl he HLr;by_cases hr2:r2=0
    .subst hr2;have HN0:=ah (HNx.o rfl);have HS0:Hid (aK.cC x (aj b) S D=aK.cC x (aj (r.drop 480)) S2 D2):=by unfold Hid;rw[HSt.o,if_pos rfl]
     clear HNx HSt;go_wp2_with (go_at_call 120;(with_reducible refine HAp.o.mono ?_);rintro e w4 ⟨rfl,hs⟩;have HS4:=ah hs;clear hs);go_roundw
     .exact⟨L - 480,c' - 480,k+480,_,by omega,by omega,rfl,by omega,r.drop 480,S2,D2,HDl.o,HN0.o.1,HN0.o.2.1.mono (by omega),HN0.o.2.2,HS0.o,HRd2.o,HS4.o⟩
     .simp[lenOf];omega
    .have hr3:(r2 !=0)=true:=by rw[bne_iff_ne];exact hr2
     have HE:Hid (aK.cC x (aj b) S D=(S2,D2,r2)):=by unfold Hid;rw[HSt.o,if_neg hr2]
     go_wp2_with (go_at_call 120;(with_reducible refine HAp.o.mono ?_);rintro e w4 ⟨rfl,hs⟩;have HS4:=ah hs;clear hs);go_ret;unfold kK;rw[HE.o,if_neg hr2];exact⟨rfl,HS4.o⟩
   .have hl0:(0:Int)<L:=by omega
    have hmin:min (L:Int) 480=L:=by omega
    have hcr:=Ck (r:=r) (by omega) (by omega);obtain⟨S2,D2,r2,he⟩: ∃ S2 D2 r2,S'.append x r D'=(S2,D2,r2):=⟨_,_,_,rfl⟩;have hAp:=Dy x A' c' L hg' hc' (by omega) ha' hs' hrd hL.symm he;have hst:aK.cC x (aj b) S D=if r2=0 then (S2,D2,0) else (S2,D2,r2):=by
     rw[heq,hcr,fe,he];rfl
    have hnx:=fun h0=>pz hg' x r hc' ha' (by rw[he];exact h0)
    rw[he] at hnx;have HAp:=ah hAp;have HSt:=ah hst;have HNx:=ah hnx;clear hL hg' hc' ha' heq hrd hs' HD hAp hst hnx hcr he HLr;by_cases hr2:r2=0
    .subst hr2;have HN0:=ah (HNx.o rfl);have HS0:Hid (aK.cC x (aj b) S D=(S2,D2,0)):=by unfold Hid;rw[HSt.o,if_pos rfl]
     clear HNx HSt;go_wp2_with (go_at_call 120;(with_reducible refine HAp.o.mono ?_);rintro e w4 ⟨rfl,hs⟩;have HS4:=ah hs;clear hs);go_roundw
     .exact⟨0,c' - L,k+L,(if c'=L then A' else A'.map (·.add L)),by omega,by omega,by simp,by omega,[],S2,D2,rfl,HN0.o.1,HN0.o.2.1.mono (by omega),HN0.o.2.2,HS0.o,fun W _=>Rd.nil _ _,HS4.o⟩
     .simp[lenOf];omega
    .have hr3:(r2 !=0)=true:=by rw[bne_iff_ne];exact hr2
     have HE:Hid (aK.cC x (aj b) S D=(S2,D2,r2)):=by unfold Hid;rw[HSt.o,if_neg hr2]
     go_wp2_with (go_at_call 120;(with_reducible refine HAp.o.mono ?_);rintro e w4 ⟨rfl,hs⟩;have HS4:=ah hs;clear hs);go_ret;unfold kK;rw[HE.o,if_neg hr2];exact⟨rfl,HS4.o⟩
end
section
variable {n:Nat} {D D':Dk} {slot turn:Nat} {lo:Bool} {a b:Nat × Nat} {LF:List (List UInt8)} {y:Xf} {sf:Nat->Nat} {lim i:Nat} {E E':List aq} {bs:List (List cw)} {safe:Nat} {S:aK} {cs:List cw} {x:Bool}
def ET (n:Nat) (D:Dk) (lim i:Nat) (E E':List aq) (bs:List (List cw)):Prop:= ∀ keep torn bytes,
 ∃ S',cG (D.bY keep torn bytes)=(some S',0)/\ ∃ sf',((∃ x,EW n (D.bY keep torn bytes) S' sf' lim i E bs bs.length x)\/EW n (D.bY keep torn bytes) S' sf' lim (i+2) E' [] 0 false)
theorem gq.ei (h:gq n D lim i E bs bs.length) (E':List aq):ET n D lim i E E' bs:=fun keep torn bytes=>by
 obtain⟨S',e,m,m1,m2,sf',x,h1⟩:=h keep torn bytes;have hm:m=bs.length:=by omega
 subst hm;rw[List.take_length] at h1;exact⟨S',e,sf',.inl ⟨x,h1⟩⟩
inductive JZ (n:Nat) (D:Dk) (slot turn:Nat) (lo:Bool) (a b:Nat × Nat) (LF:List (List UInt8)) (u v:Nat) (lim i:Nat) (E:List aq) (bs:List (List cw)) (ps:List (List UInt8)) (r:aK × Dk × Int):Prop where
 | ok (D':Dk) (sf':Nat->Nat) (e:r=(bT slot turn n i lo a b (aj (ae E)) LF (some (u,v,ps)),D',0)) (h:iF n D' slot turn lo a b LF (some (u,v,ps)) sf' lim i E bs bs.length) (hs:ps.length<=sf' (i+2)) (c: ∀ m,dj D m->dj D' (m+ps.length)) (r:D'.armed<=D.armed)
 | off (ha:D.armed≠0) (S':aK) (D':Dk) (e:r=(S',D',21)) (o:D'.off=true) (h:gq n D' (lim+1) i E bs bs.length) (c: ∀ m,dj D m->dj D' (m+ps.length)) (l:D'.cells.length=n)
theorem iF.Kt {u v:Nat} (h:iF n D slot turn lo a b LF (some (u,v,[])) sf lim i E bs bs.length) (hlim:lim+1<=1000000000) {ps:List (List UInt8)} (hp: ∀ p ∈ ps,p.length<=480) (hl:ps.length<=aC n):
 JZ n D slot turn lo a b LF u v lim i E bs ps (kK ((i:Int)+2) ps (bT slot turn n i lo a b (aj (ae E)) LF (some (u,v,[]))) D):=by
 have hf:=h.fill hlim hp hl;unfold kK
 cases hf with
 | ok D' sf' e h' c r=>
  rw[e];simp only[if_true];obtain⟨g1,g2⟩:=h'.sync;rw[g1];refine .ok _ _ rfl g2 ?_ (fun m hm=>(c m hm).flush h'.good.fils.off) (by rw[eo h'.good.fils.off];exact r);rw[vJ];exact Nat.le_refl _
 | off ha S' D' e o h' c l=>
  rw[e,if_neg (show ¬ ((21:Int)=0) by decide)];exact .off ha S' D' rfl o h' c l
end
end Go.Proofs.YtmbaiglpgaoogaaGreat
