/- Joined, as they were built one by one: StpA StpB StpC StpD Sto14 StpG. -/
import Derived.Test.YtmbaiglpgaoogaaGreatW12
import Derived.Test.YtmbaiglpgaoogaaGreatW15
import Derived.Test.YtmbaiglpgaoogaaGreatW18
import Derived.Test.YtmbaiglpgaoogaaGreatW19
import Derived.Test.YtmbaiglpgaoogaaGreatW25
import Derived.Test.YtmbaiglpgaoogaaGreatW26
set_option maxHeartbeats 16000000
set_option linter.unusedVariables false
set_option maxRecDepth 100000
namespace Go.Proofs.YtmbaiglpgaoogaaGreat
open Go.RowKit Z
def cI (M:List Kv):Nat:=(M.map fun p=>p.1.length+p.2.length+40).sum
def ae:List aq->List UInt8
 | []=>[]
 | e::L=>ai (aM (e::L)).length 4++aM (e::L)
def fQ:Nat->List UInt8->List (List UInt8)
 | 0,_=>[]
 | n+1,b=>if b.length=0 then [] else b.take 480::fQ n (b.drop 480)
def aj (b:List UInt8):List (List UInt8):=fQ b.length b
theorem pJ: ∀ (n:Nat) (b:List UInt8),b.length<=n->(fQ n b).flatten=b
 | 0,b,h=>by rw[List.eq_nil_of_length_eq_zero (by omega:b.length=0)];rfl
 | n+1,b,h=>by
  unfold fQ;split
  .rename_i h1;rw[List.eq_nil_of_length_eq_zero h1];rfl
  .rw[List.flatten_cons,pJ n _ (by rw[List.length_drop];omega),List.take_append_drop]
theorem tv: ∀ (n:Nat) (b:List UInt8),b.length<=n->(fQ n b).length=(b.length+479) / 480
 | 0,b,h=>by rw[show b.length=0 by omega];rfl
 | n+1,b,h=>by
  unfold fQ;split
  .rename_i h1;rw[h1];rfl
  .rw[List.length_cons,tv n _ (by rw[List.length_drop];omega),List.length_drop];omega
theorem pq: ∀ (n:Nat) (b:List UInt8), ∀ p ∈ fQ n b,p.length<=480
 | 0,b,p,h=>by cases h
 | n+1,b,p,h=>by
  unfold fQ at h;split at h
  .cases h
  .rcases List.mem_cons.1 h with rfl | h
   .rw[List.length_take];omega
   .exact pq n _ p h
theorem sP: ∀ (n m:Nat) (b:List UInt8),b.length<=n->b.length<=m->fQ n b=fQ m b
 | 0,m,b,h,_=>by
  have h0:b.length=0:=by omega
  cases m with
  | zero=>rfl
  | succ m=>unfold fQ;rw[if_pos h0]
 | n+1,0,b,_,h=>by
  have h0:b.length=0:=by omega
  unfold fQ;rw[if_pos h0]
 | n+1,m+1,b,h1,h2=>by
  unfold fQ;split
  .rfl
  .rw[sP n m _ (by rw[List.length_drop];omega) (by rw[List.length_drop];omega)]
theorem BM (b:List UInt8):(aj b).flatten=b:=pJ _ b (Nat.le_refl _)
theorem qS (b:List UInt8):(aj b).length=(b.length+479) / 480:=tv _ b (Nat.le_refl _)
theorem CI {b p:List UInt8} (h:p ∈ aj b):p.length<=480:=pq _ b p h
theorem rR {b:List UInt8} (h:b.length≠0):aj b=b.take 480::aj (b.drop 480):=by
 unfold aj;obtain⟨n,hn⟩: ∃ n,b.length=n+1:=⟨b.length - 1,by omega⟩;rw[hn];have e:fQ (n+1) b=b.take 480::fQ n (b.drop 480):=by
  show (if b.length=0 then [] else b.take 480::fQ n (b.drop 480))=_;rw[if_neg h]
 rw[e,sP n _ _ (by rw[List.length_drop];omega) (Nat.le_refl _)]
def oO (L:List aq):Nat:=(L.map fun e=>e.key.length+e.value.length).sum
theorem BS (L:List aq) (e:aq):oO (L++[e])=oO L+(e.key.length+e.value.length):=by
 unfold oO;rw[List.map_append,List.sum_append];rfl
theorem Ht (al:List UInt8) (e:aq):(jI al e).length<=13+(e.key.length+e.value.length):=by
 unfold jI;simp[aw];omega
theorem uV (L:List aq): ∀ k,k<=L.length->(da L k).length<=8+oO (L.take k)+13*k
 | 0,_=>by simp[da,dI,aw]
 | k+1,h=>by
  have h1:=uV L k (by omega);have h2:(jR L k).length<=13+(L[k].key.length+L[k].value.length):=by
   unfold jR;rw[List.getElem?_eq_getElem (by omega)];exact Ht _ _
  rw[jP,List.length_append,List.take_add_one,List.getElem?_eq_getElem (by omega),show (some L[k]).toList=[L[k]] from rfl,BS];omega
theorem AK (L:List aq) (h: ∀ e ∈ L,e.key.length<=128/\e.value.length<=16384): ∀ k,(fh L k).length<=4+133*((k+7) / 8)
 | 0=>by simp[fh,aw]
 | k+1=>by
  have h1:=AK L h k;rw[lk,List.length_append];by_cases h8:k % 8=0
  .have h2:=sX L k h;have h3:(k+1+7) / 8=(k+7) / 8+1:=by omega
   rw[h3];omega
  .have h2:(lI L k).length=0:=by unfold lI;rw[if_neg h8];rfl
   have h3:(k+7) / 8<=(k+1+7) / 8:=by omega
   omega
theorem nH (L:List aq) (h: ∀ e ∈ L,e.key.length<=128/\e.value.length<=16384):(aM L).length<=oO L+32*L.length+200:=by
 have h1:=uV L L.length (Nat.le_refl _);have h2:=AK L h L.length;have h3:=ny L;have h4:=gQ L L.length;have h5:dF (cT L L.length).length 10<=(10*L.length+71) / 8:=by
  unfold dF;omega
 rw[List.take_length] at h1;unfold aM BN;simp only[List.length_append,aw];omega
theorem tB (L:List aq):cI (L.map cZ)=oO L+40*L.length:=by
 induction L with
 | nil=>rfl
 | cons e L ih=>
  unfold cI oO at*
  rw[List.map_cons,List.map_cons,List.sum_cons,List.map_cons,List.sum_cons,ih,List.length_cons];show e.key.length+e.value.length+40+_=_;omega
theorem wv (L:List aq) (h: ∀ e ∈ L,e.key.length<=128/\e.value.length<=16384):(ae L).length<=204+cI (L.map cZ):=by
 cases L with
 | nil=>exact Nat.zero_le _
 | cons e L=>
  have h1:=nH (e::L) h;rw[tB];unfold ae;rw[List.length_append,aw];omega
structure AO (e:aq):Prop where
 key:1<=e.key.length/\e.key.length<=128
 val:e.value.length<=16384
 dead:e.dead=true->e.value.length=0
 seq:0<=e.seq/\e.seq<=1000000000
structure fC (E:List aq):Prop where
 sort:E.Pairwise fun a b=>Lib.compareBytes a.key b.key<0
 each: ∀ e ∈ E,AO e/\e.dead=false
theorem GG:fC []:=⟨List.Pairwise.nil,fun e h=>by cases h⟩
theorem fC.Kt {E:List aq} (h:fC E):E.Pairwise dE:=h.sort.imp fun h=>cK.2 (.inl h)
theorem fC.build {E:List aq} (h:fC E) (hn:E.length<=65536):bR E=0:=by
 unfold bR;rw[qX h.Kt,if_neg (by simp),if_neg];rintro (h1 | h1)
 .omega
 .obtain⟨e,he,h2⟩:=List.any_eq_true.1 h1;have h3:=(h.each e he).1;have h4:fU e=true:=gR.2 ⟨h3.key.2,h3.val,h3.dead,h3.seq.1⟩;rw[h4] at h2
  cases h2
theorem fC.seq {E:List aq} (h:fC E): ∀ e ∈ E,e.seq<9223372036854775808:=fun e he=>by have:=(h.each e he).1.seq;omega
theorem fC.gW {E:List aq} (h:fC E):(E.map cZ).Pairwise mO:=by rw[List.pairwise_map];exact h.sort
theorem wN (s:Int) (k:List UInt8): ∀ {K:List aq},(K.map cZ).Pairwise mO->(∀ x ∈ K,x.dead=false)->(∀ x ∈ K,x.seq<=s)->dX k s K=bI k (K.map cZ)
 | [],_,_,_=>rfl
 | e::K,hp,hl,hm=>by
  show _=(if e.key=k then some e.value else bI k (K.map cZ));rw[List.map_cons,List.pairwise_cons] at hp;have ih2:=wN s k hp.2 (fun x hx=>hl x (List.mem_cons_of_mem _ hx)) (fun x hx=>hm x (List.mem_cons_of_mem _ hx));by_cases hk:e.key=k
  .rw[if_pos hk,qF ⟨hk,hm e List.mem_cons_self⟩];unfold ug;rw[if_neg (by rw[hl e List.mem_cons_self];simp)]
  .rw[if_neg hk,nV (fun h=>hk h.1),ih2]
structure cG (L:List aq) (q:Nat) (M:List Kv) (t:Nat):Prop where
 sort:L.Pairwise dE
 each: ∀ x ∈ L,AO x
 top: ∀ x ∈ L,x.seq<=q
 len:L.length<=t
 gW:M.Pairwise mO
 tells: ∀ k,dX k q L=bI k M
theorem cG.view {L:List aq} {q t:Nat} {M:List Kv} (h:cG L q M t):eS q L=M:=GN h.sort h.gW h.tells
theorem fC.mem {E:List aq} {q:Nat} (h:fC E) (hq: ∀ x ∈ E,x.seq<=q):cG E q (E.map cZ) E.length:=
 ⟨h.Kt,fun x hx=>(h.each x hx).1,hq,Nat.le_refl _,h.gW,fun k=>wN _ k h.gW (fun x hx=>(h.each x hx).2) hq⟩
structure iq (p:cE):Prop where
 key:1<=p.key.length/\p.key.length<=128
 val:p.value.length<=16384
 dead:p.dead=true->p.value.length=0
theorem iq.bq {p:cE} (h:iq p):zL p:=⟨h.key.1,h.key.2,h.val⟩
structure nO (cs:List cE):Prop where
 each: ∀ p ∈ cs,iq p
 sum:(cs.map jt).sum<=262144
theorem xD {cs:List cE}:dt cs=0↔nO cs:=by
 have hK:cs.any re=false↔ ∀ p ∈ cs,1<=p.key.length/\p.key.length<=128:=by
  rw[List.any_eq_false];refine forall_congr' fun p=>forall_congr' fun hp=>?_
  unfold re;simp only[Bool.or_eq_true,decide_eq_true_eq];omega
 have hV:cs.any jC=false↔ ∀ p ∈ cs,p.value.length<=16384/\(p.dead=true->p.value.length=0):=by
  rw[List.any_eq_false];refine forall_congr' fun p=>forall_congr' fun hp=>?_
  unfold jC;simp only[Bool.or_eq_true,decide_eq_true_eq,Bool.and_eq_true,not_or,not_and];refine and_congr (by omega) (forall_congr' fun _=>by omega)
 unfold dt;constructor
 .intro h;split at h
  .omega
  .rename_i h1;split at h
   .omega
   .rename_i h2;split at h
    .omega
    .rename_i h3;have h1':=hK.1 (by simpa using h1);have h2':=hV.1 (by simpa using h2);exact⟨fun p hp=>⟨h1' p hp,(h2' p hp).1,(h2' p hp).2⟩,by omega⟩
 .rintro ⟨h1,h2⟩;rw[hK.2 fun p hp=>(h1 p hp).key,hV.2 fun p hp=>⟨(h1 p hp).val,(h1 p hp).dead⟩];simp only[Bool.false_eq_true,if_false];rw[if_neg (by omega)]
theorem tE {cs:List cE} (h:nO cs):(aE cs).length<=262144:=by
 have: ∀ l:List cE,(aE l).length<=(l.map jt).sum:=fun l=>by
  induction l with
  | nil=>exact Nat.le_refl _
  | cons p l ih=>
   rw[gj,List.length_append,fL,List.map_cons,List.sum_cons];have:jt p=p.key.length+p.value.length+16:=rfl;omega
 exact Nat.le_trans (this cs) h.sum
theorem iZ: ∀ cs:List cE,(dw cs).Sublist cs
 | []=>List.Sublist.refl _
 | p::cs=>by
  unfold dw;split
  .exact(iZ cs).cons _
  .exact(iZ cs).cons_cons _
theorem Ew (e:aq) (L:List aq):(jU e L).length=L.length+1:=by
 obtain⟨A,B,h1,h2,_⟩:=mf e L;rw[h2,h1,List.length_append,List.length_append,List.length_cons];omega
theorem pN (n:Int): ∀ (ps:List cE) (L:List aq),(lP n ps L).length=L.length+ps.length
 | [],L=>rfl
 | p::ps,L=>by
  show (lP n ps (jU (uf n p) L)).length=_;rw[pN n ps,Ew,List.length_cons];omega
theorem Hs {e:aq} {L:List aq} (h:L.Pairwise dE) (hn: ∀ x ∈ L,¬ iX x e):(jU e L).Pairwise dE:=by
 have e0:=List.takeWhile_append_dropWhile (p:=fun x=>az x e) (l:=L);have h1:=h;rw[<-e0] at h1;obtain⟨p1,p2,p3⟩:=List.pairwise_append.1 h1;have hA: ∀ x ∈ L.takeWhile (fun x=>az x e),dE x e:=fun x hx=>gv (f:=fun x=>az x e) hx
 have hB: ∀ x ∈ L.dropWhile (fun x=>az x e),dE e x:=by
  intro x hx
  cases hd:L.dropWhile (fun x=>az x e) with
  | nil=>rw[hd] at hx;cases hx
  | cons y T=>
   have hy:az y e=false:=by
    have:=List.head_dropWhile_not (p:=fun x=>az x e) (l:=L) (by rw[hd];simp);simp only[hd,List.head_cons] at this;exact this
   have hyL:y ∈ L:=(List.dropWhile_sublist (fun x=>az x e)).mem (by rw[hd];exact List.mem_cons_self);have hey:dE e y:=by
    rcases Aq y e with h2 | h2 | h2
    .have h3:az y e=true:=h2;rw[hy] at h3;cases h3
    .exact h2
    .exact absurd h2 (hn y hyL)
   rw[hd] at hx p2;rcases List.mem_cons.1 hx with rfl | hx
   .exact hey
   .exact jf hey ((List.pairwise_cons.1 p2).1 x hx)
 unfold jU;refine List.pairwise_append.2 ⟨p1,List.pairwise_cons.2 ⟨hB,p2⟩,fun a ha b hb=>?_⟩;rcases List.mem_cons.1 hb with rfl | hb
 .exact hA a ha
 .exact p3 a ha b hb
theorem Ag {n:Int}: ∀ {ps:List cE} {L:List aq},(ps.Pairwise fun a b=>a.key≠b.key)->L.Pairwise dE->(∀ p ∈ ps, ∀ x ∈ L,x.key=p.key->x.seq<n)->(lP n ps L).Pairwise dE
 | [],L,_,h,_=>h
 | p::ps,L,hp,h,hl=>by
  obtain⟨h1,h2⟩:=List.pairwise_cons.1 hp;refine Ag (L:=jU (uf n p) L) h2 (Hs h fun x hx hs=>?_) fun q hq x hx hk=>?_
  .have h3:=hl p List.mem_cons_self x hx hs.1;have h4:x.seq=n:=hs.2;omega
  .rcases qZ.1 hx with rfl | hx
   .exact absurd hk (h1 q hq)
   .exact hl q (List.mem_cons_of_mem _ hq) x hx hk
def fP (q:Nat) (cs:List cE) (L:List aq):List aq:=lP ((q+1:Nat):Int) (dw cs) L
theorem cG.done {L:List aq} {q t:Nat} {M:List Kv} (h:cG L q M t) {cs:List cE} (hc: ∀ p ∈ cs,iq p) (hq:q+1<=1000000000):cG (fP q cs L) (q+1) (aZ cs M) (t+cs.length):=by
 have hlt: ∀ x ∈ L,x.seq<((q+1:Nat):Int):=fun x hx=>by have:=h.top x hx;omega
 have hm: ∀ x ∈ fP q cs L,x ∈ L\/ ∃ p ∈ cs,x=uf ((q+1:Nat):Int) p:=fun x hx=>by
  rcases mP.1 hx with h1 | ⟨p,hp,h1⟩
  .exact .inl h1
  .exact .inr ⟨p,lr hp,h1⟩
 refine⟨Ag (fm cs) h.sort (fun p _ x hx _=>hlt x hx),fun x hx=>?_,fun x hx=>?_,?_,fX cs h.gW,fun k=>?_⟩
 .rcases hm x hx with h1 | ⟨p,hp,rfl⟩
  .exact h.each x h1
  .have h2:=hc p hp;exact⟨h2.key,h2.val,h2.dead,by show 0<=((q+1:Nat):Int)/\((q+1:Nat):Int)<=_;omega⟩
 .rcases hm x hx with h1 | ⟨p,hp,rfl⟩
  .have:=h.top x h1;omega
  .exact Int.le_refl _
 .unfold fP;rw[pN];have h1:=h.len;have h2:=(iZ cs).length_le;omega
 .refine FX (Int.le_refl _) hlt h.gW (fun k=>?_) k;rw[<-h.tells k];exact EK (fun x hx=>by have:=h.top x hx;omega) h.top k
theorem cG.then {L:List aq} {q t:Nat} {M:List Kv} (h:cG L q M t) (cs:List cE) {s:Int} (hs:s<=q) (k:List UInt8):dX k s (fP q cs L)=dX k s L:=
 BD (by omega) (fun x hx=>by have:=h.top x hx;omega) k
def dY (ss:List Int) (L:List aq):List aq:=if 2*(cP true ss L).length+16<L.length then cP true ss L else L
theorem cG.thin {L:List aq} {q t:Nat} {M:List Kv} (h:cG L q M t) (ss:List Int):cG (cP true ss L) q M t:=by
 have hs:=fY true ss L;exact⟨oC h.sort,fun x hx=>h.each x (hs.mem hx),fun x hx=>h.top x (hs.mem hx),Nat.le_trans hs.length_le h.len,h.gW,fun k=>by rw[uu h.sort (.inr h.top),h.tells]⟩
theorem cG.tidy {L:List aq} {q t:Nat} {M:List Kv} (h:cG L q M t) (ss:List Int):cG (dY ss L) q M t:=by
 unfold dY;split
 .exact h.thin ss
 .exact h
theorem cG.kept {L:List aq} {q t:Nat} {M:List Kv} (h:cG L q M t) {ss:List Int} {s:Int} (hs:s ∈ ss) (k:List UInt8):dX k s (dY ss L)=dX k s L:=by
 unfold dY;split
 .exact uu h.sort (.inl hs)
 .rfl
def cR (L:List aq):List aq:=cP true [] L
theorem cG.uL {L:List aq} {q t:Nat} {M:List Kv} (h:cG L q M t):fC (cR L)/\(cR L).map cZ=M/\(cR L).length<=t/\ ∀ x ∈ cR L,x.seq<=q:=by
 have hs:=fY true [] L;refine⟨⟨nJ _ L (Nat.le_refl _) h.sort,fun e he=>⟨h.each e (hs.mem he),nh _ L (Nat.le_refl _) e he⟩⟩,?_,Nat.le_trans hs.length_le h.len,fun x hx=>h.top x (hs.mem hx)⟩;rw[<-h.view];exact BX h.sort h.top
def iC (E:List aq) (bs:List (List cE)):List Kv:=bs.foldl (fun M cs=>aZ cs M) (E.map cZ)
theorem lE (E:List aq) (bs:List (List cE)) (cs:List cE):iC E (bs++[cs])=aZ cs (iC E bs):=by unfold iC;rw[List.foldl_append];rfl
section
variable {D:Dk} {S:aK} {sf:Nat->Nat} {lim n m k:Nat} {f:Fl} {p:List UInt8}
theorem yv (k:Nat) (p:List UInt8) {x:Int} (h:S.find x=some f) (hk:f.num=k):(S.grow k p).find x=some { f with aa:=f.aa++[p] }:=by
 rw[zG,pf,h];simp[hk]
theorem tA {x:Int}: ∀ (ps:List (List UInt8)) {S:aK} {D:Dk} {f:Fl},Good D S sf lim->S.find x=some f->(∀ p ∈ ps,p.length<=480)->f.aa.length+ps.length<=f.blocks->1<=D.armed->D.armed<=ps.length->
 ∃ S' D' Dv j,aK.cF x ps S D=(S',D',21)/\D'.off=true/\Good Dv (S.eQ f.num (ps.take j)) sf lim/\(∀ keep torn bytes,D'.bZ keep torn bytes=Dv.bZ keep torn bytes)/\(∀ m,dq D m->dq D' (m+ps.length))/\D'.cells.length=D.cells.length
 | [],S,D,f,hg,hf,hp,hl,h1,ha=>by
  simp at ha;omega
 | p::ps,S,D,f,hg,hf,hp,hl,h1,ha=>by
  rw[List.length_cons] at hl ha;have h:=jr hg x p
  cases h with
  | none h1 e=>rw[hf] at h1;cases h1
  | E9 f' h1 h2 e=>have:=hp p List.mem_cons_self;omega
  | full f' h1 h2 h3 e=>
   rw[hf] at h1;injection h1 with h1
   subst h1;omega
  | off f' h1 h2 h3 h4 e=>
   obtain⟨hm,_⟩:=gO h1;have hg2:=nU hg hm (p:=p) (by omega) (by omega);rw[hf] at h1;injection h1 with h1
   subst h1;exact⟨_,_,D.wr (f.first+f.aa.length) (bB f.birth f.life p),1,by rw[eZ,e];exact if_neg (by simp),xt h4,hg2,fun keep torn bytes=>pH _ _ _ _ _ _,fun m hm=>hm.dC.mono (by rw[List.length_cons];omega),rfl⟩
  | ok f' h1 h2 h3 h4 e g=>
   rw[hf] at h1;injection h1 with h1
   subst h1;rw[e] at g;have e2:aK.cF x (p::ps) S D=aK.cF x ps (S.grow f.num p) (D.wr (f.first+f.aa.length) (bB f.birth f.life p)):=by
    rw[eZ,e];exact if_pos rfl
   obtain⟨S',D',Dv,j,i1,i2,i3,i4,i5,i6⟩:=tA ps g (yv f.num p hf rfl) (fun q hq=>hp q (List.mem_cons_of_mem _ hq)) (by simp only[List.length_append,List.length_singleton];omega) (by rw[xI];omega) (by rw[xI];omega);refine⟨S',D',Dv,j+1,e2.trans i1,i2,?_,i4,fun m hm=>(i5 _ hm.wr).mono (by rw[List.length_cons];omega),i6⟩;rw[List.take_succ_cons];rw[qw] at i3;exact i3
inductive Ij (S:aK) (D:Dk) (sf:Nat->Nat) (lim:Nat) (f:Fl) (ps:List (List UInt8)) (r:aK × Dk × Int):Prop where
 | ok (D':Dk) (e:r=(S.eQ f.num ps,D',0)) (g:Good D' (S.eQ f.num ps) sf lim) (c: ∀ m,dq D m->dq D' (m+ps.length)) (l:D'.cells.length=D.cells.length) (a:D'.armed<=D.armed)
 | off (ha:D.armed≠0) (S':aK) (D' Dv:Dk) (j:Nat) (e:r=(S',D',21)) (o:D'.off=true) (g:Good Dv (S.eQ f.num (ps.take j)) sf lim) (cr: ∀ keep torn bytes,D'.bZ keep torn bytes=Dv.bZ keep torn bytes) (c: ∀ m,dq D m->dq D' (m+ps.length)) (l:D'.cells.length=D.cells.length)
theorem pw (hg:Good D S sf lim) {x:Int} (hf:S.find x=some f) {ps:List (List UInt8)} (hp: ∀ p ∈ ps,p.length<=480) (hl:f.aa.length+ps.length<=f.blocks):Ij S D sf lim f ps (aK.cF x ps S D):=by
 by_cases ha:D.armed=0\/ps.length<D.armed
 .obtain⟨D',e,g,c,l,a⟩:=wF ps hg hf hp hl ha;exact .ok D' e g c l (by omega)
 .obtain⟨S',D',Dv,j,e,o,g,cr,c,l⟩:=tA ps hg hf hp hl (by omega) (by omega);exact .off (by omega) S' D' Dv j e o g cr c l
theorem zf (hg:Good D S sf lim) {x:Int} (hf:S.find x=some f) {b:List UInt8} (hb:b.length<=262144) (hl:f.aa.length+bh b.length<=f.blocks):Ij S D sf lim f (split b) (S.gz x b D):=by
 have h1:=iW b;have e:S.gz x b D=aK.cF x (split b) S D:=by
  unfold aK.gz;rw[hf];simp only;rw[if_neg (by omega),if_neg (by omega)]
 rw[e];exact pw hg hf (fun p hp=>pI hp) (by omega)
end
def iG (n:Nat) (lo:Bool):Nat:=if lo=true then 2 else 2+aC n+bj n
abbrev Xf:=Option (Nat × Nat × List (List UInt8))
def Bp (n i:Nat) (lo:Bool):Xf->List Fl
 | none=>[]
 | some x=>[⟨i+2,iG n (!lo),aC n,x.1,x.2.1,x.2.2⟩]
def bU (slot turn n i:Nat) (lo:Bool) (a b:Nat × Nat) (IF LF:List (List UInt8)) (x:Xf):aK:=⟨slot,turn,⟨i,iG n lo,aC n,a.1,a.2,IF⟩::⟨i+1,iG n lo+aC n,bj n,b.1,b.2,LF⟩::Bp n i lo x⟩
section
variable {slot turn n i:Nat} {lo:Bool} {a b:Nat × Nat} {IF LF:List (List UInt8)} {x:Xf}
theorem xJ:(bU slot turn n i lo a b IF LF x).find (i:Nat)=some ⟨i,iG n lo,aC n,a.1,a.2,IF⟩:=by
 unfold aK.find bU;rw[List.find?_cons];simp
theorem tT:(bU slot turn n i lo a b IF LF x).find ((i:Int)+1)=some ⟨i+1,iG n lo+aC n,bj n,b.1,b.2,LF⟩:=by
 unfold aK.find bU;rw[List.find?_cons,List.find?_cons];have h1:(((i:Nat):Int)==(i:Int)+1)=false:=by rw[beq_eq_false_iff_ne];omega
 have h2:(((i+1:Nat):Int)==(i:Int)+1)=true:=by rw[beq_iff_eq];omega
 simp only[h1,h2]
theorem xg {y:Nat × Nat × List (List UInt8)}:(bU slot turn n i lo a b IF LF (some y)).find ((i:Int)+2)=some ⟨i+2,iG n (!lo),aC n,y.1,y.2.1,y.2.2⟩:=by
 unfold aK.find bU Bp;rw[List.find?_cons,List.find?_cons,List.find?_cons];have h1:(((i:Nat):Int)==(i:Int)+2)=false:=by rw[beq_eq_false_iff_ne];omega
 have h2:(((i+1:Nat):Int)==(i:Int)+2)=false:=by rw[beq_eq_false_iff_ne];omega
 have h3:(((i+2:Nat):Int)==(i:Int)+2)=true:=by rw[beq_iff_eq];omega
 simp only[h1,h2,h3]
theorem px (z:Int) (h1:z≠i) (h2:z≠(i:Int)+1) (h3:x.isSome=true->z≠(i:Int)+2):(bU slot turn n i lo a b IF LF x).find z=none:=by
 unfold aK.find bU;rw[List.find?_cons,List.find?_cons];have e1:(((i:Nat):Int)==z)=false:=by rw[beq_eq_false_iff_ne];omega
 have e2:(((i+1:Nat):Int)==z)=false:=by rw[beq_eq_false_iff_ne];omega
 simp only[e1,e2]
 cases x with
 | none=>rfl
 | some y=>
  have e3:(((i+2:Nat):Int)==z)=false:=by rw[beq_eq_false_iff_ne];have:=h3 rfl;omega
  unfold Bp;rw[List.find?_cons];simp only[e3];rfl
theorem oh (ps:List (List UInt8)):(bU slot turn n i lo a b IF LF x).eQ (i+1) ps=bU slot turn n i lo a b IF (LF++ps) x:=by
 unfold aK.eQ bU
 cases x with
 | none=>simp[Bp]
 | some y=>simp[Bp]
theorem lH (y:Nat × Nat × List (List UInt8)) (ps:List (List UInt8)):(bU slot turn n i lo a b IF LF (some y)).eQ (i+2) ps=bU slot turn n i lo a b IF LF (some (y.1,y.2.1,y.2.2++ps)):=by
 unfold aK.eQ bU;simp[Bp]
theorem uy (slot turn n i:Nat) (lo:Bool) (a b:Nat × Nat) (IF LF:List (List UInt8)) (x:Xf):(bU slot turn n i lo a b IF LF x).files.length<=3:=by
 unfold bU
 cases x<;>simp[Bp]
theorem BU (hi:2<=i/\i<=2147483000) (hI:1<=aC n):(bU slot turn n i lo a b IF LF none).may [⟨(i:Int)+2,0,aC n⟩] []=true:=by
 have hf:=px (slot:=slot) (turn:=turn) (n:=n) (i:=i) (lo:=lo) (a:=a) (b:=b) (IF:=IF) (LF:=LF) (x:=none) ((i:Int)+2) (by omega) (by omega) (by simp);unfold aK.may;rw[Bool.and_eq_true];refine⟨rfl,gG [_] [] |>.2 ⟨fun y hy=>?_,by simp⟩⟩;rw[List.mem_singleton.1 hy];exact⟨⟨by dsimp only;omega,by dsimp only;omega,by dsimp only;omega⟩,by simp,.inl (by dsimp only;rw[hf];rfl)⟩
theorem DY (hi:2<=i/\i<=2147483000) (hI:1<=bj n):(bU slot turn n i lo a b IF LF x).may [⟨(i:Int)+3,0,bj n⟩] [(i:Int),(i:Int)+1]=true:=by
 have hf:=px (slot:=slot) (turn:=turn) (n:=n) (i:=i) (lo:=lo) (a:=a) (b:=b) (IF:=IF) (LF:=LF) (x:=x) ((i:Int)+3) (by omega) (by omega) (fun _=>by omega);unfold aK.may;rw[Bool.and_eq_true];refine⟨fD [_,_] [] |>.2 ⟨fun z hz=>⟨?_,by simp⟩,?_⟩,gG [_] [] |>.2 ⟨fun y hy=>?_,by simp⟩⟩
 .rcases List.mem_cons.1 hz with rfl | hz
  .rw[xJ];rfl
  .rw[List.mem_singleton.1 hz,tT];rfl
 .simp;omega
 .rw[List.mem_singleton.1 hy];exact⟨⟨by dsimp only;omega,by dsimp only;omega,by dsimp only;omega⟩,by simp,.inl (by dsimp only;rw[hf];rfl)⟩
theorem Er (y:Nat × Nat × List (List UInt8)):(bU slot turn n i lo a b IF LF (some y)).may [] [(i:Int)+2]=true:=by
 unfold aK.may;rw[Bool.and_eq_true];refine⟨fD [_] [] |>.2 ⟨fun z hz=>⟨?_,by simp⟩,by simp⟩,rfl⟩;rw[List.mem_singleton.1 hz,xg];rfl
theorem IN {p q r s:Nat} (h:p<=r):di [(p,q),(r,s)]=[(p,q),(r,s)]:=by
 unfold di;simp[uw,h]
theorem IH {p q r s t u:Nat} (h1:p<=r) (h2:r<=t):di [(p,q),(r,s),(t,u)]=[(p,q),(r,s),(t,u)]:=by
 unfold di;simp[uw,h1,h2]
theorem Gy {p q r s t u:Nat} (h1:p<=r) (h2:t<p):di [(p,q),(r,s),(t,u)]=[(t,u),(p,q),(r,s)]:=by
 unfold di;have h3:¬ r<=t:=by omega
 have h4:¬ p<=t:=by omega
 simp[uw,h1,h3,h4]
theorem Cx (hfit:2+2*aC n+2*bj n<=n) (hI:1<=aC n) (hL:1<=bj n):
 dW n (turn+1) [⟨(i:Int)+2,0,aC n⟩] (bU slot turn n i lo a b IF LF none).dp ((bU slot turn n i lo a b IF LF none).files.filter fun f=> !([]:List Int).contains (f.num:Int))=some (bU slot turn n i lo a b IF LF (some (turn+1,1,[]))).files:=by
 have hF:(bU slot turn n i lo a b IF LF none).files.filter (fun f=> !([]:List Int).contains (f.num:Int))=(bU slot turn n i lo a b IF LF none).files:=by
  rw[List.filter_eq_self];simp
 have hlie:(bU slot turn n i lo a b IF LF none).dp=[(iG n lo,aC n),(iG n lo+aC n,bj n)]:=rfl;have hpl:aU n ((aC n:Nat):Int) 2 (di [(iG n lo,aC n),(iG n lo+aC n,bj n)])=(iG n (!lo),true):=by
  rw[IN (by omega)]
  cases lo with
  | true=>
   show aU n _ 2 [(2,aC n),(2+aC n,bj n)]=(2+aC n+bj n,true);unfold aU;rw[if_neg (by simp only[];omega)];unfold aU;rw[if_neg (by simp only[];omega)];unfold aU;rw[decide_eq_true (by simp only[];omega)]
  | false=>
   show aU n _ 2 [(2+aC n+bj n,aC n),(2+aC n+bj n+aC n,bj n)]=(2,true);unfold aU;rw[if_pos (by simp only[];omega)]
 rw[hF,hlie,kO hpl];unfold dW;show some ((bU slot turn n i lo a b IF LF none).files++_)=_;have e:((i:Int)+2).toNat=i+2:=by omega
 simp only[e,Int.toNat_natCast];rfl
theorem E7 (hfit:2+2*aC n+2*bj n<=n) (hI:1<=aC n) (hL:1<=bj n) (y:Nat × Nat × List (List UInt8)):
 dW n (turn+1) [⟨(i:Int)+3,0,bj n⟩] (bU slot turn n i lo a b IF LF (some y)).dp ((bU slot turn n i lo a b IF LF (some y)).files.filter fun f=> !([(i:Int),(i:Int)+1]:List Int).contains (f.num:Int))=some (bU slot turn n (i+2) (!lo) (y.1,y.2.1) (turn+1,1) y.2.2 [] none).files:=by
 have hF:(bU slot turn n i lo a b IF LF (some y)).files.filter (fun f=> !([(i:Int),(i:Int)+1]:List Int).contains (f.num:Int))=[⟨i+2,iG n (!lo),aC n,y.1,y.2.1,y.2.2⟩]:=by
  unfold bU Bp;have h1:([(i:Int),(i:Int)+1]:List Int).contains ((i:Nat):Int)=true:=by simp
  have h2:([(i:Int),(i:Int)+1]:List Int).contains ((i+1:Nat):Int)=true:=by simp
  have h3:([(i:Int),(i:Int)+1]:List Int).contains ((i+2:Nat):Int)=false:=by
   rw[Bool.eq_false_iff];intro h;rw[List.contains_iff_mem] at h;rcases List.mem_cons.1 h with h | h
   .omega
   .have:=List.mem_singleton.1 h;omega
  rw[List.filter_cons,List.filter_cons,List.filter_cons];simp only[h1,h2,h3];rfl
 have hlie:(bU slot turn n i lo a b IF LF (some y)).dp=[(iG n lo,aC n),(iG n lo+aC n,bj n),(iG n (!lo),aC n)]:=rfl;have hpl:aU n ((bj n:Nat):Int) 2 (di [(iG n lo,aC n),(iG n lo+aC n,bj n),(iG n (!lo),aC n)])=(iG n (!lo)+aC n,true):=by
  cases lo with
  | true=>
   show aU n _ 2 (di [(2,aC n),(2+aC n,bj n),(2+aC n+bj n,aC n)])=(2+aC n+bj n+aC n,true);rw[IH (by omega) (by omega)];unfold aU;rw[if_neg (by simp only[];omega)];unfold aU;rw[if_neg (by simp only[];omega)];unfold aU;rw[if_neg (by simp only[];omega)];unfold aU;rw[decide_eq_true (by simp only[];omega)]
  | false=>
   show aU n _ 2 (di [(2+aC n+bj n,aC n),(2+aC n+bj n+aC n,bj n),(2,aC n)])=(2+aC n,true);rw[Gy (by omega) (by omega)];unfold aU;rw[if_neg (by simp only[];omega)];unfold aU;rw[if_pos (by simp only[];omega)]
 rw[hF,hlie,kO hpl];unfold dW;have e:((i:Int)+3).toNat=i+3:=by omega
 simp only[e,Int.toNat_natCast];rfl
theorem Fo (y:Nat × Nat × List (List UInt8)):
 dW n (turn+1) [] (bU slot turn n i lo a b IF LF (some y)).dp ((bU slot turn n i lo a b IF LF (some y)).files.filter fun f=> !([(i:Int)+2]:List Int).contains (f.num:Int))=some (bU slot turn n i lo a b IF LF none).files:=by
 unfold dW;congr 1
 unfold bU Bp;have h1:([(i:Int)+2]:List Int).contains ((i:Nat):Int)=false:=by
  rw[Bool.eq_false_iff];intro h;rw[List.contains_iff_mem] at h;have:=List.mem_singleton.1 h;omega
 have h2:([(i:Int)+2]:List Int).contains ((i+1:Nat):Int)=false:=by
  rw[Bool.eq_false_iff];intro h;rw[List.contains_iff_mem] at h;have:=List.mem_singleton.1 h;omega
 have h3:([(i:Int)+2]:List Int).contains ((i+2:Nat):Int)=true:=by simp
 rw[List.filter_cons,List.filter_cons,List.filter_cons];simp only[h1,h2,h3];rfl
theorem FC {f g:Fl} (h:f.num<=g.num):dV [f,g]=[f,g]:=by
 unfold dV;simp[xK,h]
theorem IM {f g k:Fl} (h:f.num<=g.num) (h2:g.num<=k.num):dV [f,g,k]=[f,g,k]:=by
 unfold dV;simp[xK,h,h2]
theorem tK:dV (bU slot turn n i lo a b IF LF x).files=(bU slot turn n i lo a b IF LF x).files:=by
 cases x with
 | none=>exact FC (Nat.le_succ i)
 | some y=>exact IM (Nat.le_succ i) (Nat.le_succ (i+1))
end
structure oT (n t q:Nat) (E:List aq) (bs:List (List cE)):Prop where
 uL:fC E
 bats: ∀ cs ∈ bs,nO cs
 bP:E.length+(bs.map List.length).sum<=t
 siz:cI (iC E bs)+400<=aC n*480
 seqs: ∀ x ∈ E,x.seq+bs.length<=q
 bl:bs.length<=q
theorem oT.mono {n t q t' q':Nat} {E:List aq} {bs:List (List cE)} (h:oT n t q E bs) (ht:t<=t') (hq:q<=q'):oT n t' q' E bs:=
 ⟨h.uL,h.bats,Nat.le_trans h.bP ht,h.siz,fun x hx=>by have:=h.seqs x hx;omega,Nat.le_trans h.bl hq⟩
theorem oT.aa {n t q:Nat} {E:List aq} {bs:List (List cE)} (h:cI (E.map cZ)+400<=aC n*480) (hi:fC E):(aj (ae E)).length<=aC n:=by
 have h1:=wv E fun e he=>⟨(hi.each e he).1.key.2,(hi.each e he).1.val⟩
 rw[qS];omega
structure iI (n:Nat) (D:Dk) (slot turn:Nat) (lo:Bool) (a b:Nat × Nat) (LF:List (List UInt8)) (y:Xf) (sf:Nat->Nat) (lim i:Nat) (E:List aq) (bs:List (List cE)) (safe:Nat):Prop where
 good:Good D (bU slot turn n i lo a b (aj (ae E)) LF y) sf lim
 len:D.cells.length=n
 big:64<=n
 num:2<=i/\i % 2=0
 tel:uj LF (bs.map aE)
 cra:rf LF (bs.map aE) safe (sf (i+1))
 safeI:(aj (ae E)).length<=sf i
 safe:safe<=bs.length
def EL (n:Nat) (D:Dk) (S:aK) (sf:Nat->Nat) (lim i:Nat) (E:List aq) (bs:List (List cE)) (safe:Nat) (x:Bool):Prop:=
 ∃ slot turn lo a b LF y,S=bU slot turn n i lo a b (aj (ae E)) LF y/\y.isSome=x/\iI n D slot turn lo a b LF y sf lim i E bs safe
section
variable {n:Nat} {D D':Dk} {slot turn:Nat} {lo:Bool} {a b:Nat × Nat} {LF:List (List UInt8)} {y:Xf} {sf:Nat->Nat} {lim i:Nat} {E E':List aq} {bs:List (List cE)} {safe:Nat} {S:aK} {cs:List cE} {x:Bool}
theorem iI.F7 (h:iI n D slot turn lo a b LF y sf lim i E bs safe):EL n D (bU slot turn n i lo a b (aj (ae E)) LF y) sf lim i E bs safe y.isSome:=⟨slot,turn,lo,a,b,LF,y,rfl,rfl,h⟩
theorem iI.aG (h:iI n D slot turn lo a b LF y sf lim i E bs safe):n<=65536:=by have:=h.good.fils.aG;rw[h.len] at this;exact this
theorem iI.fit (h:iI n D slot turn lo a b LF y sf lim i E bs safe):2+2*aC n+2*bj n<=n/\1<=bj n/\1<=aC n:=by
 have h1:=kW h.big;have h2:=jA h.aG;omega
theorem iI.JF (h:iI n D slot turn lo a b LF y sf lim i E bs safe) {l:Nat} (h1:lim<=l) (h2:l<=1000000000):iI n D slot turn lo a b LF y sf l i E bs safe:=
 ⟨mU h.good h1 h2,h.len,h.big,h.num,h.tel,h.cra,h.safeI,h.safe⟩
theorem dO:dh (bU slot turn n i lo a b (aj (ae E)) LF y).files i=(aj (ae E)).length:=by
 unfold dh bU;simp
theorem eY {IF:List (List UInt8)}:dh (bU slot turn n i lo a b IF LF y).files (i+1)=LF.length:=by
 unfold dh bU;rw[List.find?_cons,List.find?_cons];have h1:(i==i+1)=false:=by rw[beq_eq_false_iff_ne];omega
 have h2:(i+1==i+1)=true:=by simp
 simp only[h1,h2]
theorem wW {IF:List (List UInt8)} {z:Nat × Nat × List (List UInt8)}:dh (bU slot turn n i lo a b IF LF (some z)).files (i+2)=z.2.2.length:=by
 unfold dh bU Bp;rw[List.find?_cons,List.find?_cons,List.find?_cons];have h1:(i==i+2)=false:=by rw[beq_eq_false_iff_ne];omega
 have h2:(i+1==i+2)=false:=by rw[beq_eq_false_iff_ne];omega
 have h3:(i+2==i+2)=true:=by simp
 simp only[h1,h2,h3]
theorem uY {IF:List (List UInt8)} {gs:List Fl} (h:fF sf (bU slot turn n i lo a b IF LF y).files gs): ∃ a' b' m m' y',gs=(bU slot turn n i lo a' b' (IF.take m) (LF.take m') y').files/\sf i<=m/\m<=IF.length/\sf (i+1)<=m'/\m'<=LF.length/\y'.isSome=y.isSome:=by
 cases y with
 | none=>
  match gs,h with
  | [f',g'],⟨⟨a1,a2,a3,a4,m,a5,a6,a7⟩,⟨b1,b2,b3,b4,m',b5,b6,b7⟩,_⟩=>
   obtain⟨fn,ff,fb,fi,fl,fr⟩:=f';obtain⟨gn,gf,gb,gi,gl,gr⟩:=g';simp only at a1 a2 a3 a4 a7 b1 b2 b3 b4 b7;subst a1;subst a2;subst a3;subst a4;subst a7;subst b1;subst b2;subst b3;subst b4;subst b7;exact⟨(a.1,fl),(b.1,gl),m,m',none,rfl,a5,a6,b5,b6,rfl⟩
 | some z=>
  match gs,h with
  | [f',g',k'],⟨⟨a1,a2,a3,a4,m,a5,a6,a7⟩,⟨b1,b2,b3,b4,m',b5,b6,b7⟩,⟨c1,c2,c3,c4,m2,c5,c6,c7⟩,_⟩=>
   obtain⟨fn,ff,fb,fi,fl,fr⟩:=f';obtain⟨gn,gf,gb,gi,gl,gr⟩:=g';obtain⟨kn,kf,kb,ki,kl,kr⟩:=k';simp only at a1 a2 a3 a4 a7 b1 b2 b3 b4 b7 c1 c2 c3 c4 c7;subst a1;subst a2;subst a3;subst a4;subst a7;subst b1;subst b2;subst b3;subst b4;subst b7;subst c1;subst c2;subst c3;subst c4;subst c7;exact⟨(a.1,fl),(b.1,gl),m,m',some (z.1,kl,z.2.2.take m2),rfl,a5,a6,b5,b6,rfl⟩
theorem fG {V:Dk} {sl tu:Nat} {fs':List Fl} {l:Nat} (hlen:V.cells.length=n) (hbig:64<=n) (hnum:2<=i/\i % 2=0) (cra:rf LF (bs.map aE) safe (sf (i+1))) (safeI:(aj (ae E)).length<=sf i)
 (hf:fF sf (bU sl tu n i lo a b (aj (ae E)) LF y).files fs') (hg:Good V ⟨sl,tu,fs'⟩ (dh fs') l):
 ∃ m,safe<=m/\m<=bs.length/\ ∃ sf',EL n V ⟨sl,tu,fs'⟩ sf' l i E (bs.take m) m y.isSome:=by
 obtain⟨a',b',m,m',y',rfl,h1,h2,h3,h4,h5⟩:=uY hf;have hm:(aj (ae E)).take m=aj (ae E):=List.take_of_length_le (by omega);rw[hm] at hg ⊢;obtain⟨r,r1,r2,r3⟩:=cra m' h3 h4;rw[List.length_map] at r2;rw[<-List.map_take] at r3;have hl:(bs.take r).length=r:=by rw[List.length_take];omega
 refine⟨r,r1,r2,_,sl,tu,lo,a',b',LF.take m',y',rfl,h5,hg,hlen,hbig,hnum,r3,?_,?_,by rw[hl];exact Nat.le_refl _⟩
 .have h6:=rf.all r3;rw[List.length_map,hl] at h6;rw[eY (IF:=aj (ae E))];exact h6
 .rw[dO];exact Nat.le_refl _
theorem iI.again (h:iI n D slot turn lo a b LF y sf lim i E bs safe) (hlim:lim+1<=1000000000):
 ∃ S',cJ D=(some S',0)/\EL n D S' sf (lim+1) i E bs safe y.isSome:=by
 obtain⟨gs,e1,e2,e3⟩:=om h.good hlim;obtain⟨a',b',m,m',y',rfl,h1,h2,h3,h4,h5⟩:=uY e2;rw[dO] at h1;rw[eY (IF:=aj (ae E))] at h3;have hm:(aj (ae E)).take m=aj (ae E):=List.take_of_length_le (by omega);have hm':LF.take m'=LF:=List.take_of_length_le (by omega);rw[hm,hm'] at e1 e3;exact⟨_,e1,slot,turn,lo,a',b',LF,y',rfl,h5,e3,h.len,h.big,h.num,h.tel,h.cra,h.safeI,h.safe⟩
theorem iI.sync (h:iI n D slot turn lo a b LF y sf lim i E bs safe):D.flush.2=0/\iI n D.flush.1 slot turn lo a b LF y (dh (bU slot turn n i lo a b (aj (ae E)) LF y).files) lim i E bs bs.length:=by
 have ho:=h.good.fils.off;refine⟨by rw[dg D ho],pB h.good,(eo h.good.fils.wf ho).len.trans h.len,h.big,h.num,h.tel,?_,?_,Nat.le_refl _⟩
 .have h6:=rf.all h.tel;rw[List.length_map] at h6;rw[eY (IF:=aj (ae E))];exact h6
 .rw[dO];exact Nat.le_refl _
def gC (n:Nat) (D:Dk) (lim i:Nat) (E:List aq) (bs:List (List cE)) (safe:Nat):Prop:= ∀ keep torn bytes,
 ∃ S',cJ (D.bZ keep torn bytes)=(some S',0)/\ ∃ m,safe<=m/\m<=bs.length/\ ∃ sf' x,EL n (D.bZ keep torn bytes) S' sf' lim i E (bs.take m) m x
inductive KE (n:Nat) (D:Dk) (slot turn:Nat) (lo:Bool) (a b:Nat × Nat) (LF:List (List UInt8)) (sf:Nat->Nat) (lim i:Nat) (E:List aq) (bs:List (List cE)) (safe:Nat) (cs:List cE) (r:aK × Dk × Int):Prop where
 | no (h:bj n<LF.length+bh (aE cs).length) (e:r=(bU slot turn n i lo a b (aj (ae E)) LF none,D,41))
 | ok (D':Dk) (e:r=(bU slot turn n i lo a b (aj (ae E)) (LF++split (aE cs)) none,D',0)) (h:iI n D' slot turn lo a b (LF++split (aE cs)) none sf lim i E (bs++[cs]) safe) (c: ∀ m,dq D m->dq D' (m+548)) (r:D'.armed<=D.armed)
 | off (ha:D.armed≠0) (S':aK) (D':Dk) (e:r=(S',D',21)) (o:D'.off=true) (h:gC n D' (lim+1) i E (bs++[cs]) safe) (c: ∀ m,dq D m->dq D' (m+548)) (l:D'.cells.length=n)
theorem iI.put (h:iI n D slot turn lo a b LF none sf lim i E bs safe) (hlim:lim+1<=1000000000) (hc:nO cs):KE n D slot turn lo a b LF sf lim i E bs safe cs ((bU slot turn n i lo a b (aj (ae E)) LF none).gz ((i:Int)+1) (aE cs) D):=by
 have hb:=tE hc;have hsp:=iW (aE cs);have hnd:=pa (aE cs).length;by_cases hr:bj n<LF.length+bh (aE cs).length
 .exact .no hr (Gz tT hb hr)
 .have hmp:(bs++[cs]).map aE=bs.map aE++[aE cs]:=by simp
  have hcr:rf (LF++split (aE cs)) ((bs++[cs]).map aE) safe (sf (i+1)):=by
   rw[hmp];exact h.cra.put h.tel (by rw[List.length_map];exact h.safe) hb
  have hs:safe<=(bs++[cs]).length:=by rw[List.length_append];have:=h.safe;omega
  have ha:=zf (b:=aE cs) h.good tT hb (show LF.length+bh (aE cs).length<=bj n by omega)
  cases ha with
  | ok D' e g c l r=>
   have e2:=oh (slot:=slot) (turn:=turn) (n:=n) (i:=i) (lo:=lo) (a:=a) (b:=b) (IF:=aj (ae E)) (LF:=LF) (x:=none) (split (aE cs));simp only at e g;rw[e2] at e g;refine .ok D' e ⟨g,l.trans h.len,h.big,h.num,?_,hcr,h.safeI,hs⟩ (fun m hm=>(c m hm).mono (by omega)) r;rw[hmp];exact h.tel.put hb
  | off ha S' D' Dv j e o g cr c l=>
   have e2:=oh (slot:=slot) (turn:=turn) (n:=n) (i:=i) (lo:=lo) (a:=a) (b:=b) (IF:=aj (ae E)) (LF:=LF) (x:=none) ((split (aE cs)).take j);simp only at g;rw[e2] at g;refine .off ha S' D' e o (fun keep torn bytes=>?_) (fun m hm=>(c m hm).mono (by omega)) (l.trans h.len);obtain⟨gs,f1,f2,f3⟩:=ox g hlim (lZ (keep:=keep) (torn:=torn) (bytes:=bytes) g.fils.wf);obtain⟨m,m1,m2,sf',m3⟩:=fG (bs:=bs++[cs]) (safe:=safe) (by rw[<-cr,ew,l];exact h.len) h.big h.num (rf.sub (j:=j) hcr) h.safeI f2 f3;exact⟨_,by rw[cr];exact f1,m,m1,m2,sf',_,by rw[cr];exact m3⟩
end
section
variable {D:Dk} {S:aK} {sf:Nat->Nat} {lim:Nat} {add:List Fi} {drop:List Int} {fs:List Fl}
inductive Lk (S:aK) (D:Dk) (sf:Nat->Nat) (lim:Nat) (add:List Fi) (fs:List Fl) (r:aK × Dk × Int):Prop where
 | ok (D':Dk) (e:r=(⟨1 - S.slot,S.turn+1,fs⟩,D',0)) (g:Good D' ⟨1 - S.slot,S.turn+1,fs⟩ (dh fs) (lim+1)) (c: ∀ m,dq D m->dq D' (m+1)) (l:D'.cells.length=D.cells.length) (a:D'.armed<=D.armed)
 | off (ha:D.armed≠0) (D':Dk) (e:r=(S,D',21)) (o:D'.off=true) (c: ∀ m,dq D m->dq D' (m+1)) (l:D'.cells.length=D.cells.length)
  (f: ∀ keep torn bytes,(∃ fs',cJ (D'.bZ keep torn bytes)=(some ⟨S.slot,S.turn,fs'⟩,0)/\fF sf S.files fs'/\Good (D'.bZ keep torn bytes) ⟨S.slot,S.turn,fs'⟩ (dh fs') (lim+1))\/
   (∃ fs',cJ (D'.bZ keep torn bytes)=(some ⟨1 - S.slot,S.turn+1,fs'⟩,0)/\fF (fun num=>if (num:Int) ∈ add.map (·.num) then 0 else sf num) fs fs'/\Good (D'.bZ keep torn bytes) ⟨1 - S.slot,S.turn+1,fs'⟩ (dh fs') (lim+2)))
theorem qb (hg:Good D S sf lim) (hlim:lim+2<=1000000000) (hm:S.may add drop=true) (hc:(S.files.length:Int)+add.length - drop.length<=24)
 (hx:dW D.cells.length (S.turn+1) add S.dp (S.files.filter fun f=> !drop.contains (f.num:Int))=some fs) (hs:dV fs=fs):Lk S D sf lim add fs (S.switch add drop D):=by
 have h:=ui hg (by omega) add drop
 cases h with
 | no h1 e=>rw[hm] at h1;cases h1
 | many h1 h2 e=>omega
 | full h1 h2 h3 e=>rw[hx] at h3;cases h3
 | off fs' h1 h2 h3 h4 hn e=>
  rw[hx] at h3;injection h3 with h3
  subst h3;rw[hs] at hn e;refine .off (by omega) _ e (xt h4) (fun m hm=>hm.dC) rfl fun keep torn bytes=>?_
  have hcm:uv (D.wr (1 - S.slot) (bN (S.turn+1) (fs.map Fl.hd))) ((D.dC (1 - S.slot) (bN (S.turn+1) (fs.map Fl.hd))).bZ keep torn bytes):=by
   rw[pH];exact lZ (vR hg.fils.wf (by have:=hg.fils.two;omega) (fk (by rw[List.length_map];exact hn.ok.count)))
  exact yl hg hn hlim hcm
 | ok fs' h1 h2 h3 h4 hn e g=>
  rw[hx] at h3;injection h3 with h3
  subst h3;rw[hs] at hn e g;rw[e] at g;have hl:(bN (S.turn+1) (fs.map Fl.hd)).length=512:=fk (by rw[List.length_map];exact hn.ok.count);have hwf:yu (D.wr (1 - S.slot) (bN (S.turn+1) (fs.map Fl.hd))):=vR hg.fils.wf (by have:=hg.fils.two;omega) hl;exact .ok _ e g (fun n hn=>hn.wr.flush rfl) (eo hwf rfl).len (by rw[eu rfl];exact Nat.sub_le _ _)
end
section
variable {n:Nat} {D D':Dk} {slot turn:Nat} {lo:Bool} {a b:Nat × Nat} {LF:List (List UInt8)} {y:Xf} {sf:Nat->Nat} {lim i:Nat} {E E':List aq} {bs:List (List cE)} {safe:Nat} {S:aK} {cs:List cE} {x:Bool}
theorem gC.up {l l':Nat} (h:gC n D l i E bs safe) (h1:l<=l') (h2:l'<=1000000000):gC n D l' i E bs safe:=fun keep torn bytes=>by
 obtain⟨S',e,m,m1,m2,sf',x,slot,turn,lo,a,b,LF,y,e1,e2,e3⟩:=h keep torn bytes;exact⟨S',e,m,m1,m2,sf',x,slot,turn,lo,a,b,LF,y,e1,e2,e3.JF h1 h2⟩
inductive KC (n:Nat) (D:Dk) (slot turn:Nat) (lo:Bool) (a b:Nat × Nat) (LF:List (List UInt8)) (lim i:Nat) (E:List aq) (bs:List (List cE)) (r:aK × Dk × Int):Prop where
 | ok (D':Dk) (sf':Nat->Nat) (e:r=(bU (1 - slot) (turn+1) n i lo a b (aj (ae E)) LF (some (turn+1,1,[])),D',0)) (h:iI n D' (1 - slot) (turn+1) lo a b LF (some (turn+1,1,[])) sf' (lim+1) i E bs bs.length) (c: ∀ m,dq D m->dq D' (m+1)) (r:D'.armed<=D.armed)
 | off (ha:D.armed≠0) (S':aK) (D':Dk) (e:r=(S',D',21)) (o:D'.off=true) (h:gC n D' (lim+2) i E bs bs.length) (c: ∀ m,dq D m->dq D' (m+1)) (l:D'.cells.length=n)
theorem iI.Li (h:iI n D slot turn lo a b LF none sf lim i E bs bs.length) (hlim:lim+2<=1000000000) (hi:i<=2147483000):
 KC n D slot turn lo a b LF lim i E bs ((bU slot turn n i lo a b (aj (ae E)) LF none).switch [⟨(i:Int)+2,0,aC n⟩] [] D):=by
 obtain⟨f1,f2,f3⟩:=h.fit;have hsw:=qb (add:=[⟨(i:Int)+2,0,aC n⟩]) (drop:=[]) h.good hlim (BU ⟨h.num.1,hi⟩ f3) (by have:=uy slot turn n i lo a b (aj (ae E)) LF none;show ((bU slot turn n i lo a b (aj (ae E)) LF none).files.length:Int)+1 - 0<=24;omega) (by rw[h.len];exact Cx f1 f3 f2) tK
 cases hsw with
 | ok D' e g c l ar=>
  have e':(bU slot turn n i lo a b (aj (ae E)) LF none).switch [⟨(i:Int)+2,0,aC n⟩] [] D=(bU (1 - slot) (turn+1) n i lo a b (aj (ae E)) LF (some (turn+1,1,[])),D',0):=e;have g':Good D' (bU (1 - slot) (turn+1) n i lo a b (aj (ae E)) LF (some (turn+1,1,[]))) (dh (bU (1 - slot) (turn+1) n i lo a b (aj (ae E)) LF (some (turn+1,1,[]))).files) (lim+1):=g;have h6:=rf.all h.tel;rw[List.length_map] at h6;refine .ok D' _ e' ⟨g',l.trans h.len,h.big,h.num,h.tel,?_,?_,Nat.le_refl _⟩ c ar
  .rw[eY (IF:=aj (ae E))];exact h6
  .rw[dO];exact Nat.le_refl _
 | off ha D' e o c l f=>
  refine .off ha _ D' e o (fun keep torn bytes=>?_) c (l.trans h.len);have hcl:(D'.bZ keep torn bytes).cells.length=n:=by rw[ew,l];exact h.len
  rcases f keep torn bytes with ⟨fs',o1,o2,o3⟩ | ⟨fs',o1,o2,o3⟩
  .obtain⟨m,m1,m2,sf',m3⟩:=fG hcl h.big h.num h.cra h.safeI o2 (mU o3 (by omega) (by omega:lim+2<=1000000000));exact⟨_,o1,m,m1,m2,sf',_,m3⟩
  .have o2':fF (fun num=>if ((num:Nat):Int) ∈ [(i:Int)+2] then 0 else sf num) (bU (1 - slot) (turn+1) n i lo a b (aj (ae E)) LF (some (turn+1,1,[]))).files fs':=o2;obtain⟨m,m1,m2,sf',m3⟩:=fG (sl:=1 - slot) (tu:=turn+1) (y:=some (turn+1,1,[])) hcl h.big h.num (by
    show rf LF _ _ (if ((i+1:Nat):Int) ∈ [(i:Int)+2] then 0 else sf (i+1));rw[if_neg (by intro h;have:=List.mem_singleton.1 h;omega)];exact h.cra) (by
    show _<=(if ((i:Nat):Int) ∈ [(i:Int)+2] then 0 else sf i);rw[if_neg (by intro h;have:=List.mem_singleton.1 h;omega)];exact h.safeI) o2' o3
   exact⟨_,o1,m,m1,m2,sf',_,m3⟩
inductive Ko (n:Nat) (D:Dk) (slot turn:Nat) (lo:Bool) (a b:Nat × Nat) (LF:List (List UInt8)) (u v:Nat) (lim i:Nat) (E:List aq) (bs:List (List cE)) (ps:List (List UInt8)) (r:aK × Dk × Int):Prop where
 | ok (D':Dk) (sf':Nat->Nat) (e:r=(bU slot turn n i lo a b (aj (ae E)) LF (some (u,v,ps)),D',0)) (h:iI n D' slot turn lo a b LF (some (u,v,ps)) sf' lim i E bs bs.length) (c: ∀ m,dq D m->dq D' (m+ps.length)) (r:D'.armed<=D.armed)
 | off (ha:D.armed≠0) (S':aK) (D':Dk) (e:r=(S',D',21)) (o:D'.off=true) (h:gC n D' (lim+1) i E bs bs.length) (c: ∀ m,dq D m->dq D' (m+ps.length)) (l:D'.cells.length=n)
theorem iI.fill {u v:Nat} (h:iI n D slot turn lo a b LF (some (u,v,[])) sf lim i E bs bs.length) (hlim:lim+1<=1000000000) {ps:List (List UInt8)} (hp: ∀ p ∈ ps,p.length<=480) (hl:ps.length<=aC n):
 Ko n D slot turn lo a b LF u v lim i E bs ps (aK.cF ((i:Int)+2) ps (bU slot turn n i lo a b (aj (ae E)) LF (some (u,v,[]))) D):=by
 have ha:=pw h.good xg hp (show 0+ps.length<=aC n by omega)
 cases ha with
 | ok D' e g c l r=>
  simp only at e g;rw[lH (u,v,[]) ps] at e g;exact .ok D' sf e ⟨g,l.trans h.len,h.big,h.num,h.tel,h.cra,h.safeI,h.safe⟩ c r
 | off ha S' D' Dv j e o g cr c l=>
  simp only at g;rw[lH (u,v,[]) (ps.take j)] at g;refine .off ha S' D' e o (fun keep torn bytes=>?_) c (l.trans h.len);obtain⟨gs,f1,f2,f3⟩:=ox g hlim (lZ (keep:=keep) (torn:=torn) (bytes:=bytes) g.fils.wf);obtain⟨m,m1,m2,sf',m3⟩:=fG (by rw[<-cr,ew,l];exact h.len) h.big h.num h.cra h.safeI f2 f3;exact⟨_,by rw[cr];exact f1,m,m1,m2,sf',_,by rw[cr];exact m3⟩
inductive KK (n:Nat) (D:Dk) (slot turn:Nat) (lo:Bool) (a b:Nat × Nat) (LF:List (List UInt8)) (u v:Nat) (lim i:Nat) (E E':List aq) (bs:List (List cE)) (r:aK × Dk × Int):Prop where
 | ok (D':Dk) (sf':Nat->Nat) (e:r=(bU (1 - slot) (turn+1) n (i+2) (!lo) (u,v) (turn+1,1) (aj (ae E')) [] none,D',0)) (h:iI n D' (1 - slot) (turn+1) (!lo) (u,v) (turn+1,1) [] none sf' (lim+1) (i+2) E' [] 0) (c: ∀ m,dq D m->dq D' (m+1)) (r:D'.armed<=D.armed)
 | off (ha:D.armed≠0) (S':aK) (D':Dk) (e:r=(S',D',21)) (o:D'.off=true) (h: ∀ keep torn bytes, ∃ S',cJ (D'.bZ keep torn bytes)=(some S',0)/\ ∃ sf',((∃ x,EL n (D'.bZ keep torn bytes) S' sf' (lim+2) i E bs bs.length x)\/EL n (D'.bZ keep torn bytes) S' sf' (lim+2) (i+2) E' [] 0 false)) (c: ∀ m,dq D m->dq D' (m+1)) (l:D'.cells.length=n)
theorem iI.Lj {u v:Nat} (h:iI n D slot turn lo a b LF (some (u,v,aj (ae E'))) sf lim i E bs bs.length) (hsf:(aj (ae E')).length<=sf (i+2)) (hlim:lim+2<=1000000000) (hi:i<=2147483000):
 KK n D slot turn lo a b LF u v lim i E E' bs ((bU slot turn n i lo a b (aj (ae E)) LF (some (u,v,aj (ae E')))).switch [⟨(i:Int)+3,0,bj n⟩] [(i:Int),(i:Int)+1] D):=by
 obtain⟨f1,f2,f3⟩:=h.fit;have hsw:=qb (add:=[⟨(i:Int)+3,0,bj n⟩]) (drop:=[(i:Int),(i:Int)+1]) h.good hlim (DY ⟨h.num.1,hi⟩ f2) (by have:=uy slot turn n i lo a b (aj (ae E)) LF (some (u,v,aj (ae E')));simp only[List.length_cons,List.length_nil];omega) (by rw[h.len];exact E7 f1 f3 f2 _) tK
 cases hsw with
 | ok D' e g c l ar=>
  have e':(bU slot turn n i lo a b (aj (ae E)) LF (some (u,v,aj (ae E')))).switch [⟨(i:Int)+3,0,bj n⟩] [(i:Int),(i:Int)+1] D=(bU (1 - slot) (turn+1) n (i+2) (!lo) (u,v) (turn+1,1) (aj (ae E')) [] none,D',0):=e;have g':Good D' (bU (1 - slot) (turn+1) n (i+2) (!lo) (u,v) (turn+1,1) (aj (ae E')) [] none) (dh (bU (1 - slot) (turn+1) n (i+2) (!lo) (u,v) (turn+1,1) (aj (ae E')) [] none).files) (lim+1):=g;have h6:=rf.all uj.nil;refine .ok D' _ e' ⟨g',l.trans h.len,h.big,by have:=h.num;omega,uj.nil,?_,?_,Nat.le_refl _⟩ c ar
  .rw[eY (IF:=aj (ae E'))];exact h6
  .rw[dO];exact Nat.le_refl _
 | off ha D' e o c l f=>
  refine .off ha _ D' e o (fun keep torn bytes=>?_) c (l.trans h.len);have hcl:(D'.bZ keep torn bytes).cells.length=n:=by rw[ew,l];exact h.len
  rcases f keep torn bytes with ⟨fs',o1,o2,o3⟩ | ⟨fs',o1,o2,o3⟩
  .obtain⟨m,m1,m2,sf',m3⟩:=fG hcl h.big h.num h.cra h.safeI o2 (mU o3 (by omega) (by omega:lim+2<=1000000000));have hm:m=bs.length:=by omega
   subst hm;rw[List.take_length] at m3;exact⟨_,o1,sf',.inl ⟨_,m3⟩⟩
  .have o2':fF (fun num=>if ((num:Nat):Int) ∈ [(i:Int)+3] then 0 else sf num) (bU (1 - slot) (turn+1) n (i+2) (!lo) (u,v) (turn+1,1) (aj (ae E')) [] none).files fs':=o2;obtain⟨m,m1,m2,sf',m3⟩:=fG (sl:=1 - slot) (tu:=turn+1) (bs:=[]) (safe:=0) hcl h.big (by have:=h.num;omega) (by
    show rf [] _ _ (if ((i+2+1:Nat):Int) ∈ [(i:Int)+3] then 0 else sf (i+2+1));rw[if_pos (by rw[List.mem_singleton];omega)];exact rf.all uj.nil) (by
    show _<=(if ((i+2:Nat):Int) ∈ [(i:Int)+3] then 0 else sf (i+2));rw[if_neg (by intro h;have:=List.mem_singleton.1 h;omega)];exact hsf) o2' o3
   have hm:m=0:=by simpa using m2
   subst hm;exact⟨_,o1,sf',.inr m3⟩
theorem Ke {q:Nat} (h:q<=3):(q:Int)+(([]:List Fi).length:Nat) - ((1:Nat):Int)<=24:=by
 rw[List.length_nil];omega
inductive JN (n:Nat) (D:Dk) (slot turn:Nat) (lo:Bool) (a b:Nat × Nat) (LF:List (List UInt8)) (lim i:Nat) (E:List aq) (bs:List (List cE)) (r:aK × Dk × Int):Prop where
 | ok (D':Dk) (sf':Nat->Nat) (e:r=(bU (1 - slot) (turn+1) n i lo a b (aj (ae E)) LF none,D',0)) (h:iI n D' (1 - slot) (turn+1) lo a b LF none sf' (lim+1) i E bs bs.length) (c: ∀ m,dq D m->dq D' (m+1)) (r:D'.armed<=D.armed)
 | off (ha:D.armed≠0) (S':aK) (D':Dk) (e:r=(S',D',21)) (o:D'.off=true) (h:gC n D' (lim+2) i E bs bs.length) (c: ∀ m,dq D m->dq D' (m+1)) (l:D'.cells.length=n)
theorem iI.back {z:Nat × Nat × List (List UInt8)} (h:iI n D slot turn lo a b LF (some z) sf lim i E bs bs.length) (hlim:lim+2<=1000000000):
 JN n D slot turn lo a b LF lim i E bs ((bU slot turn n i lo a b (aj (ae E)) LF (some z)).switch [] [(i:Int)+2] D):=by
 obtain⟨f1,f2,f3⟩:=h.fit;have hm:=Er (slot:=slot) (turn:=turn) (n:=n) (i:=i) (lo:=lo) (a:=a) (b:=b) (IF:=aj (ae E)) (LF:=LF) z;have hx:=Fo (slot:=slot) (turn:=turn) (n:=n) (i:=i) (lo:=lo) (a:=a) (b:=b) (IF:=aj (ae E)) (LF:=LF) z;have hso:=tK (slot:=slot) (turn:=turn) (n:=n) (i:=i) (lo:=lo) (a:=a) (b:=b) (IF:=aj (ae E)) (LF:=LF) (x:=none);have hfw:((bU slot turn n i lo a b (aj (ae E)) LF (some z)).files.length:Int)+(([]:List Fi).length:Nat) - (([(i:Int)+2]:List Int).length:Nat)<=24:=by
  rw[show ([(i:Int)+2]:List Int).length=1 from rfl];exact Ke (uy slot turn n i lo a b (aj (ae E)) LF (some z))
 have hsw:=qb (add:=[]) (drop:=[(i:Int)+2]) (fs:=(bU slot turn n i lo a b (aj (ae E)) LF none).files) h.good hlim hm hfw (by rw[h.len];exact hx) hso
 cases hsw with
 | ok D' e g c l ar=>
  have e':(bU slot turn n i lo a b (aj (ae E)) LF (some z)).switch [] [(i:Int)+2] D=(bU (1 - slot) (turn+1) n i lo a b (aj (ae E)) LF none,D',0):=e;have g':Good D' (bU (1 - slot) (turn+1) n i lo a b (aj (ae E)) LF none) (dh (bU (1 - slot) (turn+1) n i lo a b (aj (ae E)) LF none).files) (lim+1):=g;have h6:=rf.all h.tel;rw[List.length_map] at h6;refine .ok D' _ e' ⟨g',l.trans h.len,h.big,h.num,h.tel,?_,?_,Nat.le_refl _⟩ c ar
  .rw[eY (IF:=aj (ae E))];exact h6
  .rw[dO];exact Nat.le_refl _
 | off ha D' e o c l f=>
  refine .off ha _ D' e o (fun keep torn bytes=>?_) c (l.trans h.len);have hcl:(D'.bZ keep torn bytes).cells.length=n:=by rw[ew,l];exact h.len
  rcases f keep torn bytes with ⟨fs',o1,o2,o3⟩ | ⟨fs',o1,o2,o3⟩
  .obtain⟨m,m1,m2,sf',m3⟩:=fG hcl h.big h.num h.cra h.safeI o2 (mU o3 (by omega) (by omega:lim+2<=1000000000));exact⟨_,o1,m,m1,m2,sf',_,m3⟩
  .have o2':fF (fun num=>if ((num:Nat):Int) ∈ ([]:List Int) then 0 else sf num) (bU (1 - slot) (turn+1) n i lo a b (aj (ae E)) LF none).files fs':=o2;obtain⟨m,m1,m2,sf',m3⟩:=fG (sl:=1 - slot) (tu:=turn+1) hcl h.big h.num (by
    show rf LF _ _ (if ((i+1:Nat):Int) ∈ ([]:List Int) then 0 else sf (i+1));rw[if_neg (by simp)];exact h.cra) (by
    show _<=(if ((i:Nat):Int) ∈ ([]:List Int) then 0 else sf i);rw[if_neg (by simp)];exact h.safeI) o2' o3
   exact⟨_,o1,m,m1,m2,sf',_,m3⟩
def uG (sl tu n:Nat):aK:=⟨sl,tu,[⟨2,2,aC n,tu,1,[]⟩]⟩
theorem Jr (hg:Good D ⟨slot,turn,[]⟩ sf lim) (hl:D.cells.length=n) (hn:64<=n/\n<=65536) (hlim:lim+2<=1000000000) (ha:D.armed=0):
 ∃ D',(aK.mk slot turn []).switch [⟨2,0,aC n⟩] [] D=(uG (1 - slot) (turn+1) n,D',0)/\Good D' (uG (1 - slot) (turn+1) n) (dh (uG (1 - slot) (turn+1) n).files) (lim+1)/\(∀ m,dq D m->dq D' (m+1))/\D'.cells.length=n/\D'.armed=0:=by
 have h1:=kW hn.1;have h2:=jA hn.2;have hfind: ∀ x,(aK.mk slot turn []).find x=none:=fun x=>rfl
 have h3:(1:Int)<=aC n:=by omega
 have hmay:(aK.mk slot turn []).may [⟨2,0,aC n⟩] []=true:=by
  simp[aK.may,aK.dJ,aK.eI,hfind,h3]
 have hsw:=qb (add:=[⟨2,0,aC n⟩]) (drop:=[]) (fs:=(uG (1 - slot) (turn+1) n).files) hg hlim hmay (by show (0:Int)+1 - 0<=24;decide) (by
  show dW _ (turn+1) [⟨2,0,aC n⟩] [] []=_;have hpl:aU D.cells.length ((aC n:Nat):Int) 2 (di [])=(2,true):=by
   show (2,decide (((aC n:Nat):Int)<=(D.cells.length:Int) - 2))=_;rw[decide_eq_true (by omega)]
  rw[kO hpl];unfold dW;simp only[Int.toNat_natCast];rfl) rfl
 cases hsw with
 | ok D' e g c l ar=>exact⟨D',e,g,c,l.trans hl,by omega⟩
 | off ha2 D' e o c l f=>exact absurd ha ha2
theorem Jj {a1 a2:Nat} (hg:Good D ⟨slot,turn,[⟨2,2,aC n,a1,a2,[]⟩]⟩ sf lim) (hl:D.cells.length=n) (hn:64<=n/\n<=65536) (hlim:lim+2<=1000000000) (ha:D.armed=0):
 ∃ D' sf',(aK.mk slot turn [⟨2,2,aC n,a1,a2,[]⟩]).switch [⟨3,0,bj n⟩] [] D=(bU (1 - slot) (turn+1) n 2 true (a1,a2) (turn+1,1) (aj (ae [])) [] none,D',0)/\iI n D' (1 - slot) (turn+1) true (a1,a2) (turn+1,1) [] none sf' (lim+1) 2 [] [] 0/\(∀ m,dq D m->dq D' (m+1))/\D'.armed=0:=by
 have h1:=kW hn.1;have h2:=jA hn.2;have h3:(1:Int)<=bj n:=by omega
 have hfind:(aK.mk slot turn [⟨2,2,aC n,a1,a2,[]⟩]).find 3=none:=rfl;have hmay:(aK.mk slot turn [⟨2,2,aC n,a1,a2,[]⟩]).may [⟨3,0,bj n⟩] []=true:=by
  simp[aK.may,aK.dJ,aK.eI,hfind,h3]
 have hsw:=qb (add:=[⟨3,0,bj n⟩]) (drop:=[]) (fs:=(bU (1 - slot) (turn+1) n 2 true (a1,a2) (turn+1,1) (aj (ae [])) [] none).files) hg hlim hmay (by show (1:Int)+1 - 0<=24;decide) (by
  show dW _ (turn+1) [⟨3,0,bj n⟩] [(2,aC n)] [⟨2,2,aC n,a1,a2,[]⟩]=_;have hpl:aU D.cells.length ((bj n:Nat):Int) 2 (di [(2,aC n)])=(2+aC n,true):=by
   show aU _ _ 2 [(2,aC n)]=_;unfold aU;rw[if_neg (by simp only[];omega)];unfold aU;rw[decide_eq_true (by simp only[];omega)]
  rw[kO hpl];unfold dW;simp only[Int.toNat_natCast];rfl) (FC (by show 2<=3;omega))
 cases hsw with
 | ok D' e g c l ar=>
  have g':Good D' (bU (1 - slot) (turn+1) n 2 true (a1,a2) (turn+1,1) (aj (ae [])) [] none) (dh (bU (1 - slot) (turn+1) n 2 true (a1,a2) (turn+1,1) (aj (ae [])) [] none).files) (lim+1):=g;refine⟨D',_,e,⟨g',l.trans hl,hn.1,by omega,uj.nil,?_,?_,Nat.le_refl _⟩,c,by omega⟩
  .rw[eY (IF:=aj (ae []))];exact rf.all uj.nil
  .rw[dO];exact Nat.le_refl _
 | off ha2 D' e o c l f=>exact absurd ha ha2
theorem GP (hg:Good D ⟨slot,turn,[]⟩ sf lim) (hlim:lim+1<=1000000000):cJ D=(some ⟨slot,turn,[]⟩,0):=by
 obtain⟨gs,e1,e2,e3⟩:=om hg hlim
 match gs,e2 with
 | [],_=>exact e1
end
def jX (x:Int) (ps:List (List UInt8)) (S:aK) (D:Dk):aK × Dk × Int:=
 if (aK.cF x ps S D).2.2=0 then ((aK.cF x ps S D).1,(aK.cF x ps S D).2.1.flush.1,(aK.cF x ps S D).2.1.flush.2) else aK.cF x ps S D
theorem BO {r:List UInt8} (h0:r.length≠0) (h:r.length<=480):aj r=[r]:=by
 rw[rR h0,List.take_of_length_le h,List.drop_eq_nil_of_le h];rfl
section
variable {w0 w:World} {F:SP} {s d n m:Nat} {D:Dk} {S:aK} {sf:Nat->Nat} {lim:Nat} {b:List UInt8}
theorem GD (x:Int) (A:Option Addr) (c:Nat) (hg:Good D S sf lim) (hc:dq D m) (hm:m+b.length<=999999000) (ha:D.armed<=9223372036854775807) (h:Sat w0 (ag s d S*(af d D*F)) w) (hp: ∀ W,Sat w0 F W->Rd W A b) (hbc:b.length<=c) (hcm:c<=9223372036854775807):
 Calls Tryz.prog 124 #[.pointer (some ⟨s,0,none⟩),.int .i64 x,.slice A b.length c] w fun e w'=>e = .returned (.int .i64 (jX x (aj b) S D).2.2)/\Sat w0 (ag s d (jX x (aj b) S D).1*(af d (jX x (aj b) S D).2.1*F)) w':=by
 have HS:=ah h;have HG:=ah hg;have HC:=ah hc;have HA:=ah ha;have HP:Hid (∀ W,Sat w0 F W->Rd W A b):=hp;obtain⟨L0,hL0⟩: ∃ L0,L0=b.length:=⟨_,rfl⟩;have HL0:=ah hL0;rw[<-hL0] at hm hbc;rw[<-hL0];clear h hg hc ha hp hL0;go_enter Tryz.func124, Tryz.ntmps124;go_wp2_with fail;go_loopw [2] (fun sv wr=> ∃ (L c' k:Nat) (A':Option Addr),L<=c'/\c'<=9223372036854775807/\sv = .slice A' L c'/\k+L<=L0/\Hid (∃ (r:List UInt8) (S':aK) (D':Dk),L=r.length/\Good D' S' sf lim/\dq D' (m+k)/\D'.armed<=9223372036854775807/\aK.cF x (aj b) S D=aK.cF x (aj r) S' D'/\(∀ W,Sat w0 F W->Rd W A' r)/\Sat w0 (ag s d S'*(af d D'*F)) wr)) (fun sv _=>lenOf sv)
 case atStart=>exact⟨L0,c,0,A,hbc,hcm,rfl,by omega,b,S,D,HL0.o,HG.o,HC.o,HA.o,rfl,HP.o,HS.o⟩
 case round=>
  obtain⟨L,c',k,A',hlc,hcm',rfl,hk,HD⟩:=hrel;obtain⟨r,S',D',hL,hg',hc',ha',heq,hrd,hs'⟩:=HD.o;have HLr:=ah hL;by_cases h0:L=0
  .have HR0:Hid (aK.cF x (aj b) S D=(S',D',0)):=by
    unfold Hid;rw[heq,List.eq_nil_of_length_eq_zero (by omega:r.length=0)];rfl
   have HSy:=ah (uI hs' (by have:=hc'.pend;omega));subst h0;clear hL hg' hc' ha' heq hrd hs' HD;go_wp2_with (go_at_call 56;(with_reducible refine HSy.o.mono ?_);rintro e w4 ⟨rfl,hs⟩;have HS4:=ah hs;clear hs);go_ret;unfold jX;rw[HR0.o,if_pos rfl];exact⟨rfl,HS4.o⟩
  .by_cases h4:480<L
   .have hl0:(0:Int)<L:=by omega
    have hmin:min (L:Int) 480=480:=by omega
    have hmn2:(480:Int)<=L:=by omega
    have hcr:=rR (b:=r) (by omega);have hpl:(r.take 480).length=480:=by rw[List.length_take];omega
    obtain⟨S2,D2,r2,he⟩: ∃ S2 D2 r2,S'.append x (r.take 480) D'=(S2,D2,r2):=⟨_,_,_,rfl⟩;have hAp:=EX x A' c' 480 hg' hc' (by omega) ha' hs' (fun W hW=>(hrd W hW).take 480) hpl he;have hst:aK.cF x (aj b) S D=if r2=0 then aK.cF x (aj (r.drop 480)) S2 D2 else (S2,D2,r2):=by
     rw[heq,hcr,eZ,he]
    have hnx:=fun h0=>qJ hg' x (r.take 480) hc' ha' (by rw[he];exact h0)
    rw[he] at hnx;have hrd2: ∀ W,Sat w0 F W->Rd W (A'.map (·.add 480)) (r.drop 480):=fun W hW=>by
     have h9:=(hrd W hW).drop (k:=480) (cap:=c') (by omega) (by omega);rw[if_neg (by omega)] at h9;exact h9
    have hdl:L - 480=(r.drop 480).length:=by rw[List.length_drop];omega
    have HAp:=ah hAp;have HSt:=ah hst;have HNx:=ah hnx;have HRd2:=ah hrd2;have HDl:=ah hdl;clear hL hg' hc' ha' heq hrd hs' HD hAp hst hnx hrd2 hdl hcr hpl he HLr;by_cases hr2:r2=0
    .subst hr2;have HN0:=ah (HNx.o rfl);have HS0:Hid (aK.cF x (aj b) S D=aK.cF x (aj (r.drop 480)) S2 D2):=by unfold Hid;rw[HSt.o,if_pos rfl]
     clear HNx HSt;go_wp2_with (go_at_call 120;(with_reducible refine HAp.o.mono ?_);rintro e w4 ⟨rfl,hs⟩;have HS4:=ah hs;clear hs);go_roundw
     .exact⟨L - 480,c' - 480,k+480,_,by omega,by omega,rfl,by omega,r.drop 480,S2,D2,HDl.o,HN0.o.1,HN0.o.2.1.mono (by omega),HN0.o.2.2,HS0.o,HRd2.o,HS4.o⟩
     .simp[lenOf];omega
    .have hr3:(r2 !=0)=true:=by rw[bne_iff_ne];exact hr2
     have HE:Hid (aK.cF x (aj b) S D=(S2,D2,r2)):=by unfold Hid;rw[HSt.o,if_neg hr2]
     go_wp2_with (go_at_call 120;(with_reducible refine HAp.o.mono ?_);rintro e w4 ⟨rfl,hs⟩;have HS4:=ah hs;clear hs);go_ret;unfold jX;rw[HE.o,if_neg hr2];exact⟨rfl,HS4.o⟩
   .have hl0:(0:Int)<L:=by omega
    have hmin:min (L:Int) 480=L:=by omega
    have hcr:=BO (r:=r) (by omega) (by omega);obtain⟨S2,D2,r2,he⟩: ∃ S2 D2 r2,S'.append x r D'=(S2,D2,r2):=⟨_,_,_,rfl⟩;have hAp:=EX x A' c' L hg' hc' (by omega) ha' hs' hrd hL.symm he;have hst:aK.cF x (aj b) S D=if r2=0 then (S2,D2,0) else (S2,D2,r2):=by
     rw[heq,hcr,eZ,he];rfl
    have hnx:=fun h0=>qJ hg' x r hc' ha' (by rw[he];exact h0)
    rw[he] at hnx;have HAp:=ah hAp;have HSt:=ah hst;have HNx:=ah hnx;clear hL hg' hc' ha' heq hrd hs' HD hAp hst hnx hcr he HLr;by_cases hr2:r2=0
    .subst hr2;have HN0:=ah (HNx.o rfl);have HS0:Hid (aK.cF x (aj b) S D=(S2,D2,0)):=by unfold Hid;rw[HSt.o,if_pos rfl]
     clear HNx HSt;go_wp2_with (go_at_call 120;(with_reducible refine HAp.o.mono ?_);rintro e w4 ⟨rfl,hs⟩;have HS4:=ah hs;clear hs);go_roundw
     .exact⟨0,c' - L,k+L,(if c'=L then A' else A'.map (·.add L)),by omega,by omega,by simp,by omega,[],S2,D2,rfl,HN0.o.1,HN0.o.2.1.mono (by omega),HN0.o.2.2,HS0.o,fun W _=>Rd.nil _ _,HS4.o⟩
     .simp[lenOf];omega
    .have hr3:(r2 !=0)=true:=by rw[bne_iff_ne];exact hr2
     have HE:Hid (aK.cF x (aj b) S D=(S2,D2,r2)):=by unfold Hid;rw[HSt.o,if_neg hr2]
     go_wp2_with (go_at_call 120;(with_reducible refine HAp.o.mono ?_);rintro e w4 ⟨rfl,hs⟩;have HS4:=ah hs;clear hs);go_ret;unfold jX;rw[HE.o,if_neg hr2];exact⟨rfl,HS4.o⟩
end
section
variable {n:Nat} {D D':Dk} {slot turn:Nat} {lo:Bool} {a b:Nat × Nat} {LF:List (List UInt8)} {y:Xf} {sf:Nat->Nat} {lim i:Nat} {E E':List aq} {bs:List (List cE)} {safe:Nat} {S:aK} {cs:List cE} {x:Bool}
def Eb (n:Nat) (D:Dk) (lim i:Nat) (E E':List aq) (bs:List (List cE)):Prop:= ∀ keep torn bytes,
 ∃ S',cJ (D.bZ keep torn bytes)=(some S',0)/\ ∃ sf',((∃ x,EL n (D.bZ keep torn bytes) S' sf' lim i E bs bs.length x)\/EL n (D.bZ keep torn bytes) S' sf' lim (i+2) E' [] 0 false)
theorem gC.ei (h:gC n D lim i E bs bs.length) (E':List aq):Eb n D lim i E E' bs:=fun keep torn bytes=>by
 obtain⟨S',e,m,m1,m2,sf',x,h1⟩:=h keep torn bytes;have hm:m=bs.length:=by omega
 subst hm;rw[List.take_length] at h1;exact⟨S',e,sf',.inl ⟨x,h1⟩⟩
inductive K1 (n:Nat) (D:Dk) (slot turn:Nat) (lo:Bool) (a b:Nat × Nat) (LF:List (List UInt8)) (u v:Nat) (lim i:Nat) (E:List aq) (bs:List (List cE)) (ps:List (List UInt8)) (r:aK × Dk × Int):Prop where
 | ok (D':Dk) (sf':Nat->Nat) (e:r=(bU slot turn n i lo a b (aj (ae E)) LF (some (u,v,ps)),D',0)) (h:iI n D' slot turn lo a b LF (some (u,v,ps)) sf' lim i E bs bs.length) (hs:ps.length<=sf' (i+2)) (c: ∀ m,dq D m->dq D' (m+ps.length)) (r:D'.armed<=D.armed)
 | off (ha:D.armed≠0) (S':aK) (D':Dk) (e:r=(S',D',21)) (o:D'.off=true) (h:gC n D' (lim+1) i E bs bs.length) (c: ∀ m,dq D m->dq D' (m+ps.length)) (l:D'.cells.length=n)
theorem iI.Lp {u v:Nat} (h:iI n D slot turn lo a b LF (some (u,v,[])) sf lim i E bs bs.length) (hlim:lim+1<=1000000000) {ps:List (List UInt8)} (hp: ∀ p ∈ ps,p.length<=480) (hl:ps.length<=aC n):
 K1 n D slot turn lo a b LF u v lim i E bs ps (jX ((i:Int)+2) ps (bU slot turn n i lo a b (aj (ae E)) LF (some (u,v,[]))) D):=by
 have hf:=h.fill hlim hp hl;unfold jX
 cases hf with
 | ok D' sf' e h' c r=>
  rw[e];simp only[if_true];obtain⟨g1,g2⟩:=h'.sync;rw[g1];refine .ok _ _ rfl g2 ?_ (fun m hm=>(c m hm).flush h'.good.fils.off) (by rw[eu h'.good.fils.off];exact r);rw[wW];exact Nat.le_refl _
 | off ha S' D' e o h' c l=>
  rw[e,if_neg (show ¬ ((21:Int)=0) by decide)];exact .off ha S' D' rfl o h' c l
end
end Go.Proofs.YtmbaiglpgaoogaaGreat
