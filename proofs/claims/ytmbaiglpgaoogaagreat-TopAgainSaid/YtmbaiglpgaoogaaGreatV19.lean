/- Joined, as they were built one by one: Skip Skip1 Skip2 Skip3 Skip4 Skip5. -/
import Derived.Test.YtmbaiglpgaoogaaGreatV10
set_option maxHeartbeats 16000000
namespace Go.Proofs.YtmbaiglpgaoogaaGreat
open Go.RowKit
set_option linter.unusedVariables false
set_option maxRecDepth 100000
structure Nd where
 a:Nat
 r:Nat
 e:En
 h:Nat
 v:Nat
def nxt (t:Nat->Option Nat) (ns:List Nd) (i:Nat):Option Nat:=match ns.find? (fun n=>decide (i<n.v)) with | some n=>some n.a | none=>t i
def ptrN (o:Option Nat):Value:= .pointer (o.map fun b=>⟨b,0,none⟩)
def rowN (f:Nat->Option Nat) (h v:Nat):Array Value:=((List.range h).map fun j=>if j<v then ptrN (f j) else ptrN none).toArray
def nodeC (n:Nd):Array Value:= #[.slice (some ⟨n.r,0,none⟩) n.h n.h,slv' n.e.key,slv' n.e.value,.int .i64 n.e.seq,.bool n.e.dead]
def NodeP (n:Nd) (f:Nat->Option Nat):SP:=Pt n.a 186 (nodeC n)*Pt n.r 183 (rowN f n.h n.v)
def NodesG (t:Nat->Option Nat):List Nd->SP
 | []=>Emp
 | n::ns=>NodeP n (nxt t ns)*NodesG t ns
def noT:Nat->Option Nat:=fun _=>none
section
variable {t t':Nat->Option Nat} {n m:Nd} {ns p s:List Nd} {i j h v:Nat}
theorem nxt_cons (t:Nat->Option Nat) (n:Nd) (ns:List Nd) (i:Nat):nxt t (n::ns) i=if i<n.v then some n.a else nxt t ns i:=by
 unfold nxt;rw[List.find?_cons];by_cases h:i<n.v
 .simp[h]
 .simp[h]
theorem nxt_app (t:Nat->Option Nat) (s:List Nd): ∀ p:List Nd,nxt t (p++s)=nxt (nxt t s) p
 | []=>rfl
 | n::p=>by
  funext i
  rw[List.cons_append,nxt_cons,nxt_cons,nxt_app t s p]
theorem nxt_low (h: ∀ n ∈ ns,n.v<=i):nxt t ns i=t i:=by
 unfold nxt;rw[List.find?_eq_none.2 (fun n hn=>by have:=h n hn;simp;omega)]
theorem nxt_cases (ns:List Nd) (i:Nat):(nxt noT ns i=none/\ ∀ n ∈ ns,n.v<=i)\/ ∃ p m s,ns=p++m::s/\nxt noT ns i=some m.a/\i<m.v/\ ∀ n ∈ p,n.v<=i:=by
 induction ns with
 | nil=>exact .inl ⟨rfl,by simp⟩
 | cons n ns ih=>
  by_cases h:i<n.v
  .exact .inr ⟨[],n,ns,rfl,by rw[nxt_cons,if_pos h],h,by simp⟩
  .rcases ih with ⟨h1,h2⟩ | ⟨p,m,s,rfl,h2,h3,h4⟩
   .exact .inl ⟨by rw[nxt_cons,if_neg h,h1],fun x hx=>(List.mem_cons.1 hx).elim (fun e=>by subst e;omega) (h2 x)⟩
   .exact .inr ⟨n::p,m,s,rfl,by rw[nxt_cons,if_neg h];exact h2,h3,fun x hx=>(List.mem_cons.1 hx).elim (fun e=>by subst e;omega) (h4 x)⟩
theorem rowN_congr {f g:Nat->Option Nat} (hfg: ∀ j,j<h->j<v->f j=g j):rowN f h v=rowN g h v:=by
 unfold rowN;congr 1
 apply List.map_congr_left;intro j hj;have hj:=List.mem_range.1 hj;by_cases hv:j<v
 .rw[if_pos hv,if_pos hv,hfg j hj hv]
 .rw[if_neg hv,if_neg hv]
theorem rowN_get (f:Nat->Option Nat) (hj:j<h):(rowN f h v)[j]?=some (if j<v then ptrN (f j) else ptrN none):=by
 unfold rowN;simp[hj]
theorem nodes_app (t:Nat->Option Nat) (s:List Nd): ∀ p:List Nd,NodesG t (p++s)=NodesG (nxt t s) p*NodesG t s
 | []=>(emp_star _).symm
 | n::p=>by
  show NodeP n (nxt t (p++s))*NodesG t (p++s)=NodeP n (nxt (nxt t s) p)*NodesG (nxt t s) p*NodesG t s;rw[nxt_app,nodes_app t s p,star_assoc]
theorem nodes_low: ∀ {ns:List Nd},(∀ n ∈ ns,n.v<=i)->(∀ j,j<i->t j=t' j)->NodesG t ns=NodesG t' ns
 | [],_,_=>rfl
 | n::ns,h,k=>by
  show NodeP n (nxt t ns)*NodesG t ns=NodeP n (nxt t' ns)*NodesG t' ns;rw[nodes_low (fun x hx=>h x (List.mem_cons_of_mem _ hx)) k];have hn:=h n List.mem_cons_self;have e:rowN (nxt t ns) n.h n.v=rowN (nxt t' ns) n.h n.v:=rowN_congr fun j hj hv=>by
   unfold nxt
   cases ns.find? (fun n=>decide (j<n.v)) with
   | some _=>rfl
   | none=>exact k j (by omega)
  unfold NodeP;rw[e]
end
structure NOk (ns:List Nd):Prop where
 full: ∀ n ∈ ns,n.v=n.h/\1<=n.h/\n.h<=8
 sort:ns.Pairwise fun a b=>LTE a.e.ent b.e.ent
def byt (l:List Ent):Nat:=l.foldr (fun e s=>e.key.length+e.value.length+s) 0
def slcs (ns:List Nd):List Slc:=ns.flatMap fun n=>[n.e.key,n.e.value]
def SkipC (b hr:Nat) (ns:List Nd) (cnt by':Int):SP:=
 Pt b 173 #[.slice (some ⟨hr,0,none⟩) 8 8,.int .i64 cnt,.int .i64 by']*(Pt hr 183 (rowN (nxt noT ns) 8 8)*(NodesG noT ns*RoL (slcs ns)))
structure View (w:World) (b hr:Nat) (ns:List Nd):Prop where
 head:w.cell? ⟨b,0,none⟩=some (.slice (some ⟨hr,0,none⟩) 8 8)
 links: ∀ i,i<8->w.cell? ⟨hr,i,none⟩=some (ptrN (nxt noT ns i))
 node: ∀ p n s,ns=p++n::s->w.cell? ⟨n.a,0,none⟩=some (.slice (some ⟨n.r,0,none⟩) n.h n.h)/\w.cell? ⟨n.a,1,none⟩=some (slv' n.e.key)/\w.cell? ⟨n.a,2,none⟩=some (slv' n.e.value)/\w.cell? ⟨n.a,3,none⟩=some (.int .i64 n.e.seq)/\w.cell? ⟨n.a,4,none⟩=some (.bool n.e.dead)
  /\(∀ i,i<n.h->w.cell? ⟨n.r,i,none⟩=some (ptrN (nxt noT s i)))/\EnR w n.e
 nodup:(ns.map Nd.a).Nodup
section
variable {w0 w w':World} {F:SP} {b hr:Nat} {ns p s:List Nd} {n:Nd} {c y:Int} {t:Nat->Option Nat}
theorem View.new (h:View w b hr ns) (k:Chg No w w'):View w' b hr ns:=
 ⟨k.cell h.head id,fun i hi=>k.cell (h.links i hi) id,fun p n s e=>by
  obtain⟨h1,h2,h3,h4,h5,h6,h7⟩:=h.node p n s e;exact⟨k.cell h1 id,k.cell h2 id,k.cell h3 id,k.cell h4 id,k.cell h5 id,fun i hi=>k.cell (h6 i hi) id,h7.new k⟩,h.nodup⟩
theorem node_out (t:Nat->Option Nat) (p:List Nd) (n:Nd) (s:List Nd) (F:SP):NodesG t (p++n::s)*F=Pt n.a 186 (nodeC n)*(Pt n.r 183 (rowN (nxt t s) n.h n.v)*(NodesG (nxt t (n::s)) p*(NodesG t s*F))):=by
 rw[nodes_app];show NodesG (nxt t (n::s)) p*(Pt n.a _ (nodeC n)*Pt n.r _ (rowN (nxt t s) n.h n.v)*NodesG t s)*F=_
 ac_rfl
theorem nodes_dup (h:Sat w0 (NodesG t ns*F) w):(ns.map Nd.a).Nodup:=by
 induction ns generalizing F with
 | nil=>simp
 | cons n ns ih=>
  have h1:Sat w0 (Pt n.a 186 (nodeC n)*(NodesG t ns*(Pt n.r 183 (rowN (nxt t ns) n.h n.v)*F))) w:=h.of (by
   show Pt n.a _ (nodeC n)*Pt n.r _ (rowN (nxt t ns) n.h n.v)*NodesG t ns*F=_
   ac_rfl)
  rw[List.map_cons,List.nodup_cons];refine⟨fun hm=>?_,ih h1.right⟩;obtain⟨m,hm,e⟩:=List.mem_map.1 hm;obtain⟨p,s,rfl⟩:=List.append_of_mem hm;have h2:Sat w0 (Ow n.a _*(Ow m.a _*_)) w:=h1.of (by rw[node_out];rfl);exact h2.ne e.symm
theorem Sat.view (h:Sat w0 (SkipC b hr ns c y*F) w) (hok:NOk ns):View w b hr ns:=by
 have h1:Sat w0 (Pt b 173 #[.slice (some ⟨hr,0,none⟩) 8 8,.int .i64 c,.int .i64 y]*(Pt hr 183 (rowN (nxt noT ns) 8 8)*(NodesG noT ns*(RoL (slcs ns)*F)))) w:=h.of (by unfold SkipC;ac_rfl);refine⟨h1.cell 0,fun i hi=>?_,fun p n s e=>?_,nodes_dup (h1.up3)⟩
 .rw[h1.up2.cell i,rowN_get _ hi,if_pos hi]
 .subst e;have h2:=h1.up3.of (node_out noT p n s _);obtain⟨e1,e2,e3⟩:=hok.full n (by simp);refine⟨h2.cell 0,h2.cell 1,h2.cell 2,h2.cell 3,h2.cell 4,fun i hi=>?_,?_⟩
  .rw[h2.up2.cell i,rowN_get _ hi,if_pos (by omega)]
  .have h3:=h1.up4;exact⟨h3.rol (r:=n.e.key) (by unfold slcs;simp),h3.rol (r:=n.e.value) (by unfold slcs;simp)⟩
end
def ahead (e:Ent) (ns:List Nd):List Nd:=ns.takeWhile fun n=>lessE n.e.ent e
def lastAt (b:Nat):List Nd->Nat->Nat
 | [],_=>b
 | n::ns,i=>if i<n.v then lastAt n.a ns i else lastAt b ns i
theorem lastAt_app (s:List Nd) (i:Nat): ∀ (p:List Nd) (b:Nat),lastAt b (p++s) i=lastAt (lastAt b p i) s i
 | [],b=>rfl
 | n::p,b=>by
  show (if i<n.v then lastAt n.a (p++s) i else lastAt b (p++s) i)=lastAt (if i<n.v then lastAt n.a p i else lastAt b p i) s i;by_cases h:i<n.v
  .rw[if_pos h,if_pos h];exact lastAt_app s i p n.a
  .rw[if_neg h,if_neg h];exact lastAt_app s i p b
theorem lastAt_low {i:Nat}: ∀ {s:List Nd} {b:Nat},(∀ n ∈ s,n.v<=i)->lastAt b s i=b
 | [],_,_=>rfl
 | n::s,b,h=>by
  unfold lastAt;rw[if_neg (by have:=h n List.mem_cons_self;omega)];exact lastAt_low fun x hx=>h x (List.mem_cons_of_mem _ hx)
theorem ahead_app {e:Ent} {p s:List Nd} (h: ∀ n ∈ p,LTE n.e.ent e):ahead e (p++s)=p++ahead e s:=by
 unfold ahead;exact List.takeWhile_append_of_pos fun n hn=>h n hn
theorem mem_ahead {e:Ent} {n:Nd}: ∀ {s:List Nd},n ∈ ahead e s->n ∈ s/\LTE n.e.ent e
 | [],h=>by simp[ahead] at h
 | m::s,h=>by
  unfold ahead at h;rw[List.takeWhile_cons] at h;split at h
  .rename_i hl;rcases List.mem_cons.1 h with h | h
   .subst h;exact⟨List.mem_cons_self,hl⟩
   .have:=mem_ahead (s:=s) h;exact⟨List.mem_cons_of_mem _ this.1,this.2⟩
  .cases h
structure Plc (w:World) (b:Nat) (ns:List Nd) (e:Ent) (k:Nat) (p s:List Nd) (A R h:Nat):Prop where
 eq:ns=p++s
 low: ∀ n ∈ p,LTE n.e.ent e
 done: ∀ n ∈ s,LTE n.e.ent e->n.v<=k
 hk:k<=h
 head:w.cell? ⟨A,0,none⟩=some (.slice (some ⟨R,0,none⟩) h h)
 links: ∀ i,i<h->w.cell? ⟨R,i,none⟩=some (ptrN (nxt noT s i))
 last: ∀ j,j<h->lastAt b p j=A
section
variable {w w':World} {b hr k A R h:Nat} {ns p s:List Nd} {e:Ent}
theorem Plc.new (x:Plc w b ns e k p s A R h) (c:Chg No w w'):Plc w' b ns e k p s A R h:=⟨x.eq,x.low,x.done,x.hk,c.cell x.head id,fun i hi=>c.cell (x.links i hi) id,x.last⟩
theorem View.plc (v:View w b hr ns) (hok:NOk ns) (e:Ent):Plc w b ns e 8 [] ns b hr 8:=
 ⟨rfl,by simp,fun n hn _=>by have:=hok.full n hn;omega,Nat.le_refl _,v.head,v.links,fun _ _=>rfl⟩
theorem Plc.step (x:Plc w b ns e (k+1) p s A R h) (v:View w b hr ns) (hok:NOk ns) {q t:List Nd} {m:Nd} (hs:s=q++m::t) (hm:k<m.v) (hl:LTE m.e.ent e):
  Plc w b ns e (k+1) (p++(q++[m])) t m.a m.r m.h:=by
 have he:=x.eq;subst hs;have hf:=hok.full m (by rw[he];simp);obtain⟨h1,_,_,_,_,h6,_⟩:=v.node (p++q) m t (by rw[he];simp);refine⟨by rw[he];simp,fun n hn=>?_,fun n hn=>x.done n (by simp[hn]),by omega,h1,h6,fun j hj=>?_⟩
 .rcases List.mem_append.1 hn with hn | hn
  .exact x.low n hn
  .rcases List.mem_append.1 hn with hn | hn
   .have hsort:=hok.sort;rw[he,List.pairwise_append] at hsort;have h2:=hsort.2.1;rw[List.pairwise_append] at h2;exact lte_trans (h2.2.2 n hn m List.mem_cons_self) hl
   .simp at hn;subst hn;exact hl
 .rw[lastAt_app,lastAt_app];show (if j<m.v then _ else _)=_;rw[if_pos (by omega)];rfl
theorem Plc.down (x:Plc w b ns e (k+1) p s A R h) (hd: ∀ n ∈ s,LTE n.e.ent e->n.v<=k):Plc w b ns e k p s A R h:=⟨x.eq,x.low,hd,by have:=x.hk;omega,x.head,x.links,x.last⟩
theorem Plc.here (x:Plc w b ns e (k+1) p s A R h) (hd: ∀ n ∈ s,LTE n.e.ent e->n.v<=k):lastAt b (ahead e ns) k=A:=by
 have he:=x.eq;rw[he,ahead_app x.low,lastAt_app,x.last k (by have:=x.hk;omega)];exact lastAt_low fun n hn=>hd n (mem_ahead hn).1 (mem_ahead hn).2
theorem done_none (x:Plc w b ns e (k+1) p s A R h) (hn: ∀ n ∈ s,n.v<=k): ∀ n ∈ s,LTE n.e.ent e->n.v<=k:=fun n h _=>hn n h
theorem done_some (x:Plc w b ns e (k+1) p s A R h) (hok:NOk ns) {q t:List Nd} {m:Nd} (hs:s=q++m::t) (hq: ∀ n ∈ q,n.v<=k) (hl:¬ LTE m.e.ent e): ∀ n ∈ s,LTE n.e.ent e->n.v<=k:=by
 intro n hn hl2;have he:=x.eq;subst hs;rcases List.mem_append.1 hn with hn | hn
 .exact hq n hn
 .have hsort:=hok.sort;rw[he,List.pairwise_append] at hsort;have h2:=hsort.2.1;rw[List.pairwise_append,List.pairwise_cons] at h2;rcases List.mem_cons.1 hn with e | hn
  .subst e;exact absurd hl2 hl
  .exact absurd (lte_trans (h2.2.1.1 n hn) hl2) hl
end
def rank (ns:List Nd) (v:Value):Nat:=match v with | .pointer (some A)=>(ns.dropWhile fun n=>decide (n.a≠A.block)).length | _=>0
theorem rank_at {ns p s:List Nd} {m:Nd} (hd:(ns.map Nd.a).Nodup) (h:ns=p++m::s):rank ns (.pointer (some ⟨m.a,0,none⟩))=s.length+1:=by
 subst h;show ((p++m::s).dropWhile fun n=>decide (n.a≠m.a)).length=_;have hp: ∀ n ∈ p,decide (n.a≠m.a)=true:=fun n hn=>by
  rw[List.map_append,List.nodup_append] at hd;have:=hd.2.2 n.a (List.mem_map_of_mem hn) m.a (by simp);simpa using this
 rw[List.dropWhile_append_of_pos hp,List.dropWhile_cons];simp
theorem rank_nxt {ns p s:List Nd} {i:Nat} (hd:(ns.map Nd.a).Nodup) (h:ns=p++s):rank ns (ptrN (nxt noT s i))<=s.length:=by
 rcases nxt_cases s i with ⟨h1,_⟩ | ⟨q,m,t,hs,h2,_,_⟩
 .rw[h1];exact Nat.zero_le _
 .rw[h2];have:=rank_at (p:=p++q) (s:=t) (m:=m) hd (by rw[h,hs];simp);show rank ns (.pointer (some ⟨m.a,0,none⟩))<=_;rw[this,hs];simp
def outC (b:Nat) (ps:List Nd) (k:Nat):Array Value:=((List.range 8).map fun j=>if k<=j then ptrN (some (lastAt b ps j)) else ptrN none).toArray
theorem outC_set (b:Nat) (ps:List Nd) (k:Nat) (hk:k<8):(outC b ps (k+1)).setIfInBounds k (.pointer (some ⟨lastAt b ps k,0,none⟩))=outC b ps k:=by
 apply Array.ext';apply List.ext_getElem?;intro j;unfold outC;simp only[List.setIfInBounds_toArray,List.getElem?_set,List.getElem?_map,List.length_map,List.length_range];by_cases hj:j<8
 .rw[List.getElem?_range hj];by_cases e:k=j
  .subst e;simp[hk,ptrN]
  .have:(k+1<=j)=(k<=j):=by apply propext;omega
   simp[e,this]
 .simp[hj,show ¬ k=j by omega]
abbrev enC (e:En):Array Value:= #[.slice e.key.1 e.key.2.2.length e.key.2.1,.slice e.value.1 e.value.2.2.length e.value.2.1,.int .i64 e.seq,.bool e.dead]
theorem outC_get (b:Nat) (ps:List Nd) (k:Nat) {j:Nat} (hj:j<8):(outC b ps k)[j]?=some (if k<=j then ptrN (some (lastAt b ps j)) else ptrN none):=by unfold outC;simp[hj]
structure Bst (w:World) (b:Nat) (ns:List Nd) (e:En) (E B O V:Nat) (k:Nat) (p s:List Nd) (A R h:Nat) (wr:World):Prop where
 plc:Plc w b ns e.ent k p s A R h
 k8:k<=8
 sat:Sat w (Pt O 181 (outC b (ahead e.ent ns) V)*(Pt B 181 (outC b [] 8)*(Pt E 120 (enC e)*Emp))) wr
theorem before_any (b hr:Nat) (ns:List Nd) (e:En) (w:World) (hv:View w b hr ns) (hok:NOk ns) (he:EnR w e):
  Calls Tryz.prog 108 #[.pointer (some ⟨b,0,none⟩),enA e] w fun x w'=>x = .returned (.agg (outC b (ahead e.ent ns) 0))/\Chg No w w':=by
 have HV:=ah hv;have HE:=ah he;have HO:=ah hok;have HEA:Hid (∀ e:En,enA e = .agg #[.slice e.key.1 e.key.2.2.length e.key.2.1,.slice e.value.1 e.value.2.2.length e.value.2.1,.int .i64 e.seq,.bool e.dead]):=fun _=>rfl
 rw[HEA.o];clear hv he hok;go_enter Tryz.func108, Tryz.ntmps108;go_wp2_with fail;have s1:=(Sat.start w).allocAt (b:=w.heap.size) 120 (enC e) rfl;have s2:=s1.allocAt (b:=w.heap.size+1) 181 (outC b [] 8) (by simp);have s3:=s2.allocAt (b:=w.heap.size+1+1) 181 (outC b (ahead e.ent ns) 8) (by simp);obtain⟨W,hW⟩: ∃ W,W=((w.alloc (.cells (enC e) 120)).alloc (.cells (outC b [] 8) 181)).alloc (.cells (outC b (ahead e.ent ns) 8) 181):=⟨_,rfl⟩;rw[<-hW] at s3;have e8: ∀ ps,outC b ps 8 = #[.pointer none,.pointer none,.pointer none,.pointer none,.pointer none,.pointer none,.pointer none,.pointer none]:=fun _=>rfl
 rw[e8,e8] at hW;rw[<-hW];generalize w.heap.size=E at*
 obtain⟨O,hO⟩: ∃ O,O=E+1+1:=⟨_,rfl⟩;obtain⟨B,hB⟩: ∃ B,B=E+1:=⟨_,rfl⟩;rw[<-hO, <-hB] at s3;rw[<-hO, <-hB];have HS:=ah s3;clear s1 s2 s3 hW e8 hO hB;go_loopw [6,7] (fun at' i wr=> ∃ (k A R h:Nat) (p s:List Nd),i = .int .i64 ((k:Int) - 1)/\at' = .pointer (some ⟨A,0,none⟩)/\k<=8/\Hid (Bst w b ns e E B O k k p s A R h wr)) (fun _ i _=>(intOf i+1).toNat)
 case atStart=>exact⟨8,b,hr,8,[],ns,rfl,rfl,by omega,HV.o.plc HO.o _,by omega,HS.o⟩
 case round=>
  obtain⟨k,A,R,h,p,s,rfl,rfl,hk8,HD⟩:=hrel;rcases k with _ | q
  .have eO: ∀ ps,outC b ps 0 = #[.pointer (some ⟨lastAt b ps 0,0,none⟩),.pointer (some ⟨lastAt b ps 1,0,none⟩),.pointer (some ⟨lastAt b ps 2,0,none⟩),.pointer (some ⟨lastAt b ps 3,0,none⟩),.pointer (some ⟨lastAt b ps 4,0,none⟩),.pointer (some ⟨lastAt b ps 5,0,none⟩),.pointer (some ⟨lastAt b ps 6,0,none⟩),.pointer (some ⟨lastAt b ps 7,0,none⟩)]:=fun _=>rfl
   have hs:=HD.o.sat;have e8:outC b [] 8 = #[.pointer none,.pointer none,.pointer none,.pointer none,.pointer none,.pointer none,.pointer none,.pointer none]:=rfl;rw[eO,e8] at hs;have c0:=hs.cell 0;have c1:=hs.cell 1;have c2:=hs.cell 2;have c3:=hs.cell 3;have c4:=hs.cell 4;have c5:=hs.cell 5;have c6:=hs.cell 6;have c7:=hs.cell 7;have f0:=hs.up2.frozen 0;have f1:=hs.up2.frozen 1;have f2:=hs.up2.frozen 2;have f3:=hs.up2.frozen 3;have f4:=hs.up2.frozen 4;have f5:=hs.up2.frozen 5;have f6:=hs.up2.frozen 6;have f7:=hs.up2.frozen 7;have d0:=hs.up2.cell 0;have d1:=hs.up2.cell 1;have d2:=hs.up2.cell 2;have d3:=hs.up2.cell 3;have d4:=hs.up2.cell 4;have d5:=hs.up2.cell 5;have d6:=hs.up2.cell 6;have d7:=hs.up2.cell 7;have HQ:Hid (Value.agg (outC b (ahead e.ent ns) 0)=_):=congrArg Value.agg (eO _);have HS2:=ah hs;clear hs eO e8;have h9:=(((((((HS2.o.up2.set 0 (.pointer (some ⟨lastAt b (ahead e.ent ns) 0,0,none⟩))).set 1 (.pointer (some ⟨lastAt b (ahead e.ent ns) 1,0,none⟩))).set 2 (.pointer (some ⟨lastAt b (ahead e.ent ns) 2,0,none⟩))).set 3 (.pointer (some ⟨lastAt b (ahead e.ent ns) 3,0,none⟩))).set 4 (.pointer (some ⟨lastAt b (ahead e.ent ns) 4,0,none⟩))).set 5 (.pointer (some ⟨lastAt b (ahead e.ent ns) 5,0,none⟩))).set 6 (.pointer (some ⟨lastAt b (ahead e.ent ns) 6,0,none⟩))).set 7 (.pointer (some ⟨lastAt b (ahead e.ent ns) 7,0,none⟩));go_wp2_with fail;clear c0 c1 c2 c3 c4 c5 c6 c7 f0 f1 f2 f3 f4 f5 f6 f7 d0 d1 d2 d3 d4 d5 d6 d7;revert h9;generalize World.setCell _ _ _=W2;intro h9;refine bodyPost_ret (results_cell_row (p:=4) (by kernel_rfl) _ _ B 181 _ (0,0) _ rfl h9.at Tryz.underlying181 rfl (by kernel_rfl)) rfl ?_;exact⟨by rw[HQ.o];rfl,h9.chg⟩
  .have HI:Hid (((q+1:Nat):Int) - 1=q):=by unfold Hid;omega
   rw[HI.o];have hh:=HD.o.plc.hk;have q1:=(HD.o.plc.new HD.o.sat.chg).head;have q2:=(HD.o.plc.new HD.o.sat.chg).links q (by omega);have HD0:=HD;clear HD;go_wp2_with fail;clear hh q1 q2;go_loopw [6,8] (fun at' n wr=> ∃ (A R h:Nat) (p s:List Nd),at' = .pointer (some ⟨A,0,none⟩)/\n=ptrN (nxt noT s q)/\Hid (Bst w b ns e E B O (q+1) (q+1) p s A R h wr)) (fun _ n _=>rank ns n)
   case atStart=>exact⟨A,R,h,p,s,rfl,rfl,HD0.o⟩
   case round=>
    clear HD0;obtain⟨A1,R1,h1,p1,s1,rfl,rfl,HD⟩:=hrel;have hq:q<8:=by omega
    have wq:IntKind.i64.wrap ((q:Int) - 1)=(q:Int) - 1:=by rw[IntKind.wrap_i64];omega
    rcases nxt_cases s1 q with ⟨e1,hlow⟩ | ⟨u,m,t,e2,e1,hm,hu⟩
    .have HX:=ah (done_none HD.o.plc hlow);have e3:ptrN (nxt noT s1 q) = .pointer none:=by rw[e1];rfl
     rw[e3];clear e1 e3 hlow;have f1:=HD.o.sat.frozen q;have f2:wr.cell? ⟨O,q,none⟩=some (.pointer none):=by rw[HD.o.sat.cell q,outC_get _ _ _ hq,if_neg (by omega)];rfl
     go_wp2_with fail;go_region
     go_wp2_with fail;go_roundw
     .have hs:=HD.o.sat.drew.set q (.pointer (some ⟨A1,0,none⟩));rw[<-HD.o.plc.here HX.o,outC_set _ _ _ hq] at hs;rw[HD.o.plc.here HX.o] at hs;exact⟨q,A1,R1,h1,p1,s1,rfl,rfl,by omega,HD.o.plc.down HX.o,by omega,hs⟩
     .simp[intOf]<;>omega
    .have e3:ptrN (nxt noT s1 q) = .pointer (some ⟨m.a,0,none⟩):=by rw[e1];rfl
     rw[e3];have hsp:=HD.o.plc.eq;have hv2:=HV.o.new HD.o.sat.chg;obtain⟨n0,n1,n2,n3,n4,n5,n6⟩:=hv2.node (p1++u) m t (by rw[hsp,e2];simp);unfold slv' at n1 n2;have HR2:=ah hv2.nodup;have HN:=ah n6;have c0:=HD.o.sat.right.right.cell 0;have c1:=HD.o.sat.right.right.cell 1;have c2:=HD.o.sat.right.right.cell 2;have c3:=HD.o.sat.right.right.cell 3;have HU:=ah hu;have E2:=ah e2;have E1:=ah hsp;have HM:=ah hm;clear hu e2 hsp hm e1 e3 hv2 n5 n6 n0;have HC:=ah HD.o.sat.chg;go_wp2_with fail;go_region_law (go_simp;go_at_call 147;refine(less_any m.e e _ (HN.o.new (Chg.refl No wr).drew) (HE.o.new HC.o.drew)).mono ?_;rintro x w5 ⟨rfl,k5⟩)
     all_goals
      cases hb:lessE m.e.ent e.ent with
      | false=>
       have HX:=ah (done_some HD.o.plc HO.o E2.o HU.o (by unfold LTE;rw[hb];simp));have hs0:=HD.o.sat.drew.new k5;have f1:=hs0.frozen q;have f2:w5.cell? ⟨O,q,none⟩=some (.pointer none):=by rw[hs0.cell q,outC_get _ _ _ hq,if_neg (by omega)];rfl
       have HS0:=ah hs0;clear hs0;go_wp2_with fail;go_roundw
       .have hs:=HS0.o.set q (.pointer (some ⟨A1,0,none⟩));rw[<-HD.o.plc.here HX.o,outC_set _ _ _ hq] at hs;rw[HD.o.plc.here HX.o] at hs;exact⟨q,A1,R1,h1,p1,s1,rfl,rfl,by omega,HD.o.plc.down HX.o,by omega,hs⟩
       .simp[intOf]<;>omega
      | true=>
       have HP:=ah (HD.o.plc.step HV.o HO.o E2.o HM.o hb);have HS0:=ah (HD.o.sat.drew.new k5);have hf:=HO.o.full m (by rw[E1.o,E2.o];simp);have hmq:=HM.o;have q3:=(HP.o.new HS0.o.chg).head;have q4:=(HP.o.new HS0.o.chg).links q (by omega);go_wp2_with fail;go_roundw
       .exact⟨m.a,m.r,m.h,_,t,rfl,rfl,HP.o,HD.o.k8,HS0.o⟩
       .have r1:=rank_at (p:=p1++u) (s:=t) (m:=m) HR2.o (by rw[E1.o,E2.o];simp);have r2:=rank_nxt (p:=p1++(u++[m])) (s:=t) (i:=q) HR2.o (by rw[E1.o,E2.o];simp);simp;omega
section
variable {w0 w w':World} {F:SP}
theorem cloneS (S:Option Addr) (n:Nat) (l:List UInt8) (h:Sat w0 F w) (hr:Rd w S l) (hl:l.length<=140737488355328):
  Calls Tryz.prog 104 #[.slice S l.length n] w fun e w'=> ∃ A c,e = .returned (.slice A l.length c)/\Chg No w w'/\Sat w0 (Row 5 1 (.slice A l.length c) l.length (l.map bv)*F) w':=by
 refine(clone_any S n l w hr hl).mono ?_;rintro e w' ⟨v,rfl,h1,h2,h3⟩;have h4:=h.gotRow h3 h1;obtain⟨A,c,rfl,_⟩:=h4.row_sl;exact⟨A,c,rfl,h3,h4⟩
end
def Owned (A:SP):Prop:= ∀ h,A h-> ∀ k x,h k=some x->x.1=false
theorem owned_emp:Owned Emp:=fun h e k x hx=>by unfold Emp at e;rw[e] at hx;cases hx
theorem owned_ow (b:Nat) (o:Obj):Owned (Ow b o):=fun h e k x hx=>by
 unfold Ow at e;rw[e] at hx;unfold one1 at hx;split at hx
 .injection hx with hx;subst hx;rfl
 .cases hx
theorem owned_row (e:TypeId) (size:Nat) (v:Value) (n:Nat) (xs:List Value):Owned (Row e size v n xs):=fun h he k x hx=>by
 rcases he.2 with ⟨_,_,h1⟩ | ⟨g,cap,cur,_,_,_,_,_,h1⟩
 .exact owned_emp h h1 k x hx
 .exact owned_ow _ _ h h1 k x hx
theorem owned_star {A B:SP} (ha:Owned A) (hb:Owned B):Owned (A*B):=fun h ⟨a,b,h1,h2,h3,h4⟩ k x hx=>by
 rw[h2] at hx;unfold Hp.un jn at hx
 cases hk:a k with
 | none=>rw[hk] at hx;exact hb b h4 k x hx
 | some y=>rw[hk] at hx;injection hx with hx;subst hx;exact ha a h3 k _ hk
theorem Sat.join {w0 w w':World} {A F:SP} (h:Sat w0 F w) (k:Sat w A w') (hA:Owned A):Sat w0 (A*F) w':=by
 obtain⟨x,h1,h2⟩:=h.hp;obtain⟨y,k1,k2⟩:=k.hp;have hs:=h.size;have hd: ∀ b u v,x b=some u->y b=some v->False:=fun b u v hu hv=>by
  have e1:=lt_of_block (h1 b u hu).1;have e2:=(k1 b v hv).2 (hA y k2 b v hv);omega
 refine⟨h.chg.tr k.chg,y.un x,fun b u hu=>?_,y,x,fun b=>?_,rfl,k2,h2⟩
 .unfold Hp.un jn at hu
  cases hk:y b with
  | none=>
   rw[hk] at hu;have:=h1 b u hu;exact⟨by rw[k.chg.block b (lt_of_block this.1) id];exact this.1,this.2⟩
  | some v=>
   rw[hk] at hu;injection hu with hu;subst hu
   have:=k1 b v hk;exact⟨this.1,fun e=>Nat.le_trans hs (this.2 e)⟩
 .cases hy:y b with
  | none=>exact .inl rfl
  | some v=>
   cases hx:x b with
   | none=>exact .inr (.inl rfl)
   | some u=>exact(hd b u v hx hy).elim
def CopiedS (w0:World) (F:SP) (e:En) (x:Ending) (w':World):Prop:= ∃ A c B d,x = .returned (enA ⟨(A,c,e.key.2.2),(B,d,e.value.2.2),e.seq,e.dead⟩)/\
 Sat w0 (Row 5 1 (.slice A e.key.2.2.length c) e.key.2.2.length (e.key.2.2.map bv)*(Row 5 1 (.slice B e.value.2.2.length d) e.value.2.2.length (e.value.2.2.map bv)*F)) w'
theorem copied0 (e:En) (w:World) (hr:EnR w e) (hk:e.key.2.2.length<=140737488355328) (hv:e.value.2.2.length<=140737488355328):
  Calls Tryz.prog 110 #[enA e] w (CopiedS w Emp e):=by
 have h:=Sat.start w;obtain⟨⟨kA,kc,k⟩,⟨vA,vc,v⟩,seq,dead⟩:=e;have HRk:Hid (Rd w kA k):=hr.1;have HRv:Hid (Rd w vA v):=hr.2;have hk':k.length<=140737488355328:=hk;have hv':v.length<=140737488355328:=hv;have h1:=h.allocAt (b:=w.heap.size) 120 #[.slice kA k.length kc,.slice vA v.length vc,.int .i64 seq,.bool dead] rfl;have h2:=h1.allocAt (b:=w.heap.size+1) 120 #[.slice none 0 0,.slice none 0 0,.int .i64 0,.bool false] (by simp);have hc2:Chg No w _:=((Chg.refl No w).alloc (.cells #[.slice kA k.length kc,.slice vA v.length vc,.int .i64 seq,.bool dead] 120)).alloc (.cells #[.slice none 0 0,.slice none 0 0,.int .i64 0,.bool false] 120);clear hr h h1;unfold enA;go_enter Tryz.func110, Tryz.ntmps110;go_wp2_with fail;revert h2 hc2;generalize (w.alloc _).alloc _=W;intro h2 hc2;generalize w.heap.size+1=B at*
 generalize w.heap.size=E at*
 have c0:=h2.up2.cell 0;have c1:=h2.up2.cell 1;have c2:=h2.up2.cell 2;have c3:=h2.up2.cell 3;have HS0:=ah h2;have HC0:=ah hc2;clear h2 hc2;go_region_law (first
  | (go_simp;go_at_call 104;(with_reducible refine(cloneS kA kc k HS0.o.drew (HRk.o.new HC0.o.drew) hk').mono ?_);rintro x w1 ⟨A,c,rfl,k1,hs1⟩;have HS1:=ah hs1;have HC1:=ah (HC0.o.drew.tr k1);have c0:=hs1.up3.cell 0;have c1:=hs1.up3.cell 1;have c2:=hs1.up3.cell 2;have c3:=hs1.up3.cell 3;clear hs1 k1)
  | (go_simp;go_at_call 104;(with_reducible refine(cloneS vA vc v HS1.o (HRv.o.new HC1.o) hv').mono ?_);rintro x w2 ⟨B2,d,rfl,k2,hs2⟩;have HS2:=ah hs2;have HC2:=ah (HC1.o.tr k2);have c0:=hs2.up4.cell 0;have c1:=hs2.up4.cell 1;have c2:=hs2.up4.cell 2;have c3:=hs2.up4.cell 3;have f0:=hs2.up4.frozen 0;have f1:=hs2.up4.frozen 1;clear hs2 k2))
 all_goals
  have h5:=(HS2.o.up4.set 0 (.slice A k.length c)).set 1 (.slice B2 v.length d);clear f0 f1 c0 c1 c2 c3;revert h5;generalize World.setCell _ _ _=w3;intro h5;have c0:=h5.cell 0;have c1:=h5.cell 1;have c2:=h5.cell 2;have c3:=h5.cell 3;have d0:=h5.up4.cell 0;have d1:=h5.up4.cell 1;have d2:=h5.up4.cell 2;have d3:=h5.up4.cell 3;have f0:=h5.up4.frozen 0;have f1:=h5.up4.frozen 1;have f2:=h5.up4.frozen 2;have f3:=h5.up4.frozen 3;have h6:=(((h5.up4.set 0 (.slice A k.length c)).set 1 (.slice B2 v.length d)).set 2 (.int .i64 seq)).set 3 (.bool dead);go_wp2_with fail;revert h6;generalize World.setCell _ _ _=w4;intro h6;refine bodyPost_ret (results_cell_row (p:=2) (by kernel_rfl) _ _ B 120 _ (0,0) _ rfl h6.at Tryz.underlying120 rfl (by kernel_rfl)) rfl ?_;exact⟨A,c,B2,d,rfl,h6.right.right.up2⟩
theorem copied_any (e:En) (w0 w:World) (F:SP) (h:Sat w0 F w) (hr:EnR w e) (hk:e.key.2.2.length<=140737488355328) (hv:e.value.2.2.length<=140737488355328):
  Calls Tryz.prog 110 #[enA e] w fun x w'=>CopiedS w0 F e x w'/\Chg No w w':=by
 refine(copied0 e w hr hk hv).mono ?_;rintro x w' ⟨A,c,B,d,rfl,hs⟩;exact⟨⟨A,c,B,d,rfl,(h.join hs (owned_star (owned_row _ _ _ _ _) (owned_star (owned_row _ _ _ _ _) owned_emp))).of (by rw[star_assoc,star_assoc,emp_star])⟩,hs.chg⟩
theorem rowN_set {f g:Nat->Option Nat} {h v i:Nat} {u:Value} (hi:i<v) (hfg: ∀ j,j<h->j≠i->j<v->f j=g j) (hu:ptrN (g i)=u):(rowN f h v).setIfInBounds i u=rowN g h v:=by
 apply Array.ext';apply List.ext_getElem?;intro j;unfold rowN;simp only[List.setIfInBounds_toArray,List.getElem?_set,List.getElem?_map,List.length_map,List.length_range];by_cases hj:j<h
 .rw[List.getElem?_range hj];by_cases e:i=j
  .subst e;simp[hj,hi,hu]
  .by_cases hv:j<v
   .simp[e,hv,hfg j hj (fun q=>e q.symm) hv]
   .simp[e,hv]
 .simp[hj];omega
theorem rowN_more {f:Nat->Option Nat} {h i:Nat}:(rowN f h i).setIfInBounds i (ptrN (f i))=rowN f h (i+1):=by
 apply Array.ext';apply List.ext_getElem?;intro j;unfold rowN;simp only[List.setIfInBounds_toArray,List.getElem?_set,List.getElem?_map,List.length_map,List.length_range];by_cases hj:j<h
 .rw[List.getElem?_range hj];by_cases e:i=j
  .subst e;simp[hj]
  .have:(j<i+1)=(j<i):=by apply propext;omega
   simp[e,this]
 .simp[hj];omega
theorem last_split (i:Nat): ∀ (p:List Nd) (b:Nat),((∀ n ∈ p,n.v<=i)/\lastAt b p i=b)\/ ∃ p1 m p2,p=p1++m::p2/\i<m.v/\(∀ n ∈ p2,n.v<=i)/\lastAt b p i=m.a
 | [],b=> .inl ⟨by simp,rfl⟩
 | n::p,b=>by
  by_cases h:i<n.v
  .have e:lastAt b (n::p) i=lastAt n.a p i:=by show (if i<n.v then _ else _)=_;rw[if_pos h]
   rcases last_split i p n.a with ⟨h1,h2⟩ | ⟨p1,m,p2,h1,h2,h3,h4⟩
   .exact .inr ⟨[],n,p,rfl,h,h1,by rw[e,h2]⟩
   .exact .inr ⟨n::p1,m,p2,by rw[h1];rfl,h2,h3,by rw[e,h4]⟩
  .have e:lastAt b (n::p) i=lastAt b p i:=by show (if i<n.v then _ else _)=_;rw[if_neg h]
   rcases last_split i p b with ⟨h1,h2⟩ | ⟨p1,m,p2,h1,h2,h3,h4⟩
   .exact .inl ⟨fun x hx=>(List.mem_cons.1 hx).elim (fun q=>by subst q;omega) (h1 x),by rw[e,h2]⟩
   .exact .inr ⟨n::p1,m,p2,by rw[h1];rfl,h2,h3,by rw[e,h4]⟩
def Nd.lev (n:Nd) (i:Nat):Nd:={ n with v:=i }
section
variable {w0 w:World} {F:SP} {b hr i:Nat} {pre beh:List Nd} {N:Nd} {c y:Int}
theorem tail_next (N:Nd) (beh:List Nd) (i j:Nat) (h:j≠i):nxt noT (N.lev i::beh) j=nxt noT (N.lev (i+1)::beh) j:=by
 rw[nxt_cons,nxt_cons];show (if j<i then some N.a else _)=(if j<i+1 then some N.a else _);by_cases hj:j<i
 .rw[if_pos hj,if_pos (by omega)]
 .rw[if_neg hj,if_neg (by omega)]
theorem nxt_ext {t t':Nat->Option Nat} {i:Nat} (h:t i=t' i): ∀ ns:List Nd,nxt t ns i=nxt t' ns i:=fun ns=>by
 unfold nxt;cases ns.find? (fun n=>decide (i<n.v)) with | some _=>rfl | none=>exact h
theorem slcs_lev (pre beh:List Nd) (N:Nd) (i j:Nat):slcs (pre++N.lev i::beh)=slcs (pre++N.lev j::beh):=by unfold slcs;simp[Nd.lev]
theorem skip_mid (b hr:Nat) (pre:List Nd) (n:Nd) (beh:List Nd) (c y:Int) (F:SP):SkipC b hr (pre++n::beh) c y*F=
  Pt n.a 186 (nodeC n)*(Pt n.r 183 (rowN (nxt noT beh) n.h n.v)*(NodesG (nxt noT (n::beh)) pre*(Pt hr 183 (rowN (nxt (nxt noT (n::beh)) pre) 8 8)*
   (Pt b 173 #[.slice (some ⟨hr,0,none⟩) 8 8,.int .i64 c,.int .i64 y]*(NodesG noT beh*(RoL (slcs (pre++n::beh))*F)))))):=by
 unfold SkipC;rw[nxt_app,nodes_app];show Pt b _ _*(Pt hr _ _*(NodesG (nxt noT (n::beh)) pre*(Pt n.a _ (nodeC n)*Pt n.r _ (rowN (nxt noT beh) n.h n.v)*NodesG noT beh)*RoL _))*F=_
 ac_rfl
structure Spot (w0 w:World) (b hr:Nat) (pre beh:List Nd) (N:Nd) (i:Nat) (c y:Int) (F:SP) (A R h:Nat):Prop where
 last:lastAt b pre i=A
 hi:i<h
 head:w.cell? ⟨A,0,none⟩=some (.slice (some ⟨R,0,none⟩) h h)
 link:w.cell? ⟨R,i,none⟩=some (ptrN (nxt noT beh i))
 free:w.frozen? ⟨R,i,none⟩=false
 nhead:w.cell? ⟨N.a,0,none⟩=some (.slice (some ⟨N.r,0,none⟩) N.h N.h)
 nlink:w.cell? ⟨N.r,i,none⟩=some (ptrN none)
 nfree:w.frozen? ⟨N.r,i,none⟩=false
 apart:R≠N.r
 on:Sat w0 (SkipC b hr (pre++N.lev (i+1)::beh) c y*F) ((w.setCell ⟨N.r,i,none⟩ (ptrN (nxt noT beh i))).setCell ⟨R,i,none⟩ (.pointer (some ⟨N.a,0,none⟩)))
theorem Sat.spot (h:Sat w0 (SkipC b hr (pre++N.lev i::beh) c y*F) w) (hN:i<N.h) (h8:N.h<=8) (hp: ∀ n ∈ pre,n.v=n.h): ∃ A R H,Spot w0 w b hr pre beh N i c y F A R H:=by
 have h1:=h.of (skip_mid b hr pre (N.lev i) beh c y F);have n0:=h1.cell 0;have n1:w.cell? ⟨N.r,i,none⟩=_:=h1.up2.cell i;rw[rowN_get _ (show i<(N.lev i).h from hN),if_neg (by show ¬ i<i;omega)] at n1;have n2:w.frozen? ⟨N.r,i,none⟩=false:=h1.up2.frozen i;have h2:=h1.up2.set i (ptrN (nxt noT beh i));rw[show rowN (nxt noT beh) (N.lev i).h (N.lev i).v=rowN (nxt noT beh) N.h i from rfl,rowN_more] at h2;have hlow: ∀ j,j<i->nxt noT (N.lev i::beh) j=nxt noT (N.lev (i+1)::beh) j:=fun j hj=>tail_next N beh i j (by omega)
 have hself:nxt noT (N.lev (i+1)::beh) i=some N.a:=by rw[nxt_cons,if_pos (by show i<i+1;omega)];rfl
 have hold:nxt noT (N.lev i::beh) i=nxt noT beh i:=by rw[nxt_cons,if_neg (by show ¬ i<i;omega)]
 rcases last_split i pre b with ⟨hl,ha⟩ | ⟨p1,m,p2,rfl,hm,hl,ha⟩
 .have g1:=h1.up5.cell 0;have g2:=h1.up4.cell i;have g3:=h1.up4.frozen i;have hne:hr≠N.r:=by have:=h1.up2.up4;exact(Sat.ne this)
  rw[rowN_get _ (by omega),if_pos (by omega),nxt_low hl,hold] at g2;refine⟨b,hr,8,ha,by omega,g1,g2,g3,n0,n1,n2,hne,?_⟩;have h3:=h2.up4.set i (.pointer (some ⟨N.a,0,none⟩));rw[rowN_set (g:=nxt (nxt noT (N.lev (i+1)::beh)) pre) (by omega) (fun j _ hj _=>nxt_ext (tail_next N beh i j hj) pre) (by rw[nxt_low hl,hself];rfl),nodes_low hl hlow,slcs_lev pre beh N i (i+1)] at h3;refine Sat.of ?_ (skip_mid b hr pre (N.lev (i+1)) beh c y F).symm;exact h3.of (by
   show Pt hr _ _*(Pt N.r _ (rowN (nxt noT beh) N.h (i+1))*(Pt N.a _ (nodeC N)*(NodesG _ pre*(Pt b _ _*(NodesG noT beh*(RoL _*F))))))=Pt N.a _ (nodeC N)*(Pt N.r _ (rowN (nxt noT beh) N.h (i+1))*(NodesG _ pre*(Pt hr _ _*(Pt b _ _*(NodesG noT beh*(RoL _*F))))))
   ac_rfl)
 .have h3:=h1.up3.of (node_out _ p1 m p2 _);have g1:=h3.cell 0;have g2:=h3.up2.cell i;have g3:=h3.up2.frozen i;have hmv:=hp m (by simp);have hne:m.r≠N.r:=fun e=>(Sat.ne (h3.right.up5)) e.symm
  rw[rowN_get _ (by omega),if_pos hm,nxt_low hl,hold] at g2;refine⟨m.a,m.r,m.h,ha,by omega,g1,g2,g3,n0,n1,n2,hne,?_⟩;have h4:=(h2.up3.of (node_out _ p1 m p2 _)).up2.set i (.pointer (some ⟨N.a,0,none⟩));rw[rowN_set (g:=nxt (nxt noT (N.lev (i+1)::beh)) p2) hm (fun j _ hj _=>nxt_ext (tail_next N beh i j hj) p2) (by rw[nxt_low hl,hself];rfl),nodes_low hl hlow] at h4;have e1:nxt (nxt noT (N.lev i::beh)) (m::p2)=nxt (nxt noT (N.lev (i+1)::beh)) (m::p2):=by
   funext j
   by_cases hj:j=i
   .subst hj;rw[nxt_cons,nxt_cons,if_pos hm,if_pos hm]
   .exact nxt_ext (tail_next N beh i j hj) _
  have e2:nxt (nxt noT (N.lev i::beh)) (p1++m::p2)=nxt (nxt noT (N.lev (i+1)::beh)) (p1++m::p2):=by rw[nxt_app,nxt_app,e1]
  rw[e1,e2,slcs_lev (p1++m::p2) beh N i (i+1)] at h4;refine Sat.of ?_ (skip_mid b hr (p1++m::p2) (N.lev (i+1)) beh c y F).symm;have e3:=node_out (nxt noT (N.lev (i+1)::beh)) p1 m p2 (Pt N.r 183 (rowN (nxt noT beh) N.h (i+1))*(Pt N.a 186 (nodeC N)*(Pt hr 183 (rowN (nxt (nxt noT (N.lev (i+1)::beh)) (p1++m::p2)) 8 8)*
   (Pt b 173 #[.slice (some ⟨hr,0,none⟩) 8 8,.int .i64 c,.int .i64 y]*(NodesG noT beh*(RoL (slcs (p1++m::p2++N.lev (i+1)::beh))*F))))))
  exact(h4.up2.of e3.symm).of (by
   show NodesG _ (p1++m::p2)*(Pt N.r _ (rowN (nxt noT beh) N.h (i+1))*(Pt N.a _ (nodeC N)*(Pt hr _ _*(Pt b _ _*(NodesG noT beh*(RoL _*F))))))=Pt N.a _ (nodeC N)*(Pt N.r _ (rowN (nxt noT beh) N.h (i+1))*(NodesG _ (p1++m::p2)*(Pt hr _ _*(Pt b _ _*(NodesG noT beh*(RoL _*F))))))
   ac_rfl)
end
def behind (e:Ent) (ns:List Nd):List Nd:=ns.dropWhile fun n=>lessE n.e.ent e
theorem ahead_behind (e:Ent) (ns:List Nd):ns=ahead e ns++behind e ns:=(List.takeWhile_append_dropWhile).symm
theorem behind_head {e:Ent} {ns s:List Nd} {m:Nd} (h:behind e ns=m::s):¬ LTE m.e.ent e:=by
 have:=List.head?_dropWhile_not (fun n:Nd=>lessE n.e.ent e) ns;unfold behind at h;rw[h] at this;simp at this;unfold LTE;rw[this];simp
section
variable {w:World} {b hr:Nat} {ns:List Nd} {e:Ent}
def twice (e:Ent) (ns:List Nd):Bool:=match behind e ns with | m::_=>decide (ordE m.e.ent e=0) | []=>false
theorem twice_iff (hok:NOk ns):twice e ns=true↔ ∃ n ∈ ns,same1 n.e.ent e:=by
 unfold twice;have hs:=hok.sort;have ha:=ahead_behind e ns;constructor
 .intro h
  cases hb:behind e ns with
  | nil=>rw[hb] at h;simp at h
  | cons m s=>
   rw[hb] at h;refine⟨m,by rw[ha,hb];simp,ord_zero.1 (by simpa using h)⟩
 .rintro ⟨n,hn,hsame⟩;rw[ha] at hn;rcases List.mem_append.1 hn with hn | hn
  .exact absurd (mem_ahead hn).2 (same1_not hsame)
  .cases hb:behind e ns with
   | nil=>rw[hb] at hn;simp at hn
   | cons m s=>
    rw[hb] at hn;rcases List.mem_cons.1 hn with q | hn
    .subst q;simpa using ord_zero.2 hsame
    .exfalso;rw[ha,hb,List.pairwise_append,List.pairwise_cons] at hs;have h1:=hs.2.1.1 n hn;refine behind_head hb ?_;rw[lte_iff] at h1 ⊢;rw[<-hsame.1, <-hsame.2];exact h1
theorem View.last (v:View w b hr ns) (hok:NOk ns) {pre beh:List Nd} (hs:ns=pre++beh) {i:Nat} (hi:i<8):
  ∃ R h,i<h/\w.cell? ⟨lastAt b pre i,0,none⟩=some (.slice (some ⟨R,0,none⟩) h h)/\w.cell? ⟨R,i,none⟩=some (ptrN (nxt noT beh i)):=by
 subst hs;rcases last_split i pre b with ⟨hl,ha⟩ | ⟨p1,m,p2,rfl,hm,hl,ha⟩
 .refine⟨hr,8,hi,by rw[ha];exact v.head,?_⟩;have:=v.links i hi;rwa [nxt_app,nxt_low hl] at this
 .obtain⟨h1,_,_,_,_,h6,_⟩:=v.node p1 m (p2++beh) (by simp);have hf:=hok.full m (by simp);refine⟨m.r,m.h,by omega,by rw[ha];exact h1,?_⟩;have:=h6 i (by omega);rwa [nxt_app,nxt_low hl] at this
end
theorem made_row (K:Nat):madeCells #[.pointer none] K=rowN noT K 0:=by
 apply Array.ext';apply List.ext_getElem?;intro i;unfold madeCells rowN;by_cases h:i<K
 .simp[h,ptrN];rw[Nat.mod_one];rfl
 .simp[h]
theorem info_ptr:(Tryz.prog.info? 183).map (fun i=>(i.zero,i.size,i.bytes))=some (some (.pointer none),1,8):=by kernel_rfl
theorem make_ptrs (n:Nat) (hn:n<=1000000) (W:World):(Instr.makeSlice 169 (.int .i64 (n:Int)) (.int .i64 (n:Int))).run Tryz.prog W=
  .ok (.slice (some ⟨W.heap.size,0,none⟩) n n) (W.alloc (.cells (rowN noT n 0) 183)):=by
 obtain⟨i0,hi,hz0,hz1,hz2⟩:=info_parts info_ptr;have hr:=run_make (P:= Tryz.prog) W 169 183 i0 _ Tryz.underlying169 hi hz0 .i64 .i64 n n (by omega) (by omega) (by rw[hz2];omega) (by omega);have hc:(Value.pointer none).cells = #[.pointer none]:=rfl;simpa [hz1,hc,made_row] using hr
def clampH (H:Int):Nat:=(min (max H 1) 8).toNat
section
variable {w0 w:World} {F G:SP} {b hr:Nat} {pre beh ns:List Nd} {N:Nd} {c y:Int}
theorem rows_rol {A B:Option Addr} {cA cB:Nat} {k v:List UInt8} (h:Sat w0 (Row 5 1 (.slice A k.length cA) k.length (k.map bv)*(Row 5 1 (.slice B v.length cB) v.length (v.map bv)*G)) w):Sat w0 (RoL [(A,cA,k),(B,cB,v)]*G) w:=by
 obtain⟨A1,c1,e1,_,_,h1⟩:=h.row_ro;injection e1 with e1 _ _
 subst e1;obtain⟨B1,d1,e2,_,_,h2⟩:=h1.up2.row_ro;injection e2 with e2 _ _
 subst e2;have h3:Sat w0 (Rb B v*(Rb A k*G)) w:=h2;rw[show Rb B v=RoL [(B,cB,v)] from rb_rol (B,cB,v),show Rb A k=RoL [(A,cA,k)] from rb_rol (A,cA,k)] at h3;exact h3.up2.rol_add
theorem skip_in (h:Sat w0 (Pt N.a 186 (nodeC N)*(Pt N.r 183 (rowN noT N.h 0)*(RoL [N.e.key,N.e.value]*(SkipC b hr (pre++beh) c y*F)))) w):Sat w0 (SkipC b hr (pre++N.lev 0::beh) c y*F) w:=by
 refine Sat.of ?_ (skip_mid b hr pre (N.lev 0) beh c y F).symm;have e1:nxt noT (N.lev 0::beh)=nxt noT beh:=by funext j;rw[nxt_cons,if_neg (by show ¬ j<0;omega)]
 have e2:rowN (nxt noT beh) (N.lev 0).h (N.lev 0).v=rowN noT N.h 0:=rowN_congr (fun j _ hj=>by have:j<0:=hj;omega);rw[e1,e2];have h1:Sat w0 (RoL ([N.e.key,N.e.value]++slcs (pre++beh))*(Pt N.a 186 (nodeC N)*(Pt N.r 183 (rowN noT N.h 0)*(NodesG (nxt noT beh) pre*(Pt hr 183 (rowN (nxt (nxt noT beh) pre) 8 8)*
   (Pt b 173 #[.slice (some ⟨hr,0,none⟩) 8 8,.int .i64 c,.int .i64 y]*(NodesG noT beh*F))))))) w:=h.of (by
  rw[<-rol_app];unfold SkipC;rw[nxt_app,nodes_app]
  ac_rfl)
 have h2:=h1.rol_sub (rs':=slcs (pre++N.lev 0::beh)) (by intro r hr;unfold slcs at hr ⊢;simp[Nd.lev] at hr ⊢;rcases hr with hr | hr | hr | hr<;>simp[hr]);exact h2.of (by
  show RoL _*(Pt N.a _ (nodeC N)*(Pt N.r _ _*(NodesG _ pre*(Pt hr _ _*(Pt b _ _*(NodesG noT beh*F))))))=Pt N.a _ (nodeC N)*(Pt N.r _ _*(NodesG _ pre*(Pt hr _ _*(Pt b _ _*(NodesG noT beh*(RoL _*F))))))
  ac_rfl)
theorem skip_tab (b hr:Nat) (ns:List Nd) (c y:Int) (F:SP):SkipC b hr ns c y*F=Pt b 173 #[.slice (some ⟨hr,0,none⟩) 8 8,.int .i64 c,.int .i64 y]*(Pt hr 183 (rowN (nxt noT ns) 8 8)*(NodesG noT ns*(RoL (slcs ns)*F))):=by
 unfold SkipC;ac_rfl
theorem Sat.skipC1 (h:Sat w0 (SkipC b hr ns c y*F) w):w.cell? ⟨b,1,none⟩=some (.int .i64 c):=(h.of (skip_tab ..)).cell 1
theorem Sat.skipC2 (h:Sat w0 (SkipC b hr ns c y*F) w):w.cell? ⟨b,2,none⟩=some (.int .i64 y):=(h.of (skip_tab ..)).cell 2
theorem Sat.skipFree (h:Sat w0 (SkipC b hr ns c y*F) w) (i:Nat):w.frozen? ⟨b,i,none⟩=false:=(h.of (skip_tab ..)).frozen i
theorem Sat.skipSet1 (h:Sat w0 (SkipC b hr ns c y*F) w) (c':Int):Sat w0 (SkipC b hr ns c' y*F) (w.setCell ⟨b,1,none⟩ (.int .i64 c')):=Sat.of ((h.of (skip_tab ..)).set 1 (.int .i64 c')) (skip_tab ..).symm
theorem Sat.skipSet2 (h:Sat w0 (SkipC b hr ns c y*F) w) (y':Int):Sat w0 (SkipC b hr ns c y'*F) (w.setCell ⟨b,2,none⟩ (.int .i64 y')):=Sat.of ((h.of (skip_tab ..)).set 2 (.int .i64 y')) (skip_tab ..).symm
end
def PutS (w0:World) (F:SP) (b hr:Nat) (ns:List Nd) (c y:Int) (e:Ent) (H:Int) (x:Ending) (w':World):Prop:=
 (twice e ns=true/\x = .returned (.int .i64 50)/\Sat w0 (SkipC b hr ns c y*F) w')\/
 (twice e ns=false/\x = .returned (.int .i64 0)/\ ∃ N:Nd,N.e.ent=e/\N.v=N.h/\N.h=clampH H/\Sat w0 (SkipC b hr (ahead e ns++N::behind e ns) (c+1) (y+((e.key.length+e.value.length:Nat):Int))*F) w')
set_option maxRecDepth 100000 in
theorem mput_any (b hr:Nat) (ns:List Nd) (c y H:Int) (e:En) (w0 w:World) (F:SP) (h:Sat w0 (SkipC b hr ns c y*F) w) (hok:NOk ns) (he:EnR w e)
  (hk:e.key.2.2.length<=1000000000) (hv:e.value.2.2.length<=1000000000) (hc:0<=c/\c<=1000000000000) (hy:0<=y/\y<=1000000000000):
  Calls Tryz.prog 62 #[.pointer (some ⟨b,0,none⟩),enA e,.int .i64 H] w (PutS w0 F b hr ns c y e.ent H):=by
 have HEA:Hid (∀ e:En,enA e = .agg #[.slice e.key.1 e.key.2.2.length e.key.2.1,.slice e.value.1 e.value.2.2.length e.value.2.1,.int .i64 e.seq,.bool e.dead]):=fun _=>rfl
 have HV:=ah (h.view hok);have HE:=ah he;have HO:=ah hok;have s1:=h.allocAt (b:=w.heap.size) 120 (enC e) rfl;obtain⟨W,hW⟩: ∃ W,W=w.alloc (.cells (enC e) 120):=⟨_,rfl⟩;obtain⟨E,hE⟩: ∃ E,E=w.heap.size:=⟨_,rfl⟩;have HC1:Hid (Chg No w W):=by rw[hW];exact(Chg.refl No w).alloc _
 rw[<-hW, <-hE] at s1;have HS1:=ah s1;have HQ:Hid (Value.agg (outC b (ahead e.ent ns) 0) = .agg #[.pointer (some ⟨lastAt b (ahead e.ent ns) 0,0,none⟩),.pointer (some ⟨lastAt b (ahead e.ent ns) 1,0,none⟩),.pointer (some ⟨lastAt b (ahead e.ent ns) 2,0,none⟩),.pointer (some ⟨lastAt b (ahead e.ent ns) 3,0,none⟩),.pointer (some ⟨lastAt b (ahead e.ent ns) 4,0,none⟩),.pointer (some ⟨lastAt b (ahead e.ent ns) 5,0,none⟩),.pointer (some ⟨lastAt b (ahead e.ent ns) 6,0,none⟩),.pointer (some ⟨lastAt b (ahead e.ent ns) 7,0,none⟩)]):=rfl;have eC:enC e = #[.slice e.key.1 e.key.2.2.length e.key.2.1,.slice e.value.1 e.value.2.2.length e.value.2.1,.int .i64 e.seq,.bool e.dead]:=rfl;rw[eC] at hW;rw[HEA.o];clear h he hok;go_enter Tryz.func62, Tryz.ntmps62;clear eC s1;have HW:=ah hW;have HEq:=ah hE;clear hW hE;go_upto_region 3 with (go_at_call 108;rw[<-HW.o, <-HEq.o];refine(before_any b hr ns e W (HV.o.new HC1.o) HO.o (HE.o.new HC1.o)).mono ?_;rintro x w2 ⟨rfl,k2⟩;rw[HQ.o];have HV2:=ah ((HV.o.new HC1.o).new k2);have HS2:=ah (HS1.o.new k2);obtain⟨R,h',hlt,q0,q1⟩:=(HV2.o.new ((Chg.refl No w2).alloc (.cells #[.pointer (some ⟨lastAt b (ahead e.ent ns) 0,0,none⟩),.pointer (some ⟨lastAt b (ahead e.ent ns) 1,0,none⟩),.pointer (some ⟨lastAt b (ahead e.ent ns) 2,0,none⟩),.pointer (some ⟨lastAt b (ahead e.ent ns) 3,0,none⟩),.pointer (some ⟨lastAt b (ahead e.ent ns) 4,0,none⟩),.pointer (some ⟨lastAt b (ahead e.ent ns) 5,0,none⟩),.pointer (some ⟨lastAt b (ahead e.ent ns) 6,0,none⟩),.pointer (some ⟨lastAt b (ahead e.ent ns) 7,0,none⟩)] 181))).last HO.o (ahead_behind e.ent ns) (i:=0) (by omega))
 obtain⟨W3,hW3⟩: ∃ W3,W3=w2.alloc (.cells #[.pointer (some ⟨lastAt b (ahead e.ent ns) 0,0,none⟩),.pointer (some ⟨lastAt b (ahead e.ent ns) 1,0,none⟩),.pointer (some ⟨lastAt b (ahead e.ent ns) 2,0,none⟩),.pointer (some ⟨lastAt b (ahead e.ent ns) 3,0,none⟩),.pointer (some ⟨lastAt b (ahead e.ent ns) 4,0,none⟩),.pointer (some ⟨lastAt b (ahead e.ent ns) 5,0,none⟩),.pointer (some ⟨lastAt b (ahead e.ent ns) 6,0,none⟩),.pointer (some ⟨lastAt b (ahead e.ent ns) 7,0,none⟩)] 181):=⟨_,rfl⟩;obtain⟨O,hO⟩: ∃ O,O=w2.heap.size:=⟨_,rfl⟩;have HS3:Hid (Sat w0 (Pt O 181 (outC b (ahead e.ent ns) 0)*(Pt E 120 (enC e)*(SkipC b hr ns c y*F))) W3):=by rw[hW3,hO];exact HS2.o.allocPt _ _
 have HV3:Hid (View W3 b hr ns):=by rw[hW3];exact HV2.o.new ((Chg.refl No w2).alloc _)
 have HE3:Hid (EnR W3 e):=by rw[hW3];exact((HE.o.new HC1.o).new k2).new ((Chg.refl No w2).alloc _)
 rw[<-hW3, <-hO];clear hW3 hO q0 q1 k2 hlt HS2 HV2 HS1 HW HEq HC1;go_cut [8,31] (fun _ s wx=>s = .bool (twice e.ent ns)/\Hid (EnR wx e/\Sat w0 (Pt O 181 (outC b (ahead e.ent ns) 0)*(Pt E 120 (enC e)*(SkipC b hr ns c y*F))) wx))
 case first=>
  rcases nxt_cases (behind e.ent ns) 0 with ⟨e1,hlow⟩ | ⟨u,m,t,e2,e1,hm,hu⟩
  .have hnil:behind e.ent ns=[]:=by
    cases hb:behind e.ent ns with
    | nil=>rfl
    | cons m s=>
     have h1:=hlow m (by rw[hb];simp);have h2:=HO.o.full m (by rw[ahead_behind e.ent ns,hb];simp);omega
   have HT:Hid (twice e.ent ns=false):=by unfold Hid twice;rw[hnil]
   have e3:ptrN (nxt noT (behind e.ent ns) 0) = .pointer none:=by rw[e1];rfl
   rw[e3];clear e1 e3 hlow hnil;go_region
   go_wp2_with fail;go_meet
   exact⟨by rw[HT.o],HE3.o.new (Chg.refl No _).drew,HS3.o.drew⟩
  .have hu0:u=[]:=by
    cases hb:u with
    | nil=>rfl
    | cons x s=>
     have h1:=hu x (by rw[hb];simp);have h2:=HO.o.full x (by rw[ahead_behind e.ent ns,e2,hb];simp);omega
   subst hu0;rw[List.nil_append] at e2;have HT0:Hid (twice e.ent ns=decide (ordE m.e.ent e.ent=0)):=by unfold Hid twice;rw[e2]
   have e3:ptrN (nxt noT (behind e.ent ns) 0) = .pointer (some ⟨m.a,0,none⟩):=by rw[e1];rfl
   rw[e3];obtain⟨n0,n1,n2,n3,n4,n5,n6⟩:=HV3.o.node (ahead e.ent ns) m t (by rw[<-e2];exact ahead_behind _ _);unfold slv' at n1 n2;have HN:=ah n6;clear e1 e3 hm hu n5 n6 n0 e2;have c0:=HS3.o.up2.cell 0;have c1:=HS3.o.up2.cell 1;have c2:=HS3.o.up2.cell 2;have c3:=HS3.o.up2.cell 3;go_region_law (go_simp;go_at_call 109;refine(order_any m.e e _ (HN.o.new (Chg.refl No W3).drew) (HE3.o.new (Chg.refl No W3).drew)).mono ?_;rintro x w5 ⟨rfl,k5⟩)
   all_goals
    go_wp2_with fail;go_meet
    exact⟨by rw[HT0.o];exact congrArg Value.bool (by rw[Bool.eq_iff_iff];simp),(HE3.o.new (Chg.refl No W3).drew).new k5,HS3.o.drew.new k5⟩
 case rest=>
  obtain⟨hs,hcut⟩:=hcut;subst hs;obtain⟨w5,hw5⟩: ∃ w5,w5=wc:=⟨_,rfl⟩;rw[<-hw5] at hcut;rw[<-hw5];have HC5:=hcut;clear hw5 HV3 HS3 HE3 hcut wc
  cases hb:twice e.ent ns with
  | true=>
   have HT:=ah hb;clear hb;go_wp2_with fail;go_ret;exact .inl ⟨HT.o,rfl,HC5.o.2.right.right⟩
  | false=>
   have HT:=ah hb;clear hb;go_upto_region 5 with fail;go_cut [2] (fun s wx=>s = .int .i64 (clampH H)/\Hid (wx=w5))
   case first=>
    have HK:Hid (clampH H=(min (max H 1) 8).toNat):=rfl;go_wp2_with fail
    all_goals
     go_meet
     refine⟨?_,rfl⟩;congr 1
     rw[HK.o];omega
   case rest=>
    obtain⟨hs,hcw⟩:=hcut;subst hs;have hcw:=hcw.o;subst hcw;have hKl:1<=clampH H:=by unfold clampH;omega
    have hKu:clampH H<=8:=by unfold clampH;omega
    have HK:Hid (clampH H=clampH H):=rfl;revert hKl hKu HK;generalize hKK:clampH H=K;intro hKl hKu HK;have HKK:=ah hKK;clear hKK HK;have c0:=HC5.o.2.up2.cell 0;have c1:=HC5.o.2.up2.cell 1;have c2:=HC5.o.2.up2.cell 2;have c3:=HC5.o.2.up2.cell 3;go_upto_region 6 with fail;go_cut [9] (fun s wx=> ∃ N:Nd,s = .pointer (some ⟨N.a,0,none⟩)/\Hid (N.e.ent=e.ent/\N.h=K/\N.v=0/\
     Sat w0 (Pt N.a 186 (nodeC N)*(Pt N.r 183 (rowN noT N.h 0)*(RoL [N.e.key,N.e.value]*(Pt O 181 (outC b (ahead e.ent ns) 0)*(Pt E 120 (enC e)*(SkipC b hr ns c y*F)))))) wx))
    case first=>
     have hmk:=fun W=>make_ptrs K (by omega) W
     have d0:=(HC5.o.2.alloc' (.cells (rowN noT K 0) 183)).up2.cell 0;have d1:=(HC5.o.2.alloc' (.cells (rowN noT K 0) 183)).up2.cell 1;have d2:=(HC5.o.2.alloc' (.cells (rowN noT K 0) 183)).up2.cell 2;have d3:=(HC5.o.2.alloc' (.cells (rowN noT K 0) 183)).up2.cell 3;have hk2:e.key.2.2.length<=140737488355328:=by omega
     have hv2:e.value.2.2.length<=140737488355328:=by omega
     go_region_law (first
      | (go_simp;go_at_call 110;refine(copied_any e w0 _ _ (HC5.o.2.drew) (HC5.o.1.new (Chg.refl No wc).drew) hk2 hv2).mono ?_;rintro x w6 ⟨⟨A,cA,B,cB,rfl,hs6⟩,k6⟩;have HS6:=ah hs6;clear hs6 k6;simp only[enA])
      | (go_simp;go_at_call 110;refine(copied_any e w0 _ _ ((HC5.o.2.drew).allocPt 183 (rowN noT K 0)) (HC5.o.1.new ((Chg.refl No wc).drew.alloc (.cells (rowN noT K 0) 183))) hk2 hv2).mono ?_;rintro x w6 ⟨⟨A,cA,B,cB,rfl,hs6⟩,k6⟩;have HS6:=ah hs6;clear hs6 k6;simp only[enA]))
     all_goals
      go_wp2_with fail;go_meet
      first
       | exact⟨⟨_,_,⟨(A,cA,e.key.2.2),(B,cB,e.value.2.2),e.seq,e.dead⟩,K,0⟩,rfl,rfl,rfl,rfl,((rows_rol HS6.o).allocAt 186 _ rfl).up3.up2⟩
       | exact⟨⟨_,_,⟨(A,cA,e.key.2.2),(B,cB,e.value.2.2),e.seq,e.dead⟩,K,0⟩,rfl,rfl,rfl,rfl,((rows_rol HS6.o).allocPt 183 (rowN noT K 0)).allocAt 186 _ (by simp)⟩
    case rest=>
     obtain⟨N,hs,hN⟩:=hcut;subst hs;have hNe:=hN.o.1;have hNK:=hN.o.2.1;have hx:=hN.o.2.2.2;have e0:=ahead_behind e.ent ns;obtain⟨pre,hpre⟩: ∃ pre,pre=ahead e.ent ns:=⟨_,rfl⟩;obtain⟨beh,hbeh⟩: ∃ beh,beh=behind e.ent ns:=⟨_,rfl⟩;rw[<-hpre, <-hbeh] at e0;rw[<-hpre,show SkipC b hr ns c y=SkipC b hr (pre++beh) c y from congrArg (SkipC b hr · c y) e0] at hx;have hx2:=skip_in (N:=N) (pre:=pre) (beh:=beh) (hx.of (show _=_*(_*(_*(SkipC b hr (pre++beh) c y*(Pt O 181 (outC b pre 0)*(Pt E 120 (enC e)*F))))) by ac_rfl));have hfp: ∀ n ∈ pre,n.v=n.h:=fun n hn=>(HO.o.full n (by rw[e0];simp[hn])).1
     have HX:=ah hx2;have HFp:=ah hfp;have HNe:=ah hNe;subst hNK;have Hpre:=ah hpre;have Hbeh:=ah hbeh;clear hx hx2 hfp hNe hpre hbeh e0 hN HC5 c0 c1 c2 c3;go_wp2_with fail;go_loopw [43] (fun i wr=> ∃ k:Nat,k<=N.h/\i = .int .i64 k/\Hid (Sat w0 (SkipC b hr (pre++N.lev k::beh) c y*(Pt O 181 (outC b pre 0)*(Pt E 120 (enC e)*F))) wr)) (fun i _=>N.h - (intOf i).toNat)
     case atStart=>exact⟨0,by omega,rfl,HX.o⟩
     case round=>
      obtain⟨k,hk9,rfl,HD⟩:=hrel;by_cases hlt:k<N.h
      .obtain⟨A,R,hh,sp⟩:=HD.o.spot hlt hKu HFp.o;have o1:wr.cell? ⟨O,k,none⟩=some (.pointer (some ⟨A,0,none⟩)):=by
        rw[HD.o.up2.cell k,outC_get _ _ _ (by omega),if_pos (by omega),sp.last];rfl
       have p0:=sp.hi;have p1:=sp.head;have p2:=sp.link;have p3:=sp.free;have p4:=sp.nhead;have p5:=sp.nlink;have p6:=sp.nfree;have p7:=sp.apart;have p8:¬ N.r=R:=fun q=>p7 q.symm
       have hon:=sp.on;have e5:ptrN none = .pointer none:=rfl;rw[e5] at p5;obtain⟨PP,hPP⟩: ∃ PP,ptrN (nxt noT beh k) = .pointer PP:=⟨_,rfl⟩;rw[hPP] at p2 hon;have HOn:=ah hon;clear hon hPP e5 sp;have hk8:k<8:=by omega
       go_wp2_with fail;go_region
       go_wp2_with fail;go_roundw
       .exact⟨k+1,by omega,by push_cast;rfl,HOn.o.drew⟩
       .simp[intOf]<;>omega
      .have hkN:k=N.h:=by omega
       subst hkN;have hw1:IntKind.i64.wrap (c+1)=c+1:=by rw[IntKind.wrap_i64];omega
       have hw2:IntKind.i64.wrap ((e.key.2.2.length:Int)+e.value.2.2.length)=(e.key.2.2.length:Int)+e.value.2.2.length:=by rw[IntKind.wrap_i64];omega
       have hw3:IntKind.i64.wrap (y+((e.key.2.2.length:Int)+e.value.2.2.length))=y+((e.key.2.2.length:Int)+e.value.2.2.length):=by rw[IntKind.wrap_i64];omega
       have q1:=HD.o.skipC1;have q2:=HD.o.skipFree 1;have h7:=HD.o.skipSet1 (c+1);have q3:=h7.skipC2;have q4:=h7.skipFree 2;have q5:=h7.up3.cell 0;have q6:=h7.up3.cell 1;have HS7:=ah h7;clear h7;go_wp2_with fail;go_region
       go_wp2_with fail;go_ret;have h9:=(HS7.o.skipSet2 (y+((e.key.2.2.length:Int)+e.value.2.2.length))).drew;rw[Hpre.o,Hbeh.o] at h9;refine .inr ⟨HT.o,rfl,N.lev N.h,HNe.o,rfl,HKK.o.symm,?_⟩;have ey:(((e.ent.key.length+e.ent.value.length:Nat):Int))=(e.key.2.2.length:Int)+e.value.2.2.length:=by push_cast;rfl
       rw[ey];exact h9.drop2.drop2
end Go.Proofs.YtmbaiglpgaoogaaGreat
