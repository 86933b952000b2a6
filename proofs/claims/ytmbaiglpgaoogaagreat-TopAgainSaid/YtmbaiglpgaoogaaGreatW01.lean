/- Joined, as they were built one by one: Lib Sep Rgn BloomFns BloomWalk RgnZ WalFns. -/
import Derived.WalkKit
import Derived.WalkSpells
import Derived.WalkLawsBesides
import Derived.WalkSmall
import Derived.Outline
import Derived.KernelRfl
import Derived.Lib.Hide
import Derived.LoopTactic
import Derived.Below
import Derived.OneCell
import Derived.Laws.OwnMore
import Derived.Laws.BytesArg
import Derived.Laws.BitsAllLaws
import Derived.Laws.BitsLemmas
import Derived.Laws.MakeOwn
import Derived.Maps.AppendAt
import Derived.Deep.AppendLies
import Derived.Deep.Draws
import Derived.Deep.QuietTactic
import Derived.BigQuiet
import Derived.Deep.RegionHeld3
import Derived.Deep.RegionLaw
import Derived.Deep.DeepCutAuto
import Derived.Deep.DeepFit
import Derived.Deep.LoopGhost
import Derived.Test.YtmbaiglpgaoogaaGreatProg
set_option linter.unusedVariables false
set_option maxRecDepth 100000
namespace Go.Proofs.YtmbaiglpgaoogaaGreat
open Go.RowKit
theorem Z.Go.RowKit.Hid.o {p:Prop} (h:Hid p):p:=h
theorem ah {p:Prop} (h:p):Hid p:=h
end Go.Proofs.YtmbaiglpgaoogaaGreat
namespace Go.Proofs.YtmbaiglpgaoogaaGreat
open Go.RowKit Z
structure ao (S:Nat->Prop) (w w':World):Prop where
 os:w'.os=w.os
 tape:w'.tape=w.tape
 output:w'.output=w.output
 size:w.heap.size<=w'.heap.size
 block: ∀ k,k<w.heap.size->¬ S k->w'.heap[k]?=w.heap[k]?
def No:Nat->Prop:=fun _=>False
def One (g:Nat):Nat->Prop:=fun k=>k=g
def C7 (B:Nat):Nat->Prop:=fun k=>B<=k
section aL
variable {S T:Nat->Prop} {a w w' w'':World}
theorem ao.refl (S:Nat->Prop) (w:World):ao S w w:=⟨rfl,rfl,rfl,Nat.le_refl _,fun _ _ _=>rfl⟩
theorem ao.trans (h:ao S a w) (k:ao T w w') (hT: ∀ i,i<a.heap.size->T i->S i):ao S a w':=
 ⟨k.os.trans h.os,k.tape.trans h.tape,k.output.trans h.output,Nat.le_trans h.size k.size,fun i hi hn=>(k.block i (Nat.lt_of_lt_of_le hi h.size) (fun ht=>hn (hT i hi ht))).trans (h.block i hi hn)⟩
theorem ao.tr (h:ao S a w) (k:ao S w w'):ao S a w':=h.trans k fun _ _=>id
theorem ao.mono (h:ao S a w) (hT: ∀ i,i<a.heap.size->S i->T i):ao T a w:=⟨h.os,h.tape,h.output,h.size,fun i hi hn=>h.block i hi fun hs=>hn (hT i hi hs)⟩
theorem ao.no (h:ao No a w):ao S a w:=h.mono fun _ _=>False.elim
theorem ao.new (h:ao S a w) (k:ao No w w'):ao S a w':=h.trans k fun _ _=>False.elim
theorem ao.below (h:ao No a w):Below a.heap.size a w:=⟨h.os,h.tape,h.output,h.size,fun k hk=>h.block k hk id⟩
theorem ao.I6 (h:Below a.heap.size a w):ao No a w:=⟨h.os,h.tape,h.output,h.size,fun k hk _=>h.block k hk⟩
theorem ao.eD {r:Option Nat} (h:a.grownBy w r):ao (fun k=>some k=r) a w:=⟨h.os,h.tape,h.output,h.size,fun k hk hn=>h.block k hk hn⟩
theorem ao.own (h:ao No a w) (k:ao S w w') (hS: ∀ i,S i->a.heap.size<=i):ao No a w':=h.trans k fun i hi hs=>by have:=hS i hs;omega
theorem ao.alloc (h:ao S a w) (o:Obj):ao S a (w.alloc o):=h.new (ao.I6 ((Below.refl _ _).alloc (Nat.le_refl _) o))
theorem ao.drew (h:ao S a w):ao S a w.drew:=⟨h.os,h.tape,h.output,h.size,h.block⟩
theorem ao.drewN (h:ao S a w) (n:Nat):ao S a (w.drewN n):=⟨h.os,h.tape,h.output,h.size,h.block⟩
theorem ao.setCell (h:ao S a w) {p:Addr} (hp:p.block<a.heap.size->S p.block) (u:Value):ao S a (w.setCell p u):=
 ⟨h.os,h.tape,h.output,by simpa [World.setCell] using h.size,fun i hi hn=>(Below.heap_setCell w p u i (fun e=>by subst e;exact hn (hp hi))).trans (h.block i hi hn)⟩
theorem ao.cell (h:ao S w w') {p:Addr} {v:Value} (hv:w.cell? p=some v) (hp:¬ S p.block):w'.cell? p=some v:=
 (World.cell?_of_block (h.block p.block (World.block_lt_of_cell? w p hv) hp)).trans hv
theorem ao.frozen (h:ao S w w') {p:Addr} (hlt:p.block<w.heap.size) (hp:¬ S p.block):w'.frozen? p=w.frozen? p:=World.frozen?_of_block (w:=w) (h.block p.block hlt hp)
end aL
def At (w:World) (g:Nat) (t:TypeId) (cs:Array Value):Prop:=w.heap[g]?=some (.cells cs t (0,0))
section at_
variable {w w':World} {g:Nat} {t:TypeId} {cs:Array Value}
theorem At.lt (h:At w g t cs):g<w.heap.size:=lt_of_block h
theorem At.cell (h:At w g t cs) (i:Nat):w.cell? ⟨g,i,none⟩=cs[i]?:=cell_of_row w g i cs t (0,0) h
theorem At.frozen (h:At w g t cs) (i:Nat):w.frozen? ⟨g,i,none⟩=false:=by unfold At at h;simp[World.frozen?,h]
theorem At.new (w:World) (t:TypeId) (cs:Array Value):At (w.alloc (.cells cs t)) w.heap.size t cs:=heap_alloc_new w _
theorem At.alloc (h:At w g t cs) (o:Obj):At (w.alloc o) g t cs:=(Below.heap_alloc w o g h.lt).trans h
theorem At.set (h:At w g t cs) (i:Nat) (u:Value):At (w.setCell ⟨g,i,none⟩ u) g t (cs.setIfInBounds i u):=by
 unfold At at h ⊢;simp[World.setCell,Array.getElem?_modify,h]
theorem At.Kb (h:At w g t cs) {p:Addr} (hp:g≠p.block) (u:Value):At (w.setCell p u) g t cs:=(Below.heap_setCell w p u g hp).trans h
theorem At.aL {S:Nat->Prop} (h:At w g t cs) (k:ao S w w') (hg:¬ S g):At w' g t cs:=(k.block g h.lt hg).trans h
theorem At.ne {g':Nat} {t':TypeId} {cs':Array Value} (h:At w g t cs) (h':At w g' t' cs') (hne:t≠t'):g≠g':=by
 rintro rfl;unfold At at h h';rw[h] at h';injection h' with h'
 injection h' with _ ht
 exact hne ht
end at_
def aF (w:World) (A:Option Addr) (xs:List Value):Prop:=
 xs≠[]-> ∃ b o,A=some ⟨b,o,none⟩/\ ∀ j (h:j<xs.length),w.cell? ⟨b,o+j,none⟩=some xs[j]
section rdv
variable {w w':World} {A:Option Addr} {xs:List Value}
theorem aF.nil (w:World) (A:Option Addr):aF w A []:=fun h=>absurd rfl h
theorem aF.get (h:aF w A xs) {j:Nat} (hj:j<xs.length): ∃ b o,A=some ⟨b,o,none⟩/\w.cell? ⟨b,o+j,none⟩=some xs[j]:=by
 obtain⟨b,o,e,hc⟩:=h (by rintro rfl;simp at hj);exact⟨b,o,e,hc j hj⟩
theorem aF.keep (h:aF w A xs) (hk: ∀ b o,xs≠[]->A=some ⟨b,o,none⟩->b<w.heap.size-> ∀ i,w'.cell? ⟨b,i,none⟩=w.cell? ⟨b,i,none⟩):aF w' A xs:=fun hx=>by
 obtain⟨b,o,e,hc⟩:=h hx;have h0:=hc 0 (List.length_pos_iff.2 hx);exact⟨b,o,e,fun j hj=>(hk b o hx e (World.block_lt_of_cell? w _ h0) _).trans (hc j hj)⟩
theorem aF.aL {S:Nat->Prop} (h:aF w A xs) (k:ao S w w') (hS: ∀ b o,xs≠[]->A=some ⟨b,o,none⟩->¬ S b):aF w' A xs:=
 h.keep fun b o hx e hb i=>World.cell?_of_block (a:=⟨b,i,none⟩) (k.block b hb (hS b o hx e))
theorem aF.new (h:aF w A xs) (k:ao No w w'):aF w' A xs:=h.aL k fun _ _ _ _=>id
theorem aF.lt (h:aF w A xs) (hx:xs≠[]): ∃ b o,A=some ⟨b,o,none⟩/\b<w.heap.size:=by
 obtain⟨b,o,e,hc⟩:=h hx;exact⟨b,o,e,World.block_lt_of_cell? w _ (hc 0 (List.length_pos_iff.2 hx))⟩
theorem aF.alloc (h:aF w A xs) (o:Obj):aF (w.alloc o) A xs:=h.new ((ao.refl No w).alloc o)
theorem aF.take (h:aF w A xs) (k:Nat):aF w A (xs.take k):=fun hx=>by
 obtain⟨b,o,e,hc⟩:=h (by rintro rfl;simp at hx);exact⟨b,o,e,fun j hj=>by rw[hc j (by simp at hj;omega)];simp⟩
theorem aF.drop (h:aF w A xs) {k cap:Nat} (hk:k<=xs.length) (hc:xs.length<=cap):aF w (if cap=k then A else A.map (·.add k)) (xs.drop k):=fun hx=>by
 have hlt:k<xs.length:=by
  rcases Nat.lt_or_ge k xs.length with h1 | h1
  .exact h1
  .exact absurd (List.drop_eq_nil_of_le h1) hx
 obtain⟨b,o,e,hcell⟩:=h (by rintro rfl;simp at hlt);rw[if_neg (by omega)];refine⟨b,o+k,by simp[e,Addr.add_lit],fun j hj=>?_⟩;rw[Nat.add_assoc,hcell (k+j) (by simp at hj;omega)];simp
theorem aF.je {g:Nat} {t:TypeId} {cs:Array Value} (h:At w g t cs) (hx: ∀ j (hj:j<xs.length),cs[j]?=some xs[j]):aF w (some ⟨g,0,none⟩) xs:=fun _=>
 ⟨g,0,rfl,fun j hj=>by rw[h.cell,Nat.zero_add];exact hx j hj⟩
theorem aF.bG {base:Nat} {e:TypeId} {n c:Nat} (h:w.ownsRow base e 1 (.slice A n c) n xs):aF w A xs:=fun hx=>by
 have hn:0<n:=by have:=h.1;have:=List.length_pos_iff.2 hx;omega
 obtain⟨g,cap,hv,_,hlt⟩:=h.form hn;have hA:A=some ⟨g,0,none⟩:=by injection hv
 have hcap:c=cap:=by injection hv
 subst hA;subst hcap;refine⟨g,0,rfl,fun j hj=>?_⟩;rw[Nat.zero_add,h.cellAt j (by have:=h.1;omega),List.getElem?_eq_getElem hj]
theorem aF.lit (w:World) (cs:Array Value) (t:TypeId) (fr:Nat × Nat):aF (w.alloc (.cells cs t fr)) (some ⟨w.heap.size,0,none⟩) cs.toList:=fun _=>
 ⟨_,0,rfl,fun j hj=>by
  have h:(w.alloc (.cells cs t fr)).heap[w.heap.size]?=some (.cells cs t fr):=heap_alloc_new w _;rw[cell_of_row _ _ _ _ _ _ h,Nat.zero_add];simp at hj;simp[hj]⟩
theorem aF.news (h:aF w A xs) {ad:Addr} (hA:A=some ad): ∀ j u,xs[j]?=some u->w.cell? (ad.add j)=some u:=by
 intro j u hu;have hj:j<xs.length:=(List.getElem?_eq_some_iff.1 hu).1;obtain⟨b,o,e,hc⟩:=h (by rintro rfl;simp at hj);rw[hA] at e;injection e with e
 subst e;rw[Addr.add_lit,hc j hj];rw[List.getElem?_eq_getElem hj] at hu;exact hu
end rdv
def bv (b:UInt8):Value:= .int .u8 (b.toNat:Int)
theorem dR (l:List UInt8): ∀ u ∈ l.map bv,u.oneCell'=true:=by
 intro u hu;obtain⟨b,_,rfl⟩:=List.mem_map.1 hu;rfl
def Rd (w:World) (A:Option Addr) (l:List UInt8):Prop:=aF w A (l.map bv)
section rd
variable {w w':World} {A:Option Addr} {l:List UInt8}
theorem Rd.nil (w:World) (A:Option Addr):Rd w A []:=aF.nil w A
theorem Rd.get (h:Rd w A l) {j:Nat} (hj:j<l.length): ∃ b o,A=some ⟨b,o,none⟩/\w.cell? ⟨b,o+j,none⟩=some (.int .u8 (l[j].toNat:Int)):=by
 obtain⟨b,o,e,hc⟩:=aF.get h (j:=j) (by simpa using hj);exact⟨b,o,e,by rw[hc];simp[bv]⟩
theorem Rd.aL {S:Nat->Prop} (h:Rd w A l) (k:ao S w w') (hS: ∀ b o,l≠[]->A=some ⟨b,o,none⟩->¬ S b):Rd w' A l:=aF.aL h k fun b o hx e=>hS b o (fun hl=>hx (by simp[hl])) e
theorem Rd.new (h:Rd w A l) (k:ao No w w'):Rd w' A l:=aF.new h k
theorem Rd.lt (h:Rd w A l) (hx:l≠[]): ∃ b o,A=some ⟨b,o,none⟩/\b<w.heap.size:=aF.lt h (by simpa using hx)
theorem Rd.drewN (h:Rd w A l) (n:Nat):Rd (w.drewN n) A l:=h
theorem Rd.alloc (h:Rd w A l) (o:Obj):Rd (w.alloc o) A l:=aF.alloc h o
theorem Rd.take (h:Rd w A l) (k:Nat):Rd w A (l.take k):=by have:=aF.take h k;rwa [<-List.map_take] at this
theorem Rd.drop (h:Rd w A l) {k cap:Nat} (hk:k<=l.length) (hc:l.length<=cap):Rd w (if cap=k then A else A.map (·.add k)) (l.drop k):=by
 have:=aF.drop h (k:=k) (cap:=cap) (by simpa using hk) (by simpa using hc);rwa [<-List.map_drop] at this
theorem Rd.str {P:Program} (h:Rd w A l) (src dst e:TypeId) (hs:P.underlying src=some (.slice e)) (he:P.underlying e=some (.int .u8)) (hd:P.underlying dst=some .string) (c:Nat):
 (convert src dst (.slice A l.length c)).run P w = .ok (.string ⟨l.toArray⟩) w:=by
 rcases A with _ | ad
 .have hl:l=[]:=by
   rcases l with _ | ⟨x,l⟩
   .rfl
   .obtain⟨b,o,e,_⟩:=h (by simp);cases e
  subst hl;rw[run_convert_bytes_nil w src e hs he _ c dst hd];rfl
 .have hx:l=(l.map fun b=>(b.toNat:Int)).map fun n=>UInt8.ofNat n.toNat:=by
   rw[List.map_map]
   conv=>lhs;rw[<-List.map_id l]
   apply List.map_congr_left;intro b _;simp
  by_cases hl:l=[]
  .subst hl;simp only[List.length_nil];rw[run_convert_bytes_string w src dst e _ 0 c hs he hd];rw[run_bytesToString w ad 0 c [] (by simp[loadCells,loadCellsFrom])];rfl
  .obtain⟨b,o,e',hc⟩:=h (by simpa using hl);injection e' with e'
   subst e';have:=run_convert_bytes_arg (P:=P) w src e hs he b o l.length c (l.map fun b=>(b.toNat:Int)) (by simp) (fun i hi=>by
    rw[hc i (by simpa using hi)];simp[bv,List.getD,hi]) dst hd
   rw[this];simp only[strOfNums];rw[<-hx]
end rd
abbrev bY:=List (Option Addr × Nat × List UInt8)
def aI (k:Option Addr × Nat × List UInt8):Value:= .slice k.1 k.2.2.length k.2.1
def rm (w:World) (A:Option Addr) (ks:bY):Prop:=aF w A (ks.map aI)/\ ∀ k ∈ ks,Rd w k.1 k.2.2
def bK (ks:bY):List (List UInt8):=ks.map (·.2.2)
theorem jH (a b:bY):bK (a++b)=bK a++bK b:=List.map_append
section rdl
variable {w w':World} {A:Option Addr} {ks:bY}
theorem rm.new (h:rm w A ks) (k:ao No w w'):rm w' A ks:=⟨h.1.new k,fun x hx=>(h.2 x hx).new k⟩
theorem rm.get (h:rm w A ks) {j:Nat} (hj:j<ks.length):(∃ b o,A=some ⟨b,o,none⟩/\w.cell? ⟨b,o+j,none⟩=some (.slice ks[j].1 ks[j].2.2.length ks[j].2.1))/\Rd w ks[j].1 ks[j].2.2:=by
 refine⟨?_,h.2 _ (List.getElem_mem hj)⟩;obtain⟨b,o,e,hc⟩:=aF.get h.1 (j:=j) (by simpa using hj);exact⟨b,o,e,by rw[hc];simp[aI]⟩
end rdl
def JJ (S:Nat->Prop) (w:World) (Q:World->Prop):Prop:= ∀ w',ao S w w'->Q w'
def JD (b:Bool) (w:World) (e:Ending) (w':World):Prop:=e = .returned (.bool b)/\ao No w w'
section app
variable {P:Program} {w:World}
theorem vP (base:Nat) (t ty e:TypeId) (i:TypeInfo) (size:Nat) (ht:P.underlying t=some (.slice e)) (hi:P.info? e=some i)
 (v:Value) (n:Nat) (xs:List Value) (hown:w.ownsRow base e size v n xs) (c:Nat):(Builtin.append_ #[t,t] ty #[v,.slice none 0 c]).run P w = .ok v w:=by
 rcases hown.2 with ⟨rfl,rfl⟩ | ⟨g,cap,cur,rfl,_,_,hnc,_⟩
 .simp[Builtin.append_,run_underlying ht,sizeOf,typeInfo,hi,Builtin.lenOf,Builtin.firstCells]
 .simp[Builtin.append_,run_underlying ht,sizeOf,typeInfo,hi,Builtin.lenOf,Builtin.firstCells,hnc,storeCells]
structure CQ (base e size:Nat) (w:World) (v:Value) (n m:Nat) (ys:List Value) (v':Value) (w':World):Prop where
 keep:w'.ownsRow base e size v n (ys.take (n*size))
 own:w'.ownsRow base e size v' (n+m) ys
 aL:ao (fun k=>some k=v.ownBlock) w w'
 at_:v'.ownBlock=v.ownBlock\/v'.ownBlock=some w.heap.size
 nil:v' = .slice none 0 0↔v = .slice none 0 0/\m=0
theorem CQ.JC {base e size n m:Nat} {a w w':World} {v v':Value} {xs ys:List Value} (h:CQ base e size w v n m ys v' w') (k:ao No a w) (hown:w.ownsRow base e size v n xs) (hb:a.heap.size<=base):ao No a w':=
 k.own h.aL fun i hi=>by have:=(hown.lt i hi.symm).1;omega
theorem Av (base:Nat) (t ty e:TypeId) (i:TypeInfo) (z:Value) (size bytes:Nat) (ht:P.underlying t=some (.slice e)) (hi:P.info? e=some i) (hz:i.zero=some z)
 (hsize:i.size=size) (hby:i.bytes=bytes) (hzs:z.cells.size=size) (hsz:0<size)
 (v:Value) (n:Nat) (xs:List Value) (hown:w.ownsRow base e size v n xs)
 (A:Option Addr) (m c:Nat) (news:List Value) (hr:aF w A news) (hm:news.length=m*size) (h1: ∀ u ∈ news,u.oneCell'=true)
 (h63:n+m<=maxLen) (hbytes:(n+m)*bytes<=140737488355328) (hbase:base<=w.heap.size):
 ∃ v' w',(Builtin.append_ #[t,t] ty #[v,.slice A m c]).run P w = .ok v' w'/\CQ base e size w v n m (xs++news) v' w':=by
 rcases A with _ | ad
 .have hn:news=[]:=by
   by_cases hx:news=[]
   .exact hx
   .obtain⟨b,o,h,_⟩:=hr hx;cases h
  subst hn;have hm0:m=0:=by
   rcases Nat.eq_zero_or_pos m with h | h
   .exact h
   .have:=Nat.mul_pos h hsz;simp at hm;omega
  subst hm0;exact⟨v,w,vP base t ty e i size ht hi v n xs hown c,by rw[List.append_nil, <-hown.1,List.take_length];exact hown,by simpa using hown,ao.refl _ _,.inl rfl,by simp⟩
 .obtain⟨v',w',hrun,h2,h3,h4,h5⟩:=run_append_own_at (P:=P) w base t ty e i z size bytes ht hi hz hsize hby hzs hsz v n xs hown ad m c news hm (hr.news rfl) h1 h63 hbytes hbase;refine⟨v',w',hrun,?_,h2,ao.eD h3,h5,h4⟩;rw[<-hown.1,List.take_left];rcases hown.2 with ⟨rfl,rfl⟩ | ⟨g,cap,cur,rfl,hbg,hg,hnc,hcm,hcs,htake⟩
  .have hx:xs=[]:=List.eq_nil_of_length_eq_zero (by simpa using hown.1);subst hx;exact World.ownsRow_nil _ _ _ _
  .by_cases hroom:n+m<=cap
   .have hfit:n*i.size+news.length<=cur.size:=by rw[hm,hcs,hsize, <-Nat.add_mul];exact Nat.mul_le_mul_right _ hroom
    have hr2:=run_append_room (P:=P) w t ty e i ht hi g n cap cur hg ad m c news (by rw[hsize];exact hm) (hr.news rfl) h1 hroom hfit;rw[hrun] at hr2;injection hr2 with _ hw
    subst hw;refine⟨hown.1,.inr ⟨g,cap,_,rfl,hbg,setRow_heap w g cur _ e _ hg,hnc,hcm,?_,?_⟩⟩
    .simp only[List.size_toArray,List.length_append,List.length_take,List.length_drop,Array.length_toList];rw[hsize] at hfit ⊢;omega
    .rw[hsize];have hlen:(cur.toList.take (n*size)).length=n*size:=by
      rw[List.length_take,Array.length_toList,hcs];exact Nat.min_eq_left (Nat.mul_le_mul_right _ hnc)
     show (cur.toList.take (n*size)++news++_).take (n*size)=xs;rw[List.append_assoc,List.take_append_of_le_length (by omega),List.take_take,Nat.min_self,htake]
   .have holds: ∀ j u,xs[j]?=some u->w.cell? ((⟨g,0,none⟩:Addr).add j)=some u:=hown.cells (g:=g) rfl;subst hsize;subst hby;have h63':n+m<=9223372036854775807:=by simp only[maxLen] at h63;omega
    have hr2:=run_append_grow (P:=P) w t ty e i z ht hi hz ⟨g,0,none⟩ n cap xs hown.1 holds ad m c news hm (hr.news rfl) (by omega) (by omega) (growslice_fits (by omega) hbytes);rw[hrun] at hr2;injection hr2 with _ hw
    subst hw;refine⟨hown.1,.inr ⟨g,cap,cur,rfl,hbg,?_,hnc,hcm,hcs,htake⟩⟩;rw[heap_alloc_old w.drew _ (r:=g) (At.lt hg)];exact hg
theorem fo {ops:Array Oper} {rest:List Oper} {o:Oper} {a:Act} {Q:Exit->Act->World->Prop} (hgd:o.guard=none) (s x:Operand) (t:TypeId)
 (ho:o.op = .call { callee:= .builtin .append,args:= #[s,x],argTypes:= #[t,t] })
 (base:Nat) (e:TypeId) (i:TypeInfo) (z:Value) (size bytes:Nat) (ht:P.underlying t=some (.slice e)) (hi:P.info? e=some i) (hz:i.zero=some z)
 (hsize:i.size=size) (hby:i.bytes=bytes) (hzs:z.cells.size=size) (hsz:0<size)
 (v:Value) (n:Nat) (xs:List Value) (hs:a.eval s=v) (hown:w.ownsRow base e size v n xs)
 (A:Option Addr) (m c:Nat) (news:List Value) (hx:a.eval x = .slice A m c) (hr:aF w A news) (hm:news.length=m*size) (h1: ∀ u ∈ news,u.oneCell'=true)
 (h63:n+m<=maxLen) (hbytes:(n+m)*bytes<=140737488355328) (hbase:base<=w.heap.size)
 (h: ∀ v' w',CQ base e size w v n m (xs++news) v' w'->wpList P ops Q rest (a.put o.dst v') w'):wpList P ops Q (o::rest) a w:=by
 refine wpList_plain hgd fun K hK=>?_
 obtain⟨v',w',hrun,h2⟩:=Av (P:=P) base t o.type e i z size bytes ht hi hz hsize hby hzs hsz v n xs hown A m c news hr hm h1 h63 hbytes hbase;unfold Oper.wp execOp;simp only[ho,resolve,invoke,builtin,Sem.run_bind,Sem.run_pure,Result.andThen_ok,List.map_toArray,List.map_cons,List.map_nil,hs,hx,hrun];exact hK _ _ (h v' w' h2)
end app
theorem pG {w:World} {base e n:Nat} {v:Value} {xs:List Value} (h:w.ownsRow base e 1 v n xs) (hv:v≠ .slice none 0 0):
 ∃ g cap cur,v = .slice (some ⟨g,0,none⟩) n cap/\base<=g/\At w g e cur/\n<=cap/\cap<=maxLen/\cur.size=cap/\ ∀ j (hj:j<xs.length),cur[j]?=some xs[j]:=by
 rcases h.2 with ⟨h1,_⟩ | ⟨g,cap,cur,h1,h2,h3,h4,h5,h6,h7⟩
 .exact absurd h1 hv
 .refine⟨g,cap,cur,h1,h2,h3,h4,h5,by simpa using h6,fun j hj=>?_⟩;have hl:=h.1;have:xs[j]?=some xs[j]:=List.getElem?_eq_getElem hj;rw[<-this]
  conv=>rhs;rw[<-h7]
  rw[List.getElem?_take,if_pos (by omega)];simp
theorem zZ {w:World} {base e n:Nat} {xs:List Value} (h:w.ownsRow base e 1 (.slice none 0 0) n xs):n=0/\xs=[]:=by
 rcases h.2 with ⟨_,h2⟩ | ⟨g,cap,cur,h1,_⟩
 .subst h2;exact⟨rfl,List.eq_nil_of_length_eq_zero (by simpa using h.1)⟩
 .simp at h1
theorem Et {w:World} {base e n:Nat} {v:Value} {xs:List Value} (h:w.ownsRow base e 1 v n xs): ∃ A c,v = .slice A n c/\aF w A xs/\n<=c/\c<=maxLen/\ ∀ b o,A=some ⟨b,o,none⟩->base<=b:=by
 by_cases hv:v = .slice none 0 0
 .subst hv;obtain⟨rfl,rfl⟩:=zZ h;exact⟨none,0,rfl,aF.nil _ _,Nat.le_refl _,Nat.zero_le _,fun b o e=>by cases e⟩
 .obtain⟨g,cap,cur,rfl,h2,h3,h4,h5,h6,h7⟩:=pG h hv;exact⟨_,_,rfl,aF.je h3 h7,h4,h5,fun b o e=>by injection e with e;injection e with e;omega⟩
theorem lh {S:Nat->Prop} {w w':World} {base e size n:Nat} {v:Value} {xs:List Value} (h:w.ownsRow base e size v n xs) (k:ao S w w') (hS: ∀ b,v.ownBlock=some b->¬ S b):w'.ownsRow base e size v n xs:=by
 refine⟨h.1,?_⟩;rcases h.2 with h1 | ⟨g,cap,cur,h1,h2,h3,r⟩
 .exact .inl h1
 .exact .inr ⟨g,cap,cur,h1,h2,(At.aL h3 k (hS g (by rw[h1];rfl))),r⟩
theorem AW (w:World) (e:TypeId) (cs:Array Value) (hm:cs.size<=maxLen):(w.alloc (.cells cs e)).ownsRow w.heap.size e 1 (.slice (some ⟨w.heap.size,0,none⟩) cs.size cs.size) cs.size cs.toList:=
 World.ownsRow_lit w cs cs.size (Nat.le_refl _) hm (by omega)
section fit
variable {P:Program} {w:World}
end fit
end Go.Proofs.YtmbaiglpgaoogaaGreat
namespace Go.Proofs.YtmbaiglpgaoogaaGreat
open Go.RowKit Z
def Hp:=Nat->Option (Bool × Obj)
def jn (x y:Option (Bool × Obj)):Option (Bool × Obj):=match x with | some a=>some a | none=>y
def CP (x y:Option (Bool × Obj)):Prop:=x=none\/y=none\/ ∃ o,x=some (true,o)/\y=some (true,o)
theorem CP.symm {x y} (h:CP x y):CP y x:=by
 rcases h with h | h | ⟨o,h1,h2⟩
 .exact .inr (.inl h)
 .exact .inl h
 .exact .inr (.inr ⟨o,h2,h1⟩)
theorem uC {x y} (h:CP x y):jn x y=jn y x:=by
 rcases h with rfl | rfl | ⟨o,rfl,rfl⟩
 .cases y<;>rfl
 .cases x<;>rfl
 .rfl
theorem wX (x y z):jn (jn x y) z=jn x (jn y z):=by cases x<;>rfl
theorem pV {x y z} (h:CP x y) (k:CP (jn x y) z):CP y z/\CP x (jn y z):=by
 rcases h with rfl | rfl | ⟨o,rfl,rfl⟩
 .exact⟨k,.inl rfl⟩
 .refine⟨.inl rfl,?_⟩
  cases x with
  | none=>exact .inl rfl
  | some a=>exact k
 .refine⟨k,?_⟩;exact .inr (.inr ⟨o,rfl,rfl⟩)
theorem rT {x y z} (h:CP y z) (k:CP x (jn y z)):CP x y/\CP (jn x y) z:=by
 have:=pV (x:=z) (y:=y) (z:=x) h.symm (by rw[uC h.symm];exact k.symm);refine⟨this.1.symm,?_⟩;rw[uC this.1.symm];exact this.2.symm
def Hp.ok (a b:Hp):Prop:= ∀ k,CP (a k) (b k)
def Hp.un (a b:Hp):Hp:=fun k=>jn (a k) (b k)
def SP:=Hp->Prop
instance:Mul SP:=⟨fun A B=>fun h=> ∃ a b,a.ok b/\h=a.un b/\A a/\B b⟩
theorem cD (A B:SP):A*B=B*A:=by
 have: ∀ A B:SP, ∀ h,(A*B) h->(B*A) h:=fun A B h ⟨a,b,h1,h2,h3,h4⟩=>
  ⟨b,a,fun k=>(h1 k).symm,by rw[h2];funext k;exact uC (h1 k),h4,h3⟩
 funext h
 exact propext ⟨this A B h,this B A h⟩
theorem aB (A B C:SP):A*B*C=A*(B*C):=by
 funext h
 refine propext ⟨?_,?_⟩
 .rintro ⟨x,c,h1,rfl,⟨a,b,h2,rfl,ha,hb⟩,hc⟩;exact⟨a,b.un c,fun k=>(pV (h2 k) (h1 k)).2,funext fun k=>wX _ _ _,ha,b,c,fun k=>(pV (h2 k) (h1 k)).1,rfl,hb,hc⟩
 .rintro ⟨a,x,h1,rfl,ha,b,c,h2,rfl,hb,hc⟩;exact⟨a.un b,c,fun k=>(rT (h2 k) (h1 k)).2,funext fun k=>(wX _ _ _).symm,⟨a,b,fun k=>(rT (h2 k) (h1 k)).1,rfl,ha,hb⟩,hc⟩
theorem aX (A B C:SP):A*(B*C)=B*(A*C):=by rw[<-aB,cD A B,aB]
instance:Std.Associative (α:=SP) (· * ·):=⟨aB⟩
instance:Std.Commutative (α:=SP) (· * ·):=⟨cD⟩
def bF:SP:=fun h=>h=fun _=>none
theorem iU (A:SP):A*bF=A:=by
 funext h
 refine propext ⟨?_,fun ha=>⟨h,fun _=>none,fun k=> .inr (.inl rfl),funext fun k=>?_,ha,rfl⟩⟩
 .rintro ⟨a,b,_,rfl,ha,rfl⟩;have:a.un (fun _=>none)=a:=funext fun k=>by unfold Hp.un jn;cases a k<;>rfl
  rw[this];exact ha
 .unfold Hp.un jn;cases h k<;>rfl
theorem bf (A:SP):bF*A=A:=by rw[cD,iU]
def eL (b:Nat) (x:Bool × Obj):Hp:=fun k=>if k=b then some x else none
def SP.and (φ:Prop) (A:SP):SP:=fun h=>φ/\A h
def Ow (b:Nat) (o:Obj):SP:=fun h=>h=eL b (false,o)
def Pt (b:Nat) (t:TypeId) (cs:Array Value):SP:=Ow b (.cells cs t (0,0))
def Ro (A:Option Addr) (xs:List Value):SP:=fun h=>(∀ k x,h k=some x->x.1=true)/\(xs≠[]-> ∃ b o cs t fr,A=some ⟨b,o,none⟩/\h b=some (true,.cells cs t fr)/\ ∀ j (hj:j<xs.length),cs[o+j]?=some xs[j])
def Rb (A:Option Addr) (l:List UInt8):SP:=Ro A (l.map bv)
structure Sat (w0:World) (A:SP) (w:World):Prop where
 aL:ao No w0 w
 hp: ∃ h:Hp,(∀ k x,h k=some x->w.heap[k]?=some x.2/\(x.1=false->w0.heap.size<=k))/\A h
section
variable {w0 w w':World} {A B F:SP} {b i n:Nat} {t:TypeId} {cs:Array Value} {v u:Value} {o:Obj}
theorem Sat.start (w:World):Sat w bF w:=⟨ao.refl _ _,fun _=>none,by simp,rfl⟩
theorem Sat.of (h:Sat w0 A w) (e:A=B):Sat w0 B w:=e ▸ h
theorem Sat.mono (h:Sat w0 A w) (e: ∀ h,A h->B h):Sat w0 B w:=let ⟨x,h1,h2⟩:=h.hp;⟨h.aL,x,h1,e x h2⟩
theorem Sat.right (h:Sat w0 (A*F) w):Sat w0 F w:=by
 obtain⟨_,h1,a,f,h2,rfl,_,hf⟩:=h.hp;refine⟨h.aL,f,fun k x hx=>h1 k x ?_,hf⟩;rcases h2 k with e | e | ⟨o,e1,e2⟩
 .show jn (a k) (f k)=_;rw[e];exact hx
 .rw[e] at hx;cases hx
 .show jn (a k) (f k)=_;rw[e1];rw[e2] at hx;exact hx
theorem Sat.size (h:Sat w0 A w):w0.heap.size<=w.heap.size:=h.aL.size
theorem Sat.new (h:Sat w0 A w) (k:ao No w w'):Sat w0 A w':=by
 obtain⟨x,h1,h2⟩:=h.hp;refine⟨h.aL.tr k,x,fun b y hy=>⟨?_,(h1 b y hy).2⟩,h2⟩;have:=(h1 b y hy).1;rw[k.block b (lt_of_block this) id];exact this
theorem Sat.drew (h:Sat w0 A w):Sat w0 A w.drew:=h.new (ao.refl No w).drew
theorem Sat.drewN (h:Sat w0 A w) (n:Nat):Sat w0 A (w.drewN n):=h.new ((ao.refl No w).drewN n)
theorem Sat.aD (h:Sat w0 A w) (o:Obj):Sat w0 A (w.alloc o):=h.new ((ao.refl No w).alloc o)
theorem Sat.take (h:Sat w0 F w) (k:ao No w w') (hb:w.heap.size<=b) (ho:w'.heap[b]?=some o):Sat w0 (Ow b o*F) w':=by
 have h':=h.new k;obtain⟨x,h1,h2⟩:=h.hp;refine⟨h'.aL,(eL b (false,o)).un x,fun q y hy=>?_,_,x,fun q=>?_,rfl,rfl,h2⟩
 .unfold Hp.un eL at hy;by_cases e:q=b
  .subst e;rw[if_pos rfl] at hy;injection hy with hy
   subst hy;exact⟨ho,fun _=>Nat.le_trans h.size hb⟩
  .rw[if_neg e] at hy;have:=h1 q y hy;refine⟨?_,this.2⟩;rw[k.block q (lt_of_block this.1) id];exact this.1
 .unfold eL;by_cases e:q=b
  .right;left
   cases hx:x q with
   | none=>rfl
   | some y=>have:=lt_of_block (h1 q y hx).1;omega
  .exact .inl (if_neg e)
theorem Sat.alloc (h:Sat w0 F w) (o:Obj):Sat w0 (Ow w.heap.size o*F) (w.alloc o):=h.take ((ao.refl No w).alloc o) (Nat.le_refl _) (heap_alloc_new w o)
theorem Sat.ab (h:Sat w0 F w) (t:TypeId) (cs:Array Value):Sat w0 (Pt w.heap.size t cs*F) (w.alloc (.cells cs t)):=h.alloc _
theorem Sat.block (h:Sat w0 (Ow b o*F) w):w.heap[b]?=some o:=by
 obtain⟨_,h1,a,f,h2,rfl,rfl,hf⟩:=h.hp;exact(h1 b (false,o) (by unfold Hp.un eL jn;simp)).1
theorem Sat.base (h:Sat w0 (Ow b o*F) w):w0.heap.size<=b:=by
 obtain⟨_,h1,a,f,h2,rfl,rfl,hf⟩:=h.hp;exact(h1 b (false,o) (by unfold Hp.un eL jn;simp)).2 rfl
theorem Sat.at (h:Sat w0 (Pt b t cs*F) w):At w b t cs:=h.block
theorem Sat.cell (h:Sat w0 (Pt b t cs*F) w) (i:Nat):w.cell? ⟨b,i,none⟩=cs[i]?:=h.at.cell i
theorem Sat.frozen (h:Sat w0 (Pt b t cs*F) w) (i:Nat):w.frozen? ⟨b,i,none⟩=false:=h.at.frozen i
theorem Sat.lt (h:Sat w0 (Ow b o*F) w):b<w.heap.size:=lt_of_block h.block
theorem Sat.ne {b':Nat} {o':Obj} (h:Sat w0 (Ow b o*(Ow b' o'*F)) w):b≠b':=by
 rintro rfl;obtain⟨_,h1,a,f,h2,rfl,rfl,a',f',h3,rfl,rfl,hf⟩:=h.hp;have:=h2 b;unfold eL Hp.un jn at this;rcases this with e | e | ⟨q,e,_⟩
 .simp at e
 .simp at e
 .simp at e
theorem Sat.turn {o':Obj} (h:Sat w0 (Ow b o*F) w) (k:ao (One b) w w') (ho:w'.heap[b]?=some o'):Sat w0 (Ow b o'*F) w':=by
 have hb:=h.base;obtain⟨_,h1,a,f,h2,rfl,rfl,hf⟩:=h.hp;refine⟨h.aL.own k (fun i hi=>by cases hi;exact hb),(eL b (false,o')).un f,fun q y hy=>?_,_,f,fun q=>?_,rfl,rfl,hf⟩
 .unfold Hp.un eL at hy;by_cases e:q=b
  .subst e;rw[if_pos rfl] at hy;injection hy with hy
   subst hy;exact⟨ho,fun _=>hb⟩
  .rw[if_neg e] at hy;have:=h1 q y (by unfold Hp.un eL;rw[if_neg e];exact hy);refine⟨?_,this.2⟩;rw[k.block q (lt_of_block this.1) e];exact this.1
 .by_cases e:q=b
  .right;left
   have:=h2 q;unfold eL at this;rw[if_pos e] at this;rcases this with e | e | ⟨q,e,_⟩
   .cases e
   .exact e
   .simp at e
  .left;unfold eL;rw[if_neg e]
theorem Sat.set (h:Sat w0 (Pt b t cs*F) w) (i:Nat) (u:Value):Sat w0 (Pt b t (cs.setIfInBounds i u)*F) (w.setCell ⟨b,i,none⟩ u):=
 Sat.turn h ((ao.refl (One b) w).setCell (p:=⟨b,i,none⟩) (fun _=>rfl) u) (h.at.set i u)
theorem Sat.Jg (h:Sat w0 (Pt b t cs*F) w) {o:Nat} {xs:List Value} (hx: ∀ j (hj:j<xs.length),cs[o+j]?=some xs[j]):Sat w0 (Ro (some ⟨b,o,none⟩) xs*F) w:=by
 obtain⟨_,h1,a,f,h2,rfl,rfl,hf⟩:=h.hp;have hn:f b=none:=by
  have:=h2 b;unfold eL at this;rw[if_pos rfl] at this;rcases this with e | e | ⟨q,e,_⟩
  .cases e
  .exact e
  .simp at e
 refine⟨h.aL,(eL b (true,.cells cs t (0,0))).un f,fun q y hy=>?_,_,f,fun q=>?_,rfl,⟨fun k x hx=>?_,fun _=>⟨b,o,cs,t,(0,0),rfl,by unfold eL;simp,hx⟩⟩,hf⟩
 .unfold Hp.un eL at hy;by_cases e:q=b
  .subst e;rw[if_pos rfl] at hy;injection hy with hy
   subst hy;exact⟨h.at,fun e=>(by cases e)⟩
  .rw[if_neg e] at hy;exact h1 q y (by unfold Hp.un eL;rw[if_neg e];exact hy)
 .by_cases e:q=b
  .subst e;exact .inr (.inl hn)
  .left;unfold eL;rw[if_neg e]
 .unfold eL at hx;split at hx
  .injection hx with hx;subst hx;rfl
  .cases hx
theorem Sat.rdv {Ad:Option Addr} {xs:List Value} (h:Sat w0 (Ro Ad xs*F) w):aF w Ad xs:=fun hx=>by
 obtain⟨_,h1,a,f,h2,rfl,⟨ha,ha2⟩,hf⟩:=h.hp;obtain⟨b,o,cs,t,fr,rfl,hb,hc⟩:=ha2 hx;refine⟨b,o,rfl,fun j hj=>?_⟩;have:=(h1 b (true,.cells cs t fr) (by unfold Hp.un;rw[hb];rfl)).1;rw[cell_of_row w b (o+j) cs t fr this];exact hc j hj
theorem Sat.rd {Ad:Option Addr} {l:List UInt8} (h:Sat w0 (Rb Ad l*F) w):Rd w Ad l:=Sat.rdv h
theorem IL (Ad:Option Addr) (xs:List Value):Ro Ad xs*Ro Ad xs=Ro Ad xs:=by
 funext h
 refine propext ⟨?_,fun hh=>⟨h,h,fun k=>?_,funext fun k=>?_,hh,hh⟩⟩
 .rintro ⟨a,b,h1,rfl,⟨h2,h3⟩,h4,h5⟩;refine⟨fun k x hx=>?_,fun hx=>?_⟩
  .unfold Hp.un jn at hx
   cases ha:a k with
   | none=>rw[ha] at hx;exact h4 k x hx
   | some y=>rw[ha] at hx;injection hx with hx;subst hx;exact h2 k _ ha
  .obtain⟨b',o,cs,t,fr,rfl,hb,hc⟩:=h3 hx;exact⟨b',o,cs,t,fr,rfl,by unfold Hp.un;rw[hb];rfl,hc⟩
 .cases hk:h k with
  | none=>exact .inl rfl
  | some x=>have:=hh.1 k x hk;obtain⟨q,o⟩:=x;cases this;exact .inr (.inr ⟨o,rfl,rfl⟩)
 .unfold Hp.un jn;cases h k<;>rfl
theorem Sat.Fe (h:Sat w0 F w) (Ad:Option Addr):Sat w0 (Ro Ad []*F) w:=
 (h.of (bf F).symm).mono fun x ⟨a,f,h1,h2,h3,h4⟩=>⟨a,f,h1,h2,⟨fun k y hy=>(by unfold bF at h3;rw[h3] at hy;cases hy),fun h=>absurd rfl h⟩,h4⟩
theorem Sat.Km {e:TypeId} {v:Value} {n:Nat} {xs:List Value} (h:Sat w0 F w) (k:ao No w w') (hown:w'.ownsRow w.heap.size e 1 v n xs): ∃ Ad c,v = .slice Ad n c/\n<=c/\c<=maxLen/\Sat w0 (Ro Ad xs*F) w':=by
 by_cases hv:v = .slice none 0 0
 .subst hv;obtain⟨rfl,rfl⟩:=zZ hown;exact⟨none,0,rfl,Nat.le_refl _,Nat.zero_le _,(h.new k).Fe _⟩
 .obtain⟨g,cap,cur,rfl,h2,h3,h4,h5,h6,h7⟩:=pG hown hv;refine⟨_,_,rfl,h4,h5,Sat.Jg (h.take k h2 h3) (fun j hj=>?_)⟩;rw[Nat.zero_add];exact h7 j hj
theorem Sat.pure {φ:Prop} (h:Sat w0 (SP.and φ A*F) w):φ/\Sat w0 (A*F) w:=by
 obtain⟨c,x,h1,a,f,h2,h3,⟨h4,h5⟩,h6⟩:=h;exact⟨h4,c,x,h1,a,f,h2,h3,h5,h6⟩
theorem Sat.Kq {φ:Prop} (p:φ) (h:Sat w0 (A*F) w):Sat w0 (SP.and φ A*F) w:=h.mono fun y ⟨a,f,h2,h3,h5,h6⟩=>⟨a,f,h2,h3,⟨p,h5⟩,h6⟩
theorem Sat.part (h:Sat w0 (Ow b o*F) w): ∃ f,F f/\f b=none/\ ∀ k x,f k=some x->w.heap[k]?=some x.2/\(x.1=false->w0.heap.size<=k):=by
 obtain⟨_,h1,a,f,h2,rfl,rfl,hf⟩:=h.hp;have hn:f b=none:=by
  have:=h2 b;unfold eL at this;rw[if_pos rfl] at this;rcases this with e | e | ⟨q,e,_⟩
  .cases e
  .exact e
  .simp at e
 refine⟨f,hf,hn,fun k x hx=>h1 k x ?_⟩;unfold Hp.un eL;by_cases e:k=b
 .rw[e,hn] at hx;cases hx
 .rw[if_neg e];exact hx
theorem Sat.Ex {b':Nat} {o':Obj} (h:Sat w0 (Ow b o*F) w) (k:ao (One b) w w') (hb:w.heap.size<=b') (ho:w'.heap[b']?=some o'):Sat w0 (Ow b' o'*F) w':=by
 have hbase:=h.base;have hsz:=h.size;obtain⟨f,hf,hn,h1⟩:=h.part;refine⟨h.aL.own k (fun i hi=>by cases hi;exact hbase),(eL b' (false,o')).un f,fun q y hy=>?_,_,f,fun q=>?_,rfl,rfl,hf⟩
 .unfold Hp.un eL at hy;by_cases e:q=b'
  .subst e;rw[if_pos rfl] at hy;injection hy with hy
   subst hy;exact⟨ho,fun _=>Nat.le_trans hsz hb⟩
  .rw[if_neg e] at hy;have:=h1 q y hy;refine⟨?_,this.2⟩;rw[k.block q (lt_of_block this.1) (fun e=>by have hy':f q=some y:=hy;rw[show q=b from e,hn] at hy';cases hy')];exact this.1
 .unfold eL;by_cases e:q=b'
  .right;left
   cases hx:f q with
   | none=>rfl
   | some y=>have:=lt_of_block (h1 q y hx).1;omega
  .exact .inl (if_neg e)
def Row (e:TypeId) (size:Nat) (v:Value) (n:Nat) (xs:List Value):SP:=fun h=>xs.length=n*size/\
 ((v = .slice none 0 0/\n=0/\bF h)\/ ∃ g cap cur,v = .slice (some ⟨g,0,none⟩) n cap/\n<=cap/\cap<=maxLen/\cur.size=cap*size/\cur.toList.take (n*size)=xs/\Pt g e cur h)
variable {e:TypeId} {size m:Nat} {xs ys:List Value}
theorem Sat.cu (h:Sat w0 (Row e size v n xs*F) w):xs.length=n*size/\((v = .slice none 0 0/\n=0/\Sat w0 F w)\/
 ∃ g cap cur,v = .slice (some ⟨g,0,none⟩) n cap/\n<=cap/\cap<=maxLen/\cur.size=cap*size/\cur.toList.take (n*size)=xs/\Sat w0 (Pt g e cur*F) w):=by
 obtain⟨c,x,h1,a,f,h2,h3,⟨hl,h4⟩,h5⟩:=h;refine⟨hl,?_⟩;rcases h4 with ⟨e1,e2,e3⟩ | ⟨g,cap,cur,e1,e2,e3,e4,e5,e6⟩
 .refine .inl ⟨e1,e2,?_⟩;have:=Sat.mk (w0:=w0) (w:=w) (A:=bF*F) c ⟨x,h1,a,f,h2,h3,e3,h5⟩;exact this.of (bf F)
 .exact .inr ⟨g,cap,cur,e1,e2,e3,e4,e5,⟨c,x,h1,a,f,h2,h3,e6,h5⟩⟩
theorem Sat.aN (h:Sat w0 F w) (e:TypeId) (size:Nat):Sat w0 (Row e size (.slice none 0 0) 0 []*F) w:=
 (h.of (bf F).symm).mono fun x ⟨a,f,h1,h2,h3,h4⟩=>⟨a,f,h1,h2,⟨by simp,.inl ⟨rfl,rfl,h3⟩⟩,h4⟩
theorem Sat.dN {g cap:Nat} {cur:Array Value} (h:Sat w0 (Pt g e cur*F) w) (h1:n<=cap) (h2:cap<=maxLen) (h3:cur.size=cap*size):Sat w0 (Row e size (.slice (some ⟨g,0,none⟩) n cap) n (cur.toList.take (n*size))*F) w:=
 h.mono fun x ⟨a,f,k1,k2,k3,k4⟩=>⟨a,f,k1,k2,⟨by rw[List.length_take,Array.length_toList,h3];exact Nat.min_eq_left (Nat.mul_le_mul_right _ h1),.inr ⟨g,cap,cur,rfl,h1,h2,h3,rfl,k3⟩⟩,k4⟩
theorem Sat.aO (h:Sat w0 (Row e size v n xs*F) w):w.ownsRow w0.heap.size e size v n xs:=by
 obtain⟨hl,⟨rfl,rfl,_⟩ | ⟨g,cap,cur,rfl,h1,h2,h3,h4,h5⟩⟩:=h.cu
 .exact⟨hl,.inl ⟨rfl,rfl⟩⟩
 .exact⟨hl,.inr ⟨g,cap,cur,rfl,h5.base,h5.block,h1,h2,h3,h4⟩⟩
theorem Sat.dP (h:Sat w0 F w) (k:ao No w w') (hown:w'.ownsRow w.heap.size e size v n xs):Sat w0 (Row e size v n xs*F) w':=by
 rcases hown.2 with ⟨rfl,rfl⟩ | ⟨g,cap,cur,rfl,h1,h2,h3,h4,h5,h6⟩
 .have:xs=[]:=List.eq_nil_of_length_eq_zero (by simpa using hown.1);subst this;exact(h.new k).aN e size
 .rw[<-h6];exact Sat.dN (h.take k h1 h2) h3 h4 h5
theorem Sat.Cg {base:Nat} {v':Value} (h:Sat w0 (Row e size v n xs*F) w) (k:CQ base e size w v n m ys v' w'):Sat w0 (Row e size v' (n+m) ys*F) w':=by
 have hown:=k.own;obtain⟨hl,⟨rfl,rfl,h1⟩ | ⟨g,cap,cur,rfl,h1,h2,h3,h4,h5⟩⟩:=h.cu
 .have kc:ao No w w':=k.aL.mono fun i _ hi=>by simp[Value.ownBlock] at hi
  refine h1.dP kc ?_;refine⟨hown.1,?_⟩;rcases hown.2 with h2 | ⟨g,cap,cur,rfl,_,r⟩
  .exact .inl h2
  .refine .inr ⟨g,cap,cur,rfl,?_,r⟩;rcases k.at_ with h3 | h3
   .simp[Value.ownBlock] at h3
   .simp[Value.ownBlock] at h3;omega
 .have kc:ao (One g) w w':=k.aL.mono fun i _ hi=>by simp[Value.ownBlock] at hi;exact hi
  rcases hown.2 with ⟨rfl,hz⟩ | ⟨g',cap',cur',rfl,_,e1,e2,e3,e4,e5⟩
  .exact absurd (k.nil.1 rfl).1 (by simp)
  .rw[<-e5];refine Sat.dN ?_ e2 e3 e4;rcases k.at_ with q | q
   .simp[Value.ownBlock] at q;subst q;exact h5.turn kc e1
   .simp[Value.ownBlock] at q;subst q;exact Sat.Ex h5 kc (Nat.le_refl _) e1
theorem Sat.yK (h:Sat w0 (Row e 1 v n xs*F) w): ∃ Ad c,v = .slice Ad n c/\aF w Ad xs/\n<=c/\c<=maxLen:=by
 obtain⟨A,c,h1,h2,h3,h4,_⟩:=Et h.aO;exact⟨A,c,h1,h2,h3,h4⟩
theorem Sat.xU (h:Sat w0 (Row e 1 v n xs*F) w): ∃ Ad c,v = .slice Ad n c/\n<=c/\c<=maxLen/\Sat w0 (Ro Ad xs*F) w:=by
 obtain⟨hl,⟨rfl,rfl,h1⟩ | ⟨g,cap,cur,rfl,h1,h2,h3,h4,h5⟩⟩:=h.cu
 .have:xs=[]:=List.eq_nil_of_length_eq_zero (by simpa using hl);subst this;exact⟨none,0,rfl,Nat.le_refl _,Nat.zero_le _,h1.Fe _⟩
 .refine⟨_,_,rfl,h1,h2,h5.Jg fun j hj=>?_⟩;have:xs[j]?=some xs[j]:=List.getElem?_eq_getElem hj;rw[Nat.zero_add, <-this, <-h4,List.getElem?_take,if_pos (by omega)];simp
end
section
variable {w0 w:World} {A B C D E G F:SP}
theorem Sat.ay (h:Sat w0 (A*(B*F)) w):Sat w0 (B*(A*F)) w:=h.of (aX _ _ _)
theorem Sat.bp (h:Sat w0 (A*(B*(C*F))) w):Sat w0 (C*(A*(B*F))) w:=h.of (by rw[aX B C,aX A C])
theorem Sat.bL (h:Sat w0 (A*(B*(C*(D*F)))) w):Sat w0 (D*(A*(B*(C*F)))) w:=h.of (by rw[aX C D,aX B D,aX A D])
theorem Sat.fN (h:Sat w0 (A*(B*(C*(D*(E*F))))) w):Sat w0 (E*(A*(B*(C*(D*F))))) w:=h.of (by rw[aX D E,aX C E,aX B E,aX A E])
theorem Sat.Cd (h:Sat w0 (A*(B*(C*(D*(E*(G*F)))))) w):Sat w0 (G*(A*(B*(C*(D*(E*F)))))) w:=h.of (by rw[aX E G,aX D G,aX C G,aX B G,aX A G])
theorem Sat.K9 (h:Sat w0 (C*(A*(B*F))) w):Sat w0 (A*(B*(C*F))) w:=h.of (by rw[aX B C,aX A C])
theorem Sat.KR (h:Sat w0 (D*(A*(B*(C*F)))) w):Sat w0 (A*(B*(C*(D*F)))) w:=h.of (by rw[aX C D,aX B D,aX A D])
theorem Sat.Lc (h:Sat w0 (E*(A*(B*(C*(D*F))))) w):Sat w0 (A*(B*(C*(D*(E*F))))) w:=h.of (by rw[aX D E,aX C E,aX B E,aX A E])
theorem Sat.bo (h:Sat w0 (A*(B*F)) w):Sat w0 (A*F) w:=h.ay.right
end
theorem et {α:Type} {l:List α} {i:Nat} {a:α}:l.toArray.setIfInBounds i a=(l.set i a).toArray:=List.setIfInBounds_toArray ..
theorem eh {α:Type} {x a:α} {l:List α}:(x::l).set 0 a=a::l:=rfl
theorem ep {α:Type} {x a:α} {l:List α} {n:Nat}:(x::l).set (n+1) a=x::l.set n a:=rfl
section
variable {P:Program} {l:List Oper} {Q:Exit->Act->World->Prop} {md:Region.Mode} {S:World->Prop}
theorem FV {i:Nat} {oi:Oper} {v:Value} {fuel:Nat} {listed:Array Bool} {a:Act} {w:World} (hi:l[i]?=some oi)
 (hs:Region.noSelect l.toArray=true) (hf:Region.free md l.toArray listed i=true) (hr:(Region.ready md l.toArray listed).contains i=true)
 (hQ: ∀ c a w,Q (.panic c) (a.put oi.dst v) w->Q (.panic c) a w) (hy:Region.wanted oi (yielded l.toArray a.tmps)=true) (hy2: ∀ w,S w->(execOp a.eval oi).run P w = .ok (.value v) w) (hS:S w)
 (h:wpAnyH P md l.toArray Q S fuel (listed.setIfInBounds i true) (a.put oi.dst v) w):wpAnyH P md l.toArray Q S (fuel+1) listed a w:=
 wpAnyH_take (by simpa using hi) hs hf hr hQ (.inl ⟨hy,hy2⟩) hS h
theorem Dh {i:Nat} {oi:Oper} {fuel:Nat} {listed:Array Bool} {a:Act} {w:World} (hi:l[i]?=some oi)
 (hs:Region.noSelect l.toArray=true) (hf:Region.free md l.toArray listed i=true) (hr:(Region.ready md l.toArray listed).contains i=true)
 (hQ: ∀ c a w,Q (.panic c) (a.put oi.dst undef) w->Q (.panic c) a w) (hy:Region.wanted oi (yielded l.toArray a.tmps)=false) (hS:S w)
 (h:wpAnyH P md l.toArray Q S fuel (listed.setIfInBounds i true) (a.put oi.dst undef) w):wpAnyH P md l.toArray Q S (fuel+1) listed a w:=
 wpAnyH_take (by simpa using hi) hs hf hr hQ (.inr ⟨hy,rfl⟩) hS h
theorem Fk {i:Nat} {oi:Oper} {fuel:Nat} {listed:Array Bool} {a:Act} {w:World} (hi:l[i]?=some oi) (hr:Region.ready md l.toArray listed=[i])
 (h: ∀ K:Act->World->Prop,Shut (∀ a w,S w->(S w->wpAnyH P md l.toArray Q S fuel (listed.setIfInBounds i true) a w)->K a w)->if Region.wanted oi (yielded l.toArray a.tmps)=true then Oper.wp P oi a w K Q else K (a.put oi.dst undef) w):
 wpAnyH P md l.toArray Q S (fuel+1) listed a w:=
 wpAnyH_ready hr (by simp) (AllReadyH.cons (by simpa using hi) h AllReadyH.nil)
theorem ca (i:Nat) {oi:Oper} {v:Value} {fuel:Nat} {listed:Array Bool} {a a':Act} {w:World}
 (h:wpAnyH P md l.toArray Q S fuel (listed.setIfInBounds i true) a' w) (hi:l[i]?=some oi:=by rfl)
 (hs:Region.noSelect l.toArray=true:=by kernel_rfl) (hf:Region.free md l.toArray listed i=true:=by kernel_rfl) (hr:(Region.ready md l.toArray listed).contains i=true:=by kernel_rfl)
 (hy:Region.wanted oi (yielded l.toArray a.tmps)=true:=by rfl) (hy2: ∀ w,S w->(execOp a.eval oi).run P w = .ok (.value v) w:=by (intro w hSw;(try dsimp only at hSw);go_simp;try with_reducible rfl))
 (ha:a.put oi.dst v=a':=by (simp only[Act.put,et,eh,ep];try rfl))
 (hQ: ∀ c a w,Q (.panic c) (a.put oi.dst v) w->Q (.panic c) a w:=by exact fun _ _ _ h=>h) (hS:S w:=by assumption):wpAnyH P md l.toArray Q S (fuel+1) listed a w:=by
 subst ha;exact FV hi hs hf hr hQ hy hy2 hS h
def Jf (P:Program) (l:List Oper) (Q:Exit->Act->World->Prop) (md:Region.Mode) (S:World->Prop) (i:Nat) (listed:Array Bool) (a a':Act):Prop:= ∀ (fuel:Nat) (w:World),S w->wpAnyH P md l.toArray Q S fuel (listed.setIfInBounds i true) a' w->wpAnyH P md l.toArray Q S (fuel+1) listed a w
theorem JB {i:Nat} {oi:Oper} {v:Value} {listed:Array Bool} {a a':Act} (hi:l[i]?=some oi:=by rfl) (hs:Region.noSelect l.toArray=true:=by kernel_rfl) (hf:Region.free md l.toArray listed i=true:=by kernel_rfl) (hr:(Region.ready md l.toArray listed).contains i=true:=by kernel_rfl)
 (hy:Region.wanted oi (yielded l.toArray a.tmps)=true:=by rfl) (hy2: ∀ w,S w->(execOp a.eval oi).run P w = .ok (.value v) w:=by (intro w hSw;(try dsimp only at hSw);go_simp;try with_reducible rfl))
 (ha:a.put oi.dst v=a':=by (simp only[Act.put,et,eh,ep];try rfl)) (hQ: ∀ c a w,Q (.panic c) (a.put oi.dst v) w->Q (.panic c) a w:=by exact fun _ _ _ h=>h):Jf P l Q md S i listed a a':=fun _ _ hS h=>ca i h hi hs hf hr hy hy2 ha hQ hS
theorem cw (i j:Nat) {fuel:Nat} {listed:Array Bool} {a b c:Act} {w:World} (h:wpAnyH P md l.toArray Q S fuel ((listed.setIfInBounds i true).setIfInBounds j true) c w) (h0:Jf P l Q md S i listed a b:=by exact JB) (h1:Jf P l Q md S j (listed.setIfInBounds i true) b c:=by exact JB) (hS:S w:=by assumption):wpAnyH P md l.toArray Q S (fuel+2) listed a w:=h0 _ _ hS (h1 _ _ hS h)
theorem an (i j k m:Nat) {fuel:Nat} {x:Array Bool} {a b c d e:Act} {w:World} (h:wpAnyH P md l.toArray Q S fuel ((((x.setIfInBounds i true).setIfInBounds j true).setIfInBounds k true).setIfInBounds m true) e w) (h0:Jf P l Q md S i x a b:=by exact JB) (h1:Jf P l Q md S j (x.setIfInBounds i true) b c:=by exact JB) (h2:Jf P l Q md S k ((x.setIfInBounds i true).setIfInBounds j true) c d:=by exact JB) (h3:Jf P l Q md S m (((x.setIfInBounds i true).setIfInBounds j true).setIfInBounds k true) d e:=by exact JB) (hS:S w:=by assumption):wpAnyH P md l.toArray Q S (fuel+4) x a w:=h0 _ _ hS (h1 _ _ hS (h2 _ _ hS (h3 _ _ hS h)))
theorem cg (i:Nat) {oi:Oper} {fuel:Nat} {listed:Array Bool} {a a':Act} {w:World}
 (h:wpAnyH P md l.toArray Q S fuel (listed.setIfInBounds i true) a' w) (hi:l[i]?=some oi:=by rfl)
 (hs:Region.noSelect l.toArray=true:=by kernel_rfl) (hf:Region.free md l.toArray listed i=true:=by kernel_rfl) (hr:(Region.ready md l.toArray listed).contains i=true:=by kernel_rfl)
 (hy:Region.wanted oi (yielded l.toArray a.tmps)=false:=by rfl)
 (ha:a.put oi.dst undef=a':=by (simp only[Act.put,et,eh,ep];try rfl))
 (hQ: ∀ c a w,Q (.panic c) (a.put oi.dst undef) w->Q (.panic c) a w:=by exact fun _ _ _ h=>h) (hS:S w:=by assumption):wpAnyH P md l.toArray Q S (fuel+1) listed a w:=by
 subst ha;exact Dh hi hs hf hr hQ hy hS h
theorem bC (i:Nat) {oi:Oper} {fuel:Nat} {listed:Array Bool} {a:Act} {w:World}
 (h: ∀ K:Act->World->Prop,Shut (∀ a w,S w->(S w->wpAnyH P md l.toArray Q S fuel (listed.setIfInBounds i true) a w)->K a w)->if Region.wanted oi (yielded l.toArray a.tmps)=true then Oper.wp P oi a w K Q else K (a.put oi.dst undef) w)
 (hi:l[i]?=some oi:=by rfl) (hr:Region.ready md l.toArray listed=[i]:=by kernel_rfl):wpAnyH P md l.toArray Q S (fuel+1) listed a w:=Fk hi hr h
theorem bM {i j:Nat} {oi oj:Oper} {fuel:Nat} {listed:Array Bool} {a:Act} {w:World} (hi:l[i]?=some oi) (hj:l[j]?=some oj) (hr:Region.ready md l.toArray listed=[i,j])
 (h: ∀ K:Act->World->Prop,Shut (∀ a w,S w->(S w->wpAnyH P md l.toArray Q S fuel (listed.setIfInBounds i true) a w)->K a w)->if Region.wanted oi (yielded l.toArray a.tmps)=true then Oper.wp P oi a w K Q else K (a.put oi.dst undef) w)
 (k: ∀ K:Act->World->Prop,Shut (∀ a w,S w->(S w->wpAnyH P md l.toArray Q S fuel (listed.setIfInBounds j true) a w)->K a w)->if Region.wanted oj (yielded l.toArray a.tmps)=true then Oper.wp P oj a w K Q else K (a.put oj.dst undef) w):
 wpAnyH P md l.toArray Q S (fuel+1) listed a w:=
 wpAnyH_ready hr (by simp) (AllReadyH.cons (by simpa using hi) h (AllReadyH.cons (by simpa using hj) k AllReadyH.nil))
theorem lA {i j k:Nat} {oi oj ok:Oper} {fuel:Nat} {listed:Array Bool} {a:Act} {w:World} (hi0:l[i]?=some oi) (hj0:l[j]?=some oj) (hk0:l[k]?=some ok) (hr:Region.ready md l.toArray listed=[i,j,k])
 (hi: ∀ K:Act->World->Prop,Shut (∀ a w,S w->(S w->wpAnyH P md l.toArray Q S fuel (listed.setIfInBounds i true) a w)->K a w)->if Region.wanted oi (yielded l.toArray a.tmps)=true then Oper.wp P oi a w K Q else K (a.put oi.dst undef) w)
 (hj: ∀ K:Act->World->Prop,Shut (∀ a w,S w->(S w->wpAnyH P md l.toArray Q S fuel (listed.setIfInBounds j true) a w)->K a w)->if Region.wanted oj (yielded l.toArray a.tmps)=true then Oper.wp P oj a w K Q else K (a.put oj.dst undef) w)
 (hk: ∀ K:Act->World->Prop,Shut (∀ a w,S w->(S w->wpAnyH P md l.toArray Q S fuel (listed.setIfInBounds k true) a w)->K a w)->if Region.wanted ok (yielded l.toArray a.tmps)=true then Oper.wp P ok a w K Q else K (a.put ok.dst undef) w):
 wpAnyH P md l.toArray Q S (fuel+1) listed a w:=
 wpAnyH_ready hr (by simp) (AllReadyH.cons (by simpa using hi0) hi (AllReadyH.cons (by simpa using hj0) hj (AllReadyH.cons (by simpa using hk0) hk AllReadyH.nil)))
end
def mC (h:Nat) (c:UInt8):Nat:=((h ^^^ c.toNat)*1099511628211) % 18446744073709551616
def Ap (l:List UInt8):Nat:=l.foldl mC 14695981039346656037
def Jy (key:List UInt8):Nat:=Ap key / 4294967296 ||| 1
def ka (key:List UInt8) (i:Nat):Nat:=(Ap key+i*Jy key) % 18446744073709551616
def place (key:List UInt8) (i m:Nat):Nat:=ka key i % m
def mask (p:Nat):UInt8:=UInt8.ofNat (2 ^ (p % 8))
def nG (B:List UInt8) (p:Nat):List UInt8:=B.set (p / 8) (B.getD (p / 8) 0 ||| mask p)
def tm (B:List UInt8) (key:List UInt8):Nat->List UInt8
 | 0=>B
 | k+1=>nG (tm B key k) (place key k (8*B.length))
def addKey (B:List UInt8) (key:List UInt8):List UInt8:=tm B key 4
def iE (B:List UInt8) (keys:List (List UInt8)):List UInt8:=keys.foldl addKey B
theorem zh (h:Nat) (c:UInt8):mC h c<18446744073709551616:=Nat.mod_lt _ (by omega)
theorem yP (l:List UInt8):Ap l<18446744073709551616:=by
 unfold Ap;rcases List.eq_nil_or_concat l with rfl | ⟨l,c,rfl⟩
 .rw[List.foldl_nil];omega
 .rw[List.concat_eq_append,List.foldl_append,List.foldl_cons,List.foldl_nil];exact zh _ _
theorem Dx (l:List UInt8) (k:Nat) (h:k<l.length):Ap (l.take (k+1))=mC (Ap (l.take k)) l[k]:=by
 unfold Ap;rw[List.take_succ_eq_append_getElem h,List.foldl_append,List.foldl_cons,List.foldl_nil]
theorem vU (key:List UInt8):ka key 0=Ap key:=by
 unfold ka;rw[Nat.zero_mul,Nat.add_zero,Nat.mod_eq_of_lt (yP key)]
theorem wK (key:List UInt8) (i:Nat):ka key (i+1)=(ka key i+Jy key) % 18446744073709551616:=by
 unfold ka;rw[Nat.succ_mul,Nat.mod_add_mod,Nat.add_assoc]
theorem uT (key:List UInt8) (i m:Nat) (hm:0<m):place key i m<m:=Nat.mod_lt _ hm
theorem zx (key:List UInt8) (i n:Nat) (hn:0<n):place key i (8*n) / 8<n:=by
 have:=uT key i (8*n) (by omega);omega
theorem DV (p:Nat):(mask p).toNat=2 ^ (p % 8):=by
 unfold mask;have h:p % 8<8:=Nat.mod_lt _ (by omega);have:2 ^ (p % 8)<256:=by
  have:=Nat.pow_lt_pow_right (a:=2) (by omega) h;simpa using this
 simp[Nat.mod_eq_of_lt this]
theorem rr (B:List UInt8) (p:Nat):(nG B p).length=B.length:=by simp[nG]
theorem fZ (B key:List UInt8): ∀ k,(tm B key k).length=B.length
 | 0=>rfl
 | k+1=>by rw[tm,rr,fZ B key k]
theorem rp (B key:List UInt8):(addKey B key).length=B.length:=fZ B key 4
theorem ry (keys:List (List UInt8)): ∀ B,(iE B keys).length=B.length:=by
 induction keys with
 | nil=>intro B;rfl
 | cons k ks ih=>intro B;show (iE (addKey B k) ks).length=_;rw[ih,rp]
theorem rh (B:List UInt8) (ks ls:List (List UInt8)):iE B (ks++ls)=iE (iE B ks) ls:=List.foldl_append
def dL (w:World) (g h n c:Nat) (B:List UInt8):Prop:=
 At w g 274 #[.slice (some ⟨h,0,none⟩) n c]/\ ∃ cur,At w h 5 cur/\n=B.length/\n<=cur.size/\ ∀ j (hj:j<B.length),cur[j]?=some (bv B[j])
section filt
variable {w w':World} {g h n c:Nat} {B:List UInt8}
theorem dL.ne (f:dL w g h n c B):g≠h:=by
 obtain⟨h1,cur,h2,_⟩:=f;exact h1.ne h2 (by decide)
theorem dL.lt (f:dL w g h n c B):g<w.heap.size/\h<w.heap.size:=by
 obtain⟨h1,cur,h2,_⟩:=f;exact⟨h1.lt,h2.lt⟩
theorem dL.len (f:dL w g h n c B):n=B.length:=by
 obtain⟨_,cur,_,h3,_⟩:=f;exact h3
theorem dL.aL {S:Nat->Prop} (f:dL w g h n c B) (k:ao S w w') (hg:¬ S g) (hh:¬ S h):dL w' g h n c B:=by
 obtain⟨h1,cur,h2,h3⟩:=f;exact⟨h1.aL k hg,cur,h2.aL k hh,h3⟩
theorem dL.new (f:dL w g h n c B) (k:ao No w w'):dL w' g h n c B:=f.aL k id id
theorem dL.head (f:dL w g h n c B):w.cell? ⟨g,0,none⟩=some (.slice (some ⟨h,0,none⟩) n c):=by rw[f.1.cell];rfl
theorem dL.bit (f:dL w g h n c B) {j:Nat} (hj:j<B.length):w.cell? ⟨h,j,none⟩=some (.int .u8 (B[j].toNat:Int)):=by
 obtain⟨_,cur,h2,_,_,h5⟩:=f;rw[h2.cell,h5 j hj];rfl
theorem dL.free (f:dL w g h n c B) (j:Nat):w.frozen? ⟨h,j,none⟩=false:=by
 obtain⟨_,cur,h2,_⟩:=f;exact h2.frozen j
theorem dL.rd (f:dL w g h n c B):Rd w (some ⟨h,0,none⟩) B:=by
 obtain⟨_,cur,h2,_,_,h5⟩:=f;exact aF.je h2 fun j hj=>by rw[h5 j (by simpa using hj)];simp
theorem dL.set (f:dL w g h n c B) (j:Nat) (hj:j<B.length) (b:UInt8):dL (w.setCell ⟨h,j,none⟩ (bv b)) g h n c (B.set j b):=by
 have hne:=f.ne;obtain⟨h1,cur,h2,h3,h4,h5⟩:=f;refine⟨h1.Kb (by simpa using hne) _,_,h2.set j _,by simpa using h3,by simpa using h4,fun i hi=>?_⟩;simp only[List.length_set] at hi;rw[Array.getElem?_setIfInBounds];by_cases e:j=i
 .subst e;have hb:=h5 j hj;have hlt:j<cur.size:=(Array.getElem?_eq_some_iff.1 hb).1;simp[hlt]
 .rw[if_neg e,h5 i hi];simp[e]
end filt
theorem GW (k e:Int) (w:World) (h:0<=k/\k<=65536/\1<=e/\e<=32) (hm:0<=k*e/\k*e<=2097152):
 Calls Tryz.prog 198 #[.int .i64 k,.int .i64 e] w fun x w'=>x = .returned (.tuple #[.int .i64 ((max (k*e) 64+7) / 8*8),.int .i64 0])/\w=w':=by
 obtain⟨h1,h2,h3,h4⟩:=h;obtain⟨h5,h6⟩:=hm;by_cases h7:k*e<64
 .have H1:=ah (show max (k*e) 64=64 by omega);go_enter Tryz.func198, Tryz.ntmps198;go_wp2;rw[H1.o];go_ret2;exact⟨rfl,rfl⟩
 .have H1:=ah (show max (k*e) 64=k*e by omega);go_enter Tryz.func198, Tryz.ntmps198;go_wp2;rw[H1.o];go_ret2;exact⟨rfl,rfl⟩
def qE (st:Nat->World->Prop) (go:Nat->Bool) (e:Ending) (w':World):Prop:=
 e = .returned (.bool (go 0 && go 1 && go 2 && go 3))/\ ∃ k,st k w'/\((go 0 && go 1 && go 2 && go 3)=true->k=4)
theorem DA (x:Nat) (c:UInt8) (hx:x<18446744073709551616):IntKind.u64.wrap (bits .xor .u64 (x:Int) (IntKind.u64.wrap (c.toNat:Int))*1099511628211)=(mC x c:Int):=by
 have hc:=c.toNat_lt;have e1:IntKind.u64.wrap (c.toNat:Int)=(c.toNat:Int):=by
  simp only[IntKind.wrap,IntKind.bits,IntKind.signed];simp;omega
 rw[e1];rw[u64_xor_nat x c.toNat hx (by omega)];simp only[IntKind.wrap,IntKind.bits,IntKind.signed];unfold mC;simp
theorem Ge (key:List UInt8):bits .or .u64 ((Ap key:Int) / 4294967296) 1=(Jy key:Int):=by
 have hf:=yP key;have:((Ap key:Int) / 4294967296)=((Ap key / 4294967296:Nat):Int):=by simp
 rw[this];exact u64_or_nat (Ap key / 4294967296) 1 (by omega) (by omega)
theorem Dn (p:Nat):((mask p).toNat:Int)=2 ^ (p % 8) % 256:=by
 have h:=(mask p).toNat_lt;have e:((2 ^ (p % 8):Nat):Int)=(2:Int) ^ (p % 8):=by simp
 rw[<-e, <-DV];omega
theorem wrap_add (a b:Nat):IntKind.u64.wrap ((a:Int)+(b:Int))=(((a+b) % 18446744073709551616:Nat):Int):=by
 simp[IntKind.wrap,IntKind.bits,IntKind.signed]
theorem xT {st:Nat->World->Prop} {go:Nat->Bool} {k:Nat} {W:World} (hk:k<4) (hst:st (k+1) W) (hpre: ∀ j,j<k->go j=true) (hgo:go k=false):
 qE st go (.returned (.bool false)) W:=by
 have:(go 0 && go 1 && go 2 && go 3)=false:=by
  match k,hk with
  | 0,_=>simp[hgo]
  | 1,_=>simp[hgo]
  | 2,_=>simp[hgo]
  | 3,_=>simp[hgo]
 exact⟨by rw[this],k+1,hst,fun h=>by rw[this] at h;cases h⟩
theorem BI {st:Nat->World->Prop} {go:Nat->Bool} {W:World} (hst:st 4 W) (hpre: ∀ j,j<4->go j=true):qE st go (.returned (.bool true)) W:=
 ⟨by simp[hpre],4,hst,fun _=>rfl⟩
theorem DL (g h n c fid:Nat) (cap:Value) (st:Nat->World->Prop) (go:Nat->Bool) (A:Option Addr) (kc:Nat) (key:List UInt8) (w:World) (hn:8<=n/\n<=262144) (hl:key.length<=9223372036854775807)
 (hcf: ∀ args W,Sem.run Tryz.prog (callFunc fid args) W = .ok (.enter fid args) W)
 (hst: ∀ k W,st k W->W.cell? ⟨g,0,none⟩=some (.slice (some ⟨h,0,none⟩) n c)) (hk:Rd w A key)
 (hcall: ∀ (k:Nat) (W:World) (a b:Int),k<4->st k W->a=((place key k (8*n) / 8:Nat):Int)->b=((mask (place key k (8*n))).toNat:Int)->
  Calls Tryz.prog fid #[.int .i64 a,.int .u8 b,cap] W fun e W'=>e = .returned (.bool (go k))/\st (k+1) W')
 (h0:st 0 w):
 Calls Tryz.prog 199 #[.pointer (some ⟨g,0,none⟩),.slice A key.length kc,.func (.func fid) #[] #[cap]] w (qE st go):=by
 have HK:=ah hk;clear hk;have HC:=ah hcall;clear hcall;have HS:=ah hst;clear hst;have H0:=ah h0;clear h0;obtain⟨hn1,hn2⟩:=hn;go_enter Tryz.func199, Tryz.ntmps199;go_wp2;go_loop [7,9,14] (fun h _ i=> ∃ k:Nat,k<=key.length/\i = .int .i64 k/\h = .int .u64 (Ap (key.take k))) (fun _ _ i=>key.length - (intOf i).toNat)
 case atStart=>exact⟨0,by omega,rfl,rfl⟩
 case round=>
  obtain⟨k,hk,rfl,rfl⟩:=hrel;by_cases hlt:k<key.length
  .obtain⟨b,o,rfl,hc⟩:=HK.o.get hlt;have HX:=ah (DA (Ap (key.take k)) key[k] (yP _));have HT:=ah (Dx key k hlt);generalize key[k]=x at hc HX HT;go_wp2;go_round
   case rel=>exact⟨k+1,by omega,by go_num,by rw[HT.o, <-HX.o]⟩
   case measure=>simp[intOf];omega
  .have ht:key.take k=key:=List.take_of_length_le (by omega);rw[ht];clear ht;have HO:=ah (Ge key);go_wp2;rw[HO.o];go_loopw [7,11,27] (fun x _ i wr=> ∃ k:Nat,k<=4/\i = .int .i64 k/\x = .int .u64 (ka key k)/\Hid (st k wr/\ ∀ j,j<k->go j=true)) (fun _ _ i _=>4 - (intOf i).toNat)
   case atStart=>exact⟨0,by omega,rfl,by rw[vU],H0.o,fun j hj=>by omega⟩
   case round=>
    obtain⟨k,hk,rfl,rfl,HR⟩:=hrel;by_cases hlt:k<4
    .have hc:=HS.o _ _ HR.o.1;have hpl:(ka key k:Int) % (8*(n:Int))=(place key k (8*n):Int):=by unfold place;simp
     have hp:=uT key k (8*n) (by omega);have HG:=ah (fun W a b=>HC.o k W a b hlt);generalize place key k (8*n)=p at hpl hp HG;have hm:=Dn p;have HM:=ah hm;clear hm;have HR:=HR;go_wp2_with fail;refine(HG.o _ _ _ HR.o.1 (by simp) HM.o.symm).mono ?_;rintro e W' ⟨rfl,hs⟩;have HS':=ah hs;clear hs;rcases hgo:go k with _ | _
     .go_wp2;go_ret;exact xT hlt HS'.o HR.o.2 hgo
     .have HG':=ah hgo;clear hgo;go_wp2;go_roundw
      case rel=>
       refine⟨k+1,by omega,by go_num,?_,HS'.o,fun j hj=>?_⟩
       .rw[wK];exact congrArg (Value.int .u64) (wrap_add _ _)
       .rcases Nat.lt_succ_iff_lt_or_eq.1 hj with h | rfl
        .exact HR.o.2 j h
        .exact HG'.o
      case measure=>simp[intOf];omega
    .obtain rfl:k=4:=by omega
     go_wp2;go_ret;exact BI HR.o.1 HR.o.2
section
variable {P:Program} {ops:Array Oper} {Q:Exit->Act->World->Prop} {md:Region.Mode} {S:World->Prop} {z:Nat}
def ie (P:Program) (md:Region.Mode) (ops:Array Oper) (Q:Exit->Act->World->Prop) (S:World->Prop) (z:Nat):Nat->Array Bool->Act->World->Prop
 | 0,L,a,w=>Region.ready md ops L=[]/\Q .normal a w
 | n+1,L,a,w=>(Region.ready md ops L=[]->Q .normal a w)/\ ∀ i ∈ Region.ready md ops L,wpOp P ops Q i (fun a' w'=>(i=z\/S w')/\ie P md ops Q S z n (L.setIfInBounds i true) a' w') a w
theorem ie.any: ∀ (n:Nat) (L:Array Bool) (a:Act) (w:World),ie P md ops Q S z n L a w->wpAny P md ops Q n L a w
 | 0,_,_,_,h=>h
 | n+1,_,_,_,h=>⟨h.1,fun i hi=>wpOp_mono (fun a' w' h'=>ie.any n _ a' w' h'.2) (h.2 i hi)⟩
def waits (md:Region.Mode) (ops:Array Oper) (z i:Nat):Bool:=match ops[z]? with
 | some o=>o.after.toList.any fun e=>Region.binds md e && e.on==i
 | none=>true
theorem yg {i:Nat} (h:waits md ops z i=true) {L:Array Bool} (hl:L.getD i true=false):z ∉ Region.ready md ops L:=fun hz=>by
 obtain⟨_,o,ho,hall⟩:=mem_ready.1 hz;unfold waits at h;rw[ho] at h;simp only[List.any_eq_true,Bool.and_eq_true,beq_iff_eq] at h;obtain⟨e,he,hb,rfl⟩:=h;have h1:=hall e (by simpa using he) hb;rcases Nat.lt_or_ge e.on L.size with q | q
 .simp[q] at hl h1;rw[hl] at h1
  cases h1
 .simp[Array.getElem?_eq_none q] at h1
theorem ie.first {i:Nat} {oi:Oper} {v:Value} (hi:ops[i]?=some oi) (hsel: ∀ (j:Nat) (o:Oper) cs b,ops[j]?=some o->o.op≠ .select cs b) (hQ: ∀ c a w,Q (.panic c) (a.put oi.dst v) w->Q (.panic c) a w)
 (hz:waits md ops z i=true): ∀ (n:Nat) (L:Array Bool) (a:Act) (w:World),
  (∀ j oj,ops[j]?=some oj->j≠i->L.getD j true=false->(∀ e ∈ oj.after,Region.binds md e=true->e.on≠i)->oi.apart ops oj=true)->
  i ∈ Region.ready md ops L->YieldsIf P ops S oi v a->S w->ie P md ops Q S z n (L.setIfInBounds i true) (a.put oi.dst v) w->ie P md ops Q S z (n+1) L a w
 | 0,L,a,w,hf,hr,hy,hS,H=>⟨fun h=>absurd hr (by rw[h];simp),fun j hj=>by
  by_cases e:j=i
  .subst e;exact hy.wpOp hi hS ⟨.inr hS,H⟩
  .exact absurd (ready_mono hj e) (by rw[H.1];simp)⟩
 | n+1,L,a,w,hf,hr,hy,hS,H=>⟨fun h=>absurd hr (by rw[h];simp),fun j hj=>by
  by_cases e:j=i
  .subst e;exact hy.wpOp hi hS ⟨.inr hS,H⟩
  .have hun:=(mem_ready.1 hr).1;have hjz:j≠z:=fun q=>yg hz hun (q ▸ hj)
   obtain⟨hju,oj,hoj,hall⟩:=mem_ready.1 hj;have hno: ∀ x ∈ oj.after,Region.binds md x=true->x.on≠i:=fun x hx hb q=>by
    have h1:=hall x hx hb;rw[q] at h1;rcases Nat.lt_or_ge i L.size with t | t
    .simp[t] at hun h1;rw[hun] at h1
     cases h1
    .simp[Array.getElem?_eq_none t] at h1
   refine wpOp_mono (fun a' w' h3=>⟨h3.2.1,ie.first hi hsel hQ hz n _ a' w' (fun k ok hk hki hu hn=>hf k ok hk hki ?_ hn) (ready_mono hr (Ne.symm e)) h3.1 (h3.2.1.resolve_left hjz) ?_⟩)
    (wpOp_putIf hoj (hf j oj hoj e hju hno) (fun cs b=>hsel i oi cs b hi) (fun cs b=>hsel j oj cs b hoj) hQ hy (H.2 j (ready_mono hj e)))
   .by_cases q:j=k
    .subst q;exact hju
    .rwa [getD_set_ne true q] at hu
   .rw[Array.setIfInBounds_comm _ _ e];exact h3.2.2⟩
variable {l:List Oper}
theorem CO {i:Nat} {oi:Oper} {v:Value} {fuel:Nat} {listed:Array Bool} {a:Act} {w:World} (hi:l[i]?=some oi)
 (hs:Region.noSelect l.toArray=true) (hf:Region.free md l.toArray listed i=true) (hr:(Region.ready md l.toArray listed).contains i=true) (hz:waits md l.toArray z i=true)
 (hQ: ∀ c a w,Q (.panic c) (a.put oi.dst v) w->Q (.panic c) a w) (hy:Region.wanted oi (yielded l.toArray a.tmps)=true) (hy2: ∀ w,S w->(execOp a.eval oi).run P w = .ok (.value v) w) (hS:S w)
 (h:ie P md l.toArray Q S z fuel (listed.setIfInBounds i true) (a.put oi.dst v) w):ie P md l.toArray Q S z (fuel+1) listed a w:=
 have hi2:l.toArray[i]?=some oi:=by simpa using hi
 ie.first hi2 (Region.noSelect_spec hs) hQ hz fuel listed a w (Region.free_spec hi2 hf) (by simpa using hr) (.inl ⟨hy,hy2⟩) hS h
theorem Bn {i:Nat} {oi:Oper} {fuel:Nat} {listed:Array Bool} {a:Act} {w:World} (hi:l[i]?=some oi) (hr:Region.ready md l.toArray listed=[i])
 (h: ∀ K:Act->World->Prop,Shut (∀ a w,S w->(S w->ie P md l.toArray Q S z fuel (listed.setIfInBounds i true) a w)->K a w)->if Region.wanted oi (yielded l.toArray a.tmps)=true then Oper.wp P oi a w K Q else K (a.put oi.dst undef) w):
 ie P md l.toArray Q S z (fuel+1) listed a w:=
 ⟨fun h0=>(by rw[hr] at h0;cases h0),fun j hj=>by
  rw[hr] at hj;obtain rfl:=List.mem_singleton.1 hj;exact wpOp_step (by simpa using hi) (fun K hK=>h K (fun a w hS hW=>hK a w ⟨.inr hS,hW hS⟩))⟩
theorem mW (i:Nat) {oi:Oper} {v:Value} {fuel:Nat} {listed:Array Bool} {a a':Act} {w:World}
 (h:ie P md l.toArray Q S z fuel (listed.setIfInBounds i true) a' w) (hi:l[i]?=some oi:=by rfl)
 (hs:Region.noSelect l.toArray=true:=by kernel_rfl) (hf:Region.free md l.toArray listed i=true:=by kernel_rfl) (hr:(Region.ready md l.toArray listed).contains i=true:=by kernel_rfl) (hz:waits md l.toArray z i=true:=by kernel_rfl)
 (hy:Region.wanted oi (yielded l.toArray a.tmps)=true:=by rfl) (hy2: ∀ w,S w->(execOp a.eval oi).run P w = .ok (.value v) w:=by (intro w hSw;(try dsimp only at hSw);go_simp;try with_reducible rfl))
 (ha:a.put oi.dst v=a':=by (simp only[Act.put,et,eh,ep];try rfl))
 (hQ: ∀ c a w,Q (.panic c) (a.put oi.dst v) w->Q (.panic c) a w:=by exact fun _ _ _ h=>h) (hS:S w:=by assumption):ie P md l.toArray Q S z (fuel+1) listed a w:=by
 subst ha;exact CO hi hs hf hr hz hQ hy hy2 hS h
theorem Gm (i:Nat) {oi:Oper} {fuel:Nat} {listed:Array Bool} {a:Act} {w:World}
 (h: ∀ K:Act->World->Prop,Shut (∀ a w,S w->(S w->ie P md l.toArray Q S z fuel (listed.setIfInBounds i true) a w)->K a w)->if Region.wanted oi (yielded l.toArray a.tmps)=true then Oper.wp P oi a w K Q else K (a.put oi.dst undef) w)
 (hi:l[i]?=some oi:=by rfl) (hr:Region.ready md l.toArray listed=[i]:=by kernel_rfl):ie P md l.toArray Q S z (fuel+1) listed a w:=Bn hi hr h
theorem te {oi:Oper} {fuel:Nat} {listed:Array Bool} {a:Act} {w:World} (hi:l[z]?=some oi) (hr:Region.ready md l.toArray listed=[z]) (hd:Region.ready md l.toArray (listed.setIfInBounds z true)=[])
 (h: ∀ K:Act->World->Prop,Shut (∀ a w,Q .normal a w->K a w)->if Region.wanted oi (yielded l.toArray a.tmps)=true then Oper.wp P oi a w K Q else K (a.put oi.dst undef) w):
 ie P md l.toArray Q S z (fuel+1) listed a w:=
 ⟨fun h0=>(by rw[hr] at h0;cases h0),fun j hj=>by
  rw[hr] at hj;obtain rfl:=List.mem_singleton.1 hj;refine wpOp_step (by simpa using hi) (fun K hK=>h K (fun a w hq=>hK a w ⟨.inl rfl,?_⟩))
  cases fuel with
  | zero=>exact⟨hd,hq⟩
  | succ n=>exact⟨fun _=>hq,fun q hq2=>(by rw[hd] at hq2;cases hq2)⟩⟩
theorem xM {id:Nat} {a:Act} {w:World} (hm:P.follows .mixedOrders=true) (hS:S w.drew)
 (h:S w.drew->ie P .any ops Q S z ops.size (Array.replicate ops.size false) a w.drew):(Code.region id ops true).wp P Q a w:=wp_region_any hm (ie.any _ _ _ _ (h hS))
end
def bh (n:Nat):Nat:=if n<=262144 then max ((n+478) / 479) 1 else 0
def bQ (i n:Nat):UInt8:=(if i=0 then 1 else 0) ||| (if i+1=n then 2 else 0)
def piece (b:List UInt8) (i:Nat):List UInt8:=(b.take (min ((i+1)*479) b.length)).drop (i*479)
def frame (b:List UInt8) (i:Nat):List UInt8:=bQ i (bh b.length)::piece b i
def split (b:List UInt8):List (List UInt8):=(List.range (bh b.length)).map (frame b)
def aH:Option (List UInt8)->List (List UInt8)->List (List UInt8)
 | _,[]=>[]
 | _,[]::_=>[]
 | cur,(c::r)::fs=>
  if 3<c then [] else
   match (if c &&& 1≠0 then some [] else cur) with
   | none=>aH none fs
   | some b=>if c &&& 2≠0 then (b++r)::aH none fs else aH (some (b++r)) fs
def whole (fs:List (List UInt8)):List (List UInt8):=aH none fs
def JZ (v:Int) (i:Nat):UInt8:=UInt8.ofNat ((v+i+i / 256) % 256).toNat
def E9 (n:Nat) (v:Int):List UInt8:=(List.range n).map (JZ v)
theorem oV (i n:Nat):¬ 3<bQ i n:=by
 unfold bQ;split<;>split<;>decide
theorem jw (i n:Nat):(bQ i n &&& 1≠0)↔i=0:=by
 unfold bQ;by_cases h1:i=0
 .rw[if_pos h1];by_cases h2:i+1=n
  .rw[if_pos h2];exact⟨fun _=>h1,fun _=>by decide⟩
  .rw[if_neg h2];exact⟨fun _=>h1,fun _=>by decide⟩
 .rw[if_neg h1];by_cases h2:i+1=n
  .rw[if_pos h2];exact⟨fun h=>absurd (by decide) h,fun h=>absurd h h1⟩
  .rw[if_neg h2];exact⟨fun h=>absurd (by decide) h,fun h=>absurd h h1⟩
theorem gh (i n:Nat):(bQ i n &&& 2≠0)↔i+1=n:=by
 unfold bQ;by_cases h2:i+1=n
 .rw[if_pos h2];by_cases h1:i=0
  .rw[if_pos h1];exact⟨fun _=>h2,fun _=>by decide⟩
  .rw[if_neg h1];exact⟨fun _=>h2,fun _=>by decide⟩
 .rw[if_neg h2];by_cases h1:i=0
  .rw[if_pos h1];exact⟨fun h=>absurd (by decide) h,fun h=>absurd h h2⟩
  .rw[if_neg h1];exact⟨fun h=>absurd (by decide) h,fun h=>absurd h h2⟩
theorem sZ (n:Nat) (h:n<=262144):1<=bh n:=by unfold bh;rw[if_pos h];omega
theorem pa (n:Nat):bh n<=548:=by unfold bh;split<;>omega
theorem kH (n:Nat) (h:n<=262144):n<=bh n*479:=by unfold bh;rw[if_pos h];omega
theorem nK (b:List UInt8) (i:Nat):(piece b i).length=min ((i+1)*479) b.length - i*479:=by
 unfold piece;rw[List.length_drop,List.length_take];omega
theorem Dr (b:List UInt8) (a c:Nat) (h:a<=c):b.take a++(b.take (min c b.length)).drop a=b.take c:=by
 by_cases hc:c<=b.length
 .rw[Nat.min_eq_left hc];have e:b.take a=(b.take c).take a:=by rw[List.take_take,Nat.min_eq_left h]
  rw[e,List.take_append_drop]
 .have hm:min c b.length=b.length:=Nat.min_eq_right (by omega);rw[hm,List.take_of_length_le (Nat.le_refl b.length),List.take_append_drop,List.take_of_length_le (by omega)]
theorem jm (b:List UInt8) (i:Nat):b.take (i*479)++piece b i=b.take ((i+1)*479):=Dr b _ _ (Nat.mul_le_mul_right _ (Nat.le_succ i))
theorem qI (b:List UInt8) (hb:b.length<=262144) (fs:List (List UInt8)): ∀ (m i:Nat),i+m=bh b.length->0<i->0<m->
 aH (some (b.take (i*479))) ((List.range' i m).map (frame b)++fs)=b::aH none fs:=by
 intro m
 induction m with
 | zero=>intro i _ _ h;omega
 | succ m ih=>
  intro i him hi _;rw[List.range'_succ,List.map_cons,List.cons_append];have h1:¬ (bQ i (bh b.length) &&& 1≠0):=fun h=>by have:=(jw i (bh b.length)).1 h;omega
  show aH (some (b.take (i*479))) ((bQ i (bh b.length)::piece b i)::_)=_;rw[aH,if_neg (oV _ _),if_neg h1];simp only;rw[jm];by_cases hm:m=0
  .subst hm;have h2:bQ i (bh b.length) &&& 2≠0:=(gh i _).2 (by omega);rw[if_pos h2];have hc:=kH b.length hb;rw[List.take_of_length_le (by rw[show i+1=bh b.length by omega];exact hc)];rfl
  .have h2:¬ (bQ i (bh b.length) &&& 2≠0):=fun h=>by have:=(gh i (bh b.length)).1 h;omega
   rw[if_neg h2];exact ih (i+1) (by omega) (by omega) (by omega)
theorem oI (b:List UInt8) (hb:b.length<=262144) (cur:Option (List UInt8)) (fs:List (List UInt8)):aH cur (split b++fs)=b::aH none fs:=by
 have hn:=sZ b.length hb;unfold split;obtain⟨m,hm⟩: ∃ m,bh b.length=m+1:=⟨bh b.length - 1,by omega⟩;rw[List.range_eq_range',hm,List.range'_succ,List.map_cons,List.cons_append];show aH cur ((bQ 0 (bh b.length)::piece b 0)::_)=_;rw[aH,if_neg (oV _ _),if_pos ((jw 0 _).2 rfl)];simp only;have e:[]++piece b 0=b.take (1*479):=by have:=jm b 0;simpa using this
 rw[e];by_cases h0:m=0
 .subst h0;rw[if_pos ((gh 0 _).2 (by omega))];have hc:=kH b.length hb;rw[List.take_of_length_le (by rw[hm] at hc;omega)];rfl
 .rw[if_neg (fun h=>by have:=(gh 0 (bh b.length)).1 h;omega)];exact qI b hb fs m 1 (by omega) (by omega) (by omega)
theorem qy (b:List UInt8) (hb:b.length<=262144) (fs:List (List UInt8)): ∀ (m i:Nat),i+m<bh b.length->0<i->
 ∃ c,aH (some (b.take (i*479))) ((List.range' i m).map (frame b)++fs)=aH (some c) fs:=by
 intro m
 induction m with
 | zero=>intro i _ _;exact⟨_,rfl⟩
 | succ m ih=>
  intro i him hi;rw[List.range'_succ,List.map_cons,List.cons_append];have h1:¬ (bQ i (bh b.length) &&& 1≠0):=fun h=>by have:=(jw i (bh b.length)).1 h;omega
  have h2:¬ (bQ i (bh b.length) &&& 2≠0):=fun h=>by have:=(gh i (bh b.length)).1 h;omega
  show ∃ c,aH (some (b.take (i*479))) ((bQ i (bh b.length)::piece b i)::_)=_
  rw[aH,if_neg (oV _ _),if_neg h1];simp only;rw[jm,if_neg h2];exact ih (i+1) (by omega) (by omega)
theorem rz (b:List UInt8) (hb:b.length<=262144) (k:Nat) (hk:k<bh b.length) (cur:Option (List UInt8)) (fs:List (List UInt8)):
 ∃ c,aH cur ((split b).take k++fs)=aH c fs:=by
 rcases k with _ | k
 .exact⟨cur,by simp⟩
 .unfold split;rw[<-List.map_take,List.take_range,Nat.min_eq_left (by omega),List.range_eq_range',List.range'_succ,List.map_cons,List.cons_append];show ∃ c,aH cur ((bQ 0 (bh b.length)::piece b 0)::_)=_
  rw[aH,if_neg (oV _ _),if_pos ((jw 0 _).2 rfl)];simp only;have e:[]++piece b 0=b.take (1*479):=by have:=jm b 0;simpa using this
  rw[e,if_neg (fun h=>by have:=(gh 0 (bh b.length)).1 h;omega)];obtain⟨c,hc⟩:=qy b hb fs k 1 (by omega) (by omega);exact⟨some c,hc⟩
theorem rn (cur:Option (List UInt8)):aH cur []=[]:=by cases cur<;>rfl
end Go.Proofs.YtmbaiglpgaoogaaGreat
