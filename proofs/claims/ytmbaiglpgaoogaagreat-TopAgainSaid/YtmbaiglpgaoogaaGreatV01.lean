/- Joined, as they were built one by one: Lib Sep Rgn BloomFns BloomWalk. -/
import Derived.WalkKit
import Derived.WalkSpells
import Derived.WalkLawsBesides
import Derived.WalkSmall
import Derived.Outline
import Derived.KernelRfl
import Derived.Lib.Hide
import Derived.LoopTactic
import Derived.Below
import Derived.OneCell
import Derived.Laws.OwnMore
import Derived.Laws.BytesArg
import Derived.Laws.BitsAllLaws
import Derived.Laws.BitsLemmas
import Derived.Laws.MakeOwn
import Derived.Maps.AppendAt
import Derived.Deep.AppendLies
import Derived.Deep.Draws
import Derived.Deep.QuietTactic
import Derived.BigQuiet
import Derived.Deep.RegionHeld3
import Derived.Deep.RegionLaw
import Derived.Deep.DeepCutAuto
import Derived.Deep.DeepFit
import Derived.Deep.LoopGhost
import Derived.Test.YtmbaiglpgaoogaaGreatProg
namespace Go.Proofs.YtmbaiglpgaoogaaGreat
open Go.RowKit
set_option linter.unusedVariables false
set_option maxRecDepth 100000
structure Chg (S:Nat->Prop) (w w':World):Prop where
 os:w'.os=w.os
 tape:w'.tape=w.tape
 output:w'.output=w.output
 size:w.heap.size<=w'.heap.size
 block: ∀ k,k<w.heap.size->¬ S k->w'.heap[k]?=w.heap[k]?
theorem _root_.Go.RowKit.Hid.o {p:Prop} (h:Hid p):p:=h
theorem ah {p:Prop} (h:p):Hid p:=h
def No:Nat->Prop:=fun _=>False
def One (g:Nat):Nat->Prop:=fun k=>k=g
def From (B:Nat):Nat->Prop:=fun k=>B<=k
section chg
variable {S T:Nat->Prop} {a w w' w'':World}
theorem Chg.refl (S:Nat->Prop) (w:World):Chg S w w:=⟨rfl,rfl,rfl,Nat.le_refl _,fun _ _ _=>rfl⟩
theorem Chg.trans (h:Chg S a w) (k:Chg T w w') (hT: ∀ i,i<a.heap.size->T i->S i):Chg S a w':=
 ⟨k.os.trans h.os,k.tape.trans h.tape,k.output.trans h.output,Nat.le_trans h.size k.size,fun i hi hn=>(k.block i (Nat.lt_of_lt_of_le hi h.size) (fun ht=>hn (hT i hi ht))).trans (h.block i hi hn)⟩
theorem Chg.tr (h:Chg S a w) (k:Chg S w w'):Chg S a w':=h.trans k fun _ _=>id
theorem Chg.mono (h:Chg S a w) (hT: ∀ i,i<a.heap.size->S i->T i):Chg T a w:=⟨h.os,h.tape,h.output,h.size,fun i hi hn=>h.block i hi fun hs=>hn (hT i hi hs)⟩
theorem Chg.no (h:Chg No a w):Chg S a w:=h.mono fun _ _=>False.elim
theorem Chg.new (h:Chg S a w) (k:Chg No w w'):Chg S a w':=h.trans k fun _ _=>False.elim
theorem Chg.below (h:Chg No a w):Below a.heap.size a w:=⟨h.os,h.tape,h.output,h.size,fun k hk=>h.block k hk id⟩
theorem Chg.of_new (h:Below a.heap.size a w):Chg No a w:=⟨h.os,h.tape,h.output,h.size,fun k hk _=>h.block k hk⟩
theorem Chg.of_grown {r:Option Nat} (h:a.grownBy w r):Chg (fun k=>some k=r) a w:=⟨h.os,h.tape,h.output,h.size,fun k hk hn=>h.block k hk hn⟩
theorem Chg.own (h:Chg No a w) (k:Chg S w w') (hS: ∀ i,S i->a.heap.size<=i):Chg No a w':=h.trans k fun i hi hs=>by have:=hS i hs;omega
theorem Chg.alloc (h:Chg S a w) (o:Obj):Chg S a (w.alloc o):=h.new (Chg.of_new ((Below.refl _ _).alloc (Nat.le_refl _) o))
theorem Chg.drew (h:Chg S a w):Chg S a w.drew:=⟨h.os,h.tape,h.output,h.size,h.block⟩
theorem Chg.drewN (h:Chg S a w) (n:Nat):Chg S a (w.drewN n):=⟨h.os,h.tape,h.output,h.size,h.block⟩
theorem Chg.setCell (h:Chg S a w) {p:Addr} (hp:p.block<a.heap.size->S p.block) (u:Value):Chg S a (w.setCell p u):=
 ⟨h.os,h.tape,h.output,by simpa [World.setCell] using h.size,fun i hi hn=>(Below.heap_setCell w p u i (fun e=>by subst e;exact hn (hp hi))).trans (h.block i hi hn)⟩
theorem Chg.cell (h:Chg S w w') {p:Addr} {v:Value} (hv:w.cell? p=some v) (hp:¬ S p.block):w'.cell? p=some v:=
 (World.cell?_of_block (h.block p.block (World.block_lt_of_cell? w p hv) hp)).trans hv
theorem Chg.frozen (h:Chg S w w') {p:Addr} (hlt:p.block<w.heap.size) (hp:¬ S p.block):w'.frozen? p=w.frozen? p:=World.frozen?_of_block (w:=w) (h.block p.block hlt hp)
end chg
def At (w:World) (g:Nat) (t:TypeId) (cs:Array Value):Prop:=w.heap[g]?=some (.cells cs t (0,0))
section at_
variable {w w':World} {g:Nat} {t:TypeId} {cs:Array Value}
theorem At.lt (h:At w g t cs):g<w.heap.size:=lt_of_block h
theorem At.cell (h:At w g t cs) (i:Nat):w.cell? ⟨g,i,none⟩=cs[i]?:=cell_of_row w g i cs t (0,0) h
theorem At.frozen (h:At w g t cs) (i:Nat):w.frozen? ⟨g,i,none⟩=false:=by unfold At at h;simp[World.frozen?,h]
theorem At.new (w:World) (t:TypeId) (cs:Array Value):At (w.alloc (.cells cs t)) w.heap.size t cs:=heap_alloc_new w _
theorem At.alloc (h:At w g t cs) (o:Obj):At (w.alloc o) g t cs:=(Below.heap_alloc w o g h.lt).trans h
theorem At.set (h:At w g t cs) (i:Nat) (u:Value):At (w.setCell ⟨g,i,none⟩ u) g t (cs.setIfInBounds i u):=by
 unfold At at h ⊢;simp[World.setCell,Array.getElem?_modify,h]
theorem At.far (h:At w g t cs) {p:Addr} (hp:g≠p.block) (u:Value):At (w.setCell p u) g t cs:=(Below.heap_setCell w p u g hp).trans h
theorem At.chg {S:Nat->Prop} (h:At w g t cs) (k:Chg S w w') (hg:¬ S g):At w' g t cs:=(k.block g h.lt hg).trans h
theorem At.ne {g':Nat} {t':TypeId} {cs':Array Value} (h:At w g t cs) (h':At w g' t' cs') (hne:t≠t'):g≠g':=by
 rintro rfl;unfold At at h h';rw[h] at h';injection h' with h'
 injection h' with _ ht
 exact hne ht
end at_
def RdV (w:World) (A:Option Addr) (xs:List Value):Prop:=
 xs≠[]-> ∃ b o,A=some ⟨b,o,none⟩/\ ∀ j (h:j<xs.length),w.cell? ⟨b,o+j,none⟩=some xs[j]
section rdv
variable {w w':World} {A:Option Addr} {xs:List Value}
theorem RdV.nil (w:World) (A:Option Addr):RdV w A []:=fun h=>absurd rfl h
theorem RdV.get (h:RdV w A xs) {j:Nat} (hj:j<xs.length): ∃ b o,A=some ⟨b,o,none⟩/\w.cell? ⟨b,o+j,none⟩=some xs[j]:=by
 obtain⟨b,o,e,hc⟩:=h (by rintro rfl;simp at hj);exact⟨b,o,e,hc j hj⟩
theorem RdV.keep (h:RdV w A xs) (hk: ∀ b o,xs≠[]->A=some ⟨b,o,none⟩->b<w.heap.size-> ∀ i,w'.cell? ⟨b,i,none⟩=w.cell? ⟨b,i,none⟩):RdV w' A xs:=fun hx=>by
 obtain⟨b,o,e,hc⟩:=h hx;have h0:=hc 0 (List.length_pos_iff.2 hx);exact⟨b,o,e,fun j hj=>(hk b o hx e (World.block_lt_of_cell? w _ h0) _).trans (hc j hj)⟩
theorem RdV.chg {S:Nat->Prop} (h:RdV w A xs) (k:Chg S w w') (hS: ∀ b o,xs≠[]->A=some ⟨b,o,none⟩->¬ S b):RdV w' A xs:=
 h.keep fun b o hx e hb i=>World.cell?_of_block (a:=⟨b,i,none⟩) (k.block b hb (hS b o hx e))
theorem RdV.new (h:RdV w A xs) (k:Chg No w w'):RdV w' A xs:=h.chg k fun _ _ _ _=>id
theorem RdV.lt (h:RdV w A xs) (hx:xs≠[]): ∃ b o,A=some ⟨b,o,none⟩/\b<w.heap.size:=by
 obtain⟨b,o,e,hc⟩:=h hx;exact⟨b,o,e,World.block_lt_of_cell? w _ (hc 0 (List.length_pos_iff.2 hx))⟩
theorem RdV.alloc (h:RdV w A xs) (o:Obj):RdV (w.alloc o) A xs:=h.new ((Chg.refl No w).alloc o)
theorem RdV.take (h:RdV w A xs) (k:Nat):RdV w A (xs.take k):=fun hx=>by
 obtain⟨b,o,e,hc⟩:=h (by rintro rfl;simp at hx);exact⟨b,o,e,fun j hj=>by rw[hc j (by simp at hj;omega)];simp⟩
theorem RdV.drop (h:RdV w A xs) {k cap:Nat} (hk:k<=xs.length) (hc:xs.length<=cap):RdV w (if cap=k then A else A.map (·.add k)) (xs.drop k):=fun hx=>by
 have hlt:k<xs.length:=by
  rcases Nat.lt_or_ge k xs.length with h1 | h1
  .exact h1
  .exact absurd (List.drop_eq_nil_of_le h1) hx
 obtain⟨b,o,e,hcell⟩:=h (by rintro rfl;simp at hlt);rw[if_neg (by omega)];refine⟨b,o+k,by simp[e,Addr.add_lit],fun j hj=>?_⟩;rw[Nat.add_assoc,hcell (k+j) (by simp at hj;omega)];simp
theorem RdV.of_at {g:Nat} {t:TypeId} {cs:Array Value} (h:At w g t cs) (hx: ∀ j (hj:j<xs.length),cs[j]?=some xs[j]):RdV w (some ⟨g,0,none⟩) xs:=fun _=>
 ⟨g,0,rfl,fun j hj=>by rw[h.cell,Nat.zero_add];exact hx j hj⟩
theorem RdV.of_own {base:Nat} {e:TypeId} {n c:Nat} (h:w.ownsRow base e 1 (.slice A n c) n xs):RdV w A xs:=fun hx=>by
 have hn:0<n:=by have:=h.1;have:=List.length_pos_iff.2 hx;omega
 obtain⟨g,cap,hv,_,hlt⟩:=h.form hn;have hA:A=some ⟨g,0,none⟩:=by injection hv
 have hcap:c=cap:=by injection hv
 subst hA;subst hcap;refine⟨g,0,rfl,fun j hj=>?_⟩;rw[Nat.zero_add,h.cellAt j (by have:=h.1;omega),List.getElem?_eq_getElem hj]
theorem RdV.lit (w:World) (cs:Array Value) (t:TypeId) (fr:Nat × Nat):RdV (w.alloc (.cells cs t fr)) (some ⟨w.heap.size,0,none⟩) cs.toList:=fun _=>
 ⟨_,0,rfl,fun j hj=>by
  have h:(w.alloc (.cells cs t fr)).heap[w.heap.size]?=some (.cells cs t fr):=heap_alloc_new w _;rw[cell_of_row _ _ _ _ _ _ h,Nat.zero_add];simp at hj;simp[hj]⟩
theorem RdV.news (h:RdV w A xs) {ad:Addr} (hA:A=some ad): ∀ j u,xs[j]?=some u->w.cell? (ad.add j)=some u:=by
 intro j u hu;have hj:j<xs.length:=(List.getElem?_eq_some_iff.1 hu).1;obtain⟨b,o,e,hc⟩:=h (by rintro rfl;simp at hj);rw[hA] at e;injection e with e
 subst e;rw[Addr.add_lit,hc j hj];rw[List.getElem?_eq_getElem hj] at hu;exact hu
end rdv
def bv (b:UInt8):Value:= .int .u8 (b.toNat:Int)
theorem bv_one (l:List UInt8): ∀ u ∈ l.map bv,u.oneCell'=true:=by
 intro u hu;obtain⟨b,_,rfl⟩:=List.mem_map.1 hu;rfl
def Rd (w:World) (A:Option Addr) (l:List UInt8):Prop:=RdV w A (l.map bv)
section rd
variable {w w':World} {A:Option Addr} {l:List UInt8}
theorem Rd.nil (w:World) (A:Option Addr):Rd w A []:=RdV.nil w A
theorem Rd.get (h:Rd w A l) {j:Nat} (hj:j<l.length): ∃ b o,A=some ⟨b,o,none⟩/\w.cell? ⟨b,o+j,none⟩=some (.int .u8 (l[j].toNat:Int)):=by
 obtain⟨b,o,e,hc⟩:=RdV.get h (j:=j) (by simpa using hj);exact⟨b,o,e,by rw[hc];simp[bv]⟩
theorem Rd.chg {S:Nat->Prop} (h:Rd w A l) (k:Chg S w w') (hS: ∀ b o,l≠[]->A=some ⟨b,o,none⟩->¬ S b):Rd w' A l:=RdV.chg h k fun b o hx e=>hS b o (fun hl=>hx (by simp[hl])) e
theorem Rd.new (h:Rd w A l) (k:Chg No w w'):Rd w' A l:=RdV.new h k
theorem Rd.lt (h:Rd w A l) (hx:l≠[]): ∃ b o,A=some ⟨b,o,none⟩/\b<w.heap.size:=RdV.lt h (by simpa using hx)
theorem Rd.drewN (h:Rd w A l) (n:Nat):Rd (w.drewN n) A l:=h
theorem Rd.alloc (h:Rd w A l) (o:Obj):Rd (w.alloc o) A l:=RdV.alloc h o
theorem Rd.take (h:Rd w A l) (k:Nat):Rd w A (l.take k):=by have:=RdV.take h k;rwa [<-List.map_take] at this
theorem Rd.drop (h:Rd w A l) {k cap:Nat} (hk:k<=l.length) (hc:l.length<=cap):Rd w (if cap=k then A else A.map (·.add k)) (l.drop k):=by
 have:=RdV.drop h (k:=k) (cap:=cap) (by simpa using hk) (by simpa using hc);rwa [<-List.map_drop] at this
theorem Rd.str {P:Program} (h:Rd w A l) (src dst e:TypeId) (hs:P.underlying src=some (.slice e)) (he:P.underlying e=some (.int .u8)) (hd:P.underlying dst=some .string) (c:Nat):
  (convert src dst (.slice A l.length c)).run P w = .ok (.string ⟨l.toArray⟩) w:=by
 rcases A with _ | ad
 .have hl:l=[]:=by
   rcases l with _ | ⟨x,l⟩
   .rfl
   .obtain⟨b,o,e,_⟩:=h (by simp);cases e
  subst hl;rw[run_convert_bytes_nil w src e hs he _ c dst hd];rfl
 .have hx:l=(l.map fun b=>(b.toNat:Int)).map fun n=>UInt8.ofNat n.toNat:=by
   rw[List.map_map]
   conv=>lhs;rw[<-List.map_id l]
   apply List.map_congr_left;intro b _;simp
  by_cases hl:l=[]
  .subst hl;simp only[List.length_nil];rw[run_convert_bytes_string w src dst e _ 0 c hs he hd];rw[run_bytesToString w ad 0 c [] (by simp[loadCells,loadCellsFrom])];rfl
  .obtain⟨b,o,e',hc⟩:=h (by simpa using hl);injection e' with e'
   subst e';have:=run_convert_bytes_arg (P:=P) w src e hs he b o l.length c (l.map fun b=>(b.toNat:Int)) (by simp) (fun i hi=>by
    rw[hc i (by simpa using hi)];simp[bv,List.getD,hi]) dst hd
   rw[this];simp only[strOfNums];rw[<-hx]
end rd
abbrev Rows_:=List (Option Addr × Nat × List UInt8)
def slOf (k:Option Addr × Nat × List UInt8):Value:= .slice k.1 k.2.2.length k.2.1
def RdL (w:World) (A:Option Addr) (ks:Rows_):Prop:=RdV w A (ks.map slOf)/\ ∀ k ∈ ks,Rd w k.1 k.2.2
def txt (ks:Rows_):List (List UInt8):=ks.map (·.2.2)
theorem txt_append (a b:Rows_):txt (a++b)=txt a++txt b:=List.map_append
section rdl
variable {w w':World} {A:Option Addr} {ks:Rows_}
theorem RdL.new (h:RdL w A ks) (k:Chg No w w'):RdL w' A ks:=⟨h.1.new k,fun x hx=>(h.2 x hx).new k⟩
theorem RdL.get (h:RdL w A ks) {j:Nat} (hj:j<ks.length):(∃ b o,A=some ⟨b,o,none⟩/\w.cell? ⟨b,o+j,none⟩=some (.slice ks[j].1 ks[j].2.2.length ks[j].2.1))/\Rd w ks[j].1 ks[j].2.2:=by
 refine⟨?_,h.2 _ (List.getElem_mem hj)⟩;obtain⟨b,o,e,hc⟩:=RdV.get h.1 (j:=j) (by simpa using hj);exact⟨b,o,e,by rw[hc];simp[slOf]⟩
end rdl
def Stay (S:Nat->Prop) (w:World) (Q:World->Prop):Prop:= ∀ w',Chg S w w'->Q w'
def Asked (b:Bool) (w:World) (e:Ending) (w':World):Prop:=e = .returned (.bool b)/\Chg No w w'
section app
variable {P:Program} {w:World}
theorem run_app_nil (base:Nat) (t ty e:TypeId) (i:TypeInfo) (size:Nat) (ht:P.underlying t=some (.slice e)) (hi:P.info? e=some i)
  (v:Value) (n:Nat) (xs:List Value) (hown:w.ownsRow base e size v n xs) (c:Nat):(Builtin.append_ #[t,t] ty #[v,.slice none 0 c]).run P w = .ok v w:=by
 rcases hown.2 with ⟨rfl,rfl⟩ | ⟨g,cap,cur,rfl,_,_,hnc,_⟩
 .simp[Builtin.append_,run_underlying ht,sizeOf,typeInfo,hi,Builtin.lenOf,Builtin.firstCells]
 .simp[Builtin.append_,run_underlying ht,sizeOf,typeInfo,hi,Builtin.lenOf,Builtin.firstCells,hnc,storeCells]
structure Appd (base e size:Nat) (w:World) (v:Value) (n m:Nat) (ys:List Value) (v':Value) (w':World):Prop where
 keep:w'.ownsRow base e size v n (ys.take (n*size))
 own:w'.ownsRow base e size v' (n+m) ys
 chg:Chg (fun k=>some k=v.ownBlock) w w'
 at_:v'.ownBlock=v.ownBlock\/v'.ownBlock=some w.heap.size
 nil:v' = .slice none 0 0↔v = .slice none 0 0/\m=0
theorem Appd.old {base e size n m:Nat} {a w w':World} {v v':Value} {xs ys:List Value} (h:Appd base e size w v n m ys v' w') (k:Chg No a w) (hown:w.ownsRow base e size v n xs) (hb:a.heap.size<=base):Chg No a w':=
 k.own h.chg fun i hi=>by have:=(hown.lt i hi.symm).1;omega
theorem run_app (base:Nat) (t ty e:TypeId) (i:TypeInfo) (z:Value) (size bytes:Nat) (ht:P.underlying t=some (.slice e)) (hi:P.info? e=some i) (hz:i.zero=some z)
  (hsize:i.size=size) (hby:i.bytes=bytes) (hzs:z.cells.size=size) (hsz:0<size)
  (v:Value) (n:Nat) (xs:List Value) (hown:w.ownsRow base e size v n xs)
  (A:Option Addr) (m c:Nat) (news:List Value) (hr:RdV w A news) (hm:news.length=m*size) (h1: ∀ u ∈ news,u.oneCell'=true)
  (h63:n+m<=maxLen) (hbytes:(n+m)*bytes<=140737488355328) (hbase:base<=w.heap.size):
  ∃ v' w',(Builtin.append_ #[t,t] ty #[v,.slice A m c]).run P w = .ok v' w'/\Appd base e size w v n m (xs++news) v' w':=by
 rcases A with _ | ad
 .have hn:news=[]:=by
   by_cases hx:news=[]
   .exact hx
   .obtain⟨b,o,h,_⟩:=hr hx;cases h
  subst hn;have hm0:m=0:=by
   rcases Nat.eq_zero_or_pos m with h | h
   .exact h
   .have:=Nat.mul_pos h hsz;simp at hm;omega
  subst hm0;exact⟨v,w,run_app_nil base t ty e i size ht hi v n xs hown c,by rw[List.append_nil, <-hown.1,List.take_length];exact hown,by simpa using hown,Chg.refl _ _,.inl rfl,by simp⟩
 .obtain⟨v',w',hrun,h2,h3,h4,h5⟩:=run_append_own_at (P:=P) w base t ty e i z size bytes ht hi hz hsize hby hzs hsz v n xs hown ad m c news hm (hr.news rfl) h1 h63 hbytes hbase;refine⟨v',w',hrun,?_,h2,Chg.of_grown h3,h5,h4⟩;rw[<-hown.1,List.take_left];rcases hown.2 with ⟨rfl,rfl⟩ | ⟨g,cap,cur,rfl,hbg,hg,hnc,hcm,hcs,htake⟩
  .have hx:xs=[]:=List.eq_nil_of_length_eq_zero (by simpa using hown.1);subst hx;exact World.ownsRow_nil _ _ _ _
  .by_cases hroom:n+m<=cap
   .have hfit:n*i.size+news.length<=cur.size:=by rw[hm,hcs,hsize, <-Nat.add_mul];exact Nat.mul_le_mul_right _ hroom
    have hr2:=run_append_room (P:=P) w t ty e i ht hi g n cap cur hg ad m c news (by rw[hsize];exact hm) (hr.news rfl) h1 hroom hfit;rw[hrun] at hr2;injection hr2 with _ hw
    subst hw;refine⟨hown.1,.inr ⟨g,cap,_,rfl,hbg,setRow_heap w g cur _ e _ hg,hnc,hcm,?_,?_⟩⟩
    .simp only[List.size_toArray,List.length_append,List.length_take,List.length_drop,Array.length_toList];rw[hsize] at hfit ⊢;omega
    .rw[hsize];have hlen:(cur.toList.take (n*size)).length=n*size:=by
      rw[List.length_take,Array.length_toList,hcs];exact Nat.min_eq_left (Nat.mul_le_mul_right _ hnc)
     show (cur.toList.take (n*size)++news++_).take (n*size)=xs;rw[List.append_assoc,List.take_append_of_le_length (by omega),List.take_take,Nat.min_self,htake]
   .have holds: ∀ j u,xs[j]?=some u->w.cell? ((⟨g,0,none⟩:Addr).add j)=some u:=hown.cells (g:=g) rfl;subst hsize;subst hby;have h63':n+m<=9223372036854775807:=by simp only[maxLen] at h63;omega
    have hr2:=run_append_grow (P:=P) w t ty e i z ht hi hz ⟨g,0,none⟩ n cap xs hown.1 holds ad m c news hm (hr.news rfl) (by omega) (by omega) (growslice_fits (by omega) hbytes);rw[hrun] at hr2;injection hr2 with _ hw
    subst hw;refine⟨hown.1,.inr ⟨g,cap,cur,rfl,hbg,?_,hnc,hcm,hcs,htake⟩⟩;rw[heap_alloc_old w.drew _ (r:=g) (At.lt hg)];exact hg
theorem wpList_app {ops:Array Oper} {rest:List Oper} {o:Oper} {a:Act} {Q:Exit->Act->World->Prop} (hgd:o.guard=none) (s x:Operand) (t:TypeId)
  (ho:o.op = .call { callee:= .builtin .append,args:= #[s,x],argTypes:= #[t,t] })
  (base:Nat) (e:TypeId) (i:TypeInfo) (z:Value) (size bytes:Nat) (ht:P.underlying t=some (.slice e)) (hi:P.info? e=some i) (hz:i.zero=some z)
  (hsize:i.size=size) (hby:i.bytes=bytes) (hzs:z.cells.size=size) (hsz:0<size)
  (v:Value) (n:Nat) (xs:List Value) (hs:a.eval s=v) (hown:w.ownsRow base e size v n xs)
  (A:Option Addr) (m c:Nat) (news:List Value) (hx:a.eval x = .slice A m c) (hr:RdV w A news) (hm:news.length=m*size) (h1: ∀ u ∈ news,u.oneCell'=true)
  (h63:n+m<=maxLen) (hbytes:(n+m)*bytes<=140737488355328) (hbase:base<=w.heap.size)
  (h: ∀ v' w',Appd base e size w v n m (xs++news) v' w'->wpList P ops Q rest (a.put o.dst v') w'):wpList P ops Q (o::rest) a w:=by
 refine wpList_plain hgd fun K hK=>?_
 obtain⟨v',w',hrun,h2⟩:=run_app (P:=P) base t o.type e i z size bytes ht hi hz hsize hby hzs hsz v n xs hown A m c news hr hm h1 h63 hbytes hbase;unfold Oper.wp execOp;simp only[ho,resolve,invoke,builtin,Sem.run_bind,Sem.run_pure,Result.andThen_ok,List.map_toArray,List.map_cons,List.map_nil,hs,hx,hrun];exact hK _ _ (h v' w' h2)
end app
theorem own_form {w:World} {base e n:Nat} {v:Value} {xs:List Value} (h:w.ownsRow base e 1 v n xs) (hv:v≠ .slice none 0 0):
  ∃ g cap cur,v = .slice (some ⟨g,0,none⟩) n cap/\base<=g/\At w g e cur/\n<=cap/\cap<=maxLen/\cur.size=cap/\ ∀ j (hj:j<xs.length),cur[j]?=some xs[j]:=by
 rcases h.2 with ⟨h1,_⟩ | ⟨g,cap,cur,h1,h2,h3,h4,h5,h6,h7⟩
 .exact absurd h1 hv
 .refine⟨g,cap,cur,h1,h2,h3,h4,h5,by simpa using h6,fun j hj=>?_⟩;have hl:=h.1;have:xs[j]?=some xs[j]:=List.getElem?_eq_getElem hj;rw[<-this]
  conv=>rhs;rw[<-h7]
  rw[List.getElem?_take,if_pos (by omega)];simp
theorem own_nil {w:World} {base e n:Nat} {xs:List Value} (h:w.ownsRow base e 1 (.slice none 0 0) n xs):n=0/\xs=[]:=by
 rcases h.2 with ⟨_,h2⟩ | ⟨g,cap,cur,h1,_⟩
 .subst h2;exact⟨rfl,List.eq_nil_of_length_eq_zero (by simpa using h.1)⟩
 .simp at h1
theorem own_rd {w:World} {base e n:Nat} {v:Value} {xs:List Value} (h:w.ownsRow base e 1 v n xs): ∃ A c,v = .slice A n c/\RdV w A xs/\n<=c/\c<=maxLen/\ ∀ b o,A=some ⟨b,o,none⟩->base<=b:=by
 by_cases hv:v = .slice none 0 0
 .subst hv;obtain⟨rfl,rfl⟩:=own_nil h;exact⟨none,0,rfl,RdV.nil _ _,Nat.le_refl _,Nat.zero_le _,fun b o e=>by cases e⟩
 .obtain⟨g,cap,cur,rfl,h2,h3,h4,h5,h6,h7⟩:=own_form h hv;exact⟨_,_,rfl,RdV.of_at h3 h7,h4,h5,fun b o e=>by injection e with e;injection e with e;omega⟩
theorem own_chg {S:Nat->Prop} {w w':World} {base e size n:Nat} {v:Value} {xs:List Value} (h:w.ownsRow base e size v n xs) (k:Chg S w w') (hS: ∀ b,v.ownBlock=some b->¬ S b):w'.ownsRow base e size v n xs:=by
 refine⟨h.1,?_⟩;rcases h.2 with h1 | ⟨g,cap,cur,h1,h2,h3,r⟩
 .exact .inl h1
 .exact .inr ⟨g,cap,cur,h1,h2,(At.chg h3 k (hS g (by rw[h1];rfl))),r⟩
theorem own_lit (w:World) (e:TypeId) (cs:Array Value) (hm:cs.size<=maxLen):(w.alloc (.cells cs e)).ownsRow w.heap.size e 1 (.slice (some ⟨w.heap.size,0,none⟩) cs.size cs.size) cs.size cs.toList:=
 World.ownsRow_lit w cs cs.size (Nat.le_refl _) hm (by omega)
section fit
variable {P:Program} {w:World}
end fit
def Hp:=Nat->Option (Bool × Obj)
def jn (x y:Option (Bool × Obj)):Option (Bool × Obj):=match x with | some a=>some a | none=>y
def okk (x y:Option (Bool × Obj)):Prop:=x=none\/y=none\/ ∃ o,x=some (true,o)/\y=some (true,o)
theorem okk.symm {x y} (h:okk x y):okk y x:=by
 rcases h with h | h | ⟨o,h1,h2⟩
 .exact .inr (.inl h)
 .exact .inl h
 .exact .inr (.inr ⟨o,h2,h1⟩)
theorem jn_comm {x y} (h:okk x y):jn x y=jn y x:=by
 rcases h with rfl | rfl | ⟨o,rfl,rfl⟩
 .cases y<;>rfl
 .cases x<;>rfl
 .rfl
theorem jn_assoc (x y z):jn (jn x y) z=jn x (jn y z):=by cases x<;>rfl
theorem okk_left {x y z} (h:okk x y) (k:okk (jn x y) z):okk y z/\okk x (jn y z):=by
 rcases h with rfl | rfl | ⟨o,rfl,rfl⟩
 .exact⟨k,.inl rfl⟩
 .refine⟨.inl rfl,?_⟩
  cases x with
  | none=>exact .inl rfl
  | some a=>exact k
 .refine⟨k,?_⟩;exact .inr (.inr ⟨o,rfl,rfl⟩)
theorem okk_right {x y z} (h:okk y z) (k:okk x (jn y z)):okk x y/\okk (jn x y) z:=by
 have:=okk_left (x:=z) (y:=y) (z:=x) h.symm (by rw[jn_comm h.symm];exact k.symm);refine⟨this.1.symm,?_⟩;rw[jn_comm this.1.symm];exact this.2.symm
def Hp.ok (a b:Hp):Prop:= ∀ k,okk (a k) (b k)
def Hp.un (a b:Hp):Hp:=fun k=>jn (a k) (b k)
def SP:=Hp->Prop
instance:Mul SP:=⟨fun A B=>fun h=> ∃ a b,a.ok b/\h=a.un b/\A a/\B b⟩
theorem star_comm (A B:SP):A*B=B*A:=by
 have: ∀ A B:SP, ∀ h,(A*B) h->(B*A) h:=fun A B h ⟨a,b,h1,h2,h3,h4⟩=>
  ⟨b,a,fun k=>(h1 k).symm,by rw[h2];funext k;exact jn_comm (h1 k),h4,h3⟩
 funext h
 exact propext ⟨this A B h,this B A h⟩
theorem star_assoc (A B C:SP):A*B*C=A*(B*C):=by
 funext h
 refine propext ⟨?_,?_⟩
 .rintro ⟨x,c,h1,rfl,⟨a,b,h2,rfl,ha,hb⟩,hc⟩;exact⟨a,b.un c,fun k=>(okk_left (h2 k) (h1 k)).2,funext fun k=>jn_assoc _ _ _,ha,b,c,fun k=>(okk_left (h2 k) (h1 k)).1,rfl,hb,hc⟩
 .rintro ⟨a,x,h1,rfl,ha,b,c,h2,rfl,hb,hc⟩;exact⟨a.un b,c,fun k=>(okk_right (h2 k) (h1 k)).2,funext fun k=>(jn_assoc _ _ _).symm,⟨a,b,fun k=>(okk_right (h2 k) (h1 k)).1,rfl,ha,hb⟩,hc⟩
theorem star_left (A B C:SP):A*(B*C)=B*(A*C):=by rw[<-star_assoc,star_comm A B,star_assoc]
instance:Std.Associative (α:=SP) (· * ·):=⟨star_assoc⟩
instance:Std.Commutative (α:=SP) (· * ·):=⟨star_comm⟩
def Emp:SP:=fun h=>h=fun _=>none
theorem star_emp (A:SP):A*Emp=A:=by
 funext h
 refine propext ⟨?_,fun ha=>⟨h,fun _=>none,fun k=> .inr (.inl rfl),funext fun k=>?_,ha,rfl⟩⟩
 .rintro ⟨a,b,_,rfl,ha,rfl⟩;have:a.un (fun _=>none)=a:=funext fun k=>by unfold Hp.un jn;cases a k<;>rfl
  rw[this];exact ha
 .unfold Hp.un jn;cases h k<;>rfl
theorem emp_star (A:SP):Emp*A=A:=by rw[star_comm,star_emp]
def one1 (b:Nat) (x:Bool × Obj):Hp:=fun k=>if k=b then some x else none
def SP.and (φ:Prop) (A:SP):SP:=fun h=>φ/\A h
def Ow (b:Nat) (o:Obj):SP:=fun h=>h=one1 b (false,o)
def Pt (b:Nat) (t:TypeId) (cs:Array Value):SP:=Ow b (.cells cs t (0,0))
def Ro (A:Option Addr) (xs:List Value):SP:=fun h=>(∀ k x,h k=some x->x.1=true)/\(xs≠[]-> ∃ b o cs t fr,A=some ⟨b,o,none⟩/\h b=some (true,.cells cs t fr)/\ ∀ j (hj:j<xs.length),cs[o+j]?=some xs[j])
def Rb (A:Option Addr) (l:List UInt8):SP:=Ro A (l.map bv)
structure Sat (w0:World) (A:SP) (w:World):Prop where
 chg:Chg No w0 w
 hp: ∃ h:Hp,(∀ k x,h k=some x->w.heap[k]?=some x.2/\(x.1=false->w0.heap.size<=k))/\A h
section
variable {w0 w w':World} {A B F:SP} {b i n:Nat} {t:TypeId} {cs:Array Value} {v u:Value} {o:Obj}
theorem Sat.start (w:World):Sat w Emp w:=⟨Chg.refl _ _,fun _=>none,by simp,rfl⟩
theorem Sat.of (h:Sat w0 A w) (e:A=B):Sat w0 B w:=e ▸ h
theorem Sat.mono (h:Sat w0 A w) (e: ∀ h,A h->B h):Sat w0 B w:=let ⟨x,h1,h2⟩:=h.hp;⟨h.chg,x,h1,e x h2⟩
theorem Sat.right (h:Sat w0 (A*F) w):Sat w0 F w:=by
 obtain⟨_,h1,a,f,h2,rfl,_,hf⟩:=h.hp;refine⟨h.chg,f,fun k x hx=>h1 k x ?_,hf⟩;rcases h2 k with e | e | ⟨o,e1,e2⟩
 .show jn (a k) (f k)=_;rw[e];exact hx
 .rw[e] at hx;cases hx
 .show jn (a k) (f k)=_;rw[e1];rw[e2] at hx;exact hx
theorem Sat.size (h:Sat w0 A w):w0.heap.size<=w.heap.size:=h.chg.size
theorem Sat.new (h:Sat w0 A w) (k:Chg No w w'):Sat w0 A w':=by
 obtain⟨x,h1,h2⟩:=h.hp;refine⟨h.chg.tr k,x,fun b y hy=>⟨?_,(h1 b y hy).2⟩,h2⟩;have:=(h1 b y hy).1;rw[k.block b (lt_of_block this) id];exact this
theorem Sat.drew (h:Sat w0 A w):Sat w0 A w.drew:=h.new (Chg.refl No w).drew
theorem Sat.drewN (h:Sat w0 A w) (n:Nat):Sat w0 A (w.drewN n):=h.new ((Chg.refl No w).drewN n)
theorem Sat.alloc' (h:Sat w0 A w) (o:Obj):Sat w0 A (w.alloc o):=h.new ((Chg.refl No w).alloc o)
theorem Sat.take (h:Sat w0 F w) (k:Chg No w w') (hb:w.heap.size<=b) (ho:w'.heap[b]?=some o):Sat w0 (Ow b o*F) w':=by
 have h':=h.new k;obtain⟨x,h1,h2⟩:=h.hp;refine⟨h'.chg,(one1 b (false,o)).un x,fun q y hy=>?_,_,x,fun q=>?_,rfl,rfl,h2⟩
 .unfold Hp.un one1 at hy;by_cases e:q=b
  .subst e;rw[if_pos rfl] at hy;injection hy with hy
   subst hy;exact⟨ho,fun _=>Nat.le_trans h.size hb⟩
  .rw[if_neg e] at hy;have:=h1 q y hy;refine⟨?_,this.2⟩;rw[k.block q (lt_of_block this.1) id];exact this.1
 .unfold one1;by_cases e:q=b
  .right;left
   cases hx:x q with
   | none=>rfl
   | some y=>have:=lt_of_block (h1 q y hx).1;omega
  .exact .inl (if_neg e)
theorem Sat.alloc (h:Sat w0 F w) (o:Obj):Sat w0 (Ow w.heap.size o*F) (w.alloc o):=h.take ((Chg.refl No w).alloc o) (Nat.le_refl _) (heap_alloc_new w o)
theorem Sat.allocPt (h:Sat w0 F w) (t:TypeId) (cs:Array Value):Sat w0 (Pt w.heap.size t cs*F) (w.alloc (.cells cs t)):=h.alloc _
theorem Sat.block (h:Sat w0 (Ow b o*F) w):w.heap[b]?=some o:=by
 obtain⟨_,h1,a,f,h2,rfl,rfl,hf⟩:=h.hp;exact(h1 b (false,o) (by unfold Hp.un one1 jn;simp)).1
theorem Sat.base (h:Sat w0 (Ow b o*F) w):w0.heap.size<=b:=by
 obtain⟨_,h1,a,f,h2,rfl,rfl,hf⟩:=h.hp;exact(h1 b (false,o) (by unfold Hp.un one1 jn;simp)).2 rfl
theorem Sat.at (h:Sat w0 (Pt b t cs*F) w):At w b t cs:=h.block
theorem Sat.cell (h:Sat w0 (Pt b t cs*F) w) (i:Nat):w.cell? ⟨b,i,none⟩=cs[i]?:=h.at.cell i
theorem Sat.frozen (h:Sat w0 (Pt b t cs*F) w) (i:Nat):w.frozen? ⟨b,i,none⟩=false:=h.at.frozen i
theorem Sat.lt (h:Sat w0 (Ow b o*F) w):b<w.heap.size:=lt_of_block h.block
theorem Sat.ne {b':Nat} {o':Obj} (h:Sat w0 (Ow b o*(Ow b' o'*F)) w):b≠b':=by
 rintro rfl;obtain⟨_,h1,a,f,h2,rfl,rfl,a',f',h3,rfl,rfl,hf⟩:=h.hp;have:=h2 b;unfold one1 Hp.un jn at this;rcases this with e | e | ⟨q,e,_⟩
 .simp at e
 .simp at e
 .simp at e
theorem Sat.turn {o':Obj} (h:Sat w0 (Ow b o*F) w) (k:Chg (One b) w w') (ho:w'.heap[b]?=some o'):Sat w0 (Ow b o'*F) w':=by
 have hb:=h.base;obtain⟨_,h1,a,f,h2,rfl,rfl,hf⟩:=h.hp;refine⟨h.chg.own k (fun i hi=>by cases hi;exact hb),(one1 b (false,o')).un f,fun q y hy=>?_,_,f,fun q=>?_,rfl,rfl,hf⟩
 .unfold Hp.un one1 at hy;by_cases e:q=b
  .subst e;rw[if_pos rfl] at hy;injection hy with hy
   subst hy;exact⟨ho,fun _=>hb⟩
  .rw[if_neg e] at hy;have:=h1 q y (by unfold Hp.un one1;rw[if_neg e];exact hy);refine⟨?_,this.2⟩;rw[k.block q (lt_of_block this.1) e];exact this.1
 .by_cases e:q=b
  .right;left
   have:=h2 q;unfold one1 at this;rw[if_pos e] at this;rcases this with e | e | ⟨q,e,_⟩
   .cases e
   .exact e
   .simp at e
  .left;unfold one1;rw[if_neg e]
theorem Sat.set (h:Sat w0 (Pt b t cs*F) w) (i:Nat) (u:Value):Sat w0 (Pt b t (cs.setIfInBounds i u)*F) (w.setCell ⟨b,i,none⟩ u):=
 Sat.turn h ((Chg.refl (One b) w).setCell (p:=⟨b,i,none⟩) (fun _=>rfl) u) (h.at.set i u)
theorem Sat.give (h:Sat w0 (Pt b t cs*F) w) {o:Nat} {xs:List Value} (hx: ∀ j (hj:j<xs.length),cs[o+j]?=some xs[j]):Sat w0 (Ro (some ⟨b,o,none⟩) xs*F) w:=by
 obtain⟨_,h1,a,f,h2,rfl,rfl,hf⟩:=h.hp;have hn:f b=none:=by
  have:=h2 b;unfold one1 at this;rw[if_pos rfl] at this;rcases this with e | e | ⟨q,e,_⟩
  .cases e
  .exact e
  .simp at e
 refine⟨h.chg,(one1 b (true,.cells cs t (0,0))).un f,fun q y hy=>?_,_,f,fun q=>?_,rfl,⟨fun k x hx=>?_,fun _=>⟨b,o,cs,t,(0,0),rfl,by unfold one1;simp,hx⟩⟩,hf⟩
 .unfold Hp.un one1 at hy;by_cases e:q=b
  .subst e;rw[if_pos rfl] at hy;injection hy with hy
   subst hy;exact⟨h.at,fun e=>(by cases e)⟩
  .rw[if_neg e] at hy;exact h1 q y (by unfold Hp.un one1;rw[if_neg e];exact hy)
 .by_cases e:q=b
  .subst e;exact .inr (.inl hn)
  .left;unfold one1;rw[if_neg e]
 .unfold one1 at hx;split at hx
  .injection hx with hx;subst hx;rfl
  .cases hx
theorem Sat.rdv {Ad:Option Addr} {xs:List Value} (h:Sat w0 (Ro Ad xs*F) w):RdV w Ad xs:=fun hx=>by
 obtain⟨_,h1,a,f,h2,rfl,⟨ha,ha2⟩,hf⟩:=h.hp;obtain⟨b,o,cs,t,fr,rfl,hb,hc⟩:=ha2 hx;refine⟨b,o,rfl,fun j hj=>?_⟩;have:=(h1 b (true,.cells cs t fr) (by unfold Hp.un;rw[hb];rfl)).1;rw[cell_of_row w b (o+j) cs t fr this];exact hc j hj
theorem Sat.rd {Ad:Option Addr} {l:List UInt8} (h:Sat w0 (Rb Ad l*F) w):Rd w Ad l:=Sat.rdv h
theorem ro_dup (Ad:Option Addr) (xs:List Value):Ro Ad xs*Ro Ad xs=Ro Ad xs:=by
 funext h
 refine propext ⟨?_,fun hh=>⟨h,h,fun k=>?_,funext fun k=>?_,hh,hh⟩⟩
 .rintro ⟨a,b,h1,rfl,⟨h2,h3⟩,h4,h5⟩;refine⟨fun k x hx=>?_,fun hx=>?_⟩
  .unfold Hp.un jn at hx
   cases ha:a k with
   | none=>rw[ha] at hx;exact h4 k x hx
   | some y=>rw[ha] at hx;injection hx with hx;subst hx;exact h2 k _ ha
  .obtain⟨b',o,cs,t,fr,rfl,hb,hc⟩:=h3 hx;exact⟨b',o,cs,t,fr,rfl,by unfold Hp.un;rw[hb];rfl,hc⟩
 .cases hk:h k with
  | none=>exact .inl rfl
  | some x=>have:=hh.1 k x hk;obtain⟨q,o⟩:=x;cases this;exact .inr (.inr ⟨o,rfl,rfl⟩)
 .unfold Hp.un jn;cases h k<;>rfl
theorem Sat.roNil (h:Sat w0 F w) (Ad:Option Addr):Sat w0 (Ro Ad []*F) w:=
 (h.of (emp_star F).symm).mono fun x ⟨a,f,h1,h2,h3,h4⟩=>⟨a,f,h1,h2,⟨fun k y hy=>(by unfold Emp at h3;rw[h3] at hy;cases hy),fun h=>absurd rfl h⟩,h4⟩
theorem Sat.gotRo {e:TypeId} {v:Value} {n:Nat} {xs:List Value} (h:Sat w0 F w) (k:Chg No w w') (hown:w'.ownsRow w.heap.size e 1 v n xs): ∃ Ad c,v = .slice Ad n c/\n<=c/\c<=maxLen/\Sat w0 (Ro Ad xs*F) w':=by
 by_cases hv:v = .slice none 0 0
 .subst hv;obtain⟨rfl,rfl⟩:=own_nil hown;exact⟨none,0,rfl,Nat.le_refl _,Nat.zero_le _,(h.new k).roNil _⟩
 .obtain⟨g,cap,cur,rfl,h2,h3,h4,h5,h6,h7⟩:=own_form hown hv;refine⟨_,_,rfl,h4,h5,Sat.give (h.take k h2 h3) (fun j hj=>?_)⟩;rw[Nat.zero_add];exact h7 j hj
theorem Sat.pure {φ:Prop} (h:Sat w0 (SP.and φ A*F) w):φ/\Sat w0 (A*F) w:=by
 obtain⟨c,x,h1,a,f,h2,h3,⟨h4,h5⟩,h6⟩:=h;exact⟨h4,c,x,h1,a,f,h2,h3,h5,h6⟩
theorem Sat.pureI {φ:Prop} (p:φ) (h:Sat w0 (A*F) w):Sat w0 (SP.and φ A*F) w:=h.mono fun y ⟨a,f,h2,h3,h5,h6⟩=>⟨a,f,h2,h3,⟨p,h5⟩,h6⟩
theorem Sat.part (h:Sat w0 (Ow b o*F) w): ∃ f,F f/\f b=none/\ ∀ k x,f k=some x->w.heap[k]?=some x.2/\(x.1=false->w0.heap.size<=k):=by
 obtain⟨_,h1,a,f,h2,rfl,rfl,hf⟩:=h.hp;have hn:f b=none:=by
  have:=h2 b;unfold one1 at this;rw[if_pos rfl] at this;rcases this with e | e | ⟨q,e,_⟩
  .cases e
  .exact e
  .simp at e
 refine⟨f,hf,hn,fun k x hx=>h1 k x ?_⟩;unfold Hp.un one1;by_cases e:k=b
 .rw[e,hn] at hx;cases hx
 .rw[if_neg e];exact hx
theorem Sat.loseTake {b':Nat} {o':Obj} (h:Sat w0 (Ow b o*F) w) (k:Chg (One b) w w') (hb:w.heap.size<=b') (ho:w'.heap[b']?=some o'):Sat w0 (Ow b' o'*F) w':=by
 have hbase:=h.base;have hsz:=h.size;obtain⟨f,hf,hn,h1⟩:=h.part;refine⟨h.chg.own k (fun i hi=>by cases hi;exact hbase),(one1 b' (false,o')).un f,fun q y hy=>?_,_,f,fun q=>?_,rfl,rfl,hf⟩
 .unfold Hp.un one1 at hy;by_cases e:q=b'
  .subst e;rw[if_pos rfl] at hy;injection hy with hy
   subst hy;exact⟨ho,fun _=>Nat.le_trans hsz hb⟩
  .rw[if_neg e] at hy;have:=h1 q y hy;refine⟨?_,this.2⟩;rw[k.block q (lt_of_block this.1) (fun e=>by have hy':f q=some y:=hy;rw[show q=b from e,hn] at hy';cases hy')];exact this.1
 .unfold one1;by_cases e:q=b'
  .right;left
   cases hx:f q with
   | none=>rfl
   | some y=>have:=lt_of_block (h1 q y hx).1;omega
  .exact .inl (if_neg e)
def Row (e:TypeId) (size:Nat) (v:Value) (n:Nat) (xs:List Value):SP:=fun h=>xs.length=n*size/\
 ((v = .slice none 0 0/\n=0/\Emp h)\/ ∃ g cap cur,v = .slice (some ⟨g,0,none⟩) n cap/\n<=cap/\cap<=maxLen/\cur.size=cap*size/\cur.toList.take (n*size)=xs/\Pt g e cur h)
variable {e:TypeId} {size m:Nat} {xs ys:List Value}
theorem Sat.row_cases (h:Sat w0 (Row e size v n xs*F) w):xs.length=n*size/\((v = .slice none 0 0/\n=0/\Sat w0 F w)\/
  ∃ g cap cur,v = .slice (some ⟨g,0,none⟩) n cap/\n<=cap/\cap<=maxLen/\cur.size=cap*size/\cur.toList.take (n*size)=xs/\Sat w0 (Pt g e cur*F) w):=by
 obtain⟨c,x,h1,a,f,h2,h3,⟨hl,h4⟩,h5⟩:=h;refine⟨hl,?_⟩;rcases h4 with ⟨e1,e2,e3⟩ | ⟨g,cap,cur,e1,e2,e3,e4,e5,e6⟩
 .refine .inl ⟨e1,e2,?_⟩;have:=Sat.mk (w0:=w0) (w:=w) (A:=Emp*F) c ⟨x,h1,a,f,h2,h3,e3,h5⟩;exact this.of (emp_star F)
 .exact .inr ⟨g,cap,cur,e1,e2,e3,e4,e5,⟨c,x,h1,a,f,h2,h3,e6,h5⟩⟩
theorem Sat.row_nil (h:Sat w0 F w) (e:TypeId) (size:Nat):Sat w0 (Row e size (.slice none 0 0) 0 []*F) w:=
 (h.of (emp_star F).symm).mono fun x ⟨a,f,h1,h2,h3,h4⟩=>⟨a,f,h1,h2,⟨by simp,.inl ⟨rfl,rfl,h3⟩⟩,h4⟩
theorem Sat.row_pt {g cap:Nat} {cur:Array Value} (h:Sat w0 (Pt g e cur*F) w) (h1:n<=cap) (h2:cap<=maxLen) (h3:cur.size=cap*size):Sat w0 (Row e size (.slice (some ⟨g,0,none⟩) n cap) n (cur.toList.take (n*size))*F) w:=
 h.mono fun x ⟨a,f,k1,k2,k3,k4⟩=>⟨a,f,k1,k2,⟨by rw[List.length_take,Array.length_toList,h3];exact Nat.min_eq_left (Nat.mul_le_mul_right _ h1),.inr ⟨g,cap,cur,rfl,h1,h2,h3,rfl,k3⟩⟩,k4⟩
theorem Sat.row_own (h:Sat w0 (Row e size v n xs*F) w):w.ownsRow w0.heap.size e size v n xs:=by
 obtain⟨hl,⟨rfl,rfl,_⟩ | ⟨g,cap,cur,rfl,h1,h2,h3,h4,h5⟩⟩:=h.row_cases
 .exact⟨hl,.inl ⟨rfl,rfl⟩⟩
 .exact⟨hl,.inr ⟨g,cap,cur,rfl,h5.base,h5.block,h1,h2,h3,h4⟩⟩
theorem Sat.gotRow (h:Sat w0 F w) (k:Chg No w w') (hown:w'.ownsRow w.heap.size e size v n xs):Sat w0 (Row e size v n xs*F) w':=by
 rcases hown.2 with ⟨rfl,rfl⟩ | ⟨g,cap,cur,rfl,h1,h2,h3,h4,h5,h6⟩
 .have:xs=[]:=List.eq_nil_of_length_eq_zero (by simpa using hown.1);subst this;exact(h.new k).row_nil e size
 .rw[<-h6];exact Sat.row_pt (h.take k h1 h2) h3 h4 h5
theorem Sat.appd {base:Nat} {v':Value} (h:Sat w0 (Row e size v n xs*F) w) (k:Appd base e size w v n m ys v' w'):Sat w0 (Row e size v' (n+m) ys*F) w':=by
 have hown:=k.own;obtain⟨hl,⟨rfl,rfl,h1⟩ | ⟨g,cap,cur,rfl,h1,h2,h3,h4,h5⟩⟩:=h.row_cases
 .have kc:Chg No w w':=k.chg.mono fun i _ hi=>by simp[Value.ownBlock] at hi
  refine h1.gotRow kc ?_;refine⟨hown.1,?_⟩;rcases hown.2 with h2 | ⟨g,cap,cur,rfl,_,r⟩
  .exact .inl h2
  .refine .inr ⟨g,cap,cur,rfl,?_,r⟩;rcases k.at_ with h3 | h3
   .simp[Value.ownBlock] at h3
   .simp[Value.ownBlock] at h3;omega
 .have kc:Chg (One g) w w':=k.chg.mono fun i _ hi=>by simp[Value.ownBlock] at hi;exact hi
  rcases hown.2 with ⟨rfl,hz⟩ | ⟨g',cap',cur',rfl,_,e1,e2,e3,e4,e5⟩
  .exact absurd (k.nil.1 rfl).1 (by simp)
  .rw[<-e5];refine Sat.row_pt ?_ e2 e3 e4;rcases k.at_ with q | q
   .simp[Value.ownBlock] at q;subst q;exact h5.turn kc e1
   .simp[Value.ownBlock] at q;subst q;exact Sat.loseTake h5 kc (Nat.le_refl _) e1
theorem Sat.row_rd (h:Sat w0 (Row e 1 v n xs*F) w): ∃ Ad c,v = .slice Ad n c/\RdV w Ad xs/\n<=c/\c<=maxLen:=by
 obtain⟨A,c,h1,h2,h3,h4,_⟩:=own_rd h.row_own;exact⟨A,c,h1,h2,h3,h4⟩
theorem Sat.row_ro (h:Sat w0 (Row e 1 v n xs*F) w): ∃ Ad c,v = .slice Ad n c/\n<=c/\c<=maxLen/\Sat w0 (Ro Ad xs*F) w:=by
 obtain⟨hl,⟨rfl,rfl,h1⟩ | ⟨g,cap,cur,rfl,h1,h2,h3,h4,h5⟩⟩:=h.row_cases
 .have:xs=[]:=List.eq_nil_of_length_eq_zero (by simpa using hl);subst this;exact⟨none,0,rfl,Nat.le_refl _,Nat.zero_le _,h1.roNil _⟩
 .refine⟨_,_,rfl,h1,h2,h5.give fun j hj=>?_⟩;have:xs[j]?=some xs[j]:=List.getElem?_eq_getElem hj;rw[Nat.zero_add, <-this, <-h4,List.getElem?_take,if_pos (by omega)];simp
end
section
variable {w0 w:World} {A B C D E G F:SP}
theorem Sat.up2 (h:Sat w0 (A*(B*F)) w):Sat w0 (B*(A*F)) w:=h.of (star_left _ _ _)
theorem Sat.up3 (h:Sat w0 (A*(B*(C*F))) w):Sat w0 (C*(A*(B*F))) w:=h.of (by rw[star_left B C,star_left A C])
theorem Sat.up4 (h:Sat w0 (A*(B*(C*(D*F)))) w):Sat w0 (D*(A*(B*(C*F)))) w:=h.of (by rw[star_left C D,star_left B D,star_left A D])
theorem Sat.up5 (h:Sat w0 (A*(B*(C*(D*(E*F))))) w):Sat w0 (E*(A*(B*(C*(D*F))))) w:=h.of (by rw[star_left D E,star_left C E,star_left B E,star_left A E])
theorem Sat.up6 (h:Sat w0 (A*(B*(C*(D*(E*(G*F)))))) w):Sat w0 (G*(A*(B*(C*(D*(E*F)))))) w:=h.of (by rw[star_left E G,star_left D G,star_left C G,star_left B G,star_left A G])
theorem Sat.dn3 (h:Sat w0 (C*(A*(B*F))) w):Sat w0 (A*(B*(C*F))) w:=h.of (by rw[star_left B C,star_left A C])
theorem Sat.dn4 (h:Sat w0 (D*(A*(B*(C*F)))) w):Sat w0 (A*(B*(C*(D*F)))) w:=h.of (by rw[star_left C D,star_left B D,star_left A D])
theorem Sat.dn5 (h:Sat w0 (E*(A*(B*(C*(D*F))))) w):Sat w0 (A*(B*(C*(D*(E*F))))) w:=h.of (by rw[star_left D E,star_left C E,star_left B E,star_left A E])
theorem Sat.drop2 (h:Sat w0 (A*(B*F)) w):Sat w0 (A*F) w:=h.up2.right
end
section
variable {P:Program} {l:List Oper} {Q:Exit->Act->World->Prop} {md:Region.Mode} {S:World->Prop}
theorem rgn_take {i:Nat} {oi:Oper} {v:Value} {fuel:Nat} {listed:Array Bool} {a:Act} {w:World} (hi:l[i]?=some oi)
  (hs:Region.noSelect l.toArray=true) (hf:Region.free md l.toArray listed i=true) (hr:(Region.ready md l.toArray listed).contains i=true)
  (hQ: ∀ c a w,Q (.panic c) (a.put oi.dst v) w->Q (.panic c) a w) (hy:Region.wanted oi (yielded l.toArray a.tmps)=true) (hy2: ∀ w,S w->(execOp a.eval oi).run P w = .ok (.value v) w) (hS:S w)
  (h:wpAnyH P md l.toArray Q S fuel (listed.setIfInBounds i true) (a.put oi.dst v) w):wpAnyH P md l.toArray Q S (fuel+1) listed a w:=
 wpAnyH_take (by simpa using hi) hs hf hr hQ (.inl ⟨hy,hy2⟩) hS h
theorem rgn_skip {i:Nat} {oi:Oper} {fuel:Nat} {listed:Array Bool} {a:Act} {w:World} (hi:l[i]?=some oi)
  (hs:Region.noSelect l.toArray=true) (hf:Region.free md l.toArray listed i=true) (hr:(Region.ready md l.toArray listed).contains i=true)
  (hQ: ∀ c a w,Q (.panic c) (a.put oi.dst undef) w->Q (.panic c) a w) (hy:Region.wanted oi (yielded l.toArray a.tmps)=false) (hS:S w)
  (h:wpAnyH P md l.toArray Q S fuel (listed.setIfInBounds i true) (a.put oi.dst undef) w):wpAnyH P md l.toArray Q S (fuel+1) listed a w:=
 wpAnyH_take (by simpa using hi) hs hf hr hQ (.inr ⟨hy,rfl⟩) hS h
theorem rgn_call {i:Nat} {oi:Oper} {fuel:Nat} {listed:Array Bool} {a:Act} {w:World} (hi:l[i]?=some oi) (hr:Region.ready md l.toArray listed=[i])
  (h: ∀ K:Act->World->Prop,Shut (∀ a w,S w->(S w->wpAnyH P md l.toArray Q S fuel (listed.setIfInBounds i true) a w)->K a w)->if Region.wanted oi (yielded l.toArray a.tmps)=true then Oper.wp P oi a w K Q else K (a.put oi.dst undef) w):
  wpAnyH P md l.toArray Q S (fuel+1) listed a w:=
 wpAnyH_ready hr (by simp) (AllReadyH.cons (by simpa using hi) h AllReadyH.nil)
theorem rtk (i:Nat) {oi:Oper} {v:Value} {fuel:Nat} {listed:Array Bool} {a a':Act} {w:World}
  (h:wpAnyH P md l.toArray Q S fuel (listed.setIfInBounds i true) a' w) (hi:l[i]?=some oi:=by rfl)
  (hs:Region.noSelect l.toArray=true:=by kernel_rfl) (hf:Region.free md l.toArray listed i=true:=by kernel_rfl) (hr:(Region.ready md l.toArray listed).contains i=true:=by kernel_rfl)
  (hy:Region.wanted oi (yielded l.toArray a.tmps)=true:=by rfl) (hy2: ∀ w,S w->(execOp a.eval oi).run P w = .ok (.value v) w:=by (intro w hSw;(try dsimp only at hSw);go_simp;try with_reducible rfl))
  (ha:a.put oi.dst v=a':=by (simp only[Act.put,List.setIfInBounds_toArray,List.set_cons_zero,List.set_cons_succ];try rfl))
  (hQ: ∀ c a w,Q (.panic c) (a.put oi.dst v) w->Q (.panic c) a w:=by exact fun _ _ _ h=>h) (hS:S w:=by assumption):wpAnyH P md l.toArray Q S (fuel+1) listed a w:=by
 subst ha;exact rgn_take hi hs hf hr hQ hy hy2 hS h
theorem rsk (i:Nat) {oi:Oper} {fuel:Nat} {listed:Array Bool} {a a':Act} {w:World}
  (h:wpAnyH P md l.toArray Q S fuel (listed.setIfInBounds i true) a' w) (hi:l[i]?=some oi:=by rfl)
  (hs:Region.noSelect l.toArray=true:=by kernel_rfl) (hf:Region.free md l.toArray listed i=true:=by kernel_rfl) (hr:(Region.ready md l.toArray listed).contains i=true:=by kernel_rfl)
  (hy:Region.wanted oi (yielded l.toArray a.tmps)=false:=by rfl)
  (ha:a.put oi.dst undef=a':=by (simp only[Act.put,List.setIfInBounds_toArray,List.set_cons_zero,List.set_cons_succ];try rfl))
  (hQ: ∀ c a w,Q (.panic c) (a.put oi.dst undef) w->Q (.panic c) a w:=by exact fun _ _ _ h=>h) (hS:S w:=by assumption):wpAnyH P md l.toArray Q S (fuel+1) listed a w:=by
 subst ha;exact rgn_skip hi hs hf hr hQ hy hS h
theorem rck (i:Nat) {oi:Oper} {fuel:Nat} {listed:Array Bool} {a:Act} {w:World}
  (h: ∀ K:Act->World->Prop,Shut (∀ a w,S w->(S w->wpAnyH P md l.toArray Q S fuel (listed.setIfInBounds i true) a w)->K a w)->if Region.wanted oi (yielded l.toArray a.tmps)=true then Oper.wp P oi a w K Q else K (a.put oi.dst undef) w)
  (hi:l[i]?=some oi:=by rfl) (hr:Region.ready md l.toArray listed=[i]:=by kernel_rfl):wpAnyH P md l.toArray Q S (fuel+1) listed a w:=rgn_call hi hr h
theorem rgn_both {i j:Nat} {oi oj:Oper} {fuel:Nat} {listed:Array Bool} {a:Act} {w:World} (hi:l[i]?=some oi) (hj:l[j]?=some oj) (hr:Region.ready md l.toArray listed=[i,j])
  (h: ∀ K:Act->World->Prop,Shut (∀ a w,S w->(S w->wpAnyH P md l.toArray Q S fuel (listed.setIfInBounds i true) a w)->K a w)->if Region.wanted oi (yielded l.toArray a.tmps)=true then Oper.wp P oi a w K Q else K (a.put oi.dst undef) w)
  (k: ∀ K:Act->World->Prop,Shut (∀ a w,S w->(S w->wpAnyH P md l.toArray Q S fuel (listed.setIfInBounds j true) a w)->K a w)->if Region.wanted oj (yielded l.toArray a.tmps)=true then Oper.wp P oj a w K Q else K (a.put oj.dst undef) w):
  wpAnyH P md l.toArray Q S (fuel+1) listed a w:=
 wpAnyH_ready hr (by simp) (AllReadyH.cons (by simpa using hi) h (AllReadyH.cons (by simpa using hj) k AllReadyH.nil))
theorem rgn_three {i j k:Nat} {oi oj ok:Oper} {fuel:Nat} {listed:Array Bool} {a:Act} {w:World} (hi0:l[i]?=some oi) (hj0:l[j]?=some oj) (hk0:l[k]?=some ok) (hr:Region.ready md l.toArray listed=[i,j,k])
  (hi: ∀ K:Act->World->Prop,Shut (∀ a w,S w->(S w->wpAnyH P md l.toArray Q S fuel (listed.setIfInBounds i true) a w)->K a w)->if Region.wanted oi (yielded l.toArray a.tmps)=true then Oper.wp P oi a w K Q else K (a.put oi.dst undef) w)
  (hj: ∀ K:Act->World->Prop,Shut (∀ a w,S w->(S w->wpAnyH P md l.toArray Q S fuel (listed.setIfInBounds j true) a w)->K a w)->if Region.wanted oj (yielded l.toArray a.tmps)=true then Oper.wp P oj a w K Q else K (a.put oj.dst undef) w)
  (hk: ∀ K:Act->World->Prop,Shut (∀ a w,S w->(S w->wpAnyH P md l.toArray Q S fuel (listed.setIfInBounds k true) a w)->K a w)->if Region.wanted ok (yielded l.toArray a.tmps)=true then Oper.wp P ok a w K Q else K (a.put ok.dst undef) w):
  wpAnyH P md l.toArray Q S (fuel+1) listed a w:=
 wpAnyH_ready hr (by simp) (AllReadyH.cons (by simpa using hi0) hi (AllReadyH.cons (by simpa using hj0) hj (AllReadyH.cons (by simpa using hk0) hk AllReadyH.nil)))
end
def fnvStep (h:Nat) (c:UInt8):Nat:=((h ^^^ c.toNat)*1099511628211) % 18446744073709551616
def fnv (l:List UInt8):Nat:=l.foldl fnvStep 14695981039346656037
def hop (key:List UInt8):Nat:=fnv key / 4294967296 ||| 1
def walkAt (key:List UInt8) (i:Nat):Nat:=(fnv key+i*hop key) % 18446744073709551616
def place (key:List UInt8) (i m:Nat):Nat:=walkAt key i % m
def mask (p:Nat):UInt8:=UInt8.ofNat (2 ^ (p % 8))
def setBit (B:List UInt8) (p:Nat):List UInt8:=B.set (p / 8) (B.getD (p / 8) 0 ||| mask p)
def addUp (B:List UInt8) (key:List UInt8):Nat->List UInt8
 | 0=>B
 | k+1=>setBit (addUp B key k) (place key k (8*B.length))
def addKey (B:List UInt8) (key:List UInt8):List UInt8:=addUp B key 4
def addAll (B:List UInt8) (keys:List (List UInt8)):List UInt8:=keys.foldl addKey B
theorem fnvStep_lt (h:Nat) (c:UInt8):fnvStep h c<18446744073709551616:=Nat.mod_lt _ (by omega)
theorem fnv_lt (l:List UInt8):fnv l<18446744073709551616:=by
 unfold fnv;rcases List.eq_nil_or_concat l with rfl | ⟨l,c,rfl⟩
 .rw[List.foldl_nil];omega
 .rw[List.concat_eq_append,List.foldl_append,List.foldl_cons,List.foldl_nil];exact fnvStep_lt _ _
theorem fnv_take (l:List UInt8) (k:Nat) (h:k<l.length):fnv (l.take (k+1))=fnvStep (fnv (l.take k)) l[k]:=by
 unfold fnv;rw[List.take_succ_eq_append_getElem h,List.foldl_append,List.foldl_cons,List.foldl_nil]
theorem walkAt_zero (key:List UInt8):walkAt key 0=fnv key:=by
 unfold walkAt;rw[Nat.zero_mul,Nat.add_zero,Nat.mod_eq_of_lt (fnv_lt key)]
theorem walkAt_succ (key:List UInt8) (i:Nat):walkAt key (i+1)=(walkAt key i+hop key) % 18446744073709551616:=by
 unfold walkAt;rw[Nat.succ_mul,Nat.mod_add_mod,Nat.add_assoc]
theorem place_lt (key:List UInt8) (i m:Nat) (hm:0<m):place key i m<m:=Nat.mod_lt _ hm
theorem place_byte (key:List UInt8) (i n:Nat) (hn:0<n):place key i (8*n) / 8<n:=by
 have:=place_lt key i (8*n) (by omega);omega
theorem mask_nat (p:Nat):(mask p).toNat=2 ^ (p % 8):=by
 unfold mask;have h:p % 8<8:=Nat.mod_lt _ (by omega);have:2 ^ (p % 8)<256:=by
  have:=Nat.pow_lt_pow_right (a:=2) (by omega) h;simpa using this
 simp[Nat.mod_eq_of_lt this]
theorem length_setBit (B:List UInt8) (p:Nat):(setBit B p).length=B.length:=by simp[setBit]
theorem length_addUp (B key:List UInt8): ∀ k,(addUp B key k).length=B.length
 | 0=>rfl
 | k+1=>by rw[addUp,length_setBit,length_addUp B key k]
theorem length_addKey (B key:List UInt8):(addKey B key).length=B.length:=length_addUp B key 4
theorem length_addAll (keys:List (List UInt8)): ∀ B,(addAll B keys).length=B.length:=by
 induction keys with
 | nil=>intro B;rfl
 | cons k ks ih=>intro B;show (addAll (addKey B k) ks).length=_;rw[ih,length_addKey]
theorem addAll_append (B:List UInt8) (ks ls:List (List UInt8)):addAll B (ks++ls)=addAll (addAll B ks) ls:=List.foldl_append
def Filt (w:World) (g h n c:Nat) (B:List UInt8):Prop:=
 At w g 274 #[.slice (some ⟨h,0,none⟩) n c]/\ ∃ cur,At w h 5 cur/\n=B.length/\n<=cur.size/\ ∀ j (hj:j<B.length),cur[j]?=some (bv B[j])
section filt
variable {w w':World} {g h n c:Nat} {B:List UInt8}
theorem Filt.ne (f:Filt w g h n c B):g≠h:=by
 obtain⟨h1,cur,h2,_⟩:=f;exact h1.ne h2 (by decide)
theorem Filt.lt (f:Filt w g h n c B):g<w.heap.size/\h<w.heap.size:=by
 obtain⟨h1,cur,h2,_⟩:=f;exact⟨h1.lt,h2.lt⟩
theorem Filt.len (f:Filt w g h n c B):n=B.length:=by
 obtain⟨_,cur,_,h3,_⟩:=f;exact h3
theorem Filt.chg {S:Nat->Prop} (f:Filt w g h n c B) (k:Chg S w w') (hg:¬ S g) (hh:¬ S h):Filt w' g h n c B:=by
 obtain⟨h1,cur,h2,h3⟩:=f;exact⟨h1.chg k hg,cur,h2.chg k hh,h3⟩
theorem Filt.new (f:Filt w g h n c B) (k:Chg No w w'):Filt w' g h n c B:=f.chg k id id
theorem Filt.head (f:Filt w g h n c B):w.cell? ⟨g,0,none⟩=some (.slice (some ⟨h,0,none⟩) n c):=by rw[f.1.cell];rfl
theorem Filt.bit (f:Filt w g h n c B) {j:Nat} (hj:j<B.length):w.cell? ⟨h,j,none⟩=some (.int .u8 (B[j].toNat:Int)):=by
 obtain⟨_,cur,h2,_,_,h5⟩:=f;rw[h2.cell,h5 j hj];rfl
theorem Filt.free (f:Filt w g h n c B) (j:Nat):w.frozen? ⟨h,j,none⟩=false:=by
 obtain⟨_,cur,h2,_⟩:=f;exact h2.frozen j
theorem Filt.rd (f:Filt w g h n c B):Rd w (some ⟨h,0,none⟩) B:=by
 obtain⟨_,cur,h2,_,_,h5⟩:=f;exact RdV.of_at h2 fun j hj=>by rw[h5 j (by simpa using hj)];simp
theorem Filt.set (f:Filt w g h n c B) (j:Nat) (hj:j<B.length) (b:UInt8):Filt (w.setCell ⟨h,j,none⟩ (bv b)) g h n c (B.set j b):=by
 have hne:=f.ne;obtain⟨h1,cur,h2,h3,h4,h5⟩:=f;refine⟨h1.far (by simpa using hne) _,_,h2.set j _,by simpa using h3,by simpa using h4,fun i hi=>?_⟩;simp only[List.length_set] at hi;rw[Array.getElem?_setIfInBounds];by_cases e:j=i
 .subst e;have hb:=h5 j hj;have hlt:j<cur.size:=(Array.getElem?_eq_some_iff.1 hb).1;simp[hlt]
 .rw[if_neg e,h5 i hi];simp[e]
end filt
theorem size_ok (k e:Int) (w:World) (h:0<=k/\k<=65536/\1<=e/\e<=32) (hm:0<=k*e/\k*e<=2097152):
  Calls Tryz.prog 198 #[.int .i64 k,.int .i64 e] w fun x w'=>x = .returned (.tuple #[.int .i64 ((max (k*e) 64+7) / 8*8),.int .i64 0])/\w=w':=by
 obtain⟨h1,h2,h3,h4⟩:=h;obtain⟨h5,h6⟩:=hm;by_cases h7:k*e<64
 .have H1:=ah (show max (k*e) 64=64 by omega);go_enter Tryz.func198, Tryz.ntmps198;go_wp2;rw[H1.o];go_ret2;exact⟨rfl,rfl⟩
 .have H1:=ah (show max (k*e) 64=k*e by omega);go_enter Tryz.func198, Tryz.ntmps198;go_wp2;rw[H1.o];go_ret2;exact⟨rfl,rfl⟩
def EachPost (st:Nat->World->Prop) (go:Nat->Bool) (e:Ending) (w':World):Prop:=
 e = .returned (.bool (go 0 && go 1 && go 2 && go 3))/\ ∃ k,st k w'/\((go 0 && go 1 && go 2 && go 3)=true->k=4)
theorem xor_step (x:Nat) (c:UInt8) (hx:x<18446744073709551616):IntKind.u64.wrap (bits .xor .u64 (x:Int) (IntKind.u64.wrap (c.toNat:Int))*1099511628211)=(fnvStep x c:Int):=by
 have hc:=c.toNat_lt;have e1:IntKind.u64.wrap (c.toNat:Int)=(c.toNat:Int):=by
  simp only[IntKind.wrap,IntKind.bits,IntKind.signed];simp;omega
 rw[e1];rw[u64_xor_nat x c.toNat hx (by omega)];simp only[IntKind.wrap,IntKind.bits,IntKind.signed];unfold fnvStep;simp
theorem or_step (key:List UInt8):bits .or .u64 ((fnv key:Int) / 4294967296) 1=(hop key:Int):=by
 have hf:=fnv_lt key;have:((fnv key:Int) / 4294967296)=((fnv key / 4294967296:Nat):Int):=by simp
 rw[this];exact u64_or_nat (fnv key / 4294967296) 1 (by omega) (by omega)
theorem mask_int (p:Nat):((mask p).toNat:Int)=2 ^ (p % 8) % 256:=by
 have h:=(mask p).toNat_lt;have e:((2 ^ (p % 8):Nat):Int)=(2:Int) ^ (p % 8):=by simp
 rw[<-e, <-mask_nat];omega
theorem wrap_add (a b:Nat):IntKind.u64.wrap ((a:Int)+(b:Int))=(((a+b) % 18446744073709551616:Nat):Int):=by
 simp[IntKind.wrap,IntKind.bits,IntKind.signed]
theorem each_false {st:Nat->World->Prop} {go:Nat->Bool} {k:Nat} {W:World} (hk:k<4) (hst:st (k+1) W) (hpre: ∀ j,j<k->go j=true) (hgo:go k=false):
  EachPost st go (.returned (.bool false)) W:=by
 have:(go 0 && go 1 && go 2 && go 3)=false:=by
  match k,hk with
  | 0,_=>simp[hgo]
  | 1,_=>simp[hgo]
  | 2,_=>simp[hgo]
  | 3,_=>simp[hgo]
 exact⟨by rw[this],k+1,hst,fun h=>by rw[this] at h;cases h⟩
theorem each_true {st:Nat->World->Prop} {go:Nat->Bool} {W:World} (hst:st 4 W) (hpre: ∀ j,j<4->go j=true):EachPost st go (.returned (.bool true)) W:=
 ⟨by simp[hpre],4,hst,fun _=>rfl⟩
theorem each_any (g h n c fid:Nat) (cap:Value) (st:Nat->World->Prop) (go:Nat->Bool) (A:Option Addr) (kc:Nat) (key:List UInt8) (w:World) (hn:8<=n/\n<=262144) (hl:key.length<=9223372036854775807)
  (hcf: ∀ args W,Sem.run Tryz.prog (callFunc fid args) W = .ok (.enter fid args) W)
  (hst: ∀ k W,st k W->W.cell? ⟨g,0,none⟩=some (.slice (some ⟨h,0,none⟩) n c)) (hk:Rd w A key)
  (hcall: ∀ (k:Nat) (W:World) (a b:Int),k<4->st k W->a=((place key k (8*n) / 8:Nat):Int)->b=((mask (place key k (8*n))).toNat:Int)->
   Calls Tryz.prog fid #[.int .i64 a,.int .u8 b,cap] W fun e W'=>e = .returned (.bool (go k))/\st (k+1) W')
  (h0:st 0 w):
  Calls Tryz.prog 199 #[.pointer (some ⟨g,0,none⟩),.slice A key.length kc,.func (.func fid) #[] #[cap]] w (EachPost st go):=by
 have HK:=ah hk;clear hk;have HC:=ah hcall;clear hcall;have HS:=ah hst;clear hst;have H0:=ah h0;clear h0;obtain⟨hn1,hn2⟩:=hn;go_enter Tryz.func199, Tryz.ntmps199;go_wp2;go_loop [7,9,14] (fun h _ i=> ∃ k:Nat,k<=key.length/\i = .int .i64 k/\h = .int .u64 (fnv (key.take k))) (fun _ _ i=>key.length - (intOf i).toNat)
 case atStart=>exact⟨0,by omega,rfl,rfl⟩
 case round=>
  obtain⟨k,hk,rfl,rfl⟩:=hrel;by_cases hlt:k<key.length
  .obtain⟨b,o,rfl,hc⟩:=HK.o.get hlt;have HX:=ah (xor_step (fnv (key.take k)) key[k] (fnv_lt _));have HT:=ah (fnv_take key k hlt);generalize key[k]=x at hc HX HT;go_wp2;go_round
   case rel=>exact⟨k+1,by omega,by go_num,by rw[HT.o, <-HX.o]⟩
   case measure=>simp[intOf];omega
  .have ht:key.take k=key:=List.take_of_length_le (by omega);rw[ht];clear ht;have HO:=ah (or_step key);go_wp2;rw[HO.o];go_loopw [7,11,27] (fun x _ i wr=> ∃ k:Nat,k<=4/\i = .int .i64 k/\x = .int .u64 (walkAt key k)/\Hid (st k wr/\ ∀ j,j<k->go j=true)) (fun _ _ i _=>4 - (intOf i).toNat)
   case atStart=>exact⟨0,by omega,rfl,by rw[walkAt_zero],H0.o,fun j hj=>by omega⟩
   case round=>
    obtain⟨k,hk,rfl,rfl,HR⟩:=hrel;by_cases hlt:k<4
    .have hc:=HS.o _ _ HR.o.1;have hpl:(walkAt key k:Int) % (8*(n:Int))=(place key k (8*n):Int):=by unfold place;simp
     have hp:=place_lt key k (8*n) (by omega);have HG:=ah (fun W a b=>HC.o k W a b hlt);generalize place key k (8*n)=p at hpl hp HG;have hm:=mask_int p;have HM:=ah hm;clear hm;have HR:=HR;go_wp2_with fail;refine(HG.o _ _ _ HR.o.1 (by simp) HM.o.symm).mono ?_;rintro e W' ⟨rfl,hs⟩;have HS':=ah hs;clear hs;rcases hgo:go k with _ | _
     .go_wp2;go_ret;exact each_false hlt HS'.o HR.o.2 hgo
     .have HG':=ah hgo;clear hgo;go_wp2;go_roundw
      case rel=>
       refine⟨k+1,by omega,by go_num,?_,HS'.o,fun j hj=>?_⟩
       .rw[walkAt_succ];exact congrArg (Value.int .u64) (wrap_add _ _)
       .rcases Nat.lt_succ_iff_lt_or_eq.1 hj with h | rfl
        .exact HR.o.2 j h
        .exact HG'.o
      case measure=>simp[intOf];omega
    .obtain rfl:k=4:=by omega
     go_wp2;go_ret;exact each_true HR.o.1 HR.o.2
end Go.Proofs.YtmbaiglpgaoogaaGreat
