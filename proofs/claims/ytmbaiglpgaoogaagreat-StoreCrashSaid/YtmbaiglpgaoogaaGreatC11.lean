/- Joined, as they were built one by one: Ext15 Ext16 Ext17 Ext18 Ext19 Sto1 Ext20 WalApp ExtC WalRead WalLaw SpSwitch. -/
import Derived.Test.YtmbaiglpgaoogaaGreatC02
import Derived.Test.YtmbaiglpgaoogaaGreatC04
import Derived.Test.YtmbaiglpgaoogaaGreatC08
import Derived.Test.YtmbaiglpgaoogaaGreatC09
import Derived.Test.YtmbaiglpgaoogaaGreatC10
set_option maxHeartbeats 16000000
set_option linter.unusedVariables false
set_option maxRecDepth 100000
namespace Go.Proofs.YtmbaiglpgaoogaaGreat
open Go.RowKit Go.Sort Z
section
variable {w0 w:World} {F:SP} {α:Type} [Inhabited α]
theorem Fp {enc:α->Value} {cur:Array Value} {d:Array α} {m:Nat} (hm:d.size=m) (h:m<=cur.size):(putCells enc 0 d cur).toList.take m=d.toList.map enc:=by
 subst hm;apply List.ext_getElem?;intro j;by_cases hj:j<d.size
 .rw[List.getElem?_take_of_lt hj,Array.getElem?_toList];simp[putCells,hj,show j<cur.size by omega]
 .rw[List.getElem?_take_eq_none (by omega),List.getElem?_eq_none (by simp;omega)]
theorem Sat.sorted {e:TypeId} {size n cap g q:Nat} {xs:List Value} {os:Array Obj} (enc:α->Value) (d:Array α) (h:Sat w0 (Row e size (.slice (some ⟨g,0,none⟩) n cap) n xs*F) w) (hs:d.size=n*size):
 Sat w0 (Row e size (.slice (some ⟨g,0,none⟩) n cap) n (d.toList.map enc)*F) (grow (putRow enc (Sort.ahead w q) g 0 d) os):=by
 obtain⟨hl,⟨h1,_⟩ | ⟨g',cap',cur,h1,h2,h3,h4,h5,h6⟩⟩:=h.cw
 .cases h1
 .injection h1 with e1 e2 e3
  injection e1 with e1
  injection e1 with e1
  subst e1;subst e3;have hb:=h6.block;have hg:g<w.heap.size:=(Array.getElem?_eq_some_iff.1 hb).1;have hb':(grow (putRow enc (Sort.ahead w q) g 0 d) os).heap[g]?=some (.cells (putCells enc 0 d cur) e (0,0)):=by
   unfold grow;rw[Array.getElem?_append_left (by simpa using hg)];simp[putRow,mapBlock,Sort.ahead,Array.getElem?_modify,hb,onCells]
  have hk:w.grownBy (grow (putRow enc (Sort.ahead w q) g 0 d) os) (some g):=by
   refine⟨rfl,rfl,rfl,by simp,fun k hk hne=>?_⟩;unfold grow;rw[Array.getElem?_append_left (by simpa using hk)];have:g≠k:=fun e=>hne (by rw[e])
   simp[putRow,mapBlock,Sort.ahead,Array.getElem?_modify,this]
  have h7:Sat w0 (Pt g e (putCells enc 0 d cur)*F) (grow (putRow enc (Sort.ahead w q) g 0 d) os):=h6.turn ((aq.eG hk).mono fun i _ hi=>Option.some.inj hi) hb';have hsz:(putCells enc 0 d cur).size=cap*size:=by unfold putCells;rw[Array.size_mapIdx,h4]
  have h8:=Sat.ef (n:=n) h7 h2 h3 hsz;rw[Fp hs (by rw[h4];exact Nat.mul_le_mul_right _ h2)] at h8;exact h8
end
def rn (x:Nat × Nat × Nat):List Value:=dC x
def cmpL (x y:Nat × Nat × Nat):Int:=Lib.compareInt (x.2.1:Int) (y.2.1:Int)
theorem qg (x y:Nat × Nat × Nat):ltOf cmpL x y=decide (x.2.1<y.2.1):=by
 unfold ltOf cmpL Lib.compareInt;by_cases h1:(x.2.1:Int)<y.2.1
 .rw[if_pos h1,decide_eq_true (by omega),decide_eq_true (by omega)]
 .rw[if_neg h1];by_cases h2:(x.2.1:Int)>y.2.1
  .rw[if_pos h2,decide_eq_false (by omega),decide_eq_false (by omega)]
  .rw[if_neg h2,decide_eq_false (by omega),decide_eq_false (by omega)]
theorem Gr:SWO (ltOf cmpL) where
 irrefl x:=by rw[qg];simp
 trans x y z h1 h2:=by rw[qg] at*;simp at*;omega
 ntrans x y z h1 h2:=by rw[qg] at*;simp at*;omega
theorem Fk (x y:Nat × Nat × Nat) (W:World):Calls Tryz.prog 95 #[.agg #[.int .i64 (x.1:Int),.int .i64 (x.2.1:Int),.int .i64 (x.2.2:Int)],.agg #[.int .i64 (y.1:Int),.int .i64 (y.2.1:Int),.int .i64 (y.2.2:Int)]] W fun e w'=>e = .returned (.int .i64 (cmpL x y))/\ ∃ q os',w'=grow (W.drewN q) os':=by
 have hcon:=fun W'=>AnyG.cmp_Compare_int H8 (x.2.1:Int) (y.2.1:Int) W'
 change ∀ W',Calls Tryz.prog 96 _ _ _ at hcon
 unfold cmpL;generalize Lib.compareInt (x.2.1:Int) (y.2.1:Int)=r at hcon ⊢;go_enter Tryz.func95, Tryz.ntmps95;go_wp2_with (go_at_call 96;refine(hcon _).mono ?_;rintro e w' ⟨rfl,rfl⟩);go_ret;exact⟨rfl,0,_,by rw[alloc_eq_grow,alloc_eq_grow,grow_grow];rfl⟩
theorem Kk (l:List (Nat × Nat × Nat)):(flatK rn 3 l.toArray).toList=l.flatMap dC:=by
 apply List.ext_getElem?;intro t;by_cases ht:t<l.length*3
 .have h1:t<(flatK rn 3 l.toArray).size:=by rw[size_flatK];exact ht
  have h2:=get_flatK rn 3 l.toArray t ht;rw[getElem!_pos _ t h1] at h2;have hk:t / 3<l.length:=by omega
  have h3:=vD l (t / 3) (t % 3) hk (by omega);rw[show t / 3*3+t % 3=t by omega] at h3;rw[Array.getElem?_toList,Array.getElem?_eq_getElem h1,h2,h3,getElem!_pos l.toArray (t / 3) (by simpa using hk)];simp only[List.getElem_toArray];have h4:t % 3<(rn l[t / 3]).length:=by show _<3;omega
  rw[getElem!_pos (rn l[t / 3]) (t % 3) h4];exact(List.getElem?_eq_getElem h4).symm
 .rw[List.getElem?_eq_none (by simp;omega),List.getElem?_eq_none (by rw[rU];omega)]
section
variable {α:Type} [Inhabited α]
theorem po {d d':Array α} (h:PermIn 0 d.size d d'):d'.toList.Perm d.toList:=by
 obtain⟨h1,_,h3⟩:=h;have e1:d'.extract 0 d.size=d':=by rw[<-h1];exact Array.extract_size
 rw[e1,Array.extract_size] at h3;exact h3
theorem mB {lt:α->α->Bool} {d:Array α} {n:Nat} (hn:n=d.size) (h:SortedIn lt 0 n d):d.toList.Pairwise fun a b=>lt b a=false:=by
 subst hn;rw[List.pairwise_iff_getElem];intro i j hi hj hij;have h1:=h i j (Nat.zero_le _) hij (by simpa using hj);rw[getElem!_pos d i (by simpa using hi),getElem!_pos d j (by simpa using hj)] at h1;exact h1
end
section
variable {w0 w:World} {F:SP}
theorem wZ (dz:List (Nat × Nat × Nat)) (n:Nat) (A:Option Addr) (c:Nat) (h:Sat w0 (Row 128 3 (.slice A n c) n (dz.flatMap dC)*F) w) (hn:dz.length=n) (hl:n<=1000000):
 Calls Tryz.prog 98 #[.slice A n c,.func (.func 95) #[] #[]] w fun e w'=>e = .returned (.tuple #[])/\ ∃ lie':List (Nat × Nat × Nat),lie'.Perm dz/\lie'.Pairwise (fun a b=>a.2.1<=b.2.1)/\Sat w0 (Row 128 3 (.slice A n c) n (lie'.flatMap dC)*F) w':=by
 by_cases h0:n=0
 .subst h0;have hcon:=AnyF.slices_SortFunc_none (P:= Tryz.prog) (ρ:=pB) { Cd with } A c (.func (.func 95) #[] #[]) w;change Calls Tryz.prog 98 _ _ _ at hcon
  refine hcon.mono fun e w' ⟨h1,h2⟩=>⟨h1,dz,List.Perm.refl _,?_,?_⟩
  .rw[List.eq_nil_of_length_eq_zero hn];exact List.Pairwise.nil
  .rw[h2];exact h
 .have hh:=h;obtain⟨hl2,⟨h1,h2,_⟩ | ⟨g,cap,cur,h1,h2,h3,h4,h5,h6⟩⟩:=h.cw
  .exact absurd h2 h0
  .injection h1 with e1 e2 e3
   subst e1;subst e3;have hb:=h6.block;have hg:g<w.heap.size:=(Array.getElem?_eq_some_iff.1 hb).1;have eg: ∀ args w,(callFunc 95 args).run Tryz.prog w = .ok (.enter 95 args) w:=enters_of Tryz.func95 (by kernel_rfl) rfl;have hH:HoldsK rn 3 w g 0 dz.toArray:=by
    intro j hj;rw[size_flatK] at hj;have hj2:j<dz.length*3:=by simpa using hj
    have hjs:j<(flatK rn 3 dz.toArray).size:=by rw[size_flatK];exact hj
    refine⟨?_,hh.jl (0+j)⟩;have h7:(flatK rn 3 dz.toArray).toList[j]?=cur.toList[j]?:=by
     rw[Kk, <-h5,List.getElem?_take,if_pos (by omega)]
    rw[Array.getElem?_toList,Array.getElem?_toList,Array.getElem?_eq_getElem hjs] at h7;rw[cell_of_row w g (0+j) _ _ _ hb,Nat.zero_add, <-h7,getElem!_pos _ j hjs];rfl
   have hcon:=AnyQ.slices_SortFunc Cd 3 Tryz.isAgg128 Tryz.sizeOf128 rn (fun _=>rfl) (fun x v hv=>by simp[rn,dC] at hv;rcases hv with rfl | rfl | rfl<;>rfl) cmpL Gr 95 #[] g 0 c dz.toArray w eg (fun _ _ _ _ x y=>Fk x y _) hH hg (by simp;omega);change Calls Tryz.prog 98 _ _ _ at hcon
   have hsz:dz.toArray.size=n:=by simpa using hn
   rw[hsz] at hcon;refine hcon.mono fun e w' ⟨k1,d',q,os,k2,k3,k4⟩=>⟨k1,d'.toList,?_,?_,?_⟩
   .rw[<-hsz] at k2;have:=po k2;simpa using this
   .have hd:d'.size=n:=by have:=k2.1;rw[this,hsz]
    refine(mB hd.symm k3).imp fun {a b} hab=>?_
    rw[qg] at hab;have:=of_decide_eq_false hab;omega
   .have hd:d'.size=n:=by have:=k2.1;rw[this,hsz]
    rw[k4];have h9:=Sat.sorted (q:=q) (os:=os) id (flatK rn 3 d') hh (by rw[size_flatK,hd]);rw[List.map_id] at h9;have h10:=Kk d'.toList;simp only[Array.toArray_toList] at h10;rw[h10] at h9;exact h9
theorem Iq (p q:Nat) (x y:Int) (W:World) (h1:W.cell? ⟨p,0,none⟩=some (.int .i64 x)) (h2:W.cell? ⟨q,0,none⟩=some (.int .i64 y)):
 Calls Tryz.prog 101 #[aZ p,aZ q] W fun e w'=>e = .returned (.int .i64 (Lib.compareInt x y))/\ ∃ m os',w'=grow (W.drewN m) os':=by
 have hcon:=fun W'=>AnyG.cmp_Compare_int H8 x y W'
 change ∀ W',Calls Tryz.prog 96 _ _ _ at hcon
 generalize Lib.compareInt x y=r at hcon ⊢;have k1:W.drew.cell? ⟨p,0,none⟩=some (.int .i64 x):=h1;have k2:W.drew.cell? ⟨q,0,none⟩=some (.int .i64 y):=h2;unfold aZ;go_enter Tryz.func101, Tryz.ntmps101;go_upto_region 1 with fail;go_region_law (go_simp;go_at_call 96;refine(hcon _).mono ?_;rintro e w' ⟨rfl,rfl⟩)
 all_goals
  go_wp2_with fail;go_ret;exact⟨rfl,1, #[],by simp;rfl⟩
theorem sT (x y:Int):(decide (Lib.compareInt x y<0):Bool)=decide (x<y):=by
 unfold Lib.compareInt;by_cases h1:x<y
 .rw[if_pos h1,decide_eq_true (by omega),decide_eq_true h1]
 .rw[if_neg h1];by_cases h2:x>y
  .rw[if_pos h2,decide_eq_false (by omega),decide_eq_false h1]
  .rw[if_neg h2,decide_eq_false (by omega),decide_eq_false h1]
theorem nh {β:Type} (gs:List β):(List.finRange gs.length).map (fun i=>gs.get i)=gs:=by
 apply List.ext_getElem
 .simp
 .intro j h1 h2;simp
theorem yZ (gs:List (Nat × Fl)) (n:Nat) (A:Option Addr) (c:Nat) (h:Sat w0 (Row 155 1 (.slice A n c) n (gs.map fun x=>aZ x.1)*(br gs*F)) w) (hn:gs.length=n) (hl:n<=1000000):
 Calls Tryz.prog 100 #[.slice A n c,.func (.func 101) #[] #[]] w fun e w'=>e = .returned (.tuple #[])/\ ∃ gs':List (Nat × Fl),gs'.Perm gs/\gs'.Pairwise (fun a b=>a.2.num<=b.2.num)/\Sat w0 (Row 155 1 (.slice A n c) n (gs'.map fun x=>aZ x.1)*(br gs'*F)) w':=by
 by_cases h0:n=0
 .subst h0;have hcon:=AnyF.slices_SortFunc_none (P:= Tryz.prog) (ρ:=ph) { BM with } A c (.func (.func 101) #[] #[]) w;change Calls Tryz.prog 100 _ _ _ at hcon
  refine hcon.mono fun e w' ⟨h1,h2⟩=>⟨h1,gs,List.Perm.refl _,?_,?_⟩
  .rw[List.eq_nil_of_length_eq_zero hn];exact List.Pairwise.nil
  .rw[h2];exact h
 .have hh:=h;obtain⟨hl2,⟨h1,h2,_⟩ | ⟨g,cap,cur,h1,h2,h3,h4,h5,h6⟩⟩:=h.cw
  .exact absurd h2 h0
  .injection h1 with e1 e2 e3
   subst e1;subst e3;have hb:=h6.block;have hg:g<w.heap.size:=(Array.getElem?_eq_some_iff.1 hb).1;have eg: ∀ args w,(callFunc 101 args).run Tryz.prog w = .ok (.enter 101 args) w:=enters_of Tryz.func101 (by kernel_rfl) rfl;subst hn
   haveI:Inhabited (Fin gs.length):=⟨⟨0,by omega⟩⟩
   obtain⟨enc,henc⟩: ∃ enc:Fin gs.length->Value,enc=fun i=>aZ (gs.get i).1:=⟨_,rfl⟩;obtain⟨cf,hcf⟩: ∃ cf:Fin gs.length->Fin gs.length->Int,cf=fun i j=>Lib.compareInt ((gs.get i).2.num:Int) ((gs.get j).2.num:Int):=⟨_,rfl⟩;have hlt: ∀ i j,ltOf cf i j=decide (((gs.get i).2.num:Int)<(gs.get j).2.num):=fun i j=>by unfold ltOf;rw[hcf];exact sT _ _
   have hO:SWO (ltOf cf):=by
    refine⟨fun x=>?_,fun x y z a b=>?_,fun x y z a b=>?_⟩
    .rw[hlt];simp
    .rw[hlt] at*;simp at*;omega
    .rw[hlt] at*;simp at*;omega
   obtain⟨d,hd⟩: ∃ d:Array (Fin gs.length),d=(List.finRange gs.length).toArray:=⟨_,rfl⟩;have hds:d.size=gs.length:=by rw[hd];simp
   have hmap: ∀ l:List (Fin gs.length),l.map enc=(l.map fun i=>gs.get i).map fun x=>aZ x.1:=fun l=>by rw[henc,List.map_map];rfl
   have hall:d.toList.map enc=gs.map fun x=>aZ x.1:=by rw[hmap,hd];show ((List.finRange gs.length).map fun i=>gs.get i).map _=_;rw[nh]
   have hH:Holds enc w g 0 d:=by
    intro j hj;refine⟨?_,hh.jl (0+j)⟩;have h7:(d.toList.map enc)[j]?=cur.toList[j]?:=by
     rw[hall, <-h5,List.getElem?_take,if_pos (by omega)]
    rw[List.getElem?_map,Array.getElem?_toList,Array.getElem?_toList,Array.getElem?_eq_getElem hj,Option.map_some] at h7;rw[cell_of_row w g (0+j) _ _ _ hb,Nat.zero_add, <-h7,getElem!_pos d j hj]
   have hcmp:CmpLays1 Tryz.prog 101 #[] enc cf g 0 d.size w:=by
    intro m os dk hdk x y;have h7:=Sat.sorted (q:=m) (os:=os) enc dk hh (by rw[hdk,hds];omega);obtain⟨W,hW⟩: ∃ W,W=sortWorld enc w g 0 m dk os:=⟨_,rfl⟩;have h8:Sat w0 (br gs*(Row 155 1 (.slice (some ⟨g,0,none⟩) gs.length c) gs.length (dk.toList.map enc)*F)) W:=by rw[hW];exact h7.av
    rw[<-hW];obtain⟨v1,k1,_,g1⟩:=Sat.fl (h8.of (show _=ni (gs.get x).1 (gs.get x).2*(br (gs.eraseIdx x)*(Row 155 1 (.slice (some ⟨g,0,none⟩) gs.length c) gs.length (dk.toList.map enc)*F)) by rw[nb x.2,aj];rfl));obtain⟨v2,k2,_,g2⟩:=Sat.fl (h8.of (show _=ni (gs.get y).1 (gs.get y).2*(br (gs.eraseIdx y)*(Row 155 1 (.slice (some ⟨g,0,none⟩) gs.length c) gs.length (dk.toList.map enc)*F)) by rw[nb y.2,aj];rfl));have h9:=Iq (gs.get x).1 (gs.get y).1 ((gs.get x).2.num:Int) ((gs.get y).2.num:Int) W (g1.cell 0) (g2.cell 0);rw[henc,hcf];exact h9
   have hcon:=Any.slices_SortFunc BM enc (fun x=>by rw[henc];rfl) cf hO 101 #[] g 0 c d w eg hcmp hH hg (by omega);change Calls Tryz.prog 100 _ _ _ at hcon
   rw[hds] at hcon;refine hcon.mono fun e w' ⟨k1,d',q,os,k2,k3,k4⟩=>?_
   have hd':d'.size=gs.length:=by have:=k2.1;rw[this,hds]
   have hp:(d'.toList.map fun i=>gs.get i).Perm gs:=by
    have k2':PermIn 0 d.size d d':=by rw[hds];exact k2
    have h7:=(po k2').map fun i=>gs.get i
    rw[hd] at h7;have h8:((List.finRange gs.length).toArray.toList.map fun i=>gs.get i)=gs:=nh gs;rw[h8] at h7;exact h7
   refine⟨k1,d'.toList.map fun i=>gs.get i,hp,?_,?_⟩
   .rw[List.pairwise_map];refine(mB hd'.symm k3).imp fun {a b} hab=>?_
    rw[hlt] at hab;have:=of_decide_eq_false hab;omega
   .rw[k4];have h9:=Sat.sorted (q:=q) (os:=os) enc d' hh (by rw[hd'];omega);rw[sE hp, <-hmap];exact h9
end
end Go.Proofs.YtmbaiglpgaoogaaGreat
namespace Go.Proofs.YtmbaiglpgaoogaaGreat
open Go.RowKit Z
section
variable {w0 w:World} {F:SP} {s d:Nat} {D:Dk} {v:Value} {ps:List (Nat × Fl)} {S:aN} {sf:Nat->Nat} {lim n:Nat}
def kQ (f:Fl):Nat × Nat × Nat:=(f.num,f.first,f.blocks)
theorem C9 (fs:List Fl):fs.flatMap LO=(fs.map kQ).flatMap dC:=by
 rw[List.flatMap_map];rfl
theorem Ih {l m:List (Nat × Nat)} (hp:m.Perm l) (hs:m.Pairwise fun p q=>p.1<=q.1) (hl:lG n l):m=dv l:=by
 have key: ∀ {a b:List (Nat × Nat)},a.Perm b->(a.Pairwise fun p q=>p.1<q.1)->(b.Pairwise fun p q=>p.1<q.1)->a=b:=by
  intro a
  induction a with
  | nil=>intro b h _ _;rw[List.nil_perm.1 h]
  | cons x l ih=>
   intro b h ha hb
   cases b with
   | nil=>cases List.perm_nil.1 h
   | cons y m=>
    obtain⟨a1,a2⟩:=List.pairwise_cons.1 ha;obtain⟨b1,b2⟩:=List.pairwise_cons.1 hb;have e:x=y:=by
     rcases List.mem_cons.1 (h.mem_iff.1 List.mem_cons_self) with e | hx
     .exact e
     .rcases List.mem_cons.1 (h.mem_iff.2 List.mem_cons_self) with e | hy
      .exact e.symm
      .have:=a1 y hy;have:=b1 x hx;omega
    subst e;rw[ih ((List.perm_cons x).1 h) a2 b2]
 have strict: ∀ {a:List (Nat × Nat)},a.Perm l->(a.Pairwise fun p q=>p.1<=q.1)->a.Pairwise fun p q=>p.1<q.1:=fun {a} ha hle=>by
  have hap:=sr ha.symm hl.apart;refine List.Pairwise.imp_of_mem (fun {p q} hpm hqm hpq=>?_) (hle.and hap);have h1:=(hl.each p (ha.mem_iff.1 hpm)).2.1;have h2:=(hl.each q (ha.mem_iff.1 hqm)).2.1;rcases hpq with ⟨h3,h4 | h4⟩
  .omega
  .omega
 exact key (hp.trans (jI l).symm) (strict hp hs) (strict (jI l) (jZ l))
def Kq (drop:List Int) (x:Nat × Fl):Bool:= !drop.contains (x.2.num:Int)
theorem pj (hps:ps.map (·.2)=S.files) (drop:List Int):(ps.filter (Kq drop)).map (·.2)=S.files.filter fun f=> !drop.contains (f.num:Int):=by
 rw[<-hps,List.filter_map];rfl
theorem td (p:Nat × Fl->Bool):br ps=br (ps.filter p)*br (ps.filter fun x=> !p x):=by
 rw[<-kg];exact sE (List.filter_append_perm p ps).symm
def LL (w0:World) (F:SP) (s d:Nat) (r:aN × Dk × Int) (e:Ending) (w':World):Prop:=e = .returned (.int .i64 r.2.2)/\Sat w0 (ag s d r.1*(ae d r.2.1*F)) w'
theorem Kf (add:List Fi) (drop:List Int) (h:S.may add drop=false):S.switch add drop D=(S,D,31):=by unfold aN.switch;rw[if_pos h]
theorem BN (add:List Fi) (drop:List Int) (h:S.may add drop=true) (h2:(24:Int)<(S.files.length:Int)+add.length - drop.length):S.switch add drop D=(S,D,32):=by
 unfold aN.switch;rw[if_neg (by rw[h];simp),if_pos h2]
theorem CO (add:List Fi) (drop:List Int) (h:S.may add drop=true) (h2:¬ (24:Int)<(S.files.length:Int)+add.length - drop.length) (h3:ev D.cells.length ((S.turn+1) % 18446744073709551616) add S.dz (S.files.filter fun f=> !drop.contains (f.num:Int))=none):S.switch add drop D=(S,D,33):=by
 unfold aN.switch;rw[if_neg (by rw[h];simp),if_neg h2,h3]
theorem GL (add:List Fi) (drop:List Int) (h:S.may add drop=true) (h2:¬ (24:Int)<(S.files.length:Int)+add.length - drop.length) {fs:List Fl} (h3:ev D.cells.length ((S.turn+1) % 18446744073709551616) add S.dz (S.files.filter fun f=> !drop.contains (f.num:Int))=some fs):S.switch add drop D=S.put (et fs) D:=by
 unfold aN.switch;rw[if_neg (by rw[h];simp),if_neg h2,h3]
theorem Sat.ic {e:TypeId} {size n:Nat} {A:Option Addr} {c:Nat} {xs:List Value} (h:Sat w0 (Row e size (.slice A n c) n xs*F) w):aH w A xs:=fun hx=>by
 have hl:=h.cw.1;have hn:0<n:=by
  rcases Nat.eq_zero_or_pos n with h0 | h0
  .subst h0;rw[Nat.zero_mul] at hl;exact absurd (List.eq_nil_of_length_eq_zero hl) hx
  .exact h0
 obtain⟨g,e1,hg⟩:=h.nY hn;exact⟨g,0,e1,fun j hj=>by rw[Nat.zero_add];exact hg j hj⟩
theorem DB (fs:List Fl):(fs.map kQ).map (·.2)=fs.map fun f=>(f.first,f.blocks):=by rw[List.map_map];rfl
theorem Jo {n t:Nat} {x:Fi} {l:List Fi} {dz:List (Nat × Nat)} {fs:List Fl} {a:Nat} (h:bh n x.blocks 2 (dv dz)=(a,false)):ev n t (x::l) dz fs=none:=by
 rw[ev,h]
theorem lI {n t:Nat} {x:Fi} {l:List Fi} {dz:List (Nat × Nat)} {fs:List Fl} {a:Nat} (h:bh n x.blocks 2 (dv dz)=(a,true)):ev n t (x::l) dz fs=ev n t l (dz++[(a,x.blocks.toNat)]) (fs++[⟨x.num.toNat,a,x.blocks.toNat,t,1,[]⟩]):=by
 rw[ev,h]
theorem Jw (hg:Good D S sf lim) {add:List Fi} {drop:List Int} (hm:S.may add drop=true) (hc:¬ (24:Int)<(S.files.length:Int)+add.length - drop.length):add.length<=48/\ ∀ x ∈ add,(1<=x.num/\x.num<=2147483647)/\1<=x.blocks:=by
 unfold aN.may at hm;obtain⟨hm1,hm2⟩:=(Bool.and_eq_true _ _).mp hm |>fun x=>(x:_/\_)
 obtain⟨d1,d2⟩:=(fX drop []).1 hm1;obtain⟨a1,a2⟩:=(gX add []).1 hm2;have hok:=hg.fils.ok;have hcnt:=jM S.files drop hok.nums d2 (fun n hn=>uk (d1 n hn).1);have:=hok.count;exact⟨by omega,fun x hx=>⟨⟨(a1 x hx).1.1,(a1 x hx).1.2.1⟩,(a1 x hx).1.2.2⟩⟩
theorem Ar (A1:Option Addr) (c1:Nat) (add:List Fi) (A2:Option Addr) (c2:Nat) (drop:List Int) (hg:Good D S sf lim) (hlim:lim+1<=1000000000) (h:Sat w0 (aU s d S.slot S.turn v ps*(ae d D*F)) w) (hps:ps.map (·.2)=S.files)
 (hadd: ∀ W,Sat w0 F W->aH W A1 (add.flatMap E9)) (hdrop: ∀ W,Sat w0 F W->aH W A2 (drop.map (Value.int .i64))) (hn1:add.length<=1000000) (hn2:drop.length<=1000000) (hc2:drop.length<=c2)
 (hb: ∀ f ∈ add,(-9223372036854775808<=f.num/\f.num<=9223372036854775807)/\(-9223372036854775808<=f.blocks/\f.blocks<=9223372036854775807)) (hbd: ∀ n ∈ drop, -9223372036854775808<=n/\n<=9223372036854775807)
 (hw1:D.writes<=1000000000) (hw2:D.pend.length<=999999999) (hw3:D.armed<=9223372036854775807):
 Calls Tryz.prog 55 #[.pointer (some ⟨s,0,none⟩),.slice A1 add.length c1,.slice A2 drop.length c2] w (LL w0 F s d (S.switch add drop D)):=by
 obtain⟨i0,hi0',hz0',hz1',hz2'⟩:=info_parts L8;have hi0:=ah hi0';have hz0:=ah hz0';have hz1:=ah hz1';have hz2:=ah hz2';have hF:=hg.fils;have hpl:ps.length=S.files.length:=by have:=congrArg List.length hps;simpa using this
 have hp24:ps.length<=24:=by rw[hpl];exact hF.ok.count
 have hN:=hF.aD;have HG:=ah hg;have HPs:=ah hps;have HW:=ah (And.intro hw1 (And.intro hw2 hw3));have HF1:Hid (∀ W X,Sat w0 (X*(ae d D*F)) W->aH W A1 (add.flatMap E9)):=fun W X hW=>hadd W hW.right.right
 have HF2:Hid (∀ W X,Sat w0 (X*(ae d D*F)) W->aH W A2 (drop.map (Value.int .i64))):=fun W X hW=>hdrop W hW.right.right
 have HMay:=ah (JX A1 c1 add A2 c2 drop h hps (by omega) (fun W hW=>hadd W hW.right) (fun W hW=>hdrop W hW.right) hn1 hn2 hc2 hb hbd);have HB:=ah hb;have HNo:Hid (S.may add drop=false->S.switch add drop D=(S,D,31)):=Kf add drop;have HMany:Hid (S.may add drop=true->(24:Int)<(S.files.length:Int)+add.length - drop.length->S.switch add drop D=(S,D,32)):=BN add drop;have HSpc:Hid (∀ W r,Sat w0 (aU s d S.slot S.turn v ps*(ae d D*F)) W->LL w0 F s d (S,D,r) (.returned (.int .i64 r)) W):=fun W r hW=>⟨rfl,Sat.eM hps hW⟩
 have HHp:=ah hpl;clear h hadd hdrop hb hbd hw1 hw2 hw3 hps hg hF hi0' hz0' hz1' hz2'
 cases hm:S.may add drop with
 | false=>
  have HR:=ah (HNo.o hm);rw[hm] at HMay;clear HNo HMany hm;go_enter Tryz.func55, Tryz.ntmps55;go_wp2_with (go_at_call 94;(with_reducible refine HMay.o.mono ?_);rintro e w2 ⟨rfl,hs⟩;have HS2:=ah hs;clear hs);go_ret;rw[HR.o];exact HSpc.o _ _ HS2.o
 | true=>
  rw[hm] at HMay;have HM:=ah hm;by_cases hmy:(24:Int)<(S.files.length:Int)+add.length - drop.length
  .have HR:=ah (HMany.o hm hmy);rw[<-HHp.o] at hmy;clear HNo HMany hm;go_enter Tryz.func55, Tryz.ntmps55;go_upto_region 2 with (go_at_call 94;(with_reducible refine HMay.o.mono ?_);rintro e w2 ⟨rfl,hs⟩;have HS2:=ah hs;have y3:=((hs.of dy).cell 3);obtain⟨A,c,rfl,_⟩:=(hs.of dy).av.aT;clear hs)
   go_ret;rw[HR.o];exact HSpc.o _ _ HS2.o
  .have HMx:=ah hmy;rw[<-HHp.o] at hmy;clear HNo HMany hm hpl;go_enter Tryz.func55, Tryz.ntmps55;go_upto_region 5 with (go_at_call 94;(with_reducible refine HMay.o.mono ?_);rintro e w2 ⟨rfl,hs⟩;have HS2:=ah hs;have y3:=((hs.of dy).cell 3);obtain⟨A,c,rfl,_⟩:=(hs.of dy).av.aT;clear hs)
   have HFs:=ah (uK HS2.o (by omega));clear y3;go_upto_region 8 with (go_at_call 67;(with_reducible refine HFs.o.mono ?_);rintro e w3 ⟨u,rfl,hs⟩;obtain⟨L,cl,rfl,_⟩:=hs.aT;have HS3:=ah hs;clear hs)
   have y3:=((HS3.o.right).of dy).cell 3;go_wp2_with fail;clear y3;obtain⟨fp,hfp⟩: ∃ fp,fp=Kq drop:=⟨_,rfl⟩;have HFp:=ah hfp;clear hfp;go_loopw [9,42] (fun ov iv wr=> ∃ (k kn:Nat) (C:Option Addr) (cc:Nat),k<=ps.length/\kn<=k/\ov = .slice C kn cc/\iv = .int .i64 (k:Int)/\Hid (((ps.take k).filter fp).length=kn/\Sat w0 (Row 155 1 (.slice C kn cc) kn (((ps.take k).filter fp).map fun x=>aZ x.1)*(Row 128 3 (.slice L ps.length cl) ps.length ((ps.map (·.2)).flatMap LO)*(aU s d S.slot S.turn (.slice A ps.length c) ps*(ae d D*F)))) wr)) (fun _ iv _=>ps.length - (intOf iv).toNat)
   case atStart=>exact⟨0,0,none,0,by omega,by omega,rfl,rfl,rfl,HS3.o.aI _ 1⟩
   case round=>
    obtain⟨k,kn,C,cc,hk,hkn,rfl,rfl,HD⟩:=hrel;by_cases hlt:k<ps.length
    .have hk2:(k:Int)<ps.length:=by omega
     obtain⟨A9,c9,e9,_,_,hR9,_⟩:=HD.o.2.right.right.mW;injection e9 with e9 _ e8
     subst e9;subst e8;obtain⟨b,o,rfl,hcl⟩:=lZ hR9 hlt;obtain⟨u9,ks9,_,hg9,_⟩:=HD.o.2.right.right.rS hlt;have g0:=hg9.1;have HCo:=ah (jL A2 drop.length c2 drop (ps[k].2.num:Int) wr (HF2.o wr _ (HD.o.2.right.right)) rfl (by omega));have hfk:fp ps[k] = !drop.contains (ps[k].2.num:Int):=by rw[HFp.o];rfl
     have HTk:Hid ((ps.take (k+1)).filter fp=(ps.take k).filter fp++if fp ps[k]=true then [ps[k]] else []):=by
      unfold Hid;rw[List.take_succ_eq_append_getElem hlt,List.filter_append,List.filter_cons,List.filter_nil]
     have hm2:k+1<=ps.length:=hlt;rw[hfk] at HTk;clear hg9 hR9 hfk;generalize ps[k]=x at*
     generalize hBc:drop.contains (x.2.num:Int)=B at*
     clear hBc;obtain⟨q,f⟩:=x;dsimp only at g0 hcl HCo HTk;generalize f.num=m at*
     cases B
     .rw[if_pos (show (!false)=true from rfl)] at HTk;go_wp2_with (first | (go_at_call 97;(with_reducible refine HCo.o.mono ?_);rintro e wx ⟨rfl,rfl⟩) | (at_builtin;refine au rfl (.tmp 54) (.tmp 56) 151 rfl 155 i0 _ 1 8 Tryz.underlying151 hi0.o hz0.o hz1.o hz2.o rfl (by decide) (.slice C kn cc) kn (((ps.take k).filter fp).map fun x=>aZ x.1) rfl w0 _ (by exact HD.o.2.aC _) (some ⟨wr.heap.size,0,none⟩) 1 1 [aZ q] rfl (aL _ _ _) rfl (fun u hu=>by rw[List.mem_singleton.1 hu];rfl) (by unfold maxLen;omega) (by omega) ?_;intro A16 c16 w16 hs;have HS16:=ah hs;clear hs));go_roundw
      .refine⟨k+1,kn+1,A16,c16,hm2,by omega,rfl,by push_cast;rfl,?_,?_⟩
       .rw[HTk.o,List.length_append,HD.o.1];rfl
       .rw[HTk.o,List.map_append];exact HS16.o
      .simp[intOf];omega
     .rw[if_neg (by simp),List.append_nil] at HTk;go_wp2_with (go_at_call 97;(with_reducible refine HCo.o.mono ?_);rintro e wx ⟨rfl,rfl⟩);go_roundw
      .refine⟨k+1,kn,C,cc,hm2,by omega,rfl,by push_cast;rfl,?_,?_⟩
       .rw[HTk.o,HD.o.1]
       .rw[HTk.o];exact HD.o.2
      .simp[intOf];omega
    .have HK:Hid (k=ps.length):=by unfold Hid;omega
     have hk2:¬ (k:Int)<ps.length:=by omega
     obtain⟨j0,hj0',hy0',hy1',hy2'⟩:=info_parts Kh;have hj0:=ah hj0';have hy0:=ah hy0';have hy1:=ah hy1';have hy2:=ah hy2';obtain⟨hadd48,hadd1⟩:=Jw HG.o HM.o (by have:=HMx.o;omega);have HA1:=ah hadd1;have hD:=HD.o;rw[HK.o,List.take_length] at hD;obtain⟨KP,hK⟩: ∃ KP,KP=ps.filter fp:=⟨_,rfl⟩;rw[<-hK] at hD;have HKe:=ah hK;obtain⟨lie0,hl0⟩: ∃ l,l=(ps.map (·.2)).map kQ:=⟨_,rfl⟩;have HL0:=ah hl0;have hl0l:lie0.length=ps.length:=by rw[hl0];simp
     rw[C9, <-hl0] at hD;obtain⟨t1,ht1⟩: ∃ t,t=(S.turn+1) % 18446744073709551616:=⟨_,rfl⟩;have hwt:IntKind.u64.wrap ((S.turn:Int)+1)=t1:=by rw[IntKind.wrap_u64,ht1];omega
     have HT1:=ah ht1;have HDs:=ah hD;obtain⟨X0,hX0⟩: ∃ X,X=ev D.cells.length t1 add S.dz (KP.map (·.2)):=⟨_,rfl⟩;have HX0:=ah hX0;have hKl:KP.length<=24:=by rw[hK];exact Nat.le_trans (List.length_filter_le _ _) hp24
     clear hD hadd1 hK hl0 ht1 hX0 HD hj0' hy0' hy1' hy2';go_wp2_with fail;go_loopw [7,9,61] (fun lv ov iv wr=> ∃ (k m:Nat) (B:Option Addr) (bc:Nat) (lieM:List (Nat × Nat × Nat)) (E:Option Addr) (ec:Nat) (news:List (Nat × Fl)) (lieP:List (Nat × Nat)),k<=add.length/\m<=ps.length+k/\lv = .slice B m bc/\ov = .slice E (KP.length+k) ec/\iv = .int .i64 (k:Int)/\Hid (lieM.length=m/\news.length=k/\(lieM.map (·.2)).Perm lieP/\lG D.cells.length lieP/\X0=ev D.cells.length t1 (add.drop k) lieP ((KP++news).map (·.2))/\Sat w0 (Row 128 3 (.slice B m bc) m (lieM.flatMap dC)*(Row 155 1 (.slice E (KP.length+k) ec) (KP.length+k) ((KP++news).map fun x=>aZ x.1)*(br news*(aU s d S.slot S.turn (.slice A ps.length c) ps*(ae d D*F))))) wr)) (fun _ _ iv _=>add.length - (intOf iv).toNat)
     case atStart=>
      refine⟨0,ps.length,L,cl,lie0,C,cc,[],S.dz,by omega,by omega,rfl,?_,rfl,hl0l,rfl,?_,HG.o.fils.ok.Kn,?_,?_⟩
      .rw[HDs.o.1];rfl
      .rw[HL0.o,DB,HPs.o];exact List.Perm.refl _
      .rw[HX0.o,List.append_nil];rfl
      .have h9:=HDs.o.2;rw[<-HDs.o.1] at h9;rw[List.append_nil];exact h9.av.of (by show _=_*(_*(aV*_));rw[aX,Nat.add_zero])
     case round=>
      obtain⟨k,m,B,bc,lieM,E,ec,news,lieP,hk,hm9,rfl,rfl,rfl,HD⟩:=hrel;by_cases hlt:k<add.length
      .have hk2:(k:Int)<add.length:=by omega
       have hkn:k+1<=add.length:=hlt;obtain⟨b,o,rfl,q0,q1,q2⟩:=GY (HF1.o wr _ HD.o.2.2.2.2.2.right.right.right) hlt;have hbx:=HB.o add[k] (List.getElem_mem hlt);have hax:=HA1.o add[k] (List.getElem_mem hlt);have HXk:Hid (X0=ev D.cells.length t1 (add[k]::add.drop (k+1)) lieP ((KP++news).map (·.2))):=by unfold Hid;rw[HD.o.2.2.2.2.1,List.drop_eq_getElem_cons hlt]
       have HS4:=ah HD.o.2.2.2.2.2;have HLl:=ah HD.o.1;have HNl:=ah HD.o.2.1;have HPm:=ah HD.o.2.2.1;have HLk:=ah HD.o.2.2.2.1;clear HD;generalize add[k]=x at*
       obtain⟨xn,xf,xb⟩:=x;dsimp only at q0 q1 q2 hbx hax HXk;obtain⟨xm,rfl⟩: ∃ m:Nat,xn=m:=⟨xn.toNat,by omega⟩;obtain⟨bl,rfl⟩: ∃ m:Nat,xb=m:=⟨xb.toNat,by omega⟩;have hs1:=HS4.o.af 128 #[.int .i64 (xm:Int),.int .i64 xf,.int .i64 (bl:Int)];go_upto_region 17 with fail;revert hs1;generalize World.alloc wr _=w5;generalize wr.heap.size=B5;intro hs1;have HSo:=ah (wZ lieM m B bc hs1.av HLl.o (by omega));clear hs1 q0 q1 q2;go_upto_region 18 with (go_at_call 98;(with_reducible refine HSo.o.mono ?_);rintro e w6 ⟨rfl,lieQ,hq1,hq2,hs⟩;have HQ1:=ah hq1;have HQ2:=ah hq2;have HS6:=ah hs;clear hs hq1 hq2)
       have hQl:lieQ.length=m:=by rw[HQ1.o.length_eq];exact HLl.o
       have hQp:(lieQ.map (·.2)).Perm lieP:=(HQ1.o.map _).trans HPm.o;have hQs:lieQ.map (·.2)=dv lieP:=Ih hQp (List.pairwise_map.2 HQ2.o) HLk.o;have hplc:=Er (dz:=lieQ) (s:=s) (d:=d) (D:=D) (w0:=w0) (w:=w6) (a1:= .int .i64 (S.slot:Int)) (a2:= .int .u64 (S.turn:Int)) (a3:= .slice A ps.length c) (F:=Row 128 3 (.slice B m bc) m (lieQ.flatMap dC)*(Pt B5 128 #[.int .i64 (xm:Int),.int .i64 xf,.int .i64 (bl:Int)]*(Row 155 1 (.slice E (KP.length+k) ec) (KP.length+k) ((KP++news).map fun x=>aZ x.1)*(br news*(Row 155 1 (.slice A ps.length c) ps.length (ps.map fun x=>aZ x.1)*(br ps*F)))))) B bc (bl:Int) (HS6.o.of (by rw[dy];ac_rfl)) HS6.o.ic (by omega) (fun x hx=>by
        have h9:=HLk.o.each x.2 (hQp.mem_iff.1 (List.mem_map_of_mem hx));omega) (by omega) hN
       rw[hQl,hQs] at hplc;obtain⟨a,ok,hao⟩: ∃ a ok,bh D.cells.length (bl:Int) 2 (dv lieP)=(a,ok):=⟨_,_,rfl⟩;rw[hao] at hplc;have hps:=(qX (bl:=(bl:Int)) (by omega) HLk.o).1;rw[hao] at hps;have HPl:=ah hplc;have HPs2:=ah hps;have y2:w6.cell? ⟨B5,2,none⟩=some (.int .i64 (bl:Int)):=HS6.o.av.cell 2;have HQl:=ah hQl;have HQp:=ah hQp;have HAo:=ah hao;clear hQl hQp hQs hplc hao hps HSo
       cases ok
       .have HX1:Hid (X0=none):=by unfold Hid;rw[HXk.o];exact Jo HAo.o
        have HXn:Hid (S.switch add drop D=(S,D,33)):=CO add drop HM.o (by have:=HMx.o;omega) (by rw[<-HT1.o, <-pj HPs.o, <-HFp.o, <-HKe.o, <-HX0.o,HX1.o]);go_wp2_with (go_at_call 99;(with_reducible refine HPl.o.mono ?_);rintro e w7 ⟨rfl,hch⟩;have HS7:=ah (HS6.o.new hch);clear hch);go_ret;rw[HXn.o];exact HSpc.o _ _ HS7.o.right.right.right.right
       .have HX1:Hid (X0=ev D.cells.length t1 (add.drop (k+1)) (lieP++[(a,bl)]) ((KP++news).map (·.2)++[⟨xm,a,bl,t1,1,[]⟩])):=by
         unfold Hid;rw[HXk.o];exact lI HAo.o
        go_upto_region 21 with (go_at_call 99;(with_reducible refine HPl.o.mono ?_);rintro e w7 ⟨rfl,hch⟩;have HS7:=ah (HS6.o.new hch);clear hch)
        have y1:=HS7.o.av.cell 1;have f1:=HS7.o.av.frozen 1;go_upto_region 22 with fail;have hs8:=HS7.o.av.set 1 (.int .i64 (a:Int));clear y1 f1 y2;revert hs8;generalize World.setCell _ _ _=w8;intro hs8;have hs8:Sat w0 (Pt B5 128 #[.int .i64 (xm:Int),.int .i64 (a:Int),.int .i64 (bl:Int)]*(Row 128 3 (.slice B m bc) m (lieQ.flatMap dC)*(Row 155 1 (.slice E (KP.length+k) ec) (KP.length+k) ((KP++news).map fun x=>aZ x.1)*(br news*(aU s d S.slot S.turn (.slice A ps.length c) ps*(ae d D*F)))))) w8:=hs8;have HS8:=ah hs8;clear hs8;have z0:w8.cell? ⟨B5,0,none⟩=some (.int .i64 (xm:Int)):=HS8.o.cell 0;have z1:w8.cell? ⟨B5,1,none⟩=some (.int .i64 (a:Int)):=HS8.o.cell 1;have z2:w8.cell? ⟨B5,2,none⟩=some (.int .i64 (bl:Int)):=HS8.o.cell 2;go_upto_region 23 with (at_builtin;refine au rfl (.tmp 80) (.tmp 82) 105 rfl 128 j0 _ 3 24 Tryz.underlying105 hj0.o hy0.o hy1.o hy2.o rfl (by decide) (.slice B m bc) m (lieQ.flatMap dC) rfl w0 _ (by exact(HS8.o.aC _).av) (some ⟨w8.heap.size,0,none⟩) 1 1 [.int .i64 (xm:Int),.int .i64 (a:Int),.int .i64 (bl:Int)] rfl (aL _ _ _) rfl (by intro u hu;simp at hu;rcases hu with rfl | rfl | rfl<;>rfl) (by unfold maxLen;omega) (by omega) ?_;intro B9 c9 w9 hs;have HS9:=ah hs;clear hs)
        clear z0 z1 z2;have hs9:Sat w0 (Pt B5 128 #[.int .i64 (xm:Int),.int .i64 (a:Int),.int .i64 (bl:Int)]*(Row 155 1 (.slice E (KP.length+k) ec) (KP.length+k) ((KP++news).map fun x=>aZ x.1)*(Pt s 153 #[aZ d,.int .i64 (S.slot:Int),.int .u64 (S.turn:Int),.slice A ps.length c]*(Row 128 3 (.slice B9 (m+1) c9) (m+1) (lieQ.flatMap dC++[.int .i64 (xm:Int),.int .i64 (a:Int),.int .i64 (bl:Int)])*(br news*(Row 155 1 (.slice A ps.length c) ps.length (ps.map fun x=>aZ x.1)*(br ps*(ae d D*F)))))))) w9:=HS9.o.of (by rw[dy];ac_rfl);have HS:=ah hs9;clear hs9;refine wp_region_held_drew (S:=fun w'=>(w'.cell? ⟨B5,0,none⟩=some (.int .i64 (xm:Int))/\w'.cell? ⟨B5,1,none⟩=some (.int .i64 (a:Int))/\w'.cell? ⟨B5,2,none⟩=some (.int .i64 (bl:Int)))/\w'.cell? ⟨s,2,none⟩=some (.int .u64 (S.turn:Int))) (by kernel_rfl) ⟨⟨HS.o.drew.cell 0,HS.o.drew.cell 1,HS.o.drew.cell 2⟩,HS.o.drew.bD.cell 2⟩ ?_;intro hS0;refine an 0 1 2 3 ?_;refine an 4 5 6 7 ?_;refine bR 8 fun K hK=>?_
        go_simp;have hs:=(HS.o.af 163 #[.int .i64 (xm:Int),.int .i64 (a:Int),.int .i64 (bl:Int),.int .u64 (t1:Int),.int .u64 1,.slice none 0 0]).drew;revert hs;generalize World.drew (World.alloc w9 _)=w10;generalize w9.heap.size=B10;intro hs;replace HS:=ah hs;clear hs;refine hK.out _ _ ⟨⟨HS.o.av.cell 0,HS.o.av.cell 1,HS.o.av.cell 2⟩,HS.o.bW.cell 2⟩ (fun hS0=>?_);clear hK K;refine bR 9 fun K hK=>?_
        go_simp;have hs:=HS.o.aC (.cells #[.pointer (some ⟨B10,0,none⟩)] 155);refine hK.out _ _ ⟨⟨hs.av.cell 0,hs.av.cell 1,hs.av.cell 2⟩,hs.bW.cell 2⟩ (fun hS0=>?_);clear hK K;refine bR 10 fun K hK=>?_
        refine aQ rfl (.tmp 84) (.tmp 93) 151 rfl 155 i0 _ 1 8 Tryz.underlying151 hi0.o hz0.o hz1.o hz2.o rfl (by decide) (.slice E (KP.length+k) ec) (KP.length+k) ((KP++news).map fun x=>aZ x.1) rfl w0 _ (by exact(HS.o.aC _).bD) (some ⟨w10.heap.size,0,none⟩) 1 1 [aZ B10] rfl (aL _ _ _) rfl (fun u hu=>by rw[List.mem_singleton.1 hu];rfl) (by unfold maxLen;omega) (by omega) ?_;intro E11 c11 w11 hs;replace HS:=ah hs;clear hs;refine hK.out _ _ ⟨⟨HS.o.bD.cell 0,HS.o.bD.cell 1,HS.o.bD.cell 2⟩,HS.o.bW.cell 2⟩ (fun hS0=>?_);clear hK K
        try simp only[Act.put,jt,jA,jy]
        refine cH 11 ?_;refine wpAnyH_done (by kernel_rfl) ?_ _;obtain⟨ff,hff⟩: ∃ f:Fl,f=⟨xm,a,bl,t1,1,[]⟩:=⟨_,rfl⟩;have HSN:Hid (Sat w0 (Row 128 3 (.slice B9 (m+1) c9) (m+1) ((lieQ++[(xm,a,bl)]).flatMap dC)*(Row 155 1 (.slice E11 (KP.length+(k+1)) c11) (KP.length+(k+1)) ((KP++(news++[(B10,ff)])).map fun x=>aZ x.1)*(br (news++[(B10,ff)])*(aU s d S.slot S.turn (.slice A ps.length c) ps*(ae d D*F))))) w11):=by
         unfold Hid;have g1:=(HS.o.bD.right);have g2:=((g1.av).lE [] (by simp)).aI 41 1;have g3:=Sat.Kw (ks:=[]) (f:=ff) (v:= .slice none 0 0) (p:=B10) (by rw[hff];rfl) (g2.of (show _=Pt B10 163 (pO ff (.slice none 0 0))*(Row 41 1 (.slice none 0 0) 0 []*(ca []*(Row 155 1 (.slice E11 (KP.length+k+1) c11) (KP.length+k+1) (((KP++news).map fun x=>aZ x.1)++[aZ B10])*(Pt s 153 #[aZ d,.int .i64 (S.slot:Int),.int .u64 (S.turn:Int),.slice A ps.length c]*(Row 128 3 (.slice B9 (m+1) c9) (m+1) (lieQ.flatMap dC++[.int .i64 (xm:Int),.int .i64 (a:Int),.int .i64 (bl:Int)])*(br news*(Row 155 1 (.slice A ps.length c) ps.length (ps.map fun x=>aZ x.1)*(br ps*(ae d D*F))))))))) by rw[hff];ac_rfl));refine g3.of ?_;have e1:(lieQ++[(xm,a,bl)]).flatMap dC=lieQ.flatMap dC++[.int .i64 (xm:Int),.int .i64 (a:Int),.int .i64 (bl:Int)]:=by rw[List.flatMap_append];rfl
         have e2:(KP++(news++[(B10,ff)])).map (fun x=>aZ x.1)=((KP++news).map fun x=>aZ x.1)++[aZ B10]:=by simp
         have e3:br (news++[(B10,ff)])=br news*ni B10 ff:=by rw[kg,BK]
         rw[e1,e2,e3,dy];show _=Row _ 3 _ _ _*(Row _ 1 (.slice E11 (KP.length+k+1) c11) (KP.length+k+1) _*_)
         ac_rfl
        have hpa:=HPs2.o (by first | rfl | trivial);have HLk2:Hid (lG D.cells.length (lieP++[(a,bl)])):=by
         have h9:=HLk.o.snoc (bl:=(bl:Int)) (by omega) hpa.1 hpa.2;rw[Int.toNat_natCast] at h9;exact h9
        have HFf:=ah hff;clear hpa hff;go_wp2_with fail;go_roundw
        .refine⟨k+1,m+1,B9,c9,lieQ++[(xm,a,bl)],E11,c11,news++[(B10,ff)],lieP++[(a,bl)],hkn,by omega,rfl,rfl,by push_cast;rfl,?_,?_,?_,HLk2.o,?_,HSN.o⟩
         .rw[List.length_append,HQl.o];rfl
         .rw[List.length_append,HNl.o];rfl
         .rw[List.map_append];exact HQp.o.append_right _
         .rw[HX1.o, <-List.append_assoc,List.map_append (l₂:=[(B10,ff)]),HFf.o];rfl
        .simp[intOf];omega
      .have HK2:Hid (k=add.length):=by unfold Hid;omega
       have hk2:¬ (k:Int)<add.length:=by omega
       obtain⟨gs,hgs⟩: ∃ gs,gs=KP++news:=⟨_,rfl⟩;obtain⟨N,hN9⟩: ∃ N,N=KP.length+k:=⟨_,rfl⟩;have hgl:gs.length=N:=by rw[hgs,List.length_append,HD.o.2.1,hN9]
       have hXe:ev D.cells.length t1 add S.dz (KP.map (·.2))=some (gs.map (·.2)):=by
        rw[<-HX0.o,HD.o.2.2.2.2.1,List.drop_eq_nil_of_le (by omega),hgs];rfl
       have hKf:KP.map (·.2)=S.files.filter fun f=> !drop.contains (f.num:Int):=by rw[HKe.o,HFp.o];exact pj HPs.o drop
       have hsw:S.switch add drop D=S.put (et (gs.map (·.2))) D:=GL add drop HM.o (by have:=HMx.o;omega) (by rw[<-HT1.o, <-hKf];exact hXe);have ht9:t1=S.turn+1:=by rw[HT1.o];have:=HG.o.fils.cap;omega
       have hnx:=BH HG.o HM.o (by have:=HMx.o;omega) (fs:=gs.map (·.2)) (by rw[<-ht9, <-hKf];exact hXe);have hHd:=hnx.ok.Iz HG.o.fils.aD (by have:=HG.o.fils.cap;omega);have hcnt:=hnx.ok.count;have hstr:(et (gs.map (·.2))).Pairwise L9:=hnx.ok.nums;rw[(kq _).length_eq,List.length_map] at hcnt;have hsat:Sat w0 (Row 155 1 (.slice E N ec) N (gs.map fun x=>aZ x.1)*(br gs*(Pt s 153 #[aZ d,.int .i64 (S.slot:Int),.int .u64 (S.turn:Int),.slice A ps.length c]*(ae d D*(Row 155 1 (.slice A ps.length c) ps.length (ps.map fun x=>aZ x.1)*(br (ps.filter fun x=> !fp x)*(Row 128 3 (.slice B m bc) m (lieM.flatMap dC)*F))))))) wr:=HD.o.2.2.2.2.2.of (by
        have e1:br gs=br KP*br news:=by rw[hgs,kg]
        have e2:br ps=br KP*br (ps.filter fun x=> !fp x):=by rw[HKe.o];exact td fp
        rw[hgs,kg,dy,e2,hN9]
        ac_rfl)
       have HSo:=ah (yZ gs N E ec hsat hgl (by omega));have HSw:=ah hsw;have HHd:=ah hHd;have HStr:=ah hstr;have HE2:Hid (br ps=br KP*br (ps.filter fun x=> !fp x)):=by unfold Hid;rw[HKe.o];exact td fp
       have HE1:Hid (br gs=br KP*br news):=by unfold Hid;rw[hgs,kg]
       have HHl:Hid (S.slot<2):=HG.o.heads.lt;have HHt:Hid (S.turn<18446744073709551616):=by have:=HG.o.fils.cap;unfold Hid;omega
       have hN24:N<=24:=by omega
       rw[<-hN9];have HGl:=ah hgl;clear hXe hKf hsw ht9 hnx hHd hcnt hstr hsat hgs HD hN9 hgl;go_upto_region 26 with (go_at_call 100;(with_reducible refine HSo.o.mono ?_);rintro e w6 ⟨rfl,gs',hq1,hq2,hs⟩;have HQ1:=ah hq1;have HQ2:=ah hq2;have HS6:=ah hs;clear hs hq1 hq2)
       have hml:gs'.map (·.2)=et (gs.map (·.2)):=by
        have hp1:(gs'.map (·.2)).Perm (et (gs.map (·.2))):=(HQ1.o.map _).trans (kq _).symm;refine tF hp1 (uT (List.pairwise_map.2 HQ2.o) ((hp1.map _).nodup_iff.2 ?_)) HStr.o;exact List.pairwise_map.2 (HStr.o.imp fun h=>by unfold L9 at h;omega)
       have hgl':gs'.length=N:=by rw[HQ1.o.length_eq,HGl.o]
       have hput:=Cw (s:=s) (d:=d) (w0:=w0) (w:=w6) (slot:=S.slot) (turn:=S.turn) (v:= .slice A ps.length c) (V:= .slice E N ec) (gs:=gs') (D:=D) (F:=Row 155 1 (.slice A ps.length c) ps.length (ps.map fun x=>aZ x.1)*(br (ps.filter fun x=> !fp x)*(Row 128 3 (.slice B m bc) m (lieM.flatMap dC)*F))) (HS6.o.of (by rw[hgl'];ac_rfl)) (by omega) HHl.o HHt.o (fun x hx=>HHd.o _ (by
        rw[<-hml,List.map_map];exact List.mem_map_of_mem (f:=Fl.hd ∘ fun x=>x.2) hx)) HW.o.1 HW.o.2.1 HW.o.2.2
       have HPu:=ah hput;have HMl:=ah hml;have HQs:Hid (br gs'=br gs):=sE HQ1.o;clear hput hml hgl' HSo HS6;go_wp2_with (go_at_call 91;(with_reducible refine HPu.o.mono ?_);rintro e w7 hp;have hp2:=xX hp;rw[HMl.o, <-HSw.o] at hp2;obtain⟨rfl,hp3,hp4⟩:=hp2;have HP3:=ah hp3;have HP4:=ah hp4;clear hp hp3 hp4);go_ret;refine⟨rfl,?_⟩;by_cases hz:(S.switch add drop D).2.2=0
       .obtain⟨k1,k2⟩:=HP4.o hz;exact(Sat.eM k1.symm k2).bD.right.bD.right.bD.right
       .obtain⟨k1,k2⟩:=HP3.o hz;rw[k1];refine Sat.eM (ps:=ps) (v:= .slice A ps.length c) HPs.o ?_;have k4:Sat w0 (br news*(Row 128 3 (.slice B m bc) m (lieM.flatMap dC)*(aU s d S.slot S.turn (.slice A ps.length c) ps*(ae d (S.switch add drop D).2.1*F)))) w7:=k2.av.right.of (by rw[HQs.o,HE1.o,dy,HE2.o];ac_rfl);exact k4.right.right
end
section
variable {w0 w:World} {F:SP} {s d:Nat} {D:Dk} {v:Value} {ps:List (Nat × Fl)} {S:aN} {sf:Nat->Nat} {lim:Nat} {f:Fl}
theorem qe (hps:ps.map (·.2)=S.files) {n:Int} (hf:S.find n=some f): ∃ i, ∃ hi:i<ps.length,fq ps n=i/\ps[i].2=f:=by
 have h:=oX hps n;rw[hf] at h;have hi:fq ps n<ps.length:=by
  rcases Nat.lt_or_ge (fq ps n) ps.length with h9 | h9
  .exact h9
  .rw[List.getElem?_eq_none h9] at h;cases h
 rw[List.getElem?_eq_getElem hi] at h;exact⟨_,hi,rfl,(Option.some.inj h).symm⟩
theorem vf (hps:ps.map (·.2)=S.files) {n:Int} (hf:S.find n=none):fq ps n=ps.length:=by
 have h:=oX hps n;rw[hf] at h;rcases Nat.lt_or_ge (fq ps n) ps.length with h9 | h9
 .rw[List.getElem?_eq_getElem h9] at h;cases h
 .exact Nat.le_antisymm (JC ps n) h9
theorem iH {n:Int} (hf:S.find n=some f):f ∈ S.files/\(f.num:Int)=n:=by
 unfold aN.find at hf;exact⟨List.mem_of_find?_eq_some hf,by simpa using List.find?_some hf⟩
theorem bU (hps:ps.map (·.2)=S.files) (hg:Good D S sf lim):ps.length<=24:=by
 have h1:=hg.fils.ok.count;have h2:=congrArg List.length hps;rw[List.length_map] at h2;omega
theorem Good.file (hg:Good D S sf lim) (hf:f ∈ S.files):f.aa.length<=f.blocks/\f.first+f.blocks<=65536/\(∀ p ∈ f.aa,p.length<=480)/\f.birth<18446744073709551616/\f.life<18446744073709551616:=by
 obtain⟨a1,a2,a3,a4,a5,a6⟩:=hg.fils.ok.each f hf;obtain⟨l1,ls,l2⟩:=hg.fils.each f hf;have h1:=hg.fils.cap;have h2:=hg.fils.aD;exact⟨l2.fits,by omega,l2.small,by omega,by omega⟩
theorem JB {n:Int} (hg:Good D S sf lim) (h:Sat w0 (ag s d S*(ae d D*F)) w) (hf:S.find n=none):
 Calls Tryz.prog 59 #[.pointer (some ⟨s,0,none⟩),.int .i64 n] w fun e w'=>e = .returned (.tuple #[.slice none 0 0,.int .i64 34])/\w=w':=by
 obtain⟨v,ps,hps,hs⟩:=h.space;exact DK n hs (by have:=bU hps hg;omega) (vf hps hf)
theorem LP {n:Int} (hg:Good D S sf lim) (h:Sat w0 (ag s d S*(ae d D*F)) w) (hf:S.find n=some f):
 Calls Tryz.prog 59 #[.pointer (some ⟨s,0,none⟩),.int .i64 n] w fun e w'=> ∃ u ts,e = .returned (.tuple #[u,.int .i64 0])/\bT ts=f.aa/\Sat w0 (Row 41 1 u ts.length (ts.map aE)*(ca ts*(ag s d S*(ae d D*F)))) w':=by
 obtain⟨v,ps,hps,hs⟩:=h.space;obtain⟨i,hi,he,rfl⟩:=qe hps hf;obtain⟨k1,k2,k3,k4,k5⟩:=hg.file (iH hf).1;refine(AN n hs (by have:=bU hps hg;omega) hi he (by omega) k3).mono ?_;rintro e w' ⟨u,ts,h1,h2,h3⟩;refine⟨u,ts,h1,h2,?_⟩;have h4:=Sat.eM hps (h3.of (show _=aU s d S.slot S.turn v ps*(Row 41 1 u ts.length (ts.map aE)*(ca ts*(ae d D*F))) by ac_rfl));exact h4.of (by ac_rfl)
theorem AD {n:Int} (hg:Good D S sf lim) (h:Sat w0 (ag s d S*(ae d D*F)) w) (hf:S.find n=none):
 Calls Tryz.prog 118 #[.pointer (some ⟨s,0,none⟩),.int .i64 n] w fun e w'=>e = .returned (.tuple #[.int .i64 0,.int .i64 34])/\w=w':=by
 obtain⟨v,ps,hps,hs⟩:=h.space;exact JJ n hs (by have:=bU hps hg;omega) (vf hps hf)
theorem Jf {n:Int} (hg:Good D S sf lim) (h:Sat w0 (ag s d S*(ae d D*F)) w) (hf:S.find n=some f):
 Calls Tryz.prog 118 #[.pointer (some ⟨s,0,none⟩),.int .i64 n] w fun e w'=>e = .returned (.tuple #[.int .i64 ((f.blocks:Int) - f.aa.length),.int .i64 0])/\Sat w0 (ag s d S*(ae d D*F)) w':=by
 obtain⟨v,ps,hps,hs⟩:=h.space;obtain⟨i,hi,he,rfl⟩:=qe hps hf;obtain⟨k1,k2,k3,k4,k5⟩:=hg.file (iH hf).1;exact(Gw n hs (by have:=bU hps hg;omega) hi he (by omega) k1).mono fun e w' ⟨h1,h2⟩=>⟨h1,Sat.eM hps h2⟩
theorem xA (hg:Good D S sf lim) (h:Sat w0 (ag s d S*(ae d D*F)) w):
 Calls Tryz.prog 67 #[.pointer (some ⟨s,0,none⟩)] w fun e w'=> ∃ u,e = .returned u/\Sat w0 (Row 128 3 u S.files.length ((S.files.map kQ).flatMap dC)*(ag s d S*(ae d D*F))) w':=by
 obtain⟨v,ps,hps,hs⟩:=h.space;refine(uK hs (by have:=bU hps hg;omega)).mono ?_;rintro e w' ⟨u,h1,h2⟩;refine⟨u,h1,?_⟩;have hl:ps.length=S.files.length:=by have:=congrArg List.length hps;simpa using this
 rw[hps,C9,hl] at h2;exact(Sat.eM hps h2.av).av
theorem vk (h:Sat w0 (ag s d S*(ae d D*F)) w) (hw2:D.pend.length<=1000000000):
 Calls Tryz.prog 56 #[.pointer (some ⟨s,0,none⟩)] w fun e w'=>e = .returned (.int .i64 D.flush.2)/\Sat w0 (ag s d S*(ae d D.flush.1*F)) w':=by
 obtain⟨v,ps,hps,hs⟩:=h.space;exact(Gl hs hw2).mono fun e w' ⟨h1,h2⟩=>⟨h1,Sat.eM hps h2⟩
theorem FR (hg:Good D S sf lim) (hps:ps.map (·.2)=S.files) {i:Nat} (hi:i<ps.length) (p:List UInt8):
 (ps.set i (ps[i].1,{ ps[i].2 with aa:=ps[i].2.aa++[p] })).map (·.2)=S.files.map fun g=>if g.num=ps[i].2.num then { g with aa:=g.aa++[p] } else g:=by
 have hn:=hg.fils.ok.nums;rw[<-hps] at hn ⊢;apply List.ext_getElem?;intro j;rw[List.getElem?_map,List.getElem?_set,List.getElem?_map,List.getElem?_map];by_cases e:i=j
 .subst e;rw[if_pos rfl,if_pos hi,List.getElem?_eq_getElem hi];simp
 .rw[if_neg e];rcases Nat.lt_or_ge j ps.length with hj | hj
  .rw[List.getElem?_eq_getElem hj];simp only[Option.map_some];have hpw:=List.pairwise_iff_getElem.1 hn;have hne:ps[j].2.num≠ps[i].2.num:=by
    rcases Nat.lt_or_ge i j with h1 | h1
    .have:=hpw i j (by simpa using hi) (by simpa using hj) h1;simp only[List.getElem_map] at this;omega
    .have:=hpw j i (by simpa using hj) (by simpa using hi) (by omega);simp only[List.getElem_map] at this;omega
   rw[if_neg hne]
  .rw[List.getElem?_eq_none hj];rfl
theorem DM (n:Int) (A:Option Addr) (c:Nat) (p:List UInt8) (hg:Good D S sf lim) (h:Sat w0 (ag s d S*(ae d D*F)) w) (hp: ∀ W,Sat w0 F W->Rd W A p) (hw1:D.writes<=1000000000) (hw2:D.pend.length<=1000000000) (hw3:D.armed<=9223372036854775807):
 Calls Tryz.prog 120 #[.pointer (some ⟨s,0,none⟩),.int .i64 n,.slice A p.length c] w fun e w'=>e = .returned (.int .i64 (S.append n p D).2.2)/\Sat w0 (ag s d (S.append n p D).1*(ae d (S.append n p D).2.1*F)) w':=by
 obtain⟨v,ps,hps,hs⟩:=h.space;have hfew:=bU hps hg
 cases hf:S.find n with
 | none=>
  have e1:S.append n p D=(S,D,34):=by unfold aN.append;rw[hf]
  rw[e1];refine(xT n A c p.length hs (by omega) (vf hps hf)).mono ?_;rintro e w' ⟨h1,rfl⟩;exact⟨h1,Sat.eM hps hs⟩
 | some f=>
  obtain⟨i,hi,he,rfl⟩:=qe hps hf;obtain⟨k1,k2,k3,k4,k5⟩:=hg.file (iH hf).1;by_cases h1:480<p.length
  .have e1:S.append n p D=(S,D,35):=by unfold aN.append;rw[hf];simp only;rw[if_pos h1]
   rw[e1];refine(yY n A c p.length hs (by omega) hi he h1).mono ?_;rintro e w' ⟨h1,rfl⟩;exact⟨h1,Sat.eM hps hs⟩
  .by_cases h2:ps[i].2.aa.length=ps[i].2.blocks
   .have e1:S.append n p D=(S,D,36):=by unfold aN.append;rw[hf];simp only;rw[if_neg h1,if_pos h2]
    rw[e1];refine(AV n A c p.length hs (by omega) hi he (by omega) h2).mono ?_;rintro e w' ⟨h1,hs2⟩;exact⟨h1,Sat.eM hps hs2⟩
   .obtain⟨r,hr⟩: ∃ r,r=D.write ((ps[i].2.first+ps[i].2.aa.length:Nat):Int) (bL ps[i].2.birth ps[i].2.life p):=⟨_,rfl⟩;have e1:S.append n p D=if r.2≠0 then (S,r.1,r.2) else ({ S with files:=S.files.map fun g=>if g.num=ps[i].2.num then { g with aa:=g.aa++[p] } else g },r.1,0):=by
     unfold aN.append;rw[hf];simp only;rw[if_neg h1,if_neg h2,hr]
    rw[e1];refine(uZ n A c p hs hp (by omega) hi he (by omega) (by omega) k2 k4 k5 hw1 hw2 hw3).mono ?_;rintro e w' ⟨h3,h4⟩;rw[<-hr] at h3 h4;by_cases hz:r.2=0
    .rw[if_neg (by simpa using hz)];rw[if_pos hz] at h4;refine⟨by rw[h3,hz],Sat.eM (S:={ S with files:=S.files.map fun g=>if g.num=ps[i].2.num then { g with aa:=g.aa++[p] } else g }) (FR hg hps hi p) h4⟩
    .rw[if_pos hz];rw[if_neg hz] at h4;exact⟨h3,Sat.eM hps h4⟩
theorem jB (A1:Option Addr) (c1:Nat) (add:List Fi) (A2:Option Addr) (c2:Nat) (drop:List Int) (hg:Good D S sf lim) (hlim:lim+1<=1000000000) (h:Sat w0 (ag s d S*(ae d D*F)) w)
 (hadd: ∀ W,Sat w0 F W->aH W A1 (add.flatMap E9)) (hdrop: ∀ W,Sat w0 F W->aH W A2 (drop.map (Value.int .i64))) (hn1:add.length<=1000000) (hn2:drop.length<=1000000) (hc2:drop.length<=c2)
 (hb: ∀ f ∈ add,(-9223372036854775808<=f.num/\f.num<=9223372036854775807)/\(-9223372036854775808<=f.blocks/\f.blocks<=9223372036854775807)) (hbd: ∀ n ∈ drop, -9223372036854775808<=n/\n<=9223372036854775807)
 (hw1:D.writes<=1000000000) (hw2:D.pend.length<=999999999) (hw3:D.armed<=9223372036854775807):
 Calls Tryz.prog 55 #[.pointer (some ⟨s,0,none⟩),.slice A1 add.length c1,.slice A2 drop.length c2] w (LL w0 F s d (S.switch add drop D)):=by
 obtain⟨v,ps,hps,hs⟩:=h.space;exact Ar A1 c1 add A2 c2 drop hg hlim hs hps hadd hdrop hn1 hn2 hc2 hb hbd hw1 hw2 hw3
end
structure dA (D:Dk) (n:Nat):Prop where
 writes:D.writes<=n
 pend:D.pend.length<=n
section
variable {D E:Dk} {S:aN} {sf:Nat->Nat} {lim n m i:Nat} {f:Fl} {b:List UInt8}
theorem dA.mono (h:dA D n) (hm:n<=m):dA D m:=⟨Nat.le_trans h.writes hm,Nat.le_trans h.pend hm⟩
theorem dA.dK (h:dA D n):dA (D.dK i b) (n+1):=⟨Nat.succ_le_succ h.writes,by show (D.pend++[_]).length<=_;rw[List.length_append];exact Nat.succ_le_succ h.pend⟩
theorem dA.wr (h:dA D n):dA (D.wr i b) (n+1):=⟨(h.dK (i:=i) (b:=b)).writes,(h.dK (i:=i) (b:=b)).pend⟩
theorem dA.flush (h:dA D n) (ho:D.off=false):dA D.flush.1 n:=by rw[du D ho];exact⟨h.writes,Nat.zero_le _⟩
theorem dA.bS {keep:List Bool} {torn bytes:Int} (h:dA D n):dA (D.bS keep torn bytes) n:=⟨h.writes,Nat.zero_le _⟩
theorem eU (ho:D.off=false):D.flush.1.armed=D.armed:=by rw[du D ho]
theorem zy:(D.wr i b).armed=D.armed - 1:=rfl
theorem xe {keep:List Bool} {torn bytes:Int}:(D.bS keep torn bytes).armed=0:=rfl
theorem yt (h:D.armed=1):(D.dK i b).off=true:=by unfold Dk.dK;rw[h];rfl
inductive Nu (S:aN) (D:Dk) (sf:Nat->Nat) (lim:Nat) (n:Int) (p:List UInt8) (r:aN × Dk × Int):Prop where
 | none (h:S.find n=none) (e:r=(S,D,34))
 | Gs (f:Fl) (h:S.find n=some f) (h2:480<p.length) (e:r=(S,D,35))
 | full (f:Fl) (h:S.find n=some f) (h2:p.length<=480) (h3:f.aa.length=f.blocks) (e:r=(S,D,36))
 | off (f:Fl) (h:S.find n=some f) (h2:p.length<=480) (h3:f.aa.length<f.blocks) (ha:D.armed=1) (e:r=(S,D.dK (f.first+f.aa.length) (bL f.birth f.life p),21))
 | ok (f:Fl) (h:S.find n=some f) (h2:p.length<=480) (h3:f.aa.length<f.blocks) (ha:D.armed≠1) (e:r=(S.grow f.num p,D.wr (f.first+f.aa.length) (bL f.birth f.life p),0)) (g:Good r.2.1 r.1 sf lim)
theorem ko (hg:Good D S sf lim) (n:Int) (p:List UInt8):Nu S D sf lim n p (S.append n p D):=by
 cases hf:S.find n with
 | none=>exact .none hf (by unfold aN.append;rw[hf])
 | some f=>
  obtain⟨hm,hn⟩:=iH hf;obtain⟨a1,a2,a3,a4,a5,a6⟩:=hg.fils.ok.each f hm;obtain⟨k1,k2,k3,k4,k5⟩:=hg.file hm;by_cases h1:480<p.length
  .exact .Gs f hf h1 (by unfold aN.append;rw[hf];simp only;rw[if_pos h1])
  .by_cases h2:f.aa.length=f.blocks
   .exact .full f hf (by omega) h2 (by unfold aN.append;rw[hf];simp only;rw[if_neg h1,if_pos h2])
   .have hi:f.first+f.aa.length<D.cells.length:=by omega
    have hw:=ng D (f.first+f.aa.length) (bL f.birth f.life p) hg.fils.off hi (oy (by omega));have e1:S.append n p D=if (if D.armed=1 then (21:Int) else 0)≠0 then (S,D.dK (f.first+f.aa.length) (bL f.birth f.life p),if D.armed=1 then (21:Int) else 0) else (S.grow f.num p,D.dK (f.first+f.aa.length) (bL f.birth f.life p),0):=by
     unfold aN.append;rw[hf];simp only;rw[if_neg h1,if_neg h2,hw];rfl
    by_cases ha:D.armed=1
    .exact .off f hf (by omega) (by omega) ha (by rw[e1,if_pos ha,if_pos (by simp)])
    .have e2:S.append n p D=(S.grow f.num p,D.wr (f.first+f.aa.length) (bL f.birth f.life p),0):=by
      rw[e1,if_neg ha,if_neg (by simp)];have:D.dK (f.first+f.aa.length) (bL f.birth f.life p)=D.wr (f.first+f.aa.length) (bL f.birth f.life p):=by
       unfold Dk.wr Dk.dK;simp only[if_neg ha,hg.fils.off]
      rw[this]
     refine .ok f hf (by omega) (by omega) ha e2 ?_;rw[e2];exact pK hg hm (by omega) (by omega)
inductive NP (S:aN) (D:Dk) (sf:Nat->Nat) (lim:Nat) (add:List Fi) (drop:List Int) (r:aN × Dk × Int):Prop where
 | no (h:S.may add drop=false) (e:r=(S,D,31))
 | many (h:S.may add drop=true) (h2:(24:Int)<(S.files.length:Int)+add.length - drop.length) (e:r=(S,D,32))
 | full (h:S.may add drop=true) (h2:(S.files.length:Int)+add.length - drop.length<=24) (h3:ev D.cells.length (S.turn+1) add S.dz (S.files.filter fun f=> !drop.contains (f.num:Int))=none) (e:r=(S,D,33))
 | off (fs:List Fl) (h:S.may add drop=true) (h2:(S.files.length:Int)+add.length - drop.length<=24) (h3:ev D.cells.length (S.turn+1) add S.dz (S.files.filter fun f=> !drop.contains (f.num:Int))=some fs) (ha:D.armed=1)
  (hn:Next D S sf (et fs) (fun num=>if (num:Int) ∈ add.map (·.num) then 0 else sf num)) (e:r=(S,D.dK (1 - S.slot) (bZ (S.turn+1) ((et fs).map Fl.hd)),21))
 | ok (fs:List Fl) (h:S.may add drop=true) (h2:(S.files.length:Int)+add.length - drop.length<=24) (h3:ev D.cells.length (S.turn+1) add S.dz (S.files.filter fun f=> !drop.contains (f.num:Int))=some fs) (ha:D.armed≠1)
  (hn:Next D S sf (et fs) (fun num=>if (num:Int) ∈ add.map (·.num) then 0 else sf num)) (e:r=(⟨1 - S.slot,S.turn+1,et fs⟩,(D.wr (1 - S.slot) (bZ (S.turn+1) ((et fs).map Fl.hd))).flush.1,0)) (g:Good r.2.1 r.1 (dw (et fs)) (lim+1))
theorem vQ (hg:Good D S sf lim) (hlim:lim+1<=1000000000) (add:List Fi) (drop:List Int):NP S D sf lim add drop (S.switch add drop D):=by
 have hcap:=hg.fils.cap;have ht:(S.turn+1) % 18446744073709551616=S.turn+1:=Nat.mod_eq_of_lt (by omega)
 cases hm:S.may add drop with
 | false=>exact .no hm (Kf add drop hm)
 | true=>
  by_cases h2:(24:Int)<(S.files.length:Int)+add.length - drop.length
  .exact .many hm h2 (BN add drop hm h2)
  .cases h3:ev D.cells.length (S.turn+1) add S.dz (S.files.filter fun f=> !drop.contains (f.num:Int)) with
   | none=>exact .full hm (by omega) h3 (CO add drop hm h2 (by rw[ht];exact h3))
   | some fs=>
    have hn:=BH hg hm (by omega) h3;have hs:=GL add drop hm h2 (fs:=fs) (D:=D) (by rw[ht];exact h3);obtain⟨p1,p2⟩:=put_eq hg hn.ok.count;by_cases ha:D.armed=1
    .exact .off fs hm (by omega) h3 ha hn (by rw[hs,p1 ha])
    .refine .ok fs hm (by omega) h3 ha hn (by rw[hs,p2 ha]) ?_;rw[hs,p2 ha];exact Fz hg hn hlim
theorem JW {i:Nat} {r:List UInt8 × Int} (h:jT (Dk.new n) i r):r=(List.replicate 512 0,0):=by
 rcases h with ⟨x,h1,h2⟩ | ⟨b,h1,_⟩
 .have h3:=List.mem_of_getElem? h1;have h4:x=([],false):=List.eq_of_mem_replicate h3;subst h4;rw[h2];rfl
 .cases h1
theorem yJ {i:Nat} (h:i<n):(Dk.new n).read (i:Int)=(List.replicate 512 0,0):=JW (fT (Dk.new n) i rfl (by unfold Dk.new;simpa using h))
theorem pE:dm (List.replicate 512 0)=none:=by
 unfold dm;rw[if_neg];rintro ⟨h,_⟩;have:(List.replicate 512 (0:UInt8)).take 4=[0,0,0,0]:=by rw[List.take_replicate];rfl
 rw[this] at h;exact absurd h (by decide)
theorem Df (h:2<=n):cL (Dk.new n)=(none,0):=by
 have hb: ∀ i,i<2->fe (Dk.new n) none i=none:=fun i hi=>by
  unfold fe;rw[yJ (show i<n by omega)];simp only[ne_eq,not_true_eq_false,if_false,pE]
 unfold cL;rw[if_neg (by simp[Dk.new]),show fe (Dk.new n) none 0=none from hb 0 (by omega),show fe (Dk.new n) none 1=none from hb 1 (by omega)]
def lf:List UInt8:=bZ 1 []
theorem uS:lf.length=512:=fH (by simp)
def fN (n:Nat):Dk:=((Dk.new n).wr 1 lf).flush.1
theorem yR (h:2<=n):fQ (Dk.new n)=(fN n,0):=by
 unfold fQ;rw[Df h,if_neg (by simp)];have hw:=ng (Dk.new n) 1 lf rfl (by unfold Dk.new;simp;omega) uS;have e1:(Dk.new n).dK 1 lf=(Dk.new n).wr 1 lf:=rfl;rw[if_neg (by simp[Dk.new]),e1] at hw;have h1:(aN.put ⟨0,0,[]⟩ [] (Dk.new n))=(⟨1,1,[]⟩,fN n,0):=by
  obtain⟨_,_,c3⟩:=tR ⟨0,0,[]⟩ (Dk.new n) [] ((Dk.new n).wr 1 lf,0) (fN n,0) (by show _=(Dk.new n).write ((1:Nat):Int) lf;rw[hw]) (by show _=((Dk.new n).wr 1 lf).flush;unfold fN;rw[du _ rfl]);exact c3 rfl rfl
 show ((aN.put ⟨0,0,[]⟩ [] (Dk.new n)).2.1,(aN.put ⟨0,0,[]⟩ [] (Dk.new n)).2.2)=_;rw[h1]
theorem Am (h:2<=n) (hn:n<=65536):Good (fN n) ⟨1,1,[]⟩ (fun _=>0) 1:=by
 have hwf0:Af (Dk.new n):=⟨fun x hx=>by cases hx⟩;have hl0:(Dk.new n).cells.length=n:=by unfold Dk.new;simp
 have hwf:Af ((Dk.new n).wr 1 lf):=zl hwf0 (by rw[hl0];omega) uS;have hc:=eL hwf rfl;have hl:(fN n).cells.length=n:=hc.len.trans hl0;have hmay: ∀ i r,i<n->jT (fN n) i r->r=(if i=1 then (lf,0) else (List.replicate 512 0,0)):=fun i r hi hr=>by
  rw[hc.one i r (by show i<((Dk.new n).wr 1 lf).cells.length;rw[Gb,hl0];exact hi) hr,iE _ hwf rfl i (by rw[Gb,hl0];exact hi),qm rfl (by rw[hl0];exact hi)];by_cases e:i=1
  .rw[if_pos e,if_pos e]
  .rw[if_neg e,if_neg e];exact yJ hi
 refine⟨⟨hc.off,hc.wf,by rw[hl];exact h,by rw[hl];exact hn,⟨by simp,List.Pairwise.nil,List.Pairwise.nil,by simp⟩,⟨Nat.le_refl _,by omega⟩,by simp,fun i hi hin r hr e=>?_⟩,⟨by show 1<2;omega,fun r hr=>?_,fun r hr e t g hu=>?_⟩⟩
 .rw[hmay i r (by rw[hl] at hin;exact hin) hr,if_neg (by omega)];have:(List.replicate 512 (0:UInt8)).take 8=List.replicate 8 0:=by rw[List.take_replicate];rfl
  show bI ((List.replicate 512 (0:UInt8)).take 8)<=1;rw[this];decide
 .rw[hmay 1 r (by omega) hr,if_pos rfl];rfl
 .rw[hmay 0 r (by omega) hr,if_neg (by omega)] at hu;rw[pE] at hu
  cases hu
theorem EZ:dA (fN n) 1:=dA.flush (dA.wr (n:=0) ⟨Nat.le_refl _,Nat.le_refl _⟩) rfl
theorem yA:(fN n).armed=0:=by unfold fN;rw[eU rfl];rfl
theorem Eg:(fN n).cells.length=n:=by unfold fN;rw[du _ rfl];show (List.foldl lay _ _).length=_;rw[qi];unfold Dk.wr Dk.dK Dk.new;simp
end
section
variable {D E:Dk} {S:aN} {sf:Nat->Nat} {lim n m i:Nat} {f:Fl} {b:List UInt8}
theorem Hr (hg:Good D S sf lim) {n:Int} {p:List UInt8} (ha:D.armed≠1) (hf:S.find n=some f) (hp:p.length<=480) (hl:f.aa.length<f.blocks):
 ∃ D',S.append n p D=(S.grow f.num p,D',0)/\Good D' (S.grow f.num p) sf lim/\(∀ n,dA D n->dA D' (n+1))/\D'.cells.length=D.cells.length/\D'.armed=D.armed - 1:=by
 have h:=ko hg n p
 cases h with
 | none h1 e=>rw[hf] at h1;cases h1
 | Gs f' h1 h2 e=>omega
 | full f' h1 h2 h3 e=>rw[hf] at h1;injection h1 with h1;subst h1;omega
 | off f' h1 h2 h3 h4 e=>exact absurd h4 ha
 | ok f' h1 h2 h3 h4 e g=>
  rw[hf] at h1;injection h1 with h1
  subst h1;rw[e] at g;exact⟨_,e,g,fun n hn=>hn.wr,rfl,rfl⟩
end
def aG (n:Nat):Nat:=((n*512 - 262144) / 8+100) / 480+2
def bC (n:Nat):Nat:=(n - 2 - 2*aG n) / 2
theorem jP {n:Nat} (h:n<=65536):2<=aG n/\aG n<=8672/\aG n*7<=n+21:=by unfold aG;omega
theorem mo {n:Nat} (h:64<=n):2+2*aG n+2*bC n<=n/\1<=bC n:=by unfold bC aG;omega
theorem tG (n:Nat) (hn:64<=n/\n<=65536) (w:World):Calls Tryz.prog 93 #[.int .i64 (n:Int)] w fun e w'=>e = .returned (.tuple #[.int .i64 (aG n:Nat),.int .i64 (bC n:Nat)])/\w=w':=by
 obtain⟨h1,h2⟩:=hn;have HI:Hid (∃ a:Nat,aG n=a / 480+2/\a=(n*512 - 262144) / 8+100):=⟨_,rfl,rfl⟩;by_cases hb:262144<=n*512
 .have hq:((n:Int)*512 - 262144).tdiv 8=(((n*512 - 262144) / 8:Nat):Int):=by
   rw[Int.tdiv_eq_ediv_of_nonneg (by omega)];omega
  have hq2:(0:Int)<=(((n*512 - 262144) / 8:Nat):Int):=by omega
  obtain⟨m,hm⟩: ∃ m,m=(n*512 - 262144) / 8:=⟨_,rfl⟩;have hmb:m<=4200000:=by omega
  rw[<-hm] at hq hq2;have hi:((m:Int)+100).tdiv 480=(((m+100) / 480:Nat):Int):=by rw[Int.tdiv_eq_ediv_of_nonneg (by omega)];omega
  have hI:aG n=(m+100) / 480+2:=by unfold aG;rw[hm]
  obtain⟨q,hq3⟩: ∃ q,q=(m+100) / 480:=⟨_,rfl⟩;rw[<-hq3] at hi hI;have hqb:q<=9000/\2*q+6<=n:=by omega
  have hl:((n:Int) - 2 - 2*((q:Int)+2)).tdiv 2=(bC n:Nat):=by
   rw[Int.tdiv_eq_ediv_of_nonneg (by omega)];unfold bC;rw[hI];omega
  have HIi:=ah hI;have HL:=ah hl;have hlb:bC n<=65536:=by unfold bC;omega
  have hmx:¬ (m:Int)<0:=by omega
  obtain⟨hqb1,hqb2⟩:=hqb;clear hm hq3 hI HI;go_enter Tryz.func93, Tryz.ntmps93;go_wp2_with fail
  all_goals
   go_ret2;refine⟨?_,rfl⟩;rw[HIi.o,show (((q+2:Nat)):Int)=(q:Int)+2 by omega];rfl
 .obtain⟨z,hz⟩: ∃ z,((n:Int)*512 - 262144).tdiv 8=z:=⟨_,rfl⟩;have hz0:z<0/\ -1000000<=z:=by
   have h3:((n:Int)*512 - 262144) = -((262144 - n*512:Nat):Int):=by omega
   rw[h3,Int.neg_tdiv,Int.tdiv_eq_ediv_of_nonneg (by omega)] at hz;omega
  obtain⟨hz1,hz2⟩:=hz0;have hI:aG n=2:=by unfold aG;omega
  have hl:((n:Int) - 2 - 4).tdiv 2=(bC n:Nat):=by
   rw[Int.tdiv_eq_ediv_of_nonneg (by omega)];unfold bC;rw[hI];omega
  have hi:((100:Int)).tdiv 480=0:=by decide
  have hmz:max z 0=0:=by omega
  have hlb:bC n<=65536:=by unfold bC;omega
  have HIi:=ah hI;clear hI HI;go_enter Tryz.func93, Tryz.ntmps93;go_wp2_with fail
  all_goals
   go_ret2;refine⟨?_,rfl⟩;rw[HIi.o];rfl
section
variable {w0 w:World} {F:SP} {d:Nat} {D:Dk}
theorem wL (n lg:Nat) (hn:64<=n/\n<=65536) (hD:D.cells.length=n) (hl:1<=lg/\lg<=2000000000) (h:Sat w0 (ae d D*F) w):
 Calls Tryz.prog 54 #[.pointer (some ⟨d,0,none⟩),.int .i64 (lg:Int)] w fun e w'=> ∃ g,e = .returned (.slice (some ⟨g,0,none⟩) 2 2)/\Sat w0 (Pt g 128 #[.int .i64 ((lg:Int) - 1),.int .i64 0,.int .i64 (aG n:Nat),.int .i64 (lg:Int),.int .i64 0,.int .i64 (bC n:Nat)]*(ae d D*F)) w':=by
 have HB:Hid (Calls Tryz.prog 51 #[.pointer (some ⟨d,0,none⟩)] w fun e w'=>e = .returned (.int .i64 (n:Int))/\w=w'):=by
  have h9:=il d D w0 w F h;rw[hD] at h9;exact h9
 have HS:=ah (fun W=>tG n hn W);have HA:=ah (h.af 128 #[.int .i64 ((lg:Int) - 1),.int .i64 0,.int .i64 (aG n:Nat),.int .i64 (lg:Int),.int .i64 0,.int .i64 (bC n:Nat)]);obtain⟨h1,h2⟩:=hl;clear h hn hD;go_enter Tryz.func54, Tryz.ntmps54;go_wp2_with (first
  | (go_at_call 51;(with_reducible refine HB.o.mono ?_);rintro e wx ⟨rfl,rfl⟩)
  | (go_at_call 93;(with_reducible refine(HS.o _).mono ?_);rintro e wx ⟨rfl,rfl⟩))
 go_ret;exact⟨_,rfl,HA.o⟩
theorem mP (s:Int) (hs:0<=s/\s<=1000000000) (w:World):Calls Tryz.prog 63 #[.int .i64 s] w fun e w'=>(∃ h:Int,e = .returned (.int .i64 h)/\ -9223372036854775808<=h/\h<=9223372036854775807)/\w=w':=by
 obtain⟨n,rfl⟩: ∃ n:Nat,s=n:=⟨s.toNat,by omega⟩;have hn:n<=1000000000:=by omega
 clear hs;go_enter Tryz.func63, Tryz.ntmps63;go_wp2_with fail;go_loopw [0,3] (fun sv hv wr=> ∃ (m h:Nat),sv = .int .i64 (m:Int)/\hv = .int .i64 (h:Int)/\h+m<=n+1/\w=wr) (fun sv _ _=>(intOf sv).toNat)
 case atStart=>exact⟨n,1,rfl,rfl,by omega,rfl⟩
 case round=>
  obtain⟨m,h,rfl,rfl,hm,rfl⟩:=hrel;have hb:h<=1000000001:=by omega
  have ha:=M5 (m:Int);by_cases h1:(m:Int) % 2=1
  .have hb1:((m:Int) % 2==1)=true:=by rw[h1];rfl
   have hm1:1<=m:=by omega
   clear h1;go_wp2_with fail;go_roundw
   .exact⟨m / 2,h+1,by go_num,by go_num,by omega,trivial⟩
   .simp[intOf];omega
  .have hb1:((m:Int) % 2==1)=false:=by simpa using h1
   clear h1;go_wp2_with fail;go_ret;exact⟨⟨h,rfl,by omega,by omega⟩,rfl⟩
end
section
variable {w0 w:World} {F:SP} {s d n m:Nat} {D D':Dk} {S S':aN} {sf:Nat->Nat} {lim:Nat} {f:Fl} {r:Int} {p:List UInt8}
theorem FT (n0:Int) (A:Option Addr) (c k:Nat) (hg:Good D S sf lim) (hc:dA D n) (hn:n<=999999999) (ha:D.armed<=9223372036854775807) (h:Sat w0 (ag s d S*(ae d D*F)) w) (hp: ∀ W,Sat w0 F W->Rd W A p) (hk:p.length=k) (hr:S.append n0 p D=(S',D',r)):
 Calls Tryz.prog 120 #[.pointer (some ⟨s,0,none⟩),.int .i64 n0,.slice A k c] w fun e w'=>e = .returned (.int .i64 r)/\Sat w0 (ag s d S'*(ae d D'*F)) w':=by
 subst hk;have h2:=DM n0 A c p hg h hp (by have:=hc.writes;omega) (by have:=hc.pend;omega) ha;rw[hr] at h2;exact h2
end
def aN.cO (n:Int):List (List UInt8)->aN->Dk->aN × Dk × Int
 | [],S,D=>(S,D,0)
 | p::ps,S,D=>if (S.append n p D).2.2=0 then aN.cO n ps (S.append n p D).1 (S.append n p D).2.1 else S.append n p D
def aN.hU (S:aN) (n:Int) (b:List UInt8) (D:Dk):aN × Dk × Int:=
 match S.find n with
 | none=>(S,D,34)
 | some f=>if 262144<b.length then (S,D,40) else if (f.blocks:Int) - f.aa.length<bz b.length then (S,D,41) else aN.cO n (split b) S D
theorem fB (n:Int) (p:List UInt8) (ps:List (List UInt8)) (S:aN) (D:Dk):aN.cO n (p::ps) S D=if (S.append n p D).2.2=0 then aN.cO n ps (S.append n p D).1 (S.append n p D).2.1 else S.append n p D:=rfl
theorem jo (b:List UInt8):(split b).length=bz b.length:=by unfold split;simp
theorem sh {b p:List UInt8} (h:p ∈ split b):p.length<=480:=by
 unfold split at h;obtain⟨i,_,rfl⟩:=List.mem_map.1 h;unfold frame;rw[List.length_cons,od];omega
theorem xJ (k:Nat) (w:World) (h:k<=9223372036854775807):Calls Tryz.prog 116 #[.int .i64 (k:Int)] w fun e w'=>e = .returned (.int .i64 (bz k:Int))/\w=w':=by
 have:=si (k:Int) w (by omega);have e:kR (k:Int)=(bz k:Int):=by rw[kR,if_pos (by omega),Int.toNat_natCast]
 rwa [e] at this
theorem Lq {rs:bP} {ps:List (List UInt8)} (h:bT rs=ps) (i:Nat) (hi:i<rs.length):ps.drop i=rs[i].2.2::ps.drop (i+1):=by
 subst h;rw[List.drop_eq_getElem_cons (by unfold bT;simpa using hi)];congr 1
 unfold bT;simp
theorem aH.LK {w:World} {A:Option Addr} {rs:bP} (h:aH w A (rs.map aE)) {k:Nat} (hk:k<rs.length): ∃ b o,A=some ⟨b,o,none⟩/\w.cell? ⟨b,o+k,none⟩=some (aE rs[k]):=by
 obtain⟨b,o,e,hc⟩:=h (by intro e;have:=congrArg List.length e;simp at this;rw[this] at hk;simp at hk);refine⟨b,o,e,?_⟩;have:=hc k (by simpa using hk);rw[this];simp
theorem Sat.CE {w0 w:World} {A B C F:SP} (h:Sat w0 (A*(B*(C*F))) w):Sat w0 (A*(B*F)) w:=(h.bD.right)
section
variable {w0 w:World} {F:SP} {s d n m:Nat} {D D':Dk} {S S':aN} {sf:Nat->Nat} {lim:Nat} {f:Fl} {p:List UInt8}
theorem rj (hg:Good D S sf lim) (n:Int) (p:List UInt8) (hc:dA D m) (ha:D.armed<=9223372036854775807) (h0:(S.append n p D).2.2=0):
 Good (S.append n p D).2.1 (S.append n p D).1 sf lim/\dA (S.append n p D).2.1 (m+1)/\(S.append n p D).2.1.armed<=9223372036854775807:=by
 have h:=ko hg n p
 cases h with
 | none h1 e=>rw[e] at h0;simp at h0
 | Gs f' h1 h2 e=>rw[e] at h0;simp at h0
 | full f' h1 h2 h3 e=>rw[e] at h0;simp at h0
 | off f' h1 h2 h3 h4 e=>rw[e] at h0;simp at h0
 | ok f' h1 h2 h3 h4 e g=>
  obtain⟨D',e',g',c',_,a'⟩:=Hr hg h4 h1 h2 h3;rw[e'];exact⟨g',c' _ hc,by rw[a'];omega⟩
end
section
variable {w0 w:World} {F:SP} {s d n m:Nat} {D:Dk} {S:aN} {sf:Nat->Nat} {lim:Nat} {b:List UInt8}
theorem C7 (n:Int) (A:Option Addr) (c:Nat) (hg:Good D S sf lim) (hc:dA D m) (hm:m<=999999000) (ha:D.armed<=9223372036854775807) (h:Sat w0 (ag s d S*(ae d D*F)) w) (hp: ∀ W,Sat w0 F W->Rd W A b) (hbc:b.length<=c) (hcm:c<=9223372036854775807):
 Calls Tryz.prog 72 #[.pointer (some ⟨s,0,none⟩),.int .i64 n,.slice A b.length c] w fun e w'=>e = .returned (.int .i64 (S.hU n b D).2.2)/\Sat w0 (ag s d (S.hU n b D).1*(ae d (S.hU n b D).2.1*F)) w':=by
 have HS:=ah h;have hbl:b.length<=9223372036854775807:=by omega
 obtain⟨L,hL⟩: ∃ L,L=b.length:=⟨_,rfl⟩
 cases hf:S.find n with
 | none=>
  have e1:S.hU n b D=(S,D,34):=by unfold aN.hU;rw[hf]
  rw[e1];have HR:=ah (AD (n:=n) hg h hf);clear hg h e1 hL;go_enter Tryz.func72, Tryz.ntmps72;go_wp2_with (go_at_call 118;(with_reducible refine HR.o.mono ?_);rintro e w1 ⟨rfl,rfl⟩);go_ret;exact⟨rfl,HS.o⟩
 | some f=>
  have HR:=ah (Jf (n:=n) hg h hf);by_cases h1:262144<b.length
  .have e1:S.hU n b D=(S,D,40):=by unfold aN.hU;rw[hf];simp only;rw[if_pos h1]
   rw[e1];rw[<-hL] at*
   have h1':(262144:Int)<L:=by omega
   clear hg h e1 hL;go_enter Tryz.func72, Tryz.ntmps72;go_wp2_with (go_at_call 118;(with_reducible refine HR.o.mono ?_);rintro e w1 ⟨rfl,hs⟩;have HS1:=ah hs;clear hs);go_ret;exact⟨rfl,HS1.o⟩
  .have HN:=fun W=>xJ b.length W hbl
   by_cases h2:(f.blocks:Int) - f.aa.length<bz b.length
   .have e1:S.hU n b D=(S,D,41):=by unfold aN.hU;rw[hf];simp only;rw[if_neg h1,if_pos h2]
    rw[e1];generalize bz b.length=k at*
    generalize (f.blocks:Int) - f.aa.length=r at*
    rw[<-hL] at*
    have h1':¬ (262144:Int)<L:=by omega
    have HN:=ah HN;clear hg h e1 hL;go_enter Tryz.func72, Tryz.ntmps72;go_wp2_with (first
     | (go_at_call 118;(with_reducible refine HR.o.mono ?_);rintro e w1 ⟨rfl,hs⟩;have HS1:=ah hs;clear hs)
     | (go_at_call 116;(with_reducible refine(HN.o _).mono ?_);rintro e wx ⟨rfl,rfl⟩))
    go_ret;exact⟨rfl,HS1.o⟩
   .have e1:S.hU n b D=aN.cO n (split b) S D:=by unfold aN.hU;rw[hf];simp only;rw[if_neg h1,if_neg h2]
    rw[e1];have HSp:Hid (∀ W,Sat w0 F W->Calls Tryz.prog 119 #[.slice A b.length c] W (sH b W)):=fun W hW=>Ej A c b W (hp W hW) hbc hcm (by omega)
    have hN548:=rr b.length;have HLn:=ah (jo b);have HEach:Hid (∀ p ∈ split b,p.length<=480):=fun p hp=>sh hp
    unfold sH at HSp;generalize hsp:split b=ps at*
    generalize bz b.length=k at*
    generalize hr0:(f.blocks:Int) - f.aa.length=r at*
    rw[<-hL] at*
    have h1':¬ (262144:Int)<L:=by omega
    have HN:=ah HN;have HG:=ah hg;have HC:=ah hc;have HA:=ah ha;have h2':¬ (r:Int)<k:=h2;clear hg h e1 hL hsp hr0 hc ha h1 h2 hf hbl hbc hcm hp;go_enter Tryz.func72, Tryz.ntmps72;go_upto_region 8 with (first
     | (go_at_call 118;(with_reducible refine HR.o.mono ?_);rintro e w1 ⟨rfl,hs⟩;have HS1:=ah hs;clear hs)
     | (go_at_call 116;(with_reducible refine(HN.o _).mono ?_);rintro e wx ⟨rfl,rfl⟩))
    have HSpl:=ah (HSp.o _ HS1.o.right.right);go_upto_region 9 with (go_at_call 119;(with_reducible refine HSpl.o.mono ?_);rintro e w2 ⟨v,rs,rfl,ht,ho,hk⟩;have HS2:=ah (HS1.o.Km hk ho);have HT:=ah ht;clear ht ho hk;obtain⟨A2,c2,rfl,_⟩:=HS2.o.aT)
    have HLr:Hid (rs.length=k):=by unfold Hid;rw[<-HLn.o, <-HT.o];unfold bT;simp
    have HXk:=ah (Lq HT.o);obtain⟨N,hN⟩: ∃ N,N=rs.length:=⟨_,rfl⟩;have HNr:Hid (N=rs.length/\N=ps.length):=⟨hN,by rw[hN,HLr.o,HLn.o]⟩;have hNk:N<=548:=by rw[hN,HLr.o];exact hN548
    rw[<-hN] at HS2 ⊢;clear hN HN HR HSp HSpl HS1 HS hN548;go_loopw [35] (fun iv wr=> ∃ (i:Nat) (S':aN) (D':Dk),i<=N/\iv = .int .i64 (i:Int)/\Hid (Good D' S' sf lim/\dA D' (m+i)/\D'.armed<=9223372036854775807/\aN.cO n ps S D=aN.cO n (ps.drop i) S' D'/\Sat w0 (ag s d S'*(ae d D'*(Row 41 1 (.slice A2 N c2) N (rs.map aE)*(dM rs*F)))) wr)) (fun iv _=>N - (intOf iv).toNat)
    case atStart=>exact⟨0,S,D,by omega,rfl,HG.o,HC.o,HA.o,rfl,HS2.o.of (by ac_rfl)⟩
    case round=>
     obtain⟨i,S',D',hi,rfl,HD⟩:=hrel;by_cases hlt:i<N
     .have hk2:(i:Int)<N:=by omega
      have hkm:i+1<=N:=hlt;have hir:i<rs.length:=by rw[<-HNr.o.1];exact hlt
      obtain⟨b5,o5,rfl,q0⟩:=HD.o.2.2.2.2.bD.ic.LK hir;have hpe:(ps.drop i)=rs[i].2.2::ps.drop (i+1):=HXk.o i hir;have hpl:rs[i].2.2.length<=480:=HEach.o _ (List.mem_of_mem_drop (i:=i) (by rw[hpe];exact List.mem_cons_self));have hrd: ∀ W,Sat w0 (Row 41 1 (.slice (some ⟨b5,o5,none⟩) N c2) N (rs.map aE)*(dM rs*F)) W->Rd W rs[i].1 rs[i].2.2:=fun W hW=>BZ hW.right (List.getElem_mem hir)
      obtain⟨A3,c3,p,hx⟩: ∃ A3 c3 p,rs[i]=(A3,c3,p):=⟨_,_,_,rfl⟩;rw[hx] at q0 hpe hpl hrd;dsimp only at hpe hpl hrd;unfold aE at q0;dsimp only at q0;obtain⟨S2,D2,r2,he⟩: ∃ S2 D2 r2,S'.append n p D'=(S2,D2,r2):=⟨_,_,_,rfl⟩;have hAp:=FT n A3 c3 p.length HD.o.1 HD.o.2.1 (by omega) HD.o.2.2.1 HD.o.2.2.2.2 hrd rfl he;have hst:aN.cO n ps S D=if r2=0 then aN.cO n (ps.drop (i+1)) S2 D2 else (S2,D2,r2):=by
       rw[HD.o.2.2.2.1,hpe,fB,he]
      have hnx:=fun h0=>rj HD.o.1 n p HD.o.2.1 HD.o.2.2.1 (by rw[he];exact h0)
      rw[he] at hnx;have HAp:=ah hAp;have HSt:=ah hst;have HNx:=ah hnx;clear hAp hst hnx hpe hrd hx he;generalize p.length=pl at*
      by_cases hr2:r2=0
      .subst hr2;have HN0:=ah (HNx.o rfl);have HS0:Hid (aN.cO n ps S D=aN.cO n (ps.drop (i+1)) S2 D2):=by unfold Hid;rw[HSt.o,if_pos rfl]
       clear HNx HSt;go_wp2_with (go_at_call 120;(with_reducible refine HAp.o.mono ?_);rintro e w4 ⟨rfl,hs⟩;have HS4:=ah hs;clear hs);go_roundw
       .exact⟨i+1,S2,D2,hkm,by push_cast;rfl,HN0.o.1,HN0.o.2.1,HN0.o.2.2,HS0.o,HS4.o⟩
       .simp[intOf];omega
      .have hr3:(r2 !=0)=true:=by rw[bne_iff_ne];exact hr2
       have HE:Hid (aN.cO n ps S D=(S2,D2,r2)):=by unfold Hid;rw[HSt.o,if_neg hr2]
       go_wp2_with (go_at_call 120;(with_reducible refine HAp.o.mono ?_);rintro e w4 ⟨rfl,hs⟩;have HS4:=ah hs;clear hs);go_ret;rw[HE.o];exact⟨rfl,HS4.o.CE.CE⟩
     .have hk2:¬ (i:Int)<N:=by omega
      have HE:Hid (aN.cO n ps S D=(S',D',0)):=by
       unfold Hid;rw[HD.o.2.2.2.1,List.drop_of_length_le (by have:=HNr.o.2;omega)];rfl
      go_wp2_with fail;go_ret;rw[HE.o];exact⟨rfl,HD.o.2.2.2.2.CE.CE⟩
end
section
variable {w0 w:World} {F:SP} {s d slot turn:Nat} {v:Value} {ps:List (Nat × Fl)} {D:Dk}
theorem xw (n:Int) (h:Sat w0 (aU s d slot turn v ps*F) w) (hl:ps.length<=1000000) {i:Nat} (hi:i<ps.length) (he:fq ps n=i) (hf:ps[i].2.aa.length<=65536) (hsm: ∀ p ∈ ps[i].2.aa,p.length<=480):
 Calls Tryz.prog 59 #[.pointer (some ⟨s,0,none⟩),.int .i64 n] w fun e w'=> ∃ u ts,e = .returned (.tuple #[u,.int .i64 0])/\bT ts=ps[i].2.aa/\(∀ x ∈ ts,x.2.2.length<=x.2.1/\x.2.1<=maxLen)/\Sat w0 (Row 41 1 u ts.length (ts.map aE)*(ca ts*(aU s d slot turn v ps*F))) w':=by
 obtain⟨i0,hi0',hz0',hz1',hz2'⟩:=info_parts BS;have hi0:=ah hi0';have hz0:=ah hz0';have hz1:=ah hz1';have hz2:=ah hz2';have HF:=eD n h hl;rw[he,List.getElem?_eq_getElem hi] at HF;have HF:=ah HF;obtain⟨v5,ks,hks,hfl⟩:=(h.of (fY hi)).fl;obtain⟨A,c,rfl,hu1,hu2⟩:=hfl.av.aT;have g5:w.cell? ⟨ps[i].1,5,none⟩=some (.slice A ks.length c):=hfl.cell 5;have HS:=ah hfl;have hkl:ks.length=ps[i].2.aa.length:=by rw[<-hks,bT,List.length_map]
 have HKs:=ah hks;have HSm:Hid (∀ k ∈ ks,k.2.2.length<=480):=fun k hk=>hsm k.2.2 (by rw[<-hks];exact List.mem_map_of_mem hk)
 have hk16:ks.length<=65536:=by omega
 clear h hks he hkl hf hsm hi0' hz0' hz1' hz2' hfl;obtain⟨G,hG⟩: ∃ G,G=Pt s 153 #[aZ d,.int .i64 (slot:Int),.int .u64 (turn:Int),v]*(Row 155 1 v ps.length (ps.map fun x=>aZ x.1)*(br (ps.eraseIdx i)*F)):=⟨_,rfl⟩;rw[<-hG] at HS;have HG:=ah hG;clear hG;go_enter Tryz.func59, Tryz.ntmps59;go_wp2_with (go_at_call 103;(with_reducible refine HF.o.mono ?_);rintro x wx ⟨rfl,rfl⟩;unfold np aZ;dsimp only);go_loopw [7,9,20] (fun ov _ iv wr=> ∃ (k:Nat) (C:Option Addr) (cc:Nat) (ts:bP),k<=ks.length/\ov = .slice C k cc/\iv = .int .i64 (k:Int)/\Hid ((∀ x ∈ ts,x.2.2.length<=x.2.1/\x.2.1<=maxLen)/\ts.length=k/\bT ts=bT (ks.take k)/\Sat w0 (Row 41 1 (.slice C k cc) k (ts.map aE)*(ca ts*(Pt ps[i].1 163 (pO ps[i].2 (.slice A ks.length c))*(Row 41 1 (.slice A ks.length c) ks.length (ks.map aE)*(ca ks*G))))) wr)) (fun _ _ iv _=>ks.length - (intOf iv).toNat)
 case atStart=>exact⟨0,none,0,[],by omega,rfl,rfl,by simp,rfl,rfl,(HS.o.lE [] (by simp)).aI _ 1⟩
 case round=>
  obtain⟨k,C,cc,ts,hk,rfl,rfl,HD⟩:=hrel;by_cases hlt:k<ks.length
  .have hrd:sQ wr A ks:=⟨aH.bO HD.o.2.2.2.bW.aS,fun x hx=>HD.o.2.2.2.gw.Fe hx⟩;obtain⟨⟨b,o,rfl,hc⟩,hx⟩:=hrd.get hlt;have hk2:(k:Int)<ks.length:=by omega
   have hxl:=HSm.o ks[k] (List.getElem_mem hlt);have HT:Hid (bT (ks.take (k+1))=bT (ks.take k)++[ks[k].2.2]):=by
    unfold Hid bT;rw[List.take_succ_eq_append_getElem hlt,List.map_append];rfl
   have HCl:=ah (eT ks[k].1 ks[k].2.1 ks[k].2.2 wr hx (by omega));clear hx hrd;generalize ks[k]=x at*
   go_wp2_with (first
    | (go_at_call 104;(with_reducible refine HCl.o.mono ?_);rintro e w2 ⟨v2,rfl,h2,_,k2⟩;have hs:=HD.o.2.2.2.dP k2 h2;obtain⟨A2,c2,hv2,hcp⟩:=hs.aT;subst hv2;have HCp:=ah hcp;clear hcp;have HS2:=ah (hs.eI (l:=x.2.2));clear hs h2 k2)
    | (at_builtin;refine au rfl (.tmp 24) (.tmp 27) 87 rfl 41 i0 _ 1 24 Tryz.underlying87 hi0.o hz0.o hz1.o hz2.o rfl (by decide) (.slice C k cc) k (ts.map aE) rfl w0 _ (by exact(HS2.o.aC _).av) (some ⟨w2.heap.size,0,none⟩) 1 1 [aE (A2,c2,x.2.2)] rfl (aL _ _ _) rfl (ju _) (by unfold maxLen;omega) (by omega) ?_;intro A3 c3 w3 hs3;have HS3:=ah hs3;clear hs3))
   go_roundw
   .refine⟨k+1,A3,c3,ts++[(A2,c2,x.2.2)],by omega,rfl,by push_cast;rfl,?_,?_,?_,?_⟩
    .intro y hy;rcases List.mem_append.1 hy with h9 | h9
     .exact HD.o.1 y h9
     .rw[List.mem_singleton.1 h9];exact HCp.o
    .rw[List.length_append,HD.o.2.1];rfl
    .rw[HT.o, <-HD.o.2.2.1,bT,List.map_append];rfl
    .rw[List.map_append];exact HS3.o.of (by rw[<-iM,List.map_singleton];ac_rfl)
   .simp[intOf];omega
  .obtain rfl:k=ks.length:=by omega
   have hk2:¬ ((ks.length:Nat):Int)<ks.length:=by omega
   go_wp2_with fail;go_ret2;refine⟨_,rfl,ts,?_,(fun a b c hm=>HD.o.1 _ hm),?_⟩
   .rw[HD.o.2.2.1,List.take_length];exact HKs.o
   .rw[HD.o.2.1];have h9:=Sat.Kw HKs.o (HD.o.2.2.2.of (show _=Pt ps[i].1 163 (pO ps[i].2 (.slice A ks.length c))*(Row 41 1 (.slice A ks.length c) ks.length (ks.map aE)*(ca ks*(Row 41 1 (.slice C ks.length cc) ks.length (ts.map aE)*(ca ts*G)))) by ac_rfl));refine h9.of ?_;rw[HG.o,fY hi]
    ac_rfl
end
section
variable {w0 w:World} {F:SP} {s d:Nat} {D:Dk} {v:Value} {ps:List (Nat × Fl)} {S:aN} {sf:Nat->Nat} {lim:Nat} {f:Fl}
theorem qR {n:Int} (hg:Good D S sf lim) (h:Sat w0 (ag s d S*(ae d D*F)) w) (hf:S.find n=some f):
 Calls Tryz.prog 59 #[.pointer (some ⟨s,0,none⟩),.int .i64 n] w fun e w'=> ∃ u ts,e = .returned (.tuple #[u,.int .i64 0])/\bT ts=f.aa/\(∀ x ∈ ts,x.2.2.length<=x.2.1/\x.2.1<=maxLen)/\Sat w0 (Row 41 1 u ts.length (ts.map aE)*(ca ts*(ag s d S*(ae d D*F)))) w':=by
 obtain⟨v,ps,hps,hs⟩:=h.space;obtain⟨i,hi,he,rfl⟩:=qe hps hf;obtain⟨k1,k2,k3,k4,k5⟩:=hg.file (iH hf).1;refine(xw n hs (by have:=bU hps hg;omega) hi he (by omega) k3).mono ?_;rintro e w' ⟨u,ts,h1,h2,hcp,h3⟩;refine⟨u,ts,h1,h2,hcp,?_⟩;have h4:=Sat.eM hps (h3.of (show _=aU s d S.slot S.turn v ps*(Row 41 1 u ts.length (ts.map aE)*(ca ts*(ae d D*F))) by ac_rfl));exact h4.of (by ac_rfl)
end
theorem yi: ∀ {l:List (List UInt8)},(∀ p ∈ l,p.length<=480)->l.flatten.length<=l.length*480
 | [],_=>by simp
 | p::l,h=>by
  have h1:=h p List.mem_cons_self;have h2:=yi (l:=l) fun q hq=>h q (List.mem_cons_of_mem _ hq)
  rw[List.flatten_cons,List.length_append,List.length_cons];omega
section
variable {w0 w:World} {F:SP} {s d n m:Nat} {D:Dk} {S:aN} {sf:Nat->Nat} {lim:Nat} {f:Fl}
theorem Js {n:Int} (hg:Good D S sf lim) (h:Sat w0 (ag s d S*(ae d D*F)) w) (hf:S.find n=some f):
 Calls Tryz.prog 64 #[.pointer (some ⟨s,0,none⟩),.int .i64 n] w fun e w'=> ∃ u rs,e = .returned (.tuple #[u,.int .i64 0])/\bT rs=whole f.aa/\Sat w0 (Row 41 1 u rs.length (rs.map aE)*(dM rs*(ag s d S*(ae d D*F)))) w':=by
 have HF:=ah (qR (n:=n) hg h hf);obtain⟨k1,k2,k3,k4,k5⟩:=hg.file (iH hf).1;have hfl:=yi k3;have HW:Hid (∀ (A:Option Addr) (c:Nat) (ts:bP) W,bT ts=f.aa->(∀ x ∈ ts,x.2.2.length<=x.2.1/\x.2.1<=maxLen)->sQ W A ts->Calls Tryz.prog 111 #[.slice A ts.length c] W (fun e w'=> ∃ v rs,e = .returned v/\bT rs=whole f.aa/\fu W.heap.size w' v rs/\aq No W w')):=fun A c ts W ht hcp hr=>by
  have hl:ts.length=f.aa.length:=by rw[<-ht];unfold bT;simp
  have h9:=Eu A c ts W hr hcp (by rw[ht];omega) (by omega);rw[ht] at h9;exact h9
 clear hg h hf k1 k2 k3 k4 k5 hfl;go_enter Tryz.func64, Tryz.ntmps64;go_wp2_with (first
  | (go_at_call 59;(with_reducible refine HF.o.mono ?_);rintro e w1 ⟨u,ts,rfl,ht,hcp,hs⟩;obtain⟨A,c,rfl,_⟩:=hs.aT;have HS1:=ah hs;have HWc:=ah (HW.o A c ts w1 ht hcp ⟨hs.ic,fun x hx=>hs.av.Fe hx⟩);clear hs ht hcp)
  | (go_at_call 111;(with_reducible refine HWc.o.mono ?_);rintro e w2 ⟨v,rs,rfl,ht,ho,hk⟩;have HS2:=ah (HS1.o.Km hk ho);have HT:=ah ht;clear ht ho hk))
 go_ret2;exact⟨_,rs,rfl,HT.o,HS2.o.bD.right.bD.right⟩
end
def aN.fw (S:aN) (k:Nat) (ps:List (List UInt8)):aN:={ S with files:=S.files.map fun g=>if g.num=k then { g with aa:=g.aa++ps } else g }
theorem uC (S:aN) (k:Nat):S.fw k []=S:=by
 unfold aN.fw;have h:(fun g:Fl=>if g.num=k then { g with aa:=g.aa++[] } else g)=id:=by
  funext g
  split
  .rw[List.append_nil];rfl
  .rfl
 rw[h,List.map_id]
theorem qQ (S:aN) (k:Nat) (p:List UInt8) (ps:List (List UInt8)):(S.grow k p).fw k ps=S.fw k (p::ps):=by
 unfold aN.fw aN.grow;simp only[List.map_map];congr 1
 apply List.map_congr_left;intro g _;simp only[Function.comp];by_cases h:g.num=k
 .simp[h]
 .simp[h]
section
variable {D D':Dk} {S S':aN} {sf:Nat->Nat} {lim m k:Nat} {f:Fl} {p:List UInt8} {ps:List (List UInt8)}
theorem qH (n:Int):(S.fw k ps).find n=(S.find n).map fun g=>if g.num=k then { g with aa:=g.aa++ps } else g:=by
 unfold aN.fw aN.find;simp only;rw[List.find?_map];congr 2
 funext g
 simp only[Function.comp];split<;>rfl
theorem CL (S:aN) (k:Nat) (p:List UInt8):S.grow k p=S.fw k [p]:=rfl
theorem xy {n:Int}: ∀ (ps:List (List UInt8)) {S:aN} {D:Dk} {f:Fl},Good D S sf lim->S.find n=some f->(∀ p ∈ ps,p.length<=480)->f.aa.length+ps.length<=f.blocks->(D.armed=0\/ps.length<D.armed)->
 ∃ D',aN.cO n ps S D=(S.fw f.num ps,D',0)/\Good D' (S.fw f.num ps) sf lim/\(∀ m,dA D m->dA D' (m+ps.length))/\D'.cells.length=D.cells.length/\D'.armed=D.armed - ps.length
 | [],S,D,f,hg,hf,hp,hl,ha=>⟨D,by rw[uC];rfl,by rw[uC];exact hg,fun m h=>h,rfl,rfl⟩
 | p::ps,S,D,f,hg,hf,hp,hl,ha=>by
  rw[List.length_cons] at hl ha;obtain⟨D1,e1,g1,c1,l1,a1⟩:=Hr hg (n:=n) (p:=p) (by omega) hf (hp p List.mem_cons_self) (by omega);have h2:(S.grow f.num p).find n=some { f with aa:=f.aa++[p] }:=by
   rw[CL,qH,hf];simp
  obtain⟨D2,e2,g2,c2,l2,a2⟩:=xy ps g1 h2 (fun q hq=>hp q (List.mem_cons_of_mem _ hq)) (by simp only[List.length_append,List.length_singleton];omega) (by omega);simp only at e2 g2;rw[qQ] at e2 g2;refine⟨D2,?_,g2,fun m h=>?_,l2.trans l1,by rw[a2,a1,List.length_cons];omega⟩
  .rw[fB,e1];exact(if_pos rfl).trans e2
  .have:=c2 _ (c1 m h);rw[List.length_cons];exact this.mono (by omega)
theorem J4 {n:Int} {b:List UInt8} (hf:S.find n=some f) (hb:b.length<=262144) (hl:f.blocks<f.aa.length+bz b.length):S.hU n b D=(S,D,41):=by
 unfold aN.hU;rw[hf];simp only;rw[if_neg (by omega),if_pos (by omega)]
end
section
variable {D:Dk} {sf:Nat->Nat} {lim:Nat}
theorem nz {S:aN} {m:Nat} (hg:Good D S sf lim) (h:lim<=m) (hm:m<=1000000000):Good D S sf m:=
 ⟨⟨hg.fils.off,hg.fils.wf,hg.fils.two,hg.fils.aD,hg.fils.ok,⟨Nat.le_trans hg.fils.cap.1 h,hm⟩,fun f hf=>⟨Nat.le_trans (hg.fils.each f hf).1 h,(hg.fils.each f hf).2⟩,hg.fils.births⟩,hg.heads⟩
end
section
variable {w0 w:World} {F:SP} {s d:Nat} {D:Dk} {S:aN} {sf:Nat->Nat} {lim:Nat}
theorem zH (hg:Good D S sf lim) (a:Nat):Good { D with armed:=a } S sf lim:=
 ⟨⟨hg.fils.off,⟨hg.fils.wf.pend⟩,hg.fils.two,hg.fils.aD,hg.fils.ok,hg.fils.cap,fun f hf=>by
  obtain⟨h1,ls,h2⟩:=hg.fils.each f hf;exact⟨h1,ls,h2.same (E:={ D with armed:=a }) (fun k hk=>rfl) (fun k r hk hr=>hr)⟩,hg.fils.births⟩,⟨hg.heads.lt,hg.heads.here,hg.heads.there⟩⟩
end
end Go.Proofs.YtmbaiglpgaoogaaGreat
