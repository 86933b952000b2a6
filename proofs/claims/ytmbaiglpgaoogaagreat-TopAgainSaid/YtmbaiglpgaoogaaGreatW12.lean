/- Joined, as they were built one by one: Ext15 Ext16 Ext17 Ext18 Ext19 Sto1 Ext20. -/
import Derived.Test.YtmbaiglpgaoogaaGreatW09
import Derived.Test.YtmbaiglpgaoogaaGreatW10
import Derived.Test.YtmbaiglpgaoogaaGreatW11
set_option maxHeartbeats 16000000
set_option linter.unusedVariables false
set_option maxRecDepth 100000
namespace Go.Proofs.YtmbaiglpgaoogaaGreat
open Go.RowKit Go.Sort Z
section
variable {w0 w:World} {F:SP} {α:Type} [Inhabited α]
theorem EJ {enc:α->Value} {cur:Array Value} {d:Array α} {m:Nat} (hm:d.size=m) (h:m<=cur.size):(putCells enc 0 d cur).toList.take m=d.toList.map enc:=by
 subst hm;apply List.ext_getElem?;intro j;by_cases hj:j<d.size
 .rw[List.getElem?_take_of_lt hj,Array.getElem?_toList];simp[putCells,hj,show j<cur.size by omega]
 .rw[List.getElem?_take_eq_none (by omega),List.getElem?_eq_none (by simp;omega)]
theorem Sat.sorted {e:TypeId} {size n cap g q:Nat} {xs:List Value} {os:Array Obj} (enc:α->Value) (d:Array α) (h:Sat w0 (Row e size (.slice (some ⟨g,0,none⟩) n cap) n xs*F) w) (hs:d.size=n*size):
 Sat w0 (Row e size (.slice (some ⟨g,0,none⟩) n cap) n (d.toList.map enc)*F) (grow (putRow enc (Sort.ahead w q) g 0 d) os):=by
 obtain⟨hl,⟨h1,_⟩ | ⟨g',cap',cur,h1,h2,h3,h4,h5,h6⟩⟩:=h.cu
 .cases h1
 .injection h1 with e1 e2 e3
  injection e1 with e1
  injection e1 with e1
  subst e1;subst e3;have hb:=h6.block;have hg:g<w.heap.size:=(Array.getElem?_eq_some_iff.1 hb).1;have hb':(grow (putRow enc (Sort.ahead w q) g 0 d) os).heap[g]?=some (.cells (putCells enc 0 d cur) e (0,0)):=by
   unfold grow;rw[Array.getElem?_append_left (by simpa using hg)];simp[putRow,mapBlock,Sort.ahead,Array.getElem?_modify,hb,onCells]
  have hk:w.grownBy (grow (putRow enc (Sort.ahead w q) g 0 d) os) (some g):=by
   refine⟨rfl,rfl,rfl,by simp,fun k hk hne=>?_⟩;unfold grow;rw[Array.getElem?_append_left (by simpa using hk)];have:g≠k:=fun e=>hne (by rw[e])
   simp[putRow,mapBlock,Sort.ahead,Array.getElem?_modify,this]
  have h7:Sat w0 (Pt g e (putCells enc 0 d cur)*F) (grow (putRow enc (Sort.ahead w q) g 0 d) os):=h6.turn ((ao.eD hk).mono fun i _ hi=>Option.some.inj hi) hb';have hsz:(putCells enc 0 d cur).size=cap*size:=by unfold putCells;rw[Array.size_mapIdx,h4]
  have h8:=Sat.dN (n:=n) h7 h2 h3 hsz;rw[EJ hs (by rw[h4];exact Nat.mul_le_mul_right _ h2)] at h8;exact h8
end
def qz (x:Nat × Nat × Nat):List Value:=dr x
def cmpL (x y:Nat × Nat × Nat):Int:=Lib.compareInt (x.2.1:Int) (y.2.1:Int)
theorem oS (x y:Nat × Nat × Nat):ltOf cmpL x y=decide (x.2.1<y.2.1):=by
 unfold ltOf cmpL Lib.compareInt;by_cases h1:(x.2.1:Int)<y.2.1
 .rw[if_pos h1,decide_eq_true (by omega),decide_eq_true (by omega)]
 .rw[if_neg h1];by_cases h2:(x.2.1:Int)>y.2.1
  .rw[if_pos h2,decide_eq_false (by omega),decide_eq_false (by omega)]
  .rw[if_neg h2,decide_eq_false (by omega),decide_eq_false (by omega)]
theorem EI:SWO (ltOf cmpL) where
 irrefl x:=by rw[oS];simp
 trans x y z h1 h2:=by rw[oS] at*;simp at*;omega
 ntrans x y z h1 h2:=by rw[oS] at*;simp at*;omega
theorem D5 (x y:Nat × Nat × Nat) (W:World):Calls Tryz.prog 95 #[.agg #[.int .i64 (x.1:Int),.int .i64 (x.2.1:Int),.int .i64 (x.2.2:Int)],.agg #[.int .i64 (y.1:Int),.int .i64 (y.2.1:Int),.int .i64 (y.2.2:Int)]] W fun e w'=>e = .returned (.int .i64 (cmpL x y))/\ ∃ q os',w'=grow (W.drewN q) os':=by
 have hcon:=fun W'=>AnyG.cmp_Compare_int Ft (x.2.1:Int) (y.2.1:Int) W'
 change ∀ W',Calls Tryz.prog 96 _ _ _ at hcon
 unfold cmpL;generalize Lib.compareInt (x.2.1:Int) (y.2.1:Int)=r at hcon ⊢;go_enter Tryz.func95, Tryz.ntmps95;go_wp2_with (go_at_call 96;refine(hcon _).mono ?_;rintro e w' ⟨rfl,rfl⟩);go_ret;exact⟨rfl,0,_,by rw[alloc_eq_grow,alloc_eq_grow,grow_grow];rfl⟩
theorem Ir (l:List (Nat × Nat × Nat)):(flatK qz 3 l.toArray).toList=l.flatMap dr:=by
 apply List.ext_getElem?;intro t;by_cases ht:t<l.length*3
 .have h1:t<(flatK qz 3 l.toArray).size:=by rw[size_flatK];exact ht
  have h2:=get_flatK qz 3 l.toArray t ht;rw[getElem!_pos _ t h1] at h2;have hk:t / 3<l.length:=by omega
  have h3:=uH l (t / 3) (t % 3) hk (by omega);rw[show t / 3*3+t % 3=t by omega] at h3;rw[Array.getElem?_toList,Array.getElem?_eq_getElem h1,h2,h3,getElem!_pos l.toArray (t / 3) (by simpa using hk)];simp only[List.getElem_toArray];have h4:t % 3<(qz l[t / 3]).length:=by show _<3;omega
  rw[getElem!_pos (qz l[t / 3]) (t % 3) h4];exact(List.getElem?_eq_getElem h4).symm
 .rw[List.getElem?_eq_none (by simp;omega),List.getElem?_eq_none (by rw[qA];omega)]
section
variable {α:Type} [Inhabited α]
theorem oo {d d':Array α} (h:PermIn 0 d.size d d'):d'.toList.Perm d.toList:=by
 obtain⟨h1,_,h3⟩:=h;have e1:d'.extract 0 d.size=d':=by rw[<-h1];exact Array.extract_size
 rw[e1,Array.extract_size] at h3;exact h3
theorem lJ {lt:α->α->Bool} {d:Array α} {n:Nat} (hn:n=d.size) (h:SortedIn lt 0 n d):d.toList.Pairwise fun a b=>lt b a=false:=by
 subst hn;rw[List.pairwise_iff_getElem];intro i j hi hj hij;have h1:=h i j (Nat.zero_le _) hij (by simpa using hj);rw[getElem!_pos d i (by simpa using hi),getElem!_pos d j (by simpa using hj)] at h1;exact h1
end
section
variable {w0 w:World} {F:SP}
theorem wZ (dp:List (Nat × Nat × Nat)) (n:Nat) (A:Option Addr) (c:Nat) (h:Sat w0 (Row 128 3 (.slice A n c) n (dp.flatMap dr)*F) w) (hn:dp.length=n) (hl:n<=1000000):
 Calls Tryz.prog 98 #[.slice A n c,.func (.func 95) #[] #[]] w fun e w'=>e = .returned (.tuple #[])/\ ∃ lie':List (Nat × Nat × Nat),lie'.Perm dp/\lie'.Pairwise (fun a b=>a.2.1<=b.2.1)/\Sat w0 (Row 128 3 (.slice A n c) n (lie'.flatMap dr)*F) w':=by
 by_cases h0:n=0
 .subst h0;have hcon:=AnyF.slices_SortFunc_none (P:= Tryz.prog) (ρ:=oq) { AY with } A c (.func (.func 95) #[] #[]) w;change Calls Tryz.prog 98 _ _ _ at hcon
  refine hcon.mono fun e w' ⟨h1,h2⟩=>⟨h1,dp,List.Perm.refl _,?_,?_⟩
  .rw[List.eq_nil_of_length_eq_zero hn];exact List.Pairwise.nil
  .rw[h2];exact h
 .have hh:=h;obtain⟨hl2,⟨h1,h2,_⟩ | ⟨g,cap,cur,h1,h2,h3,h4,h5,h6⟩⟩:=h.cu
  .exact absurd h2 h0
  .injection h1 with e1 e2 e3
   subst e1;subst e3;have hb:=h6.block;have hg:g<w.heap.size:=(Array.getElem?_eq_some_iff.1 hb).1;have eg: ∀ args w,(callFunc 95 args).run Tryz.prog w = .ok (.enter 95 args) w:=enters_of Tryz.func95 (by kernel_rfl) rfl;have hH:HoldsK qz 3 w g 0 dp.toArray:=by
    intro j hj;rw[size_flatK] at hj;have hj2:j<dp.length*3:=by simpa using hj
    have hjs:j<(flatK qz 3 dp.toArray).size:=by rw[size_flatK];exact hj
    refine⟨?_,hh.kF (0+j)⟩;have h7:(flatK qz 3 dp.toArray).toList[j]?=cur.toList[j]?:=by
     rw[Ir, <-h5,List.getElem?_take,if_pos (by omega)]
    rw[Array.getElem?_toList,Array.getElem?_toList,Array.getElem?_eq_getElem hjs] at h7;rw[cell_of_row w g (0+j) _ _ _ hb,Nat.zero_add, <-h7,getElem!_pos _ j hjs];rfl
   have hcon:=AnyQ.slices_SortFunc AY 3 Tryz.isAgg128 Tryz.sizeOf128 qz (fun _=>rfl) (fun x v hv=>by simp[qz,dr] at hv;rcases hv with rfl | rfl | rfl<;>rfl) cmpL EI 95 #[] g 0 c dp.toArray w eg (fun _ _ _ _ x y=>D5 x y _) hH hg (by simp;omega);change Calls Tryz.prog 98 _ _ _ at hcon
   have hsz:dp.toArray.size=n:=by simpa using hn
   rw[hsz] at hcon;refine hcon.mono fun e w' ⟨k1,d',q,os,k2,k3,k4⟩=>⟨k1,d'.toList,?_,?_,?_⟩
   .rw[<-hsz] at k2;have:=oo k2;simpa using this
   .have hd:d'.size=n:=by have:=k2.1;rw[this,hsz]
    refine(lJ hd.symm k3).imp fun {a b} hab=>?_
    rw[oS] at hab;have:=of_decide_eq_false hab;omega
   .have hd:d'.size=n:=by have:=k2.1;rw[this,hsz]
    rw[k4];have h9:=Sat.sorted (q:=q) (os:=os) id (flatK qz 3 d') hh (by rw[size_flatK,hd]);rw[List.map_id] at h9;have h10:=Ir d'.toList;simp only[Array.toArray_toList] at h10;rw[h10] at h9;exact h9
theorem FY (p q:Nat) (x y:Int) (W:World) (h1:W.cell? ⟨p,0,none⟩=some (.int .i64 x)) (h2:W.cell? ⟨q,0,none⟩=some (.int .i64 y)):
 Calls Tryz.prog 101 #[aS p,aS q] W fun e w'=>e = .returned (.int .i64 (Lib.compareInt x y))/\ ∃ m os',w'=grow (W.drewN m) os':=by
 have hcon:=fun W'=>AnyG.cmp_Compare_int Ft x y W'
 change ∀ W',Calls Tryz.prog 96 _ _ _ at hcon
 generalize Lib.compareInt x y=r at hcon ⊢;have k1:W.drew.cell? ⟨p,0,none⟩=some (.int .i64 x):=h1;have k2:W.drew.cell? ⟨q,0,none⟩=some (.int .i64 y):=h2;unfold aS;go_enter Tryz.func101, Tryz.ntmps101;go_upto_region 1 with fail;go_region_law (go_simp;go_at_call 96;refine(hcon _).mono ?_;rintro e w' ⟨rfl,rfl⟩)
 all_goals
  go_wp2_with fail;go_ret;exact⟨rfl,1, #[],by simp;rfl⟩
theorem ru (x y:Int):(decide (Lib.compareInt x y<0):Bool)=decide (x<y):=by
 unfold Lib.compareInt;by_cases h1:x<y
 .rw[if_pos h1,decide_eq_true (by omega),decide_eq_true h1]
 .rw[if_neg h1];by_cases h2:x>y
  .rw[if_pos h2,decide_eq_false (by omega),decide_eq_false h1]
  .rw[if_neg h2,decide_eq_false (by omega),decide_eq_false h1]
theorem mK {β:Type} (gs:List β):(List.finRange gs.length).map (fun i=>gs.get i)=gs:=by
 apply List.ext_getElem
 .simp
 .intro j h1 h2;simp
theorem uZ (gs:List (Nat × Fl)) (n:Nat) (A:Option Addr) (c:Nat) (h:Sat w0 (Row 155 1 (.slice A n c) n (gs.map fun x=>aS x.1)*(aW gs*F)) w) (hn:gs.length=n) (hl:n<=1000000):
 Calls Tryz.prog 100 #[.slice A n c,.func (.func 101) #[] #[]] w fun e w'=>e = .returned (.tuple #[])/\ ∃ gs':List (Nat × Fl),gs'.Perm gs/\gs'.Pairwise (fun a b=>a.2.num<=b.2.num)/\Sat w0 (Row 155 1 (.slice A n c) n (gs'.map fun x=>aS x.1)*(aW gs'*F)) w':=by
 by_cases h0:n=0
 .subst h0;have hcon:=AnyF.slices_SortFunc_none (P:= Tryz.prog) (ρ:=oc) { Ai with } A c (.func (.func 101) #[] #[]) w;change Calls Tryz.prog 100 _ _ _ at hcon
  refine hcon.mono fun e w' ⟨h1,h2⟩=>⟨h1,gs,List.Perm.refl _,?_,?_⟩
  .rw[List.eq_nil_of_length_eq_zero hn];exact List.Pairwise.nil
  .rw[h2];exact h
 .have hh:=h;obtain⟨hl2,⟨h1,h2,_⟩ | ⟨g,cap,cur,h1,h2,h3,h4,h5,h6⟩⟩:=h.cu
  .exact absurd h2 h0
  .injection h1 with e1 e2 e3
   subst e1;subst e3;have hb:=h6.block;have hg:g<w.heap.size:=(Array.getElem?_eq_some_iff.1 hb).1;have eg: ∀ args w,(callFunc 101 args).run Tryz.prog w = .ok (.enter 101 args) w:=enters_of Tryz.func101 (by kernel_rfl) rfl;subst hn
   haveI:Inhabited (Fin gs.length):=⟨⟨0,by omega⟩⟩
   obtain⟨enc,henc⟩: ∃ enc:Fin gs.length->Value,enc=fun i=>aS (gs.get i).1:=⟨_,rfl⟩;obtain⟨cf,hcf⟩: ∃ cf:Fin gs.length->Fin gs.length->Int,cf=fun i j=>Lib.compareInt ((gs.get i).2.num:Int) ((gs.get j).2.num:Int):=⟨_,rfl⟩;have hlt: ∀ i j,ltOf cf i j=decide (((gs.get i).2.num:Int)<(gs.get j).2.num):=fun i j=>by unfold ltOf;rw[hcf];exact ru _ _
   have hO:SWO (ltOf cf):=by
    refine⟨fun x=>?_,fun x y z a b=>?_,fun x y z a b=>?_⟩
    .rw[hlt];simp
    .rw[hlt] at*;simp at*;omega
    .rw[hlt] at*;simp at*;omega
   obtain⟨d,hd⟩: ∃ d:Array (Fin gs.length),d=(List.finRange gs.length).toArray:=⟨_,rfl⟩;have hds:d.size=gs.length:=by rw[hd];simp
   have hmap: ∀ l:List (Fin gs.length),l.map enc=(l.map fun i=>gs.get i).map fun x=>aS x.1:=fun l=>by rw[henc,List.map_map];rfl
   have hall:d.toList.map enc=gs.map fun x=>aS x.1:=by rw[hmap,hd];show ((List.finRange gs.length).map fun i=>gs.get i).map _=_;rw[mK]
   have hH:Holds enc w g 0 d:=by
    intro j hj;refine⟨?_,hh.kF (0+j)⟩;have h7:(d.toList.map enc)[j]?=cur.toList[j]?:=by
     rw[hall, <-h5,List.getElem?_take,if_pos (by omega)]
    rw[List.getElem?_map,Array.getElem?_toList,Array.getElem?_toList,Array.getElem?_eq_getElem hj,Option.map_some] at h7;rw[cell_of_row w g (0+j) _ _ _ hb,Nat.zero_add, <-h7,getElem!_pos d j hj]
   have hcmp:CmpLays1 Tryz.prog 101 #[] enc cf g 0 d.size w:=by
    intro m os dk hdk x y;have h7:=Sat.sorted (q:=m) (os:=os) enc dk hh (by rw[hdk,hds];omega);obtain⟨W,hW⟩: ∃ W,W=sortWorld enc w g 0 m dk os:=⟨_,rfl⟩;have h8:Sat w0 (aW gs*(Row 155 1 (.slice (some ⟨g,0,none⟩) gs.length c) gs.length (dk.toList.map enc)*F)) W:=by rw[hW];exact h7.ay
    rw[<-hW];obtain⟨v1,k1,_,g1⟩:=Sat.fl (h8.of (show _=mV (gs.get x).1 (gs.get x).2*(aW (gs.eraseIdx x)*(Row 155 1 (.slice (some ⟨g,0,none⟩) gs.length c) gs.length (dk.toList.map enc)*F)) by rw[lX x.2,aB];rfl));obtain⟨v2,k2,_,g2⟩:=Sat.fl (h8.of (show _=mV (gs.get y).1 (gs.get y).2*(aW (gs.eraseIdx y)*(Row 155 1 (.slice (some ⟨g,0,none⟩) gs.length c) gs.length (dk.toList.map enc)*F)) by rw[lX y.2,aB];rfl));have h9:=FY (gs.get x).1 (gs.get y).1 ((gs.get x).2.num:Int) ((gs.get y).2.num:Int) W (g1.cell 0) (g2.cell 0);rw[henc,hcf];exact h9
   have hcon:=Any.slices_SortFunc Ai enc (fun x=>by rw[henc];rfl) cf hO 101 #[] g 0 c d w eg hcmp hH hg (by omega);change Calls Tryz.prog 100 _ _ _ at hcon
   rw[hds] at hcon;refine hcon.mono fun e w' ⟨k1,d',q,os,k2,k3,k4⟩=>?_
   have hd':d'.size=gs.length:=by have:=k2.1;rw[this,hds]
   have hp:(d'.toList.map fun i=>gs.get i).Perm gs:=by
    have k2':PermIn 0 d.size d d':=by rw[hds];exact k2
    have h7:=(oo k2').map fun i=>gs.get i
    rw[hd] at h7;have h8:((List.finRange gs.length).toArray.toList.map fun i=>gs.get i)=gs:=mK gs;rw[h8] at h7;exact h7
   refine⟨k1,d'.toList.map fun i=>gs.get i,hp,?_,?_⟩
   .rw[List.pairwise_map];refine(lJ hd'.symm k3).imp fun {a b} hab=>?_
    rw[hlt] at hab;have:=of_decide_eq_false hab;omega
   .rw[k4];have h9:=Sat.sorted (q:=q) (os:=os) enc d' hh (by rw[hd'];omega);rw[qa hp, <-hmap];exact h9
end
end Go.Proofs.YtmbaiglpgaoogaaGreat
namespace Go.Proofs.YtmbaiglpgaoogaaGreat
open Go.RowKit Z
section
variable {w0 w:World} {F:SP} {s d:Nat} {D:Dk} {v:Value} {ps:List (Nat × Fl)} {S:aK} {sf:Nat->Nat} {lim n:Nat}
def kp (f:Fl):Nat × Nat × Nat:=(f.num,f.first,f.blocks)
theorem zJ (fs:List Fl):fs.flatMap Ju=(fs.map kp).flatMap dr:=by
 rw[List.flatMap_map];rfl
theorem DC {l m:List (Nat × Nat)} (hp:m.Perm l) (hs:m.Pairwise fun p q=>p.1<=q.1) (hl:ku n l):m=di l:=by
 have key: ∀ {a b:List (Nat × Nat)},a.Perm b->(a.Pairwise fun p q=>p.1<q.1)->(b.Pairwise fun p q=>p.1<q.1)->a=b:=by
  intro a
  induction a with
  | nil=>intro b h _ _;rw[List.nil_perm.1 h]
  | cons x l ih=>
   intro b h ha hb
   cases b with
   | nil=>cases List.perm_nil.1 h
   | cons y m=>
    obtain⟨a1,a2⟩:=List.pairwise_cons.1 ha;obtain⟨b1,b2⟩:=List.pairwise_cons.1 hb;have e:x=y:=by
     rcases List.mem_cons.1 (h.mem_iff.1 List.mem_cons_self) with e | hx
     .exact e
     .rcases List.mem_cons.1 (h.mem_iff.2 List.mem_cons_self) with e | hy
      .exact e.symm
      .have:=a1 y hy;have:=b1 x hx;omega
    subst e;rw[ih ((List.perm_cons x).1 h) a2 b2]
 have strict: ∀ {a:List (Nat × Nat)},a.Perm l->(a.Pairwise fun p q=>p.1<=q.1)->a.Pairwise fun p q=>p.1<q.1:=fun {a} ha hle=>by
  have hap:=pT ha.symm hl.apart;refine List.Pairwise.imp_of_mem (fun {p q} hpm hqm hpq=>?_) (hle.and hap);have h1:=(hl.each p (ha.mem_iff.1 hpm)).2.1;have h2:=(hl.each q (ha.mem_iff.1 hqm)).2.1;rcases hpq with ⟨h3,h4 | h4⟩
  .omega
  .omega
 exact key (hp.trans (jO l).symm) (strict hp hs) (strict (jO l) (jK l))
def Io (drop:List Int) (x:Nat × Fl):Bool:= !drop.contains (x.2.num:Int)
theorem nT (hps:ps.map (·.2)=S.files) (drop:List Int):(ps.filter (Io drop)).map (·.2)=S.files.filter fun f=> !drop.contains (f.num:Int):=by
 rw[<-hps,List.filter_map];rfl
theorem sY (p:Nat × Fl->Bool):aW ps=aW (ps.filter p)*aW (ps.filter fun x=> !p x):=by
 rw[<-ju];exact qa (List.filter_append_perm p ps).symm
def Jx (w0:World) (F:SP) (s d:Nat) (r:aK × Dk × Int) (e:Ending) (w':World):Prop:=e = .returned (.int .i64 r.2.2)/\Sat w0 (ag s d r.1*(af d r.2.1*F)) w'
theorem Iw (add:List Fi) (drop:List Int) (h:S.may add drop=false):S.switch add drop D=(S,D,31):=by unfold aK.switch;rw[if_pos h]
theorem Ar (add:List Fi) (drop:List Int) (h:S.may add drop=true) (h2:(24:Int)<(S.files.length:Int)+add.length - drop.length):S.switch add drop D=(S,D,32):=by
 unfold aK.switch;rw[if_neg (by rw[h];simp),if_pos h2]
theorem Bc (add:List Fi) (drop:List Int) (h:S.may add drop=true) (h2:¬ (24:Int)<(S.files.length:Int)+add.length - drop.length) (h3:dW D.cells.length ((S.turn+1) % 18446744073709551616) add S.dp (S.files.filter fun f=> !drop.contains (f.num:Int))=none):S.switch add drop D=(S,D,33):=by
 unfold aK.switch;rw[if_neg (by rw[h];simp),if_neg h2,h3]
theorem Dy (add:List Fi) (drop:List Int) (h:S.may add drop=true) (h2:¬ (24:Int)<(S.files.length:Int)+add.length - drop.length) {fs:List Fl} (h3:dW D.cells.length ((S.turn+1) % 18446744073709551616) add S.dp (S.files.filter fun f=> !drop.contains (f.num:Int))=some fs):S.switch add drop D=S.put (dV fs) D:=by
 unfold aK.switch;rw[if_neg (by rw[h];simp),if_neg h2,h3]
theorem Sat.gD {e:TypeId} {size n:Nat} {A:Option Addr} {c:Nat} {xs:List Value} (h:Sat w0 (Row e size (.slice A n c) n xs*F) w):aF w A xs:=fun hx=>by
 have hl:=h.cu.1;have hn:0<n:=by
  rcases Nat.eq_zero_or_pos n with h0 | h0
  .subst h0;rw[Nat.zero_mul] at hl;exact absurd (List.eq_nil_of_length_eq_zero hl) hx
  .exact h0
 obtain⟨g,e1,hg⟩:=h.qu hn;exact⟨g,0,e1,fun j hj=>by rw[Nat.zero_add];exact hg j hj⟩
theorem Ck (fs:List Fl):(fs.map kp).map (·.2)=fs.map fun f=>(f.first,f.blocks):=by rw[List.map_map];rfl
theorem Ia {n t:Nat} {x:Fi} {l:List Fi} {dp:List (Nat × Nat)} {fs:List Fl} {a:Nat} (h:aU n x.blocks 2 (di dp)=(a,false)):dW n t (x::l) dp fs=none:=by
 rw[dW,h]
theorem kO {n t:Nat} {x:Fi} {l:List Fi} {dp:List (Nat × Nat)} {fs:List Fl} {a:Nat} (h:aU n x.blocks 2 (di dp)=(a,true)):dW n t (x::l) dp fs=dW n t l (dp++[(a,x.blocks.toNat)]) (fs++[⟨x.num.toNat,a,x.blocks.toNat,t,1,[]⟩]):=by
 rw[dW,h]
theorem Gd (hg:Good D S sf lim) {add:List Fi} {drop:List Int} (hm:S.may add drop=true) (hc:¬ (24:Int)<(S.files.length:Int)+add.length - drop.length):add.length<=48/\ ∀ x ∈ add,(1<=x.num/\x.num<=2147483647)/\1<=x.blocks:=by
 unfold aK.may at hm;obtain⟨hm1,hm2⟩:=(Bool.and_eq_true _ _).mp hm |>fun x=>(x:_/\_)
 obtain⟨d1,d2⟩:=(fD drop []).1 hm1;obtain⟨a1,a2⟩:=(gG add []).1 hm2;have hok:=hg.fils.ok;have hcnt:=jQ S.files drop hok.nums d2 (fun n hn=>se (d1 n hn).1);have:=hok.count;exact⟨by omega,fun x hx=>⟨⟨(a1 x hx).1.1,(a1 x hx).1.2.1⟩,(a1 x hx).1.2.2⟩⟩
theorem zv (A1:Option Addr) (c1:Nat) (add:List Fi) (A2:Option Addr) (c2:Nat) (drop:List Int) (hg:Good D S sf lim) (hlim:lim+1<=1000000000) (h:Sat w0 (aP s d S.slot S.turn v ps*(af d D*F)) w) (hps:ps.map (·.2)=S.files)
 (hadd: ∀ W,Sat w0 F W->aF W A1 (add.flatMap Dd)) (hdrop: ∀ W,Sat w0 F W->aF W A2 (drop.map (Value.int .i64))) (hn1:add.length<=1000000) (hn2:drop.length<=1000000) (hc2:drop.length<=c2)
 (hb: ∀ f ∈ add,(-9223372036854775808<=f.num/\f.num<=9223372036854775807)/\(-9223372036854775808<=f.blocks/\f.blocks<=9223372036854775807)) (hbd: ∀ n ∈ drop, -9223372036854775808<=n/\n<=9223372036854775807)
 (hw1:D.writes<=1000000000) (hw2:D.pend.length<=999999999) (hw3:D.armed<=9223372036854775807):
 Calls Tryz.prog 55 #[.pointer (some ⟨s,0,none⟩),.slice A1 add.length c1,.slice A2 drop.length c2] w (Jx w0 F s d (S.switch add drop D)):=by
 obtain⟨i0,hi0',hz0',hz1',hz2'⟩:=info_parts JM;have hi0:=ah hi0';have hz0:=ah hz0';have hz1:=ah hz1';have hz2:=ah hz2';have hF:=hg.fils;have hpl:ps.length=S.files.length:=by have:=congrArg List.length hps;simpa using this
 have hp24:ps.length<=24:=by rw[hpl];exact hF.ok.count
 have hN:=hF.aG;have HG:=ah hg;have HPs:=ah hps;have HW:=ah (And.intro hw1 (And.intro hw2 hw3));have HF1:Hid (∀ W X,Sat w0 (X*(af d D*F)) W->aF W A1 (add.flatMap Dd)):=fun W X hW=>hadd W hW.right.right
 have HF2:Hid (∀ W X,Sat w0 (X*(af d D*F)) W->aF W A2 (drop.map (Value.int .i64))):=fun W X hW=>hdrop W hW.right.right
 have HMay:=ah (H9 A1 c1 add A2 c2 drop h hps (by omega) (fun W hW=>hadd W hW.right) (fun W hW=>hdrop W hW.right) hn1 hn2 hc2 hb hbd);have HB:=ah hb;have HNo:Hid (S.may add drop=false->S.switch add drop D=(S,D,31)):=Iw add drop;have HMany:Hid (S.may add drop=true->(24:Int)<(S.files.length:Int)+add.length - drop.length->S.switch add drop D=(S,D,32)):=Ar add drop;have HSpc:Hid (∀ W r,Sat w0 (aP s d S.slot S.turn v ps*(af d D*F)) W->Jx w0 F s d (S,D,r) (.returned (.int .i64 r)) W):=fun W r hW=>⟨rfl,Sat.ek hps hW⟩
 have HHp:=ah hpl;clear h hadd hdrop hb hbd hw1 hw2 hw3 hps hg hF hi0' hz0' hz1' hz2'
 cases hm:S.may add drop with
 | false=>
  have HR:=ah (HNo.o hm);rw[hm] at HMay;clear HNo HMany hm;go_enter Tryz.func55, Tryz.ntmps55;go_wp2_with (go_at_call 94;(with_reducible refine HMay.o.mono ?_);rintro e w2 ⟨rfl,hs⟩;have HS2:=ah hs;clear hs);go_ret;rw[HR.o];exact HSpc.o _ _ HS2.o
 | true=>
  rw[hm] at HMay;have HM:=ah hm;by_cases hmy:(24:Int)<(S.files.length:Int)+add.length - drop.length
  .have HR:=ah (HMany.o hm hmy);rw[<-HHp.o] at hmy;clear HNo HMany hm;go_enter Tryz.func55, Tryz.ntmps55;go_upto_region 2 with (go_at_call 94;(with_reducible refine HMay.o.mono ?_);rintro e w2 ⟨rfl,hs⟩;have HS2:=ah hs;have y3:=((hs.of dj).cell 3);obtain⟨A,c,rfl,_⟩:=(hs.of dj).ay.bm;clear hs)
   go_ret;rw[HR.o];exact HSpc.o _ _ HS2.o
  .have HMx:=ah hmy;rw[<-HHp.o] at hmy;clear HNo HMany hm hpl;go_enter Tryz.func55, Tryz.ntmps55;go_upto_region 5 with (go_at_call 94;(with_reducible refine HMay.o.mono ?_);rintro e w2 ⟨rfl,hs⟩;have HS2:=ah hs;have y3:=((hs.of dj).cell 3);obtain⟨A,c,rfl,_⟩:=(hs.of dj).ay.bm;clear hs)
   have HFs:=ah (rE HS2.o (by omega));clear y3;go_upto_region 8 with (go_at_call 67;(with_reducible refine HFs.o.mono ?_);rintro e w3 ⟨u,rfl,hs⟩;obtain⟨L,cl,rfl,_⟩:=hs.bm;have HS3:=ah hs;clear hs)
   have y3:=((HS3.o.right).of dj).cell 3;go_wp2_with fail;clear y3;obtain⟨fp,hfp⟩: ∃ fp,fp=Io drop:=⟨_,rfl⟩;have HFp:=ah hfp;clear hfp;go_loopw [9,42] (fun ov iv wr=> ∃ (k kn:Nat) (C:Option Addr) (cc:Nat),k<=ps.length/\kn<=k/\ov = .slice C kn cc/\iv = .int .i64 (k:Int)/\Hid (((ps.take k).filter fp).length=kn/\Sat w0 (Row 155 1 (.slice C kn cc) kn (((ps.take k).filter fp).map fun x=>aS x.1)*(Row 128 3 (.slice L ps.length cl) ps.length ((ps.map (·.2)).flatMap Ju)*(aP s d S.slot S.turn (.slice A ps.length c) ps*(af d D*F)))) wr)) (fun _ iv _=>ps.length - (intOf iv).toNat)
   case atStart=>exact⟨0,0,none,0,by omega,by omega,rfl,rfl,rfl,HS3.o.aN _ 1⟩
   case round=>
    obtain⟨k,kn,C,cc,hk,hkn,rfl,rfl,HD⟩:=hrel;by_cases hlt:k<ps.length
    .have hk2:(k:Int)<ps.length:=by omega
     obtain⟨A9,c9,e9,_,_,hR9,_⟩:=HD.o.2.right.right.me;injection e9 with e9 _ e8
     subst e9;subst e8;obtain⟨b,o,rfl,hcl⟩:=lp hR9 hlt;obtain⟨u9,ks9,_,hg9,_⟩:=HD.o.2.right.right.po hlt;have g0:=hg9.1;have HCo:=ah (jL A2 drop.length c2 drop (ps[k].2.num:Int) wr (HF2.o wr _ (HD.o.2.right.right)) rfl (by omega));have hfk:fp ps[k] = !drop.contains (ps[k].2.num:Int):=by rw[HFp.o];rfl
     have HTk:Hid ((ps.take (k+1)).filter fp=(ps.take k).filter fp++if fp ps[k]=true then [ps[k]] else []):=by
      unfold Hid;rw[List.take_succ_eq_append_getElem hlt,List.filter_append,List.filter_cons,List.filter_nil]
     have hm2:k+1<=ps.length:=hlt;rw[hfk] at HTk;clear hg9 hR9 hfk;generalize ps[k]=x at*
     generalize hBc:drop.contains (x.2.num:Int)=B at*
     clear hBc;obtain⟨q,f⟩:=x;dsimp only at g0 hcl HCo HTk;generalize f.num=m at*
     cases B
     .rw[if_pos (show (!false)=true from rfl)] at HTk;go_wp2_with (first | (go_at_call 97;(with_reducible refine HCo.o.mono ?_);rintro e wx ⟨rfl,rfl⟩) | (at_builtin;refine av rfl (.tmp 54) (.tmp 56) 151 rfl 155 i0 _ 1 8 Tryz.underlying151 hi0.o hz0.o hz1.o hz2.o rfl (by decide) (.slice C kn cc) kn (((ps.take k).filter fp).map fun x=>aS x.1) rfl w0 _ (by exact HD.o.2.aD _) (some ⟨wr.heap.size,0,none⟩) 1 1 [aS q] rfl (aR _ _ _) rfl (fun u hu=>by rw[List.mem_singleton.1 hu];rfl) (by unfold maxLen;omega) (by omega) ?_;intro A16 c16 w16 hs;have HS16:=ah hs;clear hs));go_roundw
      .refine⟨k+1,kn+1,A16,c16,hm2,by omega,rfl,by push_cast;rfl,?_,?_⟩
       .rw[HTk.o,List.length_append,HD.o.1];rfl
       .rw[HTk.o,List.map_append];exact HS16.o
      .simp[intOf];omega
     .rw[if_neg (by simp),List.append_nil] at HTk;go_wp2_with (go_at_call 97;(with_reducible refine HCo.o.mono ?_);rintro e wx ⟨rfl,rfl⟩);go_roundw
      .refine⟨k+1,kn,C,cc,hm2,by omega,rfl,by push_cast;rfl,?_,?_⟩
       .rw[HTk.o,HD.o.1]
       .rw[HTk.o];exact HD.o.2
      .simp[intOf];omega
    .have HK:Hid (k=ps.length):=by unfold Hid;omega
     have hk2:¬ (k:Int)<ps.length:=by omega
     obtain⟨j0,hj0',hy0',hy1',hy2'⟩:=info_parts IC;have hj0:=ah hj0';have hy0:=ah hy0';have hy1:=ah hy1';have hy2:=ah hy2';obtain⟨hadd48,hadd1⟩:=Gd HG.o HM.o (by have:=HMx.o;omega);have HA1:=ah hadd1;have hD:=HD.o;rw[HK.o,List.take_length] at hD;obtain⟨KP,hK⟩: ∃ KP,KP=ps.filter fp:=⟨_,rfl⟩;rw[<-hK] at hD;have HKe:=ah hK;obtain⟨lie0,hl0⟩: ∃ l,l=(ps.map (·.2)).map kp:=⟨_,rfl⟩;have HL0:=ah hl0;have hl0l:lie0.length=ps.length:=by rw[hl0];simp
     rw[zJ, <-hl0] at hD;obtain⟨t1,ht1⟩: ∃ t,t=(S.turn+1) % 18446744073709551616:=⟨_,rfl⟩;have hwt:IntKind.u64.wrap ((S.turn:Int)+1)=t1:=by rw[IntKind.wrap_u64,ht1];omega
     have HT1:=ah ht1;have HDs:=ah hD;obtain⟨X0,hX0⟩: ∃ X,X=dW D.cells.length t1 add S.dp (KP.map (·.2)):=⟨_,rfl⟩;have HX0:=ah hX0;have hKl:KP.length<=24:=by rw[hK];exact Nat.le_trans (List.length_filter_le _ _) hp24
     clear hD hadd1 hK hl0 ht1 hX0 HD hj0' hy0' hy1' hy2';go_wp2_with fail;go_loopw [7,9,61] (fun lv ov iv wr=> ∃ (k m:Nat) (B:Option Addr) (bc:Nat) (lieM:List (Nat × Nat × Nat)) (E:Option Addr) (ec:Nat) (news:List (Nat × Fl)) (lieP:List (Nat × Nat)),k<=add.length/\m<=ps.length+k/\lv = .slice B m bc/\ov = .slice E (KP.length+k) ec/\iv = .int .i64 (k:Int)/\Hid (lieM.length=m/\news.length=k/\(lieM.map (·.2)).Perm lieP/\ku D.cells.length lieP/\X0=dW D.cells.length t1 (add.drop k) lieP ((KP++news).map (·.2))/\Sat w0 (Row 128 3 (.slice B m bc) m (lieM.flatMap dr)*(Row 155 1 (.slice E (KP.length+k) ec) (KP.length+k) ((KP++news).map fun x=>aS x.1)*(aW news*(aP s d S.slot S.turn (.slice A ps.length c) ps*(af d D*F))))) wr)) (fun _ _ iv _=>add.length - (intOf iv).toNat)
     case atStart=>
      refine⟨0,ps.length,L,cl,lie0,C,cc,[],S.dp,by omega,by omega,rfl,?_,rfl,hl0l,rfl,?_,HG.o.fils.ok.Is,?_,?_⟩
      .rw[HDs.o.1];rfl
      .rw[HL0.o,Ck,HPs.o];exact List.Perm.refl _
      .rw[HX0.o,List.append_nil];rfl
      .have h9:=HDs.o.2;rw[<-HDs.o.1] at h9;rw[List.append_nil];exact h9.ay.of (by show _=_*(_*(bF*_));rw[bf,Nat.add_zero])
     case round=>
      obtain⟨k,m,B,bc,lieM,E,ec,news,lieP,hk,hm9,rfl,rfl,rfl,HD⟩:=hrel;by_cases hlt:k<add.length
      .have hk2:(k:Int)<add.length:=by omega
       have hkn:k+1<=add.length:=hlt;obtain⟨b,o,rfl,q0,q1,q2⟩:=Em (HF1.o wr _ HD.o.2.2.2.2.2.right.right.right) hlt;have hbx:=HB.o add[k] (List.getElem_mem hlt);have hax:=HA1.o add[k] (List.getElem_mem hlt);have HXk:Hid (X0=dW D.cells.length t1 (add[k]::add.drop (k+1)) lieP ((KP++news).map (·.2))):=by unfold Hid;rw[HD.o.2.2.2.2.1,List.drop_eq_getElem_cons hlt]
       have HS4:=ah HD.o.2.2.2.2.2;have HLl:=ah HD.o.1;have HNl:=ah HD.o.2.1;have HPm:=ah HD.o.2.2.1;have HLk:=ah HD.o.2.2.2.1;clear HD;generalize add[k]=x at*
       obtain⟨xn,xf,xb⟩:=x;dsimp only at q0 q1 q2 hbx hax HXk;obtain⟨xm,rfl⟩: ∃ m:Nat,xn=m:=⟨xn.toNat,by omega⟩;obtain⟨bl,rfl⟩: ∃ m:Nat,xb=m:=⟨xb.toNat,by omega⟩;have hs1:=HS4.o.ab 128 #[.int .i64 (xm:Int),.int .i64 xf,.int .i64 (bl:Int)];go_upto_region 17 with fail;revert hs1;generalize World.alloc wr _=w5;generalize wr.heap.size=B5;intro hs1;have HSo:=ah (wZ lieM m B bc hs1.ay HLl.o (by omega));clear hs1 q0 q1 q2;go_upto_region 18 with (go_at_call 98;(with_reducible refine HSo.o.mono ?_);rintro e w6 ⟨rfl,lieQ,hq1,hq2,hs⟩;have HQ1:=ah hq1;have HQ2:=ah hq2;have HS6:=ah hs;clear hs hq1 hq2)
       have hQl:lieQ.length=m:=by rw[HQ1.o.length_eq];exact HLl.o
       have hQp:(lieQ.map (·.2)).Perm lieP:=(HQ1.o.map _).trans HPm.o;have hQs:lieQ.map (·.2)=di lieP:=DC hQp (List.pairwise_map.2 HQ2.o) HLk.o;have hplc:=Cf (dp:=lieQ) (s:=s) (d:=d) (D:=D) (w0:=w0) (w:=w6) (a1:= .int .i64 (S.slot:Int)) (a2:= .int .u64 (S.turn:Int)) (a3:= .slice A ps.length c) (F:=Row 128 3 (.slice B m bc) m (lieQ.flatMap dr)*(Pt B5 128 #[.int .i64 (xm:Int),.int .i64 xf,.int .i64 (bl:Int)]*(Row 155 1 (.slice E (KP.length+k) ec) (KP.length+k) ((KP++news).map fun x=>aS x.1)*(aW news*(Row 155 1 (.slice A ps.length c) ps.length (ps.map fun x=>aS x.1)*(aW ps*F)))))) B bc (bl:Int) (HS6.o.of (by rw[dj];ac_rfl)) HS6.o.gD (by omega) (fun x hx=>by
        have h9:=HLk.o.each x.2 (hQp.mem_iff.1 (List.mem_map_of_mem hx));omega) (by omega) hN
       rw[hQl,hQs] at hplc;obtain⟨a,ok,hao⟩: ∃ a ok,aU D.cells.length (bl:Int) 2 (di lieP)=(a,ok):=⟨_,_,rfl⟩;rw[hao] at hplc;have hps:=(pX (bl:=(bl:Int)) (by omega) HLk.o).1;rw[hao] at hps;have HPl:=ah hplc;have HPs2:=ah hps;have y2:w6.cell? ⟨B5,2,none⟩=some (.int .i64 (bl:Int)):=HS6.o.ay.cell 2;have HQl:=ah hQl;have HQp:=ah hQp;have HAo:=ah hao;clear hQl hQp hQs hplc hao hps HSo
       cases ok
       .have HX1:Hid (X0=none):=by unfold Hid;rw[HXk.o];exact Ia HAo.o
        have HXn:Hid (S.switch add drop D=(S,D,33)):=Bc add drop HM.o (by have:=HMx.o;omega) (by rw[<-HT1.o, <-nT HPs.o, <-HFp.o, <-HKe.o, <-HX0.o,HX1.o]);go_wp2_with (go_at_call 99;(with_reducible refine HPl.o.mono ?_);rintro e w7 ⟨rfl,hch⟩;have HS7:=ah (HS6.o.new hch);clear hch);go_ret;rw[HXn.o];exact HSpc.o _ _ HS7.o.right.right.right.right
       .have HX1:Hid (X0=dW D.cells.length t1 (add.drop (k+1)) (lieP++[(a,bl)]) ((KP++news).map (·.2)++[⟨xm,a,bl,t1,1,[]⟩])):=by
         unfold Hid;rw[HXk.o];exact kO HAo.o
        go_upto_region 21 with (go_at_call 99;(with_reducible refine HPl.o.mono ?_);rintro e w7 ⟨rfl,hch⟩;have HS7:=ah (HS6.o.new hch);clear hch)
        have y1:=HS7.o.ay.cell 1;have f1:=HS7.o.ay.frozen 1;go_upto_region 22 with fail;have hs8:=HS7.o.ay.set 1 (.int .i64 (a:Int));clear y1 f1 y2;revert hs8;generalize World.setCell _ _ _=w8;intro hs8;have hs8:Sat w0 (Pt B5 128 #[.int .i64 (xm:Int),.int .i64 (a:Int),.int .i64 (bl:Int)]*(Row 128 3 (.slice B m bc) m (lieQ.flatMap dr)*(Row 155 1 (.slice E (KP.length+k) ec) (KP.length+k) ((KP++news).map fun x=>aS x.1)*(aW news*(aP s d S.slot S.turn (.slice A ps.length c) ps*(af d D*F)))))) w8:=hs8;have HS8:=ah hs8;clear hs8;have z0:w8.cell? ⟨B5,0,none⟩=some (.int .i64 (xm:Int)):=HS8.o.cell 0;have z1:w8.cell? ⟨B5,1,none⟩=some (.int .i64 (a:Int)):=HS8.o.cell 1;have z2:w8.cell? ⟨B5,2,none⟩=some (.int .i64 (bl:Int)):=HS8.o.cell 2;go_upto_region 23 with (at_builtin;refine av rfl (.tmp 80) (.tmp 82) 105 rfl 128 j0 _ 3 24 Tryz.underlying105 hj0.o hy0.o hy1.o hy2.o rfl (by decide) (.slice B m bc) m (lieQ.flatMap dr) rfl w0 _ (by exact(HS8.o.aD _).ay) (some ⟨w8.heap.size,0,none⟩) 1 1 [.int .i64 (xm:Int),.int .i64 (a:Int),.int .i64 (bl:Int)] rfl (aR _ _ _) rfl (by intro u hu;simp at hu;rcases hu with rfl | rfl | rfl<;>rfl) (by unfold maxLen;omega) (by omega) ?_;intro B9 c9 w9 hs;have HS9:=ah hs;clear hs)
        clear z0 z1 z2;have hs9:Sat w0 (Pt B5 128 #[.int .i64 (xm:Int),.int .i64 (a:Int),.int .i64 (bl:Int)]*(Row 155 1 (.slice E (KP.length+k) ec) (KP.length+k) ((KP++news).map fun x=>aS x.1)*(Pt s 153 #[aS d,.int .i64 (S.slot:Int),.int .u64 (S.turn:Int),.slice A ps.length c]*(Row 128 3 (.slice B9 (m+1) c9) (m+1) (lieQ.flatMap dr++[.int .i64 (xm:Int),.int .i64 (a:Int),.int .i64 (bl:Int)])*(aW news*(Row 155 1 (.slice A ps.length c) ps.length (ps.map fun x=>aS x.1)*(aW ps*(af d D*F)))))))) w9:=HS9.o.of (by rw[dj];ac_rfl);have HS:=ah hs9;clear hs9;refine wp_region_held_drew (S:=fun w'=>(w'.cell? ⟨B5,0,none⟩=some (.int .i64 (xm:Int))/\w'.cell? ⟨B5,1,none⟩=some (.int .i64 (a:Int))/\w'.cell? ⟨B5,2,none⟩=some (.int .i64 (bl:Int)))/\w'.cell? ⟨s,2,none⟩=some (.int .u64 (S.turn:Int))) (by kernel_rfl) ⟨⟨HS.o.drew.cell 0,HS.o.drew.cell 1,HS.o.drew.cell 2⟩,HS.o.drew.bp.cell 2⟩ ?_;intro hS0;refine an 0 1 2 3 ?_;refine an 4 5 6 7 ?_;refine bC 8 fun K hK=>?_
        go_simp;have hs:=(HS.o.ab 163 #[.int .i64 (xm:Int),.int .i64 (a:Int),.int .i64 (bl:Int),.int .u64 (t1:Int),.int .u64 1,.slice none 0 0]).drew;revert hs;generalize World.drew (World.alloc w9 _)=w10;generalize w9.heap.size=B10;intro hs;replace HS:=ah hs;clear hs;refine hK.out _ _ ⟨⟨HS.o.ay.cell 0,HS.o.ay.cell 1,HS.o.ay.cell 2⟩,HS.o.bL.cell 2⟩ (fun hS0=>?_);clear hK K;refine bC 9 fun K hK=>?_
        go_simp;have hs:=HS.o.aD (.cells #[.pointer (some ⟨B10,0,none⟩)] 155);refine hK.out _ _ ⟨⟨hs.ay.cell 0,hs.ay.cell 1,hs.ay.cell 2⟩,hs.bL.cell 2⟩ (fun hS0=>?_);clear hK K;refine bC 10 fun K hK=>?_
        refine aQ rfl (.tmp 84) (.tmp 93) 151 rfl 155 i0 _ 1 8 Tryz.underlying151 hi0.o hz0.o hz1.o hz2.o rfl (by decide) (.slice E (KP.length+k) ec) (KP.length+k) ((KP++news).map fun x=>aS x.1) rfl w0 _ (by exact(HS.o.aD _).bp) (some ⟨w10.heap.size,0,none⟩) 1 1 [aS B10] rfl (aR _ _ _) rfl (fun u hu=>by rw[List.mem_singleton.1 hu];rfl) (by unfold maxLen;omega) (by omega) ?_;intro E11 c11 w11 hs;replace HS:=ah hs;clear hs;refine hK.out _ _ ⟨⟨HS.o.bp.cell 0,HS.o.bp.cell 1,HS.o.bp.cell 2⟩,HS.o.bL.cell 2⟩ (fun hS0=>?_);clear hK K
        try simp only[Act.put,et,eh,ep]
        refine ca 11 ?_;refine wpAnyH_done (by kernel_rfl) ?_ _;obtain⟨ff,hff⟩: ∃ f:Fl,f=⟨xm,a,bl,t1,1,[]⟩:=⟨_,rfl⟩;have HSN:Hid (Sat w0 (Row 128 3 (.slice B9 (m+1) c9) (m+1) ((lieQ++[(xm,a,bl)]).flatMap dr)*(Row 155 1 (.slice E11 (KP.length+(k+1)) c11) (KP.length+(k+1)) ((KP++(news++[(B10,ff)])).map fun x=>aS x.1)*(aW (news++[(B10,ff)])*(aP s d S.slot S.turn (.slice A ps.length c) ps*(af d D*F))))) w11):=by
         unfold Hid;have g1:=(HS.o.bp.right);have g2:=((g1.ay).mj [] (by simp)).aN 41 1;have g3:=Sat.ID (ks:=[]) (f:=ff) (v:= .slice none 0 0) (p:=B10) (by rw[hff];rfl) (g2.of (show _=Pt B10 163 (nR ff (.slice none 0 0))*(Row 41 1 (.slice none 0 0) 0 []*(cd []*(Row 155 1 (.slice E11 (KP.length+k+1) c11) (KP.length+k+1) (((KP++news).map fun x=>aS x.1)++[aS B10])*(Pt s 153 #[aS d,.int .i64 (S.slot:Int),.int .u64 (S.turn:Int),.slice A ps.length c]*(Row 128 3 (.slice B9 (m+1) c9) (m+1) (lieQ.flatMap dr++[.int .i64 (xm:Int),.int .i64 (a:Int),.int .i64 (bl:Int)])*(aW news*(Row 155 1 (.slice A ps.length c) ps.length (ps.map fun x=>aS x.1)*(aW ps*(af d D*F))))))))) by rw[hff];ac_rfl));refine g3.of ?_;have e1:(lieQ++[(xm,a,bl)]).flatMap dr=lieQ.flatMap dr++[.int .i64 (xm:Int),.int .i64 (a:Int),.int .i64 (bl:Int)]:=by rw[List.flatMap_append];rfl
         have e2:(KP++(news++[(B10,ff)])).map (fun x=>aS x.1)=((KP++news).map fun x=>aS x.1)++[aS B10]:=by simp
         have e3:aW (news++[(B10,ff)])=aW news*mV B10 ff:=by rw[ju,Be]
         rw[e1,e2,e3,dj];show _=Row _ 3 _ _ _*(Row _ 1 (.slice E11 (KP.length+k+1) c11) (KP.length+k+1) _*_)
         ac_rfl
        have hpa:=HPs2.o (by first | rfl | trivial);have HLk2:Hid (ku D.cells.length (lieP++[(a,bl)])):=by
         have h9:=HLk.o.snoc (bl:=(bl:Int)) (by omega) hpa.1 hpa.2;rw[Int.toNat_natCast] at h9;exact h9
        have HFf:=ah hff;clear hpa hff;go_wp2_with fail;go_roundw
        .refine⟨k+1,m+1,B9,c9,lieQ++[(xm,a,bl)],E11,c11,news++[(B10,ff)],lieP++[(a,bl)],hkn,by omega,rfl,rfl,by push_cast;rfl,?_,?_,?_,HLk2.o,?_,HSN.o⟩
         .rw[List.length_append,HQl.o];rfl
         .rw[List.length_append,HNl.o];rfl
         .rw[List.map_append];exact HQp.o.append_right _
         .rw[HX1.o, <-List.append_assoc,List.map_append (l₂:=[(B10,ff)]),HFf.o];rfl
        .simp[intOf];omega
      .have HK2:Hid (k=add.length):=by unfold Hid;omega
       have hk2:¬ (k:Int)<add.length:=by omega
       obtain⟨gs,hgs⟩: ∃ gs,gs=KP++news:=⟨_,rfl⟩;obtain⟨N,hN9⟩: ∃ N,N=KP.length+k:=⟨_,rfl⟩;have hgl:gs.length=N:=by rw[hgs,List.length_append,HD.o.2.1,hN9]
       have hXe:dW D.cells.length t1 add S.dp (KP.map (·.2))=some (gs.map (·.2)):=by
        rw[<-HX0.o,HD.o.2.2.2.2.1,List.drop_eq_nil_of_le (by omega),hgs];rfl
       have hKf:KP.map (·.2)=S.files.filter fun f=> !drop.contains (f.num:Int):=by rw[HKe.o,HFp.o];exact nT HPs.o drop
       have hsw:S.switch add drop D=S.put (dV (gs.map (·.2))) D:=Dy add drop HM.o (by have:=HMx.o;omega) (by rw[<-HT1.o, <-hKf];exact hXe);have ht9:t1=S.turn+1:=by rw[HT1.o];have:=HG.o.fils.cap;omega
       have hnx:=AQ HG.o HM.o (by have:=HMx.o;omega) (fs:=gs.map (·.2)) (by rw[<-ht9, <-hKf];exact hXe);have hHd:=hnx.ok.E8 HG.o.fils.aG (by have:=HG.o.fils.cap;omega);have hcnt:=hnx.ok.count;have hstr:(dV (gs.map (·.2))).Pairwise JK:=hnx.ok.nums;rw[(jz _).length_eq,List.length_map] at hcnt;have hsat:Sat w0 (Row 155 1 (.slice E N ec) N (gs.map fun x=>aS x.1)*(aW gs*(Pt s 153 #[aS d,.int .i64 (S.slot:Int),.int .u64 (S.turn:Int),.slice A ps.length c]*(af d D*(Row 155 1 (.slice A ps.length c) ps.length (ps.map fun x=>aS x.1)*(aW (ps.filter fun x=> !fp x)*(Row 128 3 (.slice B m bc) m (lieM.flatMap dr)*F))))))) wr:=HD.o.2.2.2.2.2.of (by
        have e1:aW gs=aW KP*aW news:=by rw[hgs,ju]
        have e2:aW ps=aW KP*aW (ps.filter fun x=> !fp x):=by rw[HKe.o];exact sY fp
        rw[hgs,ju,dj,e2,hN9]
        ac_rfl)
       have HSo:=ah (uZ gs N E ec hsat hgl (by omega));have HSw:=ah hsw;have HHd:=ah hHd;have HStr:=ah hstr;have HE2:Hid (aW ps=aW KP*aW (ps.filter fun x=> !fp x)):=by unfold Hid;rw[HKe.o];exact sY fp
       have HE1:Hid (aW gs=aW KP*aW news):=by unfold Hid;rw[hgs,ju]
       have HHl:Hid (S.slot<2):=HG.o.heads.lt;have HHt:Hid (S.turn<18446744073709551616):=by have:=HG.o.fils.cap;unfold Hid;omega
       have hN24:N<=24:=by omega
       rw[<-hN9];have HGl:=ah hgl;clear hXe hKf hsw ht9 hnx hHd hcnt hstr hsat hgs HD hN9 hgl;go_upto_region 26 with (go_at_call 100;(with_reducible refine HSo.o.mono ?_);rintro e w6 ⟨rfl,gs',hq1,hq2,hs⟩;have HQ1:=ah hq1;have HQ2:=ah hq2;have HS6:=ah hs;clear hs hq1 hq2)
       have hml:gs'.map (·.2)=dV (gs.map (·.2)):=by
        have hp1:(gs'.map (·.2)).Perm (dV (gs.map (·.2))):=(HQ1.o.map _).trans (jz _).symm;refine rG hp1 (rX (List.pairwise_map.2 HQ2.o) ((hp1.map _).nodup_iff.2 ?_)) HStr.o;exact List.pairwise_map.2 (HStr.o.imp fun h=>by unfold JK at h;omega)
       have hgl':gs'.length=N:=by rw[HQ1.o.length_eq,HGl.o]
       have hput:=zK (s:=s) (d:=d) (w0:=w0) (w:=w6) (slot:=S.slot) (turn:=S.turn) (v:= .slice A ps.length c) (V:= .slice E N ec) (gs:=gs') (D:=D) (F:=Row 155 1 (.slice A ps.length c) ps.length (ps.map fun x=>aS x.1)*(aW (ps.filter fun x=> !fp x)*(Row 128 3 (.slice B m bc) m (lieM.flatMap dr)*F))) (HS6.o.of (by rw[hgl'];ac_rfl)) (by omega) HHl.o HHt.o (fun x hx=>HHd.o _ (by
        rw[<-hml,List.map_map];exact List.mem_map_of_mem (f:=Fl.hd ∘ fun x=>x.2) hx)) HW.o.1 HW.o.2.1 HW.o.2.2
       have HPu:=ah hput;have HMl:=ah hml;have HQs:Hid (aW gs'=aW gs):=qa HQ1.o;clear hput hml hgl' HSo HS6;go_wp2_with (go_at_call 91;(with_reducible refine HPu.o.mono ?_);rintro e w7 hp;have hp2:=wS hp;rw[HMl.o, <-HSw.o] at hp2;obtain⟨rfl,hp3,hp4⟩:=hp2;have HP3:=ah hp3;have HP4:=ah hp4;clear hp hp3 hp4);go_ret;refine⟨rfl,?_⟩;by_cases hz:(S.switch add drop D).2.2=0
       .obtain⟨k1,k2⟩:=HP4.o hz;exact(Sat.ek k1.symm k2).bp.right.bp.right.bp.right
       .obtain⟨k1,k2⟩:=HP3.o hz;rw[k1];refine Sat.ek (ps:=ps) (v:= .slice A ps.length c) HPs.o ?_;have k4:Sat w0 (aW news*(Row 128 3 (.slice B m bc) m (lieM.flatMap dr)*(aP s d S.slot S.turn (.slice A ps.length c) ps*(af d (S.switch add drop D).2.1*F)))) w7:=k2.ay.right.of (by rw[HQs.o,HE1.o,dj,HE2.o];ac_rfl);exact k4.right.right
end
section
variable {w0 w:World} {F:SP} {s d:Nat} {D:Dk} {v:Value} {ps:List (Nat × Fl)} {S:aK} {sf:Nat->Nat} {lim:Nat} {f:Fl}
theorem oR (hps:ps.map (·.2)=S.files) {n:Int} (hf:S.find n=some f): ∃ i, ∃ hi:i<ps.length,eP ps n=i/\ps[i].2=f:=by
 have h:=nC hps n;rw[hf] at h;have hi:eP ps n<ps.length:=by
  rcases Nat.lt_or_ge (eP ps n) ps.length with h9 | h9
  .exact h9
  .rw[List.getElem?_eq_none h9] at h;cases h
 rw[List.getElem?_eq_getElem hi] at h;exact⟨_,hi,rfl,(Option.some.inj h).symm⟩
theorem tD (hps:ps.map (·.2)=S.files) {n:Int} (hf:S.find n=none):eP ps n=ps.length:=by
 have h:=nC hps n;rw[hf] at h;rcases Nat.lt_or_ge (eP ps n) ps.length with h9 | h9
 .rw[List.getElem?_eq_getElem h9] at h;cases h
 .exact Nat.le_antisymm (Gp ps n) h9
theorem gO {n:Int} (hf:S.find n=some f):f ∈ S.files/\(f.num:Int)=n:=by
 unfold aK.find at hf;exact⟨List.mem_of_find?_eq_some hf,by simpa using List.find?_some hf⟩
theorem bP (hps:ps.map (·.2)=S.files) (hg:Good D S sf lim):ps.length<=24:=by
 have h1:=hg.fils.ok.count;have h2:=congrArg List.length hps;rw[List.length_map] at h2;omega
theorem Good.file (hg:Good D S sf lim) (hf:f ∈ S.files):f.aa.length<=f.blocks/\f.first+f.blocks<=65536/\(∀ p ∈ f.aa,p.length<=480)/\f.birth<18446744073709551616/\f.life<18446744073709551616:=by
 obtain⟨a1,a2,a3,a4,a5,a6⟩:=hg.fils.ok.each f hf;obtain⟨l1,ls,l2⟩:=hg.fils.each f hf;have h1:=hg.fils.cap;have h2:=hg.fils.aG;exact⟨l2.fits,by omega,l2.small,by omega,by omega⟩
theorem G7 {n:Int} (hg:Good D S sf lim) (h:Sat w0 (ag s d S*(af d D*F)) w) (hf:S.find n=none):
 Calls Tryz.prog 59 #[.pointer (some ⟨s,0,none⟩),.int .i64 n] w fun e w'=>e = .returned (.tuple #[.slice none 0 0,.int .i64 34])/\w=w':=by
 obtain⟨v,ps,hps,hs⟩:=h.space;exact By n hs (by have:=bP hps hg;omega) (tD hps hf)
theorem Jz {n:Int} (hg:Good D S sf lim) (h:Sat w0 (ag s d S*(af d D*F)) w) (hf:S.find n=some f):
 Calls Tryz.prog 59 #[.pointer (some ⟨s,0,none⟩),.int .i64 n] w fun e w'=> ∃ u ts,e = .returned (.tuple #[u,.int .i64 0])/\bK ts=f.aa/\Sat w0 (Row 41 1 u ts.length (ts.map aI)*(cd ts*(ag s d S*(af d D*F)))) w':=by
 obtain⟨v,ps,hps,hs⟩:=h.space;obtain⟨i,hi,he,rfl⟩:=oR hps hf;obtain⟨k1,k2,k3,k4,k5⟩:=hg.file (gO hf).1;refine(yJ n hs (by have:=bP hps hg;omega) hi he (by omega) k3).mono ?_;rintro e w' ⟨u,ts,h1,h2,h3⟩;refine⟨u,ts,h1,h2,?_⟩;have h4:=Sat.ek hps (h3.of (show _=aP s d S.slot S.turn v ps*(Row 41 1 u ts.length (ts.map aI)*(cd ts*(af d D*F))) by ac_rfl));exact h4.of (by ac_rfl)
theorem yH {n:Int} (hg:Good D S sf lim) (h:Sat w0 (ag s d S*(af d D*F)) w) (hf:S.find n=none):
 Calls Tryz.prog 118 #[.pointer (some ⟨s,0,none⟩),.int .i64 n] w fun e w'=>e = .returned (.tuple #[.int .i64 0,.int .i64 34])/\w=w':=by
 obtain⟨v,ps,hps,hs⟩:=h.space;exact Hc n hs (by have:=bP hps hg;omega) (tD hps hf)
theorem Gh {n:Int} (hg:Good D S sf lim) (h:Sat w0 (ag s d S*(af d D*F)) w) (hf:S.find n=some f):
 Calls Tryz.prog 118 #[.pointer (some ⟨s,0,none⟩),.int .i64 n] w fun e w'=>e = .returned (.tuple #[.int .i64 ((f.blocks:Int) - f.aa.length),.int .i64 0])/\Sat w0 (ag s d S*(af d D*F)) w':=by
 obtain⟨v,ps,hps,hs⟩:=h.space;obtain⟨i,hi,he,rfl⟩:=oR hps hf;obtain⟨k1,k2,k3,k4,k5⟩:=hg.file (gO hf).1;exact(EU n hs (by have:=bP hps hg;omega) hi he (by omega) k1).mono fun e w' ⟨h1,h2⟩=>⟨h1,Sat.ek hps h2⟩
theorem uS (hg:Good D S sf lim) (h:Sat w0 (ag s d S*(af d D*F)) w):
 Calls Tryz.prog 67 #[.pointer (some ⟨s,0,none⟩)] w fun e w'=> ∃ u,e = .returned u/\Sat w0 (Row 128 3 u S.files.length ((S.files.map kp).flatMap dr)*(ag s d S*(af d D*F))) w':=by
 obtain⟨v,ps,hps,hs⟩:=h.space;refine(rE hs (by have:=bP hps hg;omega)).mono ?_;rintro e w' ⟨u,h1,h2⟩;refine⟨u,h1,?_⟩;have hl:ps.length=S.files.length:=by have:=congrArg List.length hps;simpa using this
 rw[hps,zJ,hl] at h2;exact(Sat.ek hps h2.ay).ay
theorem uI (h:Sat w0 (ag s d S*(af d D*F)) w) (hw2:D.pend.length<=1000000000):
 Calls Tryz.prog 56 #[.pointer (some ⟨s,0,none⟩)] w fun e w'=>e = .returned (.int .i64 D.flush.2)/\Sat w0 (ag s d S*(af d D.flush.1*F)) w':=by
 obtain⟨v,ps,hps,hs⟩:=h.space;exact(Ff hs hw2).mono fun e w' ⟨h1,h2⟩=>⟨h1,Sat.ek hps h2⟩
theorem ER (hg:Good D S sf lim) (hps:ps.map (·.2)=S.files) {i:Nat} (hi:i<ps.length) (p:List UInt8):
 (ps.set i (ps[i].1,{ ps[i].2 with aa:=ps[i].2.aa++[p] })).map (·.2)=S.files.map fun g=>if g.num=ps[i].2.num then { g with aa:=g.aa++[p] } else g:=by
 have hn:=hg.fils.ok.nums;rw[<-hps] at hn ⊢;apply List.ext_getElem?;intro j;rw[List.getElem?_map,List.getElem?_set,List.getElem?_map,List.getElem?_map];by_cases e:i=j
 .subst e;rw[if_pos rfl,if_pos hi,List.getElem?_eq_getElem hi];simp
 .rw[if_neg e];rcases Nat.lt_or_ge j ps.length with hj | hj
  .rw[List.getElem?_eq_getElem hj];simp only[Option.map_some];have hpw:=List.pairwise_iff_getElem.1 hn;have hne:ps[j].2.num≠ps[i].2.num:=by
    rcases Nat.lt_or_ge i j with h1 | h1
    .have:=hpw i j (by simpa using hi) (by simpa using hj) h1;simp only[List.getElem_map] at this;omega
    .have:=hpw j i (by simpa using hj) (by simpa using hi) (by omega);simp only[List.getElem_map] at this;omega
   rw[if_neg hne]
  .rw[List.getElem?_eq_none hj];rfl
theorem Ch (n:Int) (A:Option Addr) (c:Nat) (p:List UInt8) (hg:Good D S sf lim) (h:Sat w0 (ag s d S*(af d D*F)) w) (hp: ∀ W,Sat w0 F W->Rd W A p) (hw1:D.writes<=1000000000) (hw2:D.pend.length<=1000000000) (hw3:D.armed<=9223372036854775807):
 Calls Tryz.prog 120 #[.pointer (some ⟨s,0,none⟩),.int .i64 n,.slice A p.length c] w fun e w'=>e = .returned (.int .i64 (S.append n p D).2.2)/\Sat w0 (ag s d (S.append n p D).1*(af d (S.append n p D).2.1*F)) w':=by
 obtain⟨v,ps,hps,hs⟩:=h.space;have hfew:=bP hps hg
 cases hf:S.find n with
 | none=>
  have e1:S.append n p D=(S,D,34):=by unfold aK.append;rw[hf]
  rw[e1];refine(uR n A c p.length hs (by omega) (tD hps hf)).mono ?_;rintro e w' ⟨h1,rfl⟩;exact⟨h1,Sat.ek hps hs⟩
 | some f=>
  obtain⟨i,hi,he,rfl⟩:=oR hps hf;obtain⟨k1,k2,k3,k4,k5⟩:=hg.file (gO hf).1;by_cases h1:480<p.length
  .have e1:S.append n p D=(S,D,35):=by unfold aK.append;rw[hf];simp only;rw[if_pos h1]
   rw[e1];refine(wG n A c p.length hs (by omega) hi he h1).mono ?_;rintro e w' ⟨h1,rfl⟩;exact⟨h1,Sat.ek hps hs⟩
  .by_cases h2:ps[i].2.aa.length=ps[i].2.blocks
   .have e1:S.append n p D=(S,D,36):=by unfold aK.append;rw[hf];simp only;rw[if_neg h1,if_pos h2]
    rw[e1];refine(yx n A c p.length hs (by omega) hi he (by omega) h2).mono ?_;rintro e w' ⟨h1,hs2⟩;exact⟨h1,Sat.ek hps hs2⟩
   .obtain⟨r,hr⟩: ∃ r,r=D.write ((ps[i].2.first+ps[i].2.aa.length:Nat):Int) (bB ps[i].2.birth ps[i].2.life p):=⟨_,rfl⟩;have e1:S.append n p D=if r.2≠0 then (S,r.1,r.2) else ({ S with files:=S.files.map fun g=>if g.num=ps[i].2.num then { g with aa:=g.aa++[p] } else g },r.1,0):=by
     unfold aK.append;rw[hf];simp only;rw[if_neg h1,if_neg h2,hr]
    rw[e1];refine(tI n A c p hs hp (by omega) hi he (by omega) (by omega) k2 k4 k5 hw1 hw2 hw3).mono ?_;rintro e w' ⟨h3,h4⟩;rw[<-hr] at h3 h4;by_cases hz:r.2=0
    .rw[if_neg (by simpa using hz)];rw[if_pos hz] at h4;refine⟨by rw[h3,hz],Sat.ek (S:={ S with files:=S.files.map fun g=>if g.num=ps[i].2.num then { g with aa:=g.aa++[p] } else g }) (ER hg hps hi p) h4⟩
    .rw[if_pos hz];rw[if_neg hz] at h4;exact⟨h3,Sat.ek hps h4⟩
theorem iS (A1:Option Addr) (c1:Nat) (add:List Fi) (A2:Option Addr) (c2:Nat) (drop:List Int) (hg:Good D S sf lim) (hlim:lim+1<=1000000000) (h:Sat w0 (ag s d S*(af d D*F)) w)
 (hadd: ∀ W,Sat w0 F W->aF W A1 (add.flatMap Dd)) (hdrop: ∀ W,Sat w0 F W->aF W A2 (drop.map (Value.int .i64))) (hn1:add.length<=1000000) (hn2:drop.length<=1000000) (hc2:drop.length<=c2)
 (hb: ∀ f ∈ add,(-9223372036854775808<=f.num/\f.num<=9223372036854775807)/\(-9223372036854775808<=f.blocks/\f.blocks<=9223372036854775807)) (hbd: ∀ n ∈ drop, -9223372036854775808<=n/\n<=9223372036854775807)
 (hw1:D.writes<=1000000000) (hw2:D.pend.length<=999999999) (hw3:D.armed<=9223372036854775807):
 Calls Tryz.prog 55 #[.pointer (some ⟨s,0,none⟩),.slice A1 add.length c1,.slice A2 drop.length c2] w (Jx w0 F s d (S.switch add drop D)):=by
 obtain⟨v,ps,hps,hs⟩:=h.space;exact zv A1 c1 add A2 c2 drop hg hlim hs hps hadd hdrop hn1 hn2 hc2 hb hbd hw1 hw2 hw3
end
structure dq (D:Dk) (n:Nat):Prop where
 writes:D.writes<=n
 pend:D.pend.length<=n
section
variable {D E:Dk} {S:aK} {sf:Nat->Nat} {lim n m i:Nat} {f:Fl} {b:List UInt8}
theorem dq.mono (h:dq D n) (hm:n<=m):dq D m:=⟨Nat.le_trans h.writes hm,Nat.le_trans h.pend hm⟩
theorem dq.dC (h:dq D n):dq (D.dC i b) (n+1):=⟨Nat.succ_le_succ h.writes,by show (D.pend++[_]).length<=_;rw[List.length_append];exact Nat.succ_le_succ h.pend⟩
theorem dq.wr (h:dq D n):dq (D.wr i b) (n+1):=⟨(h.dC (i:=i) (b:=b)).writes,(h.dC (i:=i) (b:=b)).pend⟩
theorem dq.flush (h:dq D n) (ho:D.off=false):dq D.flush.1 n:=by rw[dg D ho];exact⟨h.writes,Nat.zero_le _⟩
theorem dq.bZ {keep:List Bool} {torn bytes:Int} (h:dq D n):dq (D.bZ keep torn bytes) n:=⟨h.writes,Nat.zero_le _⟩
theorem eu (ho:D.off=false):D.flush.1.armed=D.armed:=by rw[dg D ho]
theorem xI:(D.wr i b).armed=D.armed - 1:=rfl
theorem xt (h:D.armed=1):(D.dC i b).off=true:=by unfold Dk.dC;rw[h];rfl
inductive KV (S:aK) (D:Dk) (sf:Nat->Nat) (lim:Nat) (n:Int) (p:List UInt8) (r:aK × Dk × Int):Prop where
 | none (h:S.find n=none) (e:r=(S,D,34))
 | E9 (f:Fl) (h:S.find n=some f) (h2:480<p.length) (e:r=(S,D,35))
 | full (f:Fl) (h:S.find n=some f) (h2:p.length<=480) (h3:f.aa.length=f.blocks) (e:r=(S,D,36))
 | off (f:Fl) (h:S.find n=some f) (h2:p.length<=480) (h3:f.aa.length<f.blocks) (ha:D.armed=1) (e:r=(S,D.dC (f.first+f.aa.length) (bB f.birth f.life p),21))
 | ok (f:Fl) (h:S.find n=some f) (h2:p.length<=480) (h3:f.aa.length<f.blocks) (ha:D.armed≠1) (e:r=(S.grow f.num p,D.wr (f.first+f.aa.length) (bB f.birth f.life p),0)) (g:Good r.2.1 r.1 sf lim)
theorem jr (hg:Good D S sf lim) (n:Int) (p:List UInt8):KV S D sf lim n p (S.append n p D):=by
 cases hf:S.find n with
 | none=>exact .none hf (by unfold aK.append;rw[hf])
 | some f=>
  obtain⟨hm,hn⟩:=gO hf;obtain⟨a1,a2,a3,a4,a5,a6⟩:=hg.fils.ok.each f hm;obtain⟨k1,k2,k3,k4,k5⟩:=hg.file hm;by_cases h1:480<p.length
  .exact .E9 f hf h1 (by unfold aK.append;rw[hf];simp only;rw[if_pos h1])
  .by_cases h2:f.aa.length=f.blocks
   .exact .full f hf (by omega) h2 (by unfold aK.append;rw[hf];simp only;rw[if_neg h1,if_pos h2])
   .have hi:f.first+f.aa.length<D.cells.length:=by omega
    have hw:=lS D (f.first+f.aa.length) (bB f.birth f.life p) hg.fils.off hi (nr (by omega));have e1:S.append n p D=if (if D.armed=1 then (21:Int) else 0)≠0 then (S,D.dC (f.first+f.aa.length) (bB f.birth f.life p),if D.armed=1 then (21:Int) else 0) else (S.grow f.num p,D.dC (f.first+f.aa.length) (bB f.birth f.life p),0):=by
     unfold aK.append;rw[hf];simp only;rw[if_neg h1,if_neg h2,hw];rfl
    by_cases ha:D.armed=1
    .exact .off f hf (by omega) (by omega) ha (by rw[e1,if_pos ha,if_pos (by simp)])
    .have e2:S.append n p D=(S.grow f.num p,D.wr (f.first+f.aa.length) (bB f.birth f.life p),0):=by
      rw[e1,if_neg ha,if_neg (by simp)];have:D.dC (f.first+f.aa.length) (bB f.birth f.life p)=D.wr (f.first+f.aa.length) (bB f.birth f.life p):=by
       unfold Dk.wr Dk.dC;simp only[if_neg ha,hg.fils.off]
      rw[this]
     refine .ok f hf (by omega) (by omega) ha e2 ?_;rw[e2];exact nU hg hm (by omega) (by omega)
inductive Lm (S:aK) (D:Dk) (sf:Nat->Nat) (lim:Nat) (add:List Fi) (drop:List Int) (r:aK × Dk × Int):Prop where
 | no (h:S.may add drop=false) (e:r=(S,D,31))
 | many (h:S.may add drop=true) (h2:(24:Int)<(S.files.length:Int)+add.length - drop.length) (e:r=(S,D,32))
 | full (h:S.may add drop=true) (h2:(S.files.length:Int)+add.length - drop.length<=24) (h3:dW D.cells.length (S.turn+1) add S.dp (S.files.filter fun f=> !drop.contains (f.num:Int))=none) (e:r=(S,D,33))
 | off (fs:List Fl) (h:S.may add drop=true) (h2:(S.files.length:Int)+add.length - drop.length<=24) (h3:dW D.cells.length (S.turn+1) add S.dp (S.files.filter fun f=> !drop.contains (f.num:Int))=some fs) (ha:D.armed=1)
  (hn:Next D S sf (dV fs) (fun num=>if (num:Int) ∈ add.map (·.num) then 0 else sf num)) (e:r=(S,D.dC (1 - S.slot) (bN (S.turn+1) ((dV fs).map Fl.hd)),21))
 | ok (fs:List Fl) (h:S.may add drop=true) (h2:(S.files.length:Int)+add.length - drop.length<=24) (h3:dW D.cells.length (S.turn+1) add S.dp (S.files.filter fun f=> !drop.contains (f.num:Int))=some fs) (ha:D.armed≠1)
  (hn:Next D S sf (dV fs) (fun num=>if (num:Int) ∈ add.map (·.num) then 0 else sf num)) (e:r=(⟨1 - S.slot,S.turn+1,dV fs⟩,(D.wr (1 - S.slot) (bN (S.turn+1) ((dV fs).map Fl.hd))).flush.1,0)) (g:Good r.2.1 r.1 (dh (dV fs)) (lim+1))
theorem ui (hg:Good D S sf lim) (hlim:lim+1<=1000000000) (add:List Fi) (drop:List Int):Lm S D sf lim add drop (S.switch add drop D):=by
 have hcap:=hg.fils.cap;have ht:(S.turn+1) % 18446744073709551616=S.turn+1:=Nat.mod_eq_of_lt (by omega)
 cases hm:S.may add drop with
 | false=>exact .no hm (Iw add drop hm)
 | true=>
  by_cases h2:(24:Int)<(S.files.length:Int)+add.length - drop.length
  .exact .many hm h2 (Ar add drop hm h2)
  .cases h3:dW D.cells.length (S.turn+1) add S.dp (S.files.filter fun f=> !drop.contains (f.num:Int)) with
   | none=>exact .full hm (by omega) h3 (Bc add drop hm h2 (by rw[ht];exact h3))
   | some fs=>
    have hn:=AQ hg hm (by omega) h3;have hs:=Dy add drop hm h2 (fs:=fs) (D:=D) (by rw[ht];exact h3);obtain⟨p1,p2⟩:=put_eq hg hn.ok.count;by_cases ha:D.armed=1
    .exact .off fs hm (by omega) h3 ha hn (by rw[hs,p1 ha])
    .refine .ok fs hm (by omega) h3 ha hn (by rw[hs,p2 ha]) ?_;rw[hs,p2 ha];exact EW hg hn hlim
theorem GJ {i:Nat} {r:List UInt8 × Int} (h:jl (Dk.new n) i r):r=(List.replicate 512 0,0):=by
 rcases h with ⟨x,h1,h2⟩ | ⟨b,h1,_⟩
 .have h3:=List.mem_of_getElem? h1;have h4:x=([],false):=List.eq_of_mem_replicate h3;subst h4;rw[h2];rfl
 .cases h1
theorem vX {i:Nat} (h:i<n):(Dk.new n).read (i:Int)=(List.replicate 512 0,0):=GJ (fA (Dk.new n) i rfl (by unfold Dk.new;simpa using h))
theorem oz:cY (List.replicate 512 0)=none:=by
 unfold cY;rw[if_neg];rintro ⟨h,_⟩;have:(List.replicate 512 (0:UInt8)).take 4=[0,0,0,0]:=by rw[List.take_replicate];rfl
 rw[this] at h;exact absurd h (by decide)
theorem Br (h:2<=n):cC (Dk.new n)=(none,0):=by
 have hb: ∀ i,i<2->eK (Dk.new n) none i=none:=fun i hi=>by
  unfold eK;rw[vX (show i<n by omega)];simp only[ne_eq,not_true_eq_false,if_false,oz]
 unfold cC;rw[if_neg (by simp[Dk.new]),show eK (Dk.new n) none 0=none from hb 0 (by omega),show eK (Dk.new n) none 1=none from hb 1 (by omega)]
def kK:List UInt8:=bN 1 []
theorem rP:kK.length=512:=fk (by simp)
def fg (n:Nat):Dk:=((Dk.new n).wr 1 kK).flush.1
theorem xG (h:2<=n):fz (Dk.new n)=(fg n,0):=by
 unfold fz;rw[Br h,if_neg (by simp)];have hw:=lS (Dk.new n) 1 kK rfl (by unfold Dk.new;simp;omega) rP;have e1:(Dk.new n).dC 1 kK=(Dk.new n).wr 1 kK:=rfl;rw[if_neg (by simp[Dk.new]),e1] at hw;have h1:(aK.put ⟨0,0,[]⟩ [] (Dk.new n))=(⟨1,1,[]⟩,fg n,0):=by
  obtain⟨_,_,c3⟩:=tw ⟨0,0,[]⟩ (Dk.new n) [] ((Dk.new n).wr 1 kK,0) (fg n,0) (by show _=(Dk.new n).write ((1:Nat):Int) kK;rw[hw]) (by show _=((Dk.new n).wr 1 kK).flush;unfold fg;rw[dg _ rfl]);exact c3 rfl rfl
 show ((aK.put ⟨0,0,[]⟩ [] (Dk.new n)).2.1,(aK.put ⟨0,0,[]⟩ [] (Dk.new n)).2.2)=_;rw[h1]
theorem zg (h:2<=n) (hn:n<=65536):Good (fg n) ⟨1,1,[]⟩ (fun _=>0) 1:=by
 have hwf0:yu (Dk.new n):=⟨fun x hx=>by cases hx⟩;have hl0:(Dk.new n).cells.length=n:=by unfold Dk.new;simp
 have hwf:yu ((Dk.new n).wr 1 kK):=vR hwf0 (by rw[hl0];omega) rP;have hc:=eo hwf rfl;have hl:(fg n).cells.length=n:=hc.len.trans hl0;have hmay: ∀ i r,i<n->jl (fg n) i r->r=(if i=1 then (kK,0) else (List.replicate 512 0,0)):=fun i r hi hr=>by
  rw[hc.one i r (by show i<((Dk.new n).wr 1 kK).cells.length;rw[DK,hl0];exact hi) hr,gL _ hwf rfl i (by rw[DK,hl0];exact hi),oX rfl (by rw[hl0];exact hi)];by_cases e:i=1
  .rw[if_pos e,if_pos e]
  .rw[if_neg e,if_neg e];exact vX hi
 refine⟨⟨hc.off,hc.wf,by rw[hl];exact h,by rw[hl];exact hn,⟨by simp,List.Pairwise.nil,List.Pairwise.nil,by simp⟩,⟨Nat.le_refl _,by omega⟩,by simp,fun i hi hin r hr e=>?_⟩,⟨by show 1<2;omega,fun r hr=>?_,fun r hr e t g hu=>?_⟩⟩
 .rw[hmay i r (by rw[hl] at hin;exact hin) hr,if_neg (by omega)];have:(List.replicate 512 (0:UInt8)).take 8=List.replicate 8 0:=by rw[List.take_replicate];rfl
  show bu ((List.replicate 512 (0:UInt8)).take 8)<=1;rw[this];decide
 .rw[hmay 1 r (by omega) hr,if_pos rfl];rfl
 .rw[hmay 0 r (by omega) hr,if_neg (by omega)] at hu;rw[oz] at hu
  cases hu
theorem BQ:dq (fg n) 1:=dq.flush (dq.wr (n:=0) ⟨Nat.le_refl _,Nat.le_refl _⟩) rfl
theorem wV:(fg n).armed=0:=by unfold fg;rw[eu rfl];rfl
theorem CN:(fg n).cells.length=n:=by unfold fg;rw[dg _ rfl];show (List.foldl lay _ _).length=_;rw[oY];unfold Dk.wr Dk.dC Dk.new;simp
end
section
variable {D E:Dk} {S:aK} {sf:Nat->Nat} {lim n m i:Nat} {f:Fl} {b:List UInt8}
theorem Fj (hg:Good D S sf lim) {n:Int} {p:List UInt8} (ha:D.armed≠1) (hf:S.find n=some f) (hp:p.length<=480) (hl:f.aa.length<f.blocks):
 ∃ D',S.append n p D=(S.grow f.num p,D',0)/\Good D' (S.grow f.num p) sf lim/\(∀ n,dq D n->dq D' (n+1))/\D'.cells.length=D.cells.length/\D'.armed=D.armed - 1:=by
 have h:=jr hg n p
 cases h with
 | none h1 e=>rw[hf] at h1;cases h1
 | E9 f' h1 h2 e=>omega
 | full f' h1 h2 h3 e=>rw[hf] at h1;injection h1 with h1;subst h1;omega
 | off f' h1 h2 h3 h4 e=>exact absurd h4 ha
 | ok f' h1 h2 h3 h4 e g=>
  rw[hf] at h1;injection h1 with h1
  subst h1;rw[e] at g;exact⟨_,e,g,fun n hn=>hn.wr,rfl,rfl⟩
end
def aC (n:Nat):Nat:=((n*512 - 262144) / 8+100) / 480+2
def bj (n:Nat):Nat:=(n - 2 - 2*aC n) / 2
theorem jA {n:Nat} (h:n<=65536):2<=aC n/\aC n<=8672/\aC n*7<=n+21:=by unfold aC;omega
theorem kW {n:Nat} (h:64<=n):2+2*aC n+2*bj n<=n/\1<=bj n:=by unfold bj aC;omega
theorem sD (n:Nat) (hn:64<=n/\n<=65536) (w:World):Calls Tryz.prog 93 #[.int .i64 (n:Int)] w fun e w'=>e = .returned (.tuple #[.int .i64 (aC n:Nat),.int .i64 (bj n:Nat)])/\w=w':=by
 obtain⟨h1,h2⟩:=hn;have HI:Hid (∃ a:Nat,aC n=a / 480+2/\a=(n*512 - 262144) / 8+100):=⟨_,rfl,rfl⟩;by_cases hb:262144<=n*512
 .have hq:((n:Int)*512 - 262144).tdiv 8=(((n*512 - 262144) / 8:Nat):Int):=by
   rw[Int.tdiv_eq_ediv_of_nonneg (by omega)];omega
  have hq2:(0:Int)<=(((n*512 - 262144) / 8:Nat):Int):=by omega
  obtain⟨m,hm⟩: ∃ m,m=(n*512 - 262144) / 8:=⟨_,rfl⟩;have hmb:m<=4200000:=by omega
  rw[<-hm] at hq hq2;have hi:((m:Int)+100).tdiv 480=(((m+100) / 480:Nat):Int):=by rw[Int.tdiv_eq_ediv_of_nonneg (by omega)];omega
  have hI:aC n=(m+100) / 480+2:=by unfold aC;rw[hm]
  obtain⟨q,hq3⟩: ∃ q,q=(m+100) / 480:=⟨_,rfl⟩;rw[<-hq3] at hi hI;have hqb:q<=9000/\2*q+6<=n:=by omega
  have hl:((n:Int) - 2 - 2*((q:Int)+2)).tdiv 2=(bj n:Nat):=by
   rw[Int.tdiv_eq_ediv_of_nonneg (by omega)];unfold bj;rw[hI];omega
  have HIi:=ah hI;have HL:=ah hl;have hlb:bj n<=65536:=by unfold bj;omega
  have hmx:¬ (m:Int)<0:=by omega
  obtain⟨hqb1,hqb2⟩:=hqb;clear hm hq3 hI HI;go_enter Tryz.func93, Tryz.ntmps93;go_wp2_with fail
  all_goals
   go_ret2;refine⟨?_,rfl⟩;rw[HIi.o,show (((q+2:Nat)):Int)=(q:Int)+2 by omega];rfl
 .obtain⟨z,hz⟩: ∃ z,((n:Int)*512 - 262144).tdiv 8=z:=⟨_,rfl⟩;have hz0:z<0/\ -1000000<=z:=by
   have h3:((n:Int)*512 - 262144) = -((262144 - n*512:Nat):Int):=by omega
   rw[h3,Int.neg_tdiv,Int.tdiv_eq_ediv_of_nonneg (by omega)] at hz;omega
  obtain⟨hz1,hz2⟩:=hz0;have hI:aC n=2:=by unfold aC;omega
  have hl:((n:Int) - 2 - 4).tdiv 2=(bj n:Nat):=by
   rw[Int.tdiv_eq_ediv_of_nonneg (by omega)];unfold bj;rw[hI];omega
  have hi:((100:Int)).tdiv 480=0:=by decide
  have hmz:max z 0=0:=by omega
  have hlb:bj n<=65536:=by unfold bj;omega
  have HIi:=ah hI;clear hI HI;go_enter Tryz.func93, Tryz.ntmps93;go_wp2_with fail
  all_goals
   go_ret2;refine⟨?_,rfl⟩;rw[HIi.o];rfl
section
variable {w0 w:World} {F:SP} {d:Nat} {D:Dk}
theorem vq (n lg:Nat) (hn:64<=n/\n<=65536) (hD:D.cells.length=n) (hl:1<=lg/\lg<=2000000000) (h:Sat w0 (af d D*F) w):
 Calls Tryz.prog 54 #[.pointer (some ⟨d,0,none⟩),.int .i64 (lg:Int)] w fun e w'=> ∃ g,e = .returned (.slice (some ⟨g,0,none⟩) 2 2)/\Sat w0 (Pt g 128 #[.int .i64 ((lg:Int) - 1),.int .i64 0,.int .i64 (aC n:Nat),.int .i64 (lg:Int),.int .i64 0,.int .i64 (bj n:Nat)]*(af d D*F)) w':=by
 have HB:Hid (Calls Tryz.prog 51 #[.pointer (some ⟨d,0,none⟩)] w fun e w'=>e = .returned (.int .i64 (n:Int))/\w=w'):=by
  have h9:=gy d D w0 w F h;rw[hD] at h9;exact h9
 have HS:=ah (fun W=>sD n hn W);have HA:=ah (h.ab 128 #[.int .i64 ((lg:Int) - 1),.int .i64 0,.int .i64 (aC n:Nat),.int .i64 (lg:Int),.int .i64 0,.int .i64 (bj n:Nat)]);obtain⟨h1,h2⟩:=hl;clear h hn hD;go_enter Tryz.func54, Tryz.ntmps54;go_wp2_with (first
  | (go_at_call 51;(with_reducible refine HB.o.mono ?_);rintro e wx ⟨rfl,rfl⟩)
  | (go_at_call 93;(with_reducible refine(HS.o _).mono ?_);rintro e wx ⟨rfl,rfl⟩))
 go_ret;exact⟨_,rfl,HA.o⟩
theorem mg (s:Int) (hs:0<=s/\s<=1000000000) (w:World):Calls Tryz.prog 63 #[.int .i64 s] w fun e w'=>(∃ h:Int,e = .returned (.int .i64 h)/\ -9223372036854775808<=h/\h<=9223372036854775807)/\w=w':=by
 obtain⟨n,rfl⟩: ∃ n:Nat,s=n:=⟨s.toNat,by omega⟩;have hn:n<=1000000000:=by omega
 clear hs;go_enter Tryz.func63, Tryz.ntmps63;go_wp2_with fail;go_loopw [0,3] (fun sv hv wr=> ∃ (m h:Nat),sv = .int .i64 (m:Int)/\hv = .int .i64 (h:Int)/\h+m<=n+1/\w=wr) (fun sv _ _=>(intOf sv).toNat)
 case atStart=>exact⟨n,1,rfl,rfl,by omega,rfl⟩
 case round=>
  obtain⟨m,h,rfl,rfl,hm,rfl⟩:=hrel;have hb:h<=1000000001:=by omega
  have ha:=KZ (m:Int);by_cases h1:(m:Int) % 2=1
  .have hb1:((m:Int) % 2==1)=true:=by rw[h1];rfl
   have hm1:1<=m:=by omega
   clear h1;go_wp2_with fail;go_roundw
   .exact⟨m / 2,h+1,by go_num,by go_num,by omega,trivial⟩
   .simp[intOf];omega
  .have hb1:((m:Int) % 2==1)=false:=by simpa using h1
   clear h1;go_wp2_with fail;go_ret;exact⟨⟨h,rfl,by omega,by omega⟩,rfl⟩
end
section
variable {w0 w:World} {F:SP} {s d n m:Nat} {D D':Dk} {S S':aK} {sf:Nat->Nat} {lim:Nat} {f:Fl} {r:Int} {p:List UInt8}
theorem EX (n0:Int) (A:Option Addr) (c k:Nat) (hg:Good D S sf lim) (hc:dq D n) (hn:n<=999999999) (ha:D.armed<=9223372036854775807) (h:Sat w0 (ag s d S*(af d D*F)) w) (hp: ∀ W,Sat w0 F W->Rd W A p) (hk:p.length=k) (hr:S.append n0 p D=(S',D',r)):
 Calls Tryz.prog 120 #[.pointer (some ⟨s,0,none⟩),.int .i64 n0,.slice A k c] w fun e w'=>e = .returned (.int .i64 r)/\Sat w0 (ag s d S'*(af d D'*F)) w':=by
 subst hk;have h2:=Ch n0 A c p hg h hp (by have:=hc.writes;omega) (by have:=hc.pend;omega) ha;rw[hr] at h2;exact h2
end
end Go.Proofs.YtmbaiglpgaoogaaGreat
