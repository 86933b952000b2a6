/- Joined, as they were built one by one: ExtW Ext0 Ext1 Ext2 Ext3 Ext4. -/
import Derived.Test.YtmbaiglpgaoogaaGreatS01
import Derived.Test.YtmbaiglpgaoogaaGreatS02
import Derived.Test.YtmbaiglpgaoogaaGreatS06
import Derived.Test.YtmbaiglpgaoogaaGreatS07
namespace Go.Proofs.YtmbaiglpgaoogaaGreat
open Go.RowKit
set_option linter.unusedVariables false
set_option maxRecDepth 100000
def apartP (p q:Nat × Nat):Prop:=p.1+p.2≤q.1∨q.1+q.2≤p.1
def freeAt (n:Nat) (l:List (Nat × Nat)) (bl:Int) (a:Nat):Prop:=(a:Int)+bl≤n∧ ∀ p ∈ l,(a:Int)+bl≤p.1∨p.1+p.2≤a
theorem placeX_spec {n:Nat} {bl:Int} (hb:1≤bl): ∀ (l:List (Nat × Nat)) (first:Nat),(l.Pairwise fun p q=>p.1≤q.1)→l.Pairwise apartP→(∀ p ∈ l,first≤p.1∧1≤p.2∧p.1+p.2≤n)→
  ((placeX n bl first l).2=true→first≤(placeX n bl first l).1∧freeAt n l bl (placeX n bl first l).1)∧(∀ a,first≤a→freeAt n l bl a→(placeX n bl first l).2=true∧(placeX n bl first l).1≤a)
 | [],first,_,_,_=>by
  unfold placeX;refine⟨fun h=>⟨Nat.le_refl _,?_,by simp⟩,fun a ha hf=>⟨decide_eq_true ?_,ha⟩⟩
  ·have:=of_decide_eq_true h;omega
  ·have:=hf.1;omega
 | p::l,first,hs,hp,he=>by
  obtain⟨hs1,hs2⟩:=List.pairwise_cons.1 hs;obtain⟨hp1,hp2⟩:=List.pairwise_cons.1 hp;have hep:=he p (by simp);unfold placeX;by_cases h:bl≤(p.1:Int) - first
  ·rw[if_pos h];refine⟨fun _=>⟨Nat.le_refl _,by omega,fun q hq=>?_⟩,fun a ha _=>⟨rfl,ha⟩⟩;left
   rcases List.mem_cons.1 hq with rfl | hq
   ·show (first:Int)+bl≤_;omega
   ·have:=hs1 q hq;show (first:Int)+bl≤_;omega
  ·rw[if_neg h];have hl: ∀ q ∈ l,p.1+p.2≤q.1∧1≤q.2∧q.1+q.2≤n:=fun q hq=>by
    have h1:=hs1 q hq;have h2:=he q (List.mem_cons_of_mem _ hq);rcases hp1 q hq with h3 | h3
    ·exact⟨h3,h2.2.1,h2.2.2⟩
    ·omega
   obtain⟨i1,i2⟩:=placeX_spec hb l (p.1+p.2) hs2 hp2 hl;refine⟨fun ho=>?_,fun a ha hf=>?_⟩
   ·obtain⟨j1,j2,j3⟩:=i1 ho;refine⟨by omega,j2,fun q hq=>?_⟩;rcases List.mem_cons.1 hq with rfl | hq
    ·exact .inr j1
    ·exact j3 q hq
   ·refine i2 a ?_ ⟨hf.1,fun q hq=>hf.2 q (List.mem_cons_of_mem _ hq)⟩;rcases hf.2 p (by simp) with h3 | h3
    ·omega
    ·exact h3
theorem insF_perm (p:Nat × Nat): ∀ l,(insF p l).Perm (p::l)
 | []=>List.Perm.refl _
 | q::l=>by
  unfold insF;split
  ·exact List.Perm.refl _
  ·exact(List.Perm.cons q (insF_perm p l)).trans (List.Perm.swap _ _ _)
theorem insF_sorted (p:Nat × Nat): ∀ l,(l.Pairwise fun p q:Nat × Nat=>p.1≤q.1)→(insF p l).Pairwise fun p q=>p.1≤q.1
 | [],_=>List.pairwise_singleton _ _
 | q::l,h=>by
  obtain⟨h1,h2⟩:=List.pairwise_cons.1 h;unfold insF;split
  ·rename_i hpq;exact List.pairwise_cons.2 ⟨fun x hx=>by
    rcases List.mem_cons.1 hx with rfl | hx
    ·exact hpq
    ·exact Nat.le_trans hpq (h1 x hx),h⟩
  ·rename_i hpq;refine List.pairwise_cons.2 ⟨fun x hx=>?_,insF_sorted p l h2⟩;rcases List.mem_cons.1 ((insF_perm p l).mem_iff.1 hx) with rfl | hx
   ·omega
   ·exact h1 x hx
theorem sortF_perm: ∀ l,(sortF l).Perm l
 | []=>List.Perm.refl _
 | p::l=>(insF_perm p (sortF l)).trans (List.Perm.cons p (sortF_perm l))
theorem sortF_sorted: ∀ l,(sortF l).Pairwise fun p q=>p.1≤q.1
 | []=>List.Pairwise.nil
 | p::l=>insF_sorted p _ (sortF_sorted l)
theorem insN_perm (p:Fl): ∀ l,(insN p l).Perm (p::l)
 | []=>List.Perm.refl _
 | q::l=>by
  unfold insN;split
  ·exact List.Perm.refl _
  ·exact(List.Perm.cons q (insN_perm p l)).trans (List.Perm.swap _ _ _)
theorem insN_sorted (p:Fl): ∀ l,(l.Pairwise fun p q:Fl=>p.num≤q.num)→(insN p l).Pairwise fun p q=>p.num≤q.num
 | [],_=>List.pairwise_singleton _ _
 | q::l,h=>by
  obtain⟨h1,h2⟩:=List.pairwise_cons.1 h;unfold insN;split
  ·rename_i hpq;exact List.pairwise_cons.2 ⟨fun x hx=>by
    rcases List.mem_cons.1 hx with rfl | hx
    ·exact hpq
    ·exact Nat.le_trans hpq (h1 x hx),h⟩
  ·rename_i hpq;refine List.pairwise_cons.2 ⟨fun x hx=>?_,insN_sorted p l h2⟩;rcases List.mem_cons.1 ((insN_perm p l).mem_iff.1 hx) with rfl | hx
   ·omega
   ·exact h1 x hx
theorem sortN_perm: ∀ l,(sortN l).Perm l
 | []=>List.Perm.refl _
 | p::l=>(insN_perm p (sortN l)).trans (List.Perm.cons p (sortN_perm l))
theorem sortN_sorted: ∀ l,(sortN l).Pairwise fun p q=>p.num≤q.num
 | []=>List.Pairwise.nil
 | p::l=>insN_sorted p _ (sortN_sorted l)
theorem apartP_symm {p q:Nat × Nat} (h:apartP p q):apartP q p:=h.symm
theorem perm_apart {l m:List (Nat × Nat)} (h:l.Perm m) (hp:l.Pairwise apartP):m.Pairwise apartP:=(h.pairwise_iff (fun h=>apartP_symm h)).1 hp
structure LieOk (n:Nat) (l:List (Nat × Nat)):Prop where
 apart:l.Pairwise apartP
 each: ∀ p ∈ l,2≤p.1∧1≤p.2∧p.1+p.2≤n
theorem place_sort {n:Nat} {bl:Int} (hb:1≤bl) {l:List (Nat × Nat)} (h:LieOk n l):
  ((placeX n bl 2 (sortF l)).2=true→2≤(placeX n bl 2 (sortF l)).1∧freeAt n l bl (placeX n bl 2 (sortF l)).1)∧(∀ a,2≤a→freeAt n l bl a→(placeX n bl 2 (sortF l)).2=true∧(placeX n bl 2 (sortF l)).1≤a):=by
 have hp:=sortF_perm l;have h9:=placeX_spec (n:=n) hb (sortF l) 2 (sortF_sorted l) (perm_apart hp.symm h.apart) (fun p hq=>h.each p (hp.mem_iff.1 hq));have hf: ∀ a,freeAt n (sortF l) bl a↔freeAt n l bl a:=fun a=>⟨fun ⟨h1,h2⟩=>⟨h1,fun q hq=>h2 q (hp.mem_iff.2 hq)⟩,fun ⟨h1,h2⟩=>⟨h1,fun q hq=>h2 q (hp.mem_iff.1 hq)⟩⟩
 exact⟨fun ho=>⟨(h9.1 ho).1,(hf _).1 (h9.1 ho).2⟩,fun a ha hfa=>h9.2 a ha ((hf a).2 hfa)⟩
theorem LieOk.snoc {n:Nat} {l:List (Nat × Nat)} (h:LieOk n l) {a:Nat} {bl:Int} (hb:1≤bl) (h2:2≤a) (hf:freeAt n l bl a):LieOk n (l++[(a,bl.toNat)]):=by
 refine⟨List.pairwise_append.2 ⟨h.apart,List.pairwise_singleton _ _,fun p hp q hq=>?_⟩,fun p hp=>?_⟩
 ·rw[List.mem_singleton] at hq;subst hq;rcases hf.2 p hp with h3 | h3
  ·right;show a+bl.toNat≤p.1;omega
  ·exact .inl h3
 ·rcases List.mem_append.1 hp with hp | hp
  ·exact h.each p hp
  ·rw[List.mem_singleton] at hp;subst hp;have:=hf.1;exact⟨h2,by show 1≤bl.toNat;omega,by show a+bl.toNat≤n;omega⟩
theorem addX_some {n turn:Nat}: ∀ (add:List Fi) (lie:List (Nat × Nat)) (fs gs:List Fl),addX n turn add lie fs=some gs→(∀ x ∈ add,1≤x.blocks)→LieOk n lie→
  ∃ news:List Fl,gs=fs++news∧news.map (·.num)=add.map (·.num.toNat)∧(∀ f ∈ news,f=⟨f.num,f.first,f.blocks,turn,1,[]⟩)∧LieOk n (lie++news.map fun f=>(f.first,f.blocks))∧news.map (·.blocks)=add.map (·.blocks.toNat)
 | [],lie,fs,gs,h,_,hl=>by
  unfold addX at h;injection h with h
  exact⟨[],by simp[h],rfl,by simp,by simpa using hl,rfl⟩
 | x::add,lie,fs,gs,h,hb,hl=>by
  unfold addX at h;have hx:=hb x (by simp);have hp:=(place_sort hx hl).1;obtain⟨a,o,e⟩: ∃ a o,placeX n x.blocks 2 (sortF lie)=(a,o):=⟨_,_,rfl⟩;rw[e] at h hp
  cases o with
  | false=>cases h
  | true=>
   obtain⟨p1,p2⟩:=hp rfl;have hl2:=hl.snoc hx p1 p2;obtain⟨news,h1,h2,h3,h4,h5⟩:=addX_some add _ _ gs h (fun y hy=>hb y (List.mem_cons_of_mem _ hy)) hl2;refine⟨⟨x.num.toNat,a,x.blocks.toNat,turn,1,[]⟩::news,by rw[h1,List.append_assoc];rfl,by rw[List.map_cons,List.map_cons,h2],fun f hf=>?_,by rw[List.map_cons];simpa using h4,by rw[List.map_cons,List.map_cons,h5]⟩;rcases List.mem_cons.1 hf with rfl | hf
   ·rfl
   ·exact h3 f hf
theorem find_some {S:Spc} {n:Int} (h:(S.find n).isSome=true): ∃ f ∈ S.files,(f.num:Int)=n:=by
 unfold Spc.find at h;rw[List.find?_isSome] at h;obtain⟨f,h1,h2⟩:=h;exact⟨f,h1,by simpa using h2⟩
theorem find_none {S:Spc} {n:Int} (h:(S.find n).isSome=false): ∀ f ∈ S.files,(f.num:Int)≠n:=fun f hf e=>by
 have:(S.find n).isSome=true:=by
  unfold Spc.find;rw[List.find?_isSome];exact⟨f,hf,by simpa using e⟩
 rw[h] at this;cases this
theorem mayDrop_iff {S:Spc}: ∀ (l ahead:List Int),S.mayDrop ahead l=true↔(∀ n ∈ l,(S.find n).isSome=true∧n ∉ ahead)∧l.Nodup
 | [],ahead=>by simp[Spc.mayDrop]
 | n::l,ahead=>by
  unfold Spc.mayDrop;simp only[Bool.and_eq_true,mayDrop_iff l (ahead++[n]),List.nodup_cons,List.mem_cons,Bool.not_eq_true',List.contains_eq_mem,decide_eq_false_iff_not];constructor
  ·rintro ⟨⟨h1,h2⟩,h3,h4⟩;refine⟨?_,?_,h4⟩
   ·rintro m (rfl | hm)
    ·exact⟨h1,h2⟩
    ·have:=h3 m hm;simp only[List.mem_append,List.mem_singleton,not_or] at this;exact⟨this.1,this.2.1⟩
   ·intro hm;have:=(h3 n hm).2;simp at this
  ·rintro ⟨h1,h2,h3⟩;refine⟨⟨(h1 n (.inl rfl)).1,(h1 n (.inl rfl)).2⟩,fun m hm=>⟨(h1 m (.inr hm)).1,?_⟩,h3⟩;simp only[List.mem_append,List.mem_singleton,not_or];exact⟨(h1 m (.inr hm)).2,fun e=>h2 (e ▸ hm)⟩
theorem mayAdd_iff {S:Spc} {drop:List Int}: ∀ (l:List Fi) (seen:List Int),S.mayAdd drop seen l=true↔(∀ x ∈ l,(1≤x.num∧x.num≤2147483647∧1≤x.blocks)∧x.num ∉ seen∧((S.find x.num).isSome=false∨x.num ∈ drop))∧(l.map (·.num)).Nodup
 | [],seen=>by simp[Spc.mayAdd]
 | n::l,seen=>by
  unfold Spc.mayAdd;simp only[Bool.and_eq_true,Bool.or_eq_true,mayAdd_iff l (seen++[n.num]),List.map_cons,List.nodup_cons,List.mem_cons,Bool.not_eq_true',List.contains_eq_mem,decide_eq_false_iff_not,decide_eq_true_eq];constructor
  ·rintro ⟨⟨⟨h1,h2⟩,h3⟩,h4,h5⟩;refine⟨?_,?_,h5⟩
   ·rintro m (rfl | hm)
    ·exact⟨h1,h2,h3⟩
    ·obtain⟨a,b,c⟩:=h4 m hm;simp only[List.mem_append,List.mem_singleton,not_or] at b;exact⟨a,b.1,c⟩
   ·intro hm;obtain⟨y,hy,e⟩:=List.mem_map.1 hm;have:=(h4 y hy).2.1;simp only[List.mem_append,List.mem_singleton,not_or] at this;exact this.2 e
  ·rintro ⟨h1,h2,h3⟩;refine⟨⟨⟨(h1 n (.inl rfl)).1,(h1 n (.inl rfl)).2.1⟩,(h1 n (.inl rfl)).2.2⟩,fun m hm=>⟨(h1 m (.inr hm)).1,?_,(h1 m (.inr hm)).2.2⟩,h3⟩;simp only[List.mem_append,List.mem_singleton,not_or];exact⟨(h1 m (.inr hm)).2.1,fun e=>h2 (List.mem_map.2 ⟨m,hm,e⟩)⟩
theorem drop_count: ∀ (fs:List Fl) (drop:List Int),(fs.Pairwise fun a b=>a.num<b.num)→drop.Nodup→(∀ n ∈ drop, ∃ f ∈ fs,(f.num:Int)=n)→(fs.filter fun f=> !drop.contains (f.num:Int)).length+drop.length=fs.length
 | [],drop,_,_,hd=>by
  cases drop with
  | nil=>rfl
  | cons n l=>obtain⟨f,hf,_⟩:=hd n (by simp);cases hf
 | f::fs,drop,hp,hn,hd=>by
  obtain⟨hp1,hp2⟩:=List.pairwise_cons.1 hp;by_cases hm:(f.num:Int) ∈ drop
  ·have ih:=drop_count fs (drop.erase (f.num:Int)) hp2 (hn.erase _) (fun n hn2=>by
    have h1:=(List.Nodup.mem_erase_iff hn).1 hn2;obtain⟨g,hg,e⟩:=hd n h1.2;rcases List.mem_cons.1 hg with rfl | hg
    ·exact absurd e.symm h1.1
    ·exact⟨g,hg,e⟩)
   have hl:=List.length_erase_of_mem hm;have hpos:=List.length_pos_of_mem hm;have he:(fs.filter fun g=> !(drop.erase (f.num:Int)).contains (g.num:Int))=fs.filter fun g=> !drop.contains (g.num:Int):=by
    apply List.filter_congr;intro g hg;have h1:=hp1 g hg;have:((g.num:Int) ∈ drop.erase (f.num:Int))↔(g.num:Int) ∈ drop:=by
     rw[List.Nodup.mem_erase_iff hn];exact⟨fun h=>h.2,fun h=>⟨by omega,h⟩⟩
    simp only[List.contains_eq_mem,this]
   rw[he] at ih;rw[List.filter_cons,if_neg (by simp[hm]),List.length_cons];omega
  ·have ih:=drop_count fs drop hp2 hn (fun n hn2=>by
    obtain⟨g,hg,e⟩:=hd n hn2;rcases List.mem_cons.1 hg with rfl | hg
    ·exact absurd (e ▸ hn2) hm
    ·exact⟨g,hg,e⟩)
   rw[List.filter_cons,if_pos (by simp[hm]),List.length_cons,List.length_cons];omega
theorem FsOk.lieOk {n turn:Nat} {fs:List Fl} (h:FsOk n turn fs):LieOk n (fs.map fun f=>(f.first,f.blocks)):=by
 refine⟨?_,fun p hp=>?_⟩
 ·rw[List.pairwise_map];exact h.apart
 ·obtain⟨f,hf,rfl⟩:=List.mem_map.1 hp;obtain⟨h1,h2,h3,h4,h5,h6⟩:=h.each f hf;exact⟨h3,h4,h5⟩
theorem pw_strict {l:List Fl} (h:l.Pairwise fun p q=>p.num≤q.num) (hn:(l.map (·.num)).Nodup):l.Pairwise fun p q=>p.num<q.num:=by
 have h2:l.Pairwise fun p q=>p.num≠q.num:=by
  have:=List.pairwise_map.1 hn;exact this
 exact(h.and h2).imp fun ⟨a,b⟩=>by omega
theorem next_of {D:Dk} {S:Spc} {sf:Nat→Nat} {lim:Nat} (h:Good D S sf lim) {add:List Fi} {drop:List Int} (hm:S.may add drop=true) (hc:(S.files.length:Int)+add.length - drop.length≤24) {fs:List Fl}
  (ha:addX D.cells.length (S.turn+1) add S.lie (S.files.filter fun f=> !drop.contains (f.num:Int))=some fs):
  Next D S sf (sortN fs) (fun num=>if (num:Int) ∈ add.map (·.num) then 0 else sf num):=by
 unfold Spc.may at hm;obtain⟨hm1,hm2⟩:=(Bool.and_eq_true _ _).mp hm |>fun x=>(x:_∧_)
 obtain⟨d1,d2⟩:=(mayDrop_iff drop []).1 hm1;obtain⟨a1,a2⟩:=(mayAdd_iff add []).1 hm2;have hok:=h.fils.ok;obtain⟨news,rfl,n1,n2,n3,n4⟩:=addX_some add S.lie _ fs ha (fun x hx=>(a1 x hx).1.2.2) hok.lieOk;obtain⟨K,hK⟩: ∃ K,K=S.files.filter fun f=> !drop.contains (f.num:Int):=⟨_,rfl⟩;have hKm: ∀ f ∈ K,f ∈ S.files∧(f.num:Int) ∉ drop:=fun f hf=>by
  rw[hK,List.mem_filter] at hf;exact⟨hf.1,by simpa using hf.2⟩
 have hcnt:=drop_count S.files drop hok.nums d2 (fun n hn=>find_some (d1 n hn).1);rw[←hK] at hcnt ⊢;have hnl:news.length=add.length:=by have:=congrArg List.length n1;simpa using this
 have hnew: ∀ f ∈ news, ∃ x ∈ add,f.num=x.num.toNat∧(f.num:Int)=x.num:=fun f hf=>by
  have:f.num ∈ news.map (·.num):=List.mem_map_of_mem hf;rw[n1] at this;obtain⟨x,hx,e⟩:=List.mem_map.1 this;have h9:=(a1 x hx).1.1;exact⟨x,hx,e.symm,by omega⟩
 have hperm:=sortN_perm (K++news);have hKS:K.Sublist S.files:=by rw[hK];exact List.filter_sublist
 have hKn:K.Pairwise fun a b=>a.num<b.num:=hok.nums.sublist hKS;have hnd:((K++news).map (·.num)).Nodup:=by
  rw[List.map_append];refine List.nodup_append.2 ⟨?_,?_,?_⟩
  ·exact List.pairwise_map.2 (hKn.imp fun h=>by omega)
  ·rw[n1];refine List.pairwise_map.2 ?_;have h8:=List.pairwise_map.1 a2;refine List.Pairwise.imp_of_mem (fun {x y} hx hy hne=>?_) h8;have h6:=(a1 x hx).1.1;have h7:=(a1 y hy).1.1;omega
  ·intro x hx y hy e;subst e;obtain⟨f,hf,e1⟩:=List.mem_map.1 hx;obtain⟨g,hg,e2⟩:=List.mem_map.1 hy;obtain⟨z,hz,_,e3⟩:=hnew g hg;obtain⟨k1,k2⟩:=hKm f hf;have hfz:(f.num:Int)=z.num:=by omega
   rcases(a1 z hz).2.2 with q | q
   ·exact find_none q f k1 hfz
   ·exact k2 (hfz ▸ q)
 have hlie:LieOk D.cells.length ((K++news).map fun f=>(f.first,f.blocks)):=by
  rw[List.map_append];refine⟨n3.apart.sublist (List.Sublist.append ?_ (List.Sublist.refl _)),fun p hp=>n3.each p ?_⟩
  ·exact hKS.map _
  ·rcases List.mem_append.1 hp with q | q
   ·exact List.mem_append_left _ ((hKS.map _).mem q)
   ·exact List.mem_append_right _ q
 refine⟨⟨?_,?_,?_,fun f hf=>?_⟩,fun f hf=>?_⟩
 ·rw[hperm.length_eq,List.length_append];omega
 ·exact pw_strict (sortN_sorted _) ((hperm.map _).nodup_iff.2 hnd)
 ·have h8:(K++news).Pairwise fun a b=>a.first+a.blocks≤b.first∨b.first+b.blocks≤a.first:=List.pairwise_map.1 hlie.apart;exact(hperm.symm.pairwise_iff (fun h=>h.symm)).1 h8
 ·have hf2:=hperm.mem_iff.1 hf;have h3:=hlie.each (f.first,f.blocks) (List.mem_map_of_mem hf2);rcases List.mem_append.1 hf2 with q | q
  ·obtain⟨b1,b2,b3,b4,b5,b6⟩:=hok.each f (hKm f q).1;exact⟨b1,b2,b3,b4,b5,by omega⟩
  ·obtain⟨z,hz,e1,e2⟩:=hnew f q;have h9:=(a1 z hz).1;have h10:=congrArg Fl.birth (n2 f q);simp only at h10;exact⟨by omega,by omega,h3.1,h3.2.1,h3.2.2,by omega⟩
 ·have hf2:=hperm.mem_iff.1 hf;rcases List.mem_append.1 hf2 with q | q
  ·left
   refine⟨(hKm f q).1,?_⟩;split
   ·exact Nat.zero_le _
   ·exact Nat.le_refl _
  ·right
   refine⟨n2 f q,?_⟩;obtain⟨z,hz,e1,e2⟩:=hnew f q;rw[if_pos];rw[e2];exact List.mem_map_of_mem hz
section
variable {D:Dk} {S:Spc} {sf:Nat→Nat} {lim:Nat}
theorem put_eq (h:Good D S sf lim) {fs:List Fl} (hn:fs.length≤24):
  (D.armed=1→S.put fs D=(S,D.took (1 - S.slot) (sealB (S.turn+1) (fs.map Fl.hd)),21))∧(D.armed≠1→S.put fs D=(⟨1 - S.slot,S.turn+1,fs⟩,(D.wr (1 - S.slot) (sealB (S.turn+1) (fs.map Fl.hd))).flush.1,0)):=by
 have hs:=h.heads.lt;have h2:=h.fils.two;have hl:=h.fils.cap;have hi:(S.slot+1) % 2=1 - S.slot:=by omega
 have ht:(S.turn+1) % 18446744073709551616=S.turn+1:=Nat.mod_eq_of_lt (by omega);have hw:=write_took D (1 - S.slot) (sealB (S.turn+1) (fs.map Fl.hd)) h.fils.off (by omega) (sealB_len (by rw[List.length_map];exact hn));unfold Spc.put;simp only[hi,ht,hw];constructor
 ·intro ha;rw[if_pos (by rw[if_pos ha];simp),if_pos ha]
 ·intro ha;have e:D.took (1 - S.slot) (sealB (S.turn+1) (fs.map Fl.hd))=D.wr (1 - S.slot) (sealB (S.turn+1) (fs.map Fl.hd)):=by
   unfold Dk.wr Dk.took;simp only[if_neg ha,h.fils.off]
  rw[if_neg (by rw[if_neg ha];simp),e];have hf:=flush_on (D.wr (1 - S.slot) (sealB (S.turn+1) (fs.map Fl.hd))) rfl;rw[if_neg (by rw[hf];simp)]
theorem took_crash (D:Dk) (i:Nat) (b:List UInt8) (keep:List Bool) (torn bytes:Int):(D.took i b).crash keep torn bytes=(D.wr i b).crash keep torn bytes:=rfl
end
def ptrV (p:Nat):Value:= .pointer (some ⟨p,0,none⟩)
def flC (f:Fl) (v:Value):Array Value:= #[.int .i64 (f.num:Int),.int .i64 (f.first:Int),.int .i64 (f.blocks:Int),.int .u64 (f.birth:Int),.int .u64 (f.life:Int),v]
def FlP (p:Nat) (f:Fl):SP:=fun h=> ∃ v ks,txt ks=f.frames∧(Pt p 163 (flC f v)*(Row 41 1 v ks.length (ks.map slOf)*RoL ks)) h
def FlsP:List (Nat × Fl)→SP
 | []=>Emp
 | x::l=>FlP x.1 x.2*FlsP l
def SpaceC (s d slot turn:Nat) (v:Value) (ps:List (Nat × Fl)):SP:=
 Pt s 153 #[ptrV d,.int .i64 (slot:Int),.int .u64 (turn:Int),v]*(Row 155 1 v ps.length (ps.map fun x=>ptrV x.1)*FlsP ps)
def SpaceP (s d:Nat) (S:Spc):SP:=fun h=> ∃ v ps,ps.map (·.2)=S.files∧SpaceC s d S.slot S.turn v ps h
section
variable {w0 w:World} {F:SP} {p s d slot turn:Nat} {f:Fl} {v:Value} {ks:Rows_} {ps:List (Nat × Fl)} {S:Spc}
theorem Sat.fl (h:Sat w0 (FlP p f*F) w): ∃ v ks,txt ks=f.frames∧Sat w0 (Pt p 163 (flC f v)*(Row 41 1 v ks.length (ks.map slOf)*(RoL ks*F))) w:=by
 obtain⟨c,x,h1,a,g,h2,h3,⟨v,ks,h4,h5⟩,h6⟩:=h;refine⟨v,ks,h4,Sat.of (A:=(Pt p 163 (flC f v)*(Row 41 1 v ks.length (ks.map slOf)*RoL ks))*F) ⟨c,x,h1,a,g,h2,h3,h5,h6⟩ ?_⟩
 ac_rfl
theorem Sat.flI (ht:txt ks=f.frames) (h:Sat w0 (Pt p 163 (flC f v)*(Row 41 1 v ks.length (ks.map slOf)*(RoL ks*F))) w):Sat w0 (FlP p f*F) w:=by
 have h2:Sat w0 ((Pt p 163 (flC f v)*(Row 41 1 v ks.length (ks.map slOf)*RoL ks))*F) w:=h.of (by ac_rfl);exact h2.mono fun y ⟨a,g,h3,h4,h5,h6⟩=>⟨a,g,h3,h4,⟨v,ks,ht,h5⟩,h6⟩
theorem fls_app: ∀ (a b:List (Nat × Fl)),FlsP (a++b)=FlsP a*FlsP b
 | [],b=>by show FlsP b=Emp*FlsP b;rw[emp_star]
 | x::a,b=>by show FlP x.1 x.2*FlsP (a++b)=(FlP x.1 x.2*FlsP a)*FlsP b;rw[fls_app a b,star_assoc]
theorem fls_one (x:Nat × Fl):FlsP [x]=FlP x.1 x.2:=by show FlP x.1 x.2*Emp=_;rw[star_emp]
theorem fls_perm {a b:List (Nat × Fl)} (h:a.Perm b):FlsP a=FlsP b:=by
 induction h with
 | nil=>rfl
 | cons x _ ih=>show FlP x.1 x.2*_=FlP x.1 x.2*_;rw[ih]
 | swap x y l=>show FlP y.1 y.2*(FlP x.1 x.2*FlsP l)=FlP x.1 x.2*(FlP y.1 y.2*FlsP l);rw[star_left]
 | trans _ _ i1 i2=>exact i1.trans i2
theorem fls_at': ∀ (ps:List (Nat × Fl)) (i:Nat) (h:i<ps.length),FlsP ps=FlP ps[i].1 ps[i].2*FlsP (ps.eraseIdx i)
 | x::l,0,h=>rfl
 | x::l,i+1,h=>by
  have hi:i<l.length:=by simpa using h
  show FlP x.1 x.2*FlsP l=FlP l[i].1 l[i].2*(FlP x.1 x.2*FlsP (l.eraseIdx i));rw[fls_at' l i hi,star_left]
theorem fls_at {i:Nat} (h:i<ps.length):FlsP ps=FlP ps[i].1 ps[i].2*FlsP (ps.eraseIdx i):=fls_at' ps i h
theorem fls_set {i:Nat} (h:i<ps.length) (x:Nat × Fl):FlsP (ps.set i x)=FlP x.1 x.2*FlsP (ps.eraseIdx i):=by
 have h2:i<(ps.set i x).length:=by rw[List.length_set];exact h
 rw[fls_at h2,List.getElem_set_self,List.eraseIdx_set_eq]
theorem Sat.space (h:Sat w0 (SpaceP s d S*F) w): ∃ v ps,ps.map (·.2)=S.files∧Sat w0 (SpaceC s d S.slot S.turn v ps*F) w:=by
 obtain⟨c,x,h1,a,g,h2,h3,⟨v,ps,h4,h5⟩,h6⟩:=h;exact⟨v,ps,h4,c,x,h1,a,g,h2,h3,h5,h6⟩
theorem Sat.spaceI (ht:ps.map (·.2)=S.files) (h:Sat w0 (SpaceC s d S.slot S.turn v ps*F) w):Sat w0 (SpaceP s d S*F) w:=
 h.mono fun y ⟨a,g,h3,h4,h5,h6⟩=>⟨a,g,h3,h4,⟨v,ps,ht,h5⟩,h6⟩
theorem space_d:SpaceC s d slot turn v ps*F=Pt s 153 #[ptrV d,.int .i64 (slot:Int),.int .u64 (turn:Int),v]*(Row 155 1 v ps.length (ps.map fun x=>ptrV x.1)*(FlsP ps*F)):=by
 unfold SpaceC;ac_rfl
theorem space_at {i:Nat} (h:i<ps.length):SpaceC s d slot turn v ps*F=FlP ps[i].1 ps[i].2*(Pt s 153 #[ptrV d,.int .i64 (slot:Int),.int .u64 (turn:Int),v]*(Row 155 1 v ps.length (ps.map fun x=>ptrV x.1)*(FlsP (ps.eraseIdx i)*F))):=by
 rw[space_d,fls_at h];ac_rfl
theorem Sat.spaceR (h:Sat w0 (SpaceC s d slot turn v ps*F) w): ∃ A c,v = .slice A ps.length c∧ps.length≤c∧c≤maxLen∧RdV w A (ps.map fun x=>ptrV x.1)∧
  (w.cell? ⟨s,0,none⟩=some (ptrV d)∧w.cell? ⟨s,1,none⟩=some (.int .i64 (slot:Int))∧w.cell? ⟨s,2,none⟩=some (.int .u64 (turn:Int))∧w.cell? ⟨s,3,none⟩=some v):=by
 have h1:=h.of space_d;obtain⟨A,c,rfl,h2,h3⟩:=h1.up2.row_sl;exact⟨A,c,rfl,h2,h3,RdV.of_own h1.up2.row_own,h1.cell 0,h1.cell 1,h1.cell 2,h1.cell 3⟩
theorem Sat.spaceF (h:Sat w0 (SpaceC s d slot turn v ps*F) w) {i:Nat} (hi:i<ps.length): ∃ u ks,txt ks=ps[i].2.frames∧(w.cell? ⟨ps[i].1,0,none⟩=some (.int .i64 (ps[i].2.num:Int))∧w.cell? ⟨ps[i].1,1,none⟩=some (.int .i64 (ps[i].2.first:Int))∧w.cell? ⟨ps[i].1,2,none⟩=some (.int .i64 (ps[i].2.blocks:Int))∧
  w.cell? ⟨ps[i].1,3,none⟩=some (.int .u64 (ps[i].2.birth:Int))∧w.cell? ⟨ps[i].1,4,none⟩=some (.int .u64 (ps[i].2.life:Int))∧w.cell? ⟨ps[i].1,5,none⟩=some u)∧ ∃ A c,u = .slice A ks.length c∧ks.length≤c∧c≤maxLen∧RdL w A ks:=by
 obtain⟨u,ks,h1,h2⟩:=(h.of (space_at hi)).fl;obtain⟨A,c,e,h3,h4⟩:=h2.up2.row_sl;refine⟨u,ks,h1,⟨h2.cell 0,h2.cell 1,h2.cell 2,h2.cell 3,h2.cell 4,h2.cell 5⟩,A,c,e,h3,h4,?_,?_⟩
 ·subst e;exact RdV.of_own h2.up2.row_own
 ·intro k hk;exact h2.up3.rol hk
end
def idxN (ps:List (Nat × Fl)) (n:Int):Nat:=ps.findIdx fun x=>((x.2.num:Nat):Int)==n
theorem idxN_le (ps:List (Nat × Fl)) (n:Int):idxN ps n≤ps.length:=List.findIdx_le_length
theorem idxN_here {ps:List (Nat × Fl)} {n:Int} {i:Nat} (hi:i<ps.length) (h1:(ps[i].2.num:Int)=n) (h2: ∀ j (hj:j<i),((ps[j]'(by omega)).2.num:Int)≠n):idxN ps n=i:=by
 unfold idxN;rw[List.findIdx_eq hi];exact⟨by simpa using h1,fun j hj=>by simpa using h2 j hj⟩
theorem idxN_none {ps:List (Nat × Fl)} {n:Int} (h2: ∀ j (hj:j<ps.length),(ps[j].2.num:Int)≠n):idxN ps n=ps.length:=by
 unfold idxN;rw[List.findIdx_eq_length];intro x hx;obtain⟨j,hj,rfl⟩:=List.getElem_of_mem hx;simpa using h2 j hj
theorem idxN_find {ps:List (Nat × Fl)} {S:Spc} (ht:ps.map (·.2)=S.files) (n:Int):S.find n=(ps[idxN ps n]?).map (·.2):=by
 unfold Spc.find idxN;rw[←ht,List.find?_map];rw[←List.find?_eq_getElem?_findIdx];rfl
section
variable {w0 w:World} {F:SP} {s d slot turn:Nat} {v:Value} {ps:List (Nat × Fl)}
def ptrO (o:Option (Nat × Fl)):Value:=match o with | some x=>ptrV x.1 | none=> .pointer none
theorem ptr_get {A:Option Addr} {k:Nat} (h:RdV w A (ps.map fun x=>ptrV x.1)) (hk:k<ps.length): ∃ b o,A=some ⟨b,o,none⟩∧w.cell? ⟨b,o+k,none⟩=some (.pointer (some ⟨ps[k].1,0,none⟩)):=by
 obtain⟨b,o,e,hc⟩:=h (by intro e;have:=congrArg List.length e;simp at this;rw[this] at hk;simp at hk);refine⟨b,o,e,?_⟩;have:=hc k (by simpa using hk);rw[this];simp[ptrV]
set_option maxHeartbeats 1000000 in
theorem find_any (n:Int) (h:Sat w0 (SpaceC s d slot turn v ps*F) w) (hl:ps.length≤1000000):
  Calls Tryz.prog 103 #[.pointer (some ⟨s,0,none⟩),.int .i64 n] w fun e w'=>e = .returned (ptrO ps[idxN ps n]?)∧w=w':=by
 obtain⟨A,c,rfl,h1,h2,h3,h4,h5,h6,h7⟩:=h.spaceR;have HS:=ah h;have HR:=ah h3;clear h h3 h4 h5 h6;go_enter Tryz.func103, Tryz.ntmps103;go_wp2_with fail;go_loopw [6,12] (fun _ iv wr=> ∃ k:Nat,k≤ps.length∧iv = .int .i64 (k:Int)∧wr=w∧Hid (∀ j (hj:j<k) (hl:j<ps.length),(ps[j].2.num:Int)≠n)) (fun _ iv _=>ps.length - (intOf iv).toNat)
 case atStart=>exact⟨0,by omega,rfl,rfl,fun j hj=>by omega⟩
 case round=>
  obtain⟨k,hk,rfl,rfl,HD⟩:=hrel;by_cases hlt:k<ps.length
  ·obtain⟨b,o,rfl,hc⟩:=ptr_get HR.out hlt;obtain⟨u,ks,hks,hg,hu⟩:=HS.out.spaceF hlt;have g0:=hg.1;clear hg hu;have hk2:(k:Int)<ps.length:=by omega
   by_cases e:(ps[k].2.num:Int)=n
   ·have HE:Hid (idxN ps n=k):=idxN_here hlt e (fun j hj=>HD.out j hj (by omega));have HE2:Hid (ptrO ps[k]? = .pointer (some ⟨ps[k].1,0,none⟩)):=by unfold Hid ptrO;rw[List.getElem?_eq_getElem hlt];rfl
    clear hks;generalize ps[k].2.num=m at*
    generalize ps[k].1=q at*
    subst e;go_wp2_with fail;go_ret;refine⟨?_,rfl⟩;rw[HE.out,HE2.out];rfl
   ·have HN:Hid (∀ j (hj:j<k+1) (hl:j<ps.length),(ps[j].2.num:Int)≠n):=fun j hj hl=>by
     by_cases ej:j=k
     ·subst ej;exact e
     ·exact HD.out j (by omega) hl
    clear hks;generalize ps[k].2.num=m at*
    generalize ps[k].1=q at*
    go_wp2_with fail;go_roundw
    ·exact⟨k+1,by omega,by push_cast;rfl,trivial,HN.out⟩
    ·simp[intOf];omega
  ·have HE:Hid (idxN ps n=ps.length):=idxN_none (fun j hj=>HD.out j (by omega) hj);have hk2:¬ (k:Int)<ps.length:=by omega
   go_wp2_with fail;go_ret;refine⟨?_,rfl⟩;rw[HE.out,List.getElem?_eq_none (Nat.le_refl _)];rfl
theorem fileT:(Tryz.prog.info? 128).map (fun i=>(i.zero,i.size,i.bytes))=some (some (.agg #[.int .i64 0,.int .i64 0,.int .i64 0]),3,24):=by kernel_rfl
def fiV (f:Fl):List Value:=[.int .i64 (f.num:Int),.int .i64 (f.first:Int),.int .i64 (f.blocks:Int)]
set_option maxHeartbeats 1000000 in
theorem files_any (h:Sat w0 (SpaceC s d slot turn v ps*F) w) (hl:ps.length≤1000000):
  Calls Tryz.prog 67 #[.pointer (some ⟨s,0,none⟩)] w fun e w'=> ∃ u,e = .returned u∧Sat w0 (Row 128 3 u ps.length ((ps.map (·.2)).flatMap fiV)*(SpaceC s d slot turn v ps*F)) w':=by
 obtain⟨i0,hi0',hz0',hz1',hz2'⟩:=info_parts fileT;have hi0:=ah hi0';have hz0:=ah hz0';have hz1:=ah hz1';have hz2:=ah hz2';obtain⟨A,c,rfl,h1,h2,h3,h4,h5,h6,h7⟩:=h.spaceR;have HS:=ah h;have HR:=ah h3;clear h h3 h4 h5 h6 hi0' hz0' hz1' hz2';go_enter Tryz.func67, Tryz.ntmps67;go_wp2_with fail;go_loopw [3,5,11] (fun ov _ iv wr=> ∃ (k:Nat) (C:Option Addr) (cc:Nat),k≤ps.length∧ov = .slice C k cc∧iv = .int .i64 (k:Int)∧Hid (Sat w0 (Row 128 3 (.slice C k cc) k (((ps.take k).map (·.2)).flatMap fiV)*(SpaceC s d slot turn (.slice A ps.length c) ps*F)) wr)) (fun _ _ iv _=>ps.length - (intOf iv).toNat)
 case atStart=>exact⟨0,none,0,by omega,rfl,rfl,HS.out.row_nil _ 3⟩
 case round=>
  obtain⟨k,C,cc,hk,rfl,rfl,HD⟩:=hrel;by_cases hlt:k<ps.length
  ·obtain⟨A2,c2,e9,_,_,hR2,_⟩:=HD.out.right.spaceR;injection e9 with e9 _ e8
   subst e9;subst e8;obtain⟨b,o,rfl,hc⟩:=ptr_get hR2 hlt;obtain⟨u,ks,hks,hg,hu⟩:=HD.out.right.spaceF hlt;have g0:=hg.1;have g1:=hg.2.1;have g2:=hg.2.2.1;have hk2:(k:Int)<ps.length:=by omega
   have HT:Hid (((ps.take (k+1)).map (·.2)).flatMap fiV=((ps.take k).map (·.2)).flatMap fiV++[.int .i64 (ps[k].2.num:Int),.int .i64 (ps[k].2.first:Int),.int .i64 (ps[k].2.blocks:Int)]):=by
    unfold Hid;rw[List.take_succ_eq_append_getElem hlt,List.map_append,List.flatMap_append];rfl
   clear hg hu hks hR2;generalize ps[k].2.num=m0 at*
   generalize ps[k].2.first=m1 at*
   generalize ps[k].2.blocks=m2 at*
   generalize ps[k].1=q at*
   go_wp2_with (at_builtin;refine wpList_appS rfl (.tmp 15) (.tmp 20) 105 rfl 128 i0 _ 3 24 Tryz.underlying105 hi0.out hz0.out hz1.out hz2.out rfl (by decide) (.slice C k cc) k _ rfl w0 _ (by exact HD.out.alloc' _) (some ⟨wr.heap.size,0,none⟩) 1 1 [.int .i64 (m0:Int),.int .i64 (m1:Int),.int .i64 (m2:Int)] rfl (lit_rdv _ _ _) rfl (by intro u hu;simp at hu;rcases hu with rfl | rfl | rfl<;>rfl) (by unfold maxLen;omega) (by omega) ?_;intro A3 c3 w3 hs;have HS3:=ah hs;clear hs);go_roundw
   ·exact⟨k+1,A3,c3,by omega,rfl,by push_cast;rfl,by rw[HT.out];exact HS3.out⟩
   ·simp[intOf];omega
  ·obtain rfl:k=ps.length:=by omega
   have hk2:¬ ((ps.length:Nat):Int)<ps.length:=by omega
   go_wp2_with fail;go_ret;exact⟨_,rfl,by rw[←List.take_length (l:=ps)];simpa using HD.out⟩
end
section
variable {w0 w:World} {F:SP} {s d slot turn:Nat} {v:Value} {ps:List (Nat × Fl)} {D:Dk}
theorem Sat.row_rol {A:Option Addr} {c n:Nat} {l:List UInt8} (h:Sat w0 (Row 5 1 (.slice A n c) n (l.map bv)*F) w):Sat w0 (RoL [(A,c,l)]*F) w:=by
 obtain⟨A2,c2,e,_,_,h2⟩:=h.row_ro;injection e with e1 _ e3
 subst e1;subst e3;have:=rb_rol (A,c,l);rw[←this];exact h2
theorem sync_any (h:Sat w0 (SpaceC s d slot turn v ps*(Disk d D*F)) w) (hw2:D.pend.length≤1000000000):
  Calls Tryz.prog 56 #[.pointer (some ⟨s,0,none⟩)] w fun e w'=>e = .returned (.int .i64 D.flush.2)∧Sat w0 (SpaceC s d slot turn v ps*(Disk d D.flush.1*F)) w':=by
 have HB:=ah (flush_any d D w0 w _ h.up2 hw2);obtain⟨A,c,rfl,h1,h2,h3,h4,h5,h6,h7⟩:=h.spaceR;unfold ptrV at h4;clear h h3 h5 h6;go_enter Tryz.func56, Tryz.ntmps56;go_wp2_with (go_at_call 102;(with_reducible refine HB.out.mono ?_);rintro x wx ⟨rfl,hs⟩;have HS2:=ah hs;clear hs);go_ret;exact⟨rfl,HS2.out.up2⟩
theorem room_no (n:Int) (h:Sat w0 (SpaceC s d slot turn v ps*F) w) (hl:ps.length≤1000000) (hi:idxN ps n=ps.length):
  Calls Tryz.prog 118 #[.pointer (some ⟨s,0,none⟩),.int .i64 n] w fun e w'=>e = .returned (.tuple #[.int .i64 0,.int .i64 34])∧w=w':=by
 have HF:=find_any n h hl;rw[hi,List.getElem?_eq_none (Nat.le_refl _)] at HF;have HF:=ah HF;clear h hi;go_enter Tryz.func118, Tryz.ntmps118;go_wp2_with (go_at_call 103;(with_reducible refine HF.out.mono ?_);rintro x wx ⟨rfl,rfl⟩;unfold ptrO;dsimp only);go_ret2;exact⟨rfl,rfl⟩
theorem room_yes (n:Int) (h:Sat w0 (SpaceC s d slot turn v ps*F) w) (hl:ps.length≤1000000) {i:Nat} (hi:i<ps.length) (he:idxN ps n=i) (hb:ps[i].2.blocks≤65536) (hf:ps[i].2.frames.length≤ps[i].2.blocks):
  Calls Tryz.prog 118 #[.pointer (some ⟨s,0,none⟩),.int .i64 n] w fun e w'=>e = .returned (.tuple #[.int .i64 ((ps[i].2.blocks:Int) - ps[i].2.frames.length),.int .i64 0])∧Sat w0 (SpaceC s d slot turn v ps*F) w':=by
 have HF:=find_any n h hl;rw[he,List.getElem?_eq_getElem hi] at HF;have HF:=ah HF;have HS:=ah h;obtain⟨u,ks,hks,hg,A,c,rfl,hu⟩:=h.spaceF hi;have g2:=hg.2.2.1;have g5:=hg.2.2.2.2.2;have hkl:ks.length=ps[i].2.frames.length:=by rw[←hks,txt,List.length_map]
 have hw:IntKind.i64.wrap ((ps[i].2.blocks:Int) - (ps[i].2.frames.length:Int))=(ps[i].2.blocks:Int) - (ps[i].2.frames.length:Int):=by rw[IntKind.wrap_i64];omega
 have HD:=ah ((Sat.drewN (h:=h)));rw[hkl] at g5;clear h hg hu hks he hkl;generalize ps[i].2.frames.length=m at*
 generalize ps[i].2.blocks=b at*
 go_enter Tryz.func118, Tryz.ntmps118;go_wp2_with (go_at_call 103;(with_reducible refine HF.out.mono ?_);rintro x wx ⟨rfl,rfl⟩;unfold ptrO ptrV;dsimp only);go_region
 all_goals
  (try go_wp2_with fail)
  go_ret2;exact⟨rfl,by first | exact HS.out | exact HS.out.drew | exact HD.out _⟩
theorem slOf_oneX (k:Slc): ∀ u ∈ [slOf k],u.oneCell'=true:=by
 intro u hu;rw[List.mem_singleton] at hu;subst hu;rfl
theorem frames_no (n:Int) (h:Sat w0 (SpaceC s d slot turn v ps*F) w) (hl:ps.length≤1000000) (hi:idxN ps n=ps.length):
  Calls Tryz.prog 59 #[.pointer (some ⟨s,0,none⟩),.int .i64 n] w fun e w'=>e = .returned (.tuple #[.slice none 0 0,.int .i64 34])∧w=w':=by
 have HF:=find_any n h hl;rw[hi,List.getElem?_eq_none (Nat.le_refl _)] at HF;have HF:=ah HF;clear h hi;go_enter Tryz.func59, Tryz.ntmps59;go_wp2_with (go_at_call 103;(with_reducible refine HF.out.mono ?_);rintro x wx ⟨rfl,rfl⟩;unfold ptrO;dsimp only);go_ret2;exact⟨rfl,rfl⟩
theorem rowsT:(Tryz.prog.info? 41).map (fun i=>(i.zero,i.size,i.bytes))=some (some (.slice none 0 0),1,24):=by kernel_rfl
set_option maxHeartbeats 1000000 in
theorem frames_yes (n:Int) (h:Sat w0 (SpaceC s d slot turn v ps*F) w) (hl:ps.length≤1000000) {i:Nat} (hi:i<ps.length) (he:idxN ps n=i) (hf:ps[i].2.frames.length≤65536) (hsm: ∀ p ∈ ps[i].2.frames,p.length≤480):
  Calls Tryz.prog 59 #[.pointer (some ⟨s,0,none⟩),.int .i64 n] w fun e w'=> ∃ u ts,e = .returned (.tuple #[u,.int .i64 0])∧txt ts=ps[i].2.frames∧Sat w0 (Row 41 1 u ts.length (ts.map slOf)*(RoL ts*(SpaceC s d slot turn v ps*F))) w':=by
 obtain⟨i0,hi0',hz0',hz1',hz2'⟩:=info_parts rowsT;have hi0:=ah hi0';have hz0:=ah hz0';have hz1:=ah hz1';have hz2:=ah hz2';have HF:=find_any n h hl;rw[he,List.getElem?_eq_getElem hi] at HF;have HF:=ah HF;obtain⟨v5,ks,hks,hfl⟩:=(h.of (space_at hi)).fl;obtain⟨A,c,rfl,hu1,hu2⟩:=hfl.up2.row_sl;have g5:w.cell? ⟨ps[i].1,5,none⟩=some (.slice A ks.length c):=hfl.cell 5;have HS:=ah hfl;have hkl:ks.length=ps[i].2.frames.length:=by rw[←hks,txt,List.length_map]
 have HKs:=ah hks;have HSm:Hid (∀ k ∈ ks,k.2.2.length≤480):=fun k hk=>hsm k.2.2 (by rw[←hks];exact List.mem_map_of_mem hk)
 have hk16:ks.length≤65536:=by omega
 clear h hks he hkl hf hsm hi0' hz0' hz1' hz2' hfl;obtain⟨G,hG⟩: ∃ G,G=Pt s 153 #[ptrV d,.int .i64 (slot:Int),.int .u64 (turn:Int),v]*(Row 155 1 v ps.length (ps.map fun x=>ptrV x.1)*(FlsP (ps.eraseIdx i)*F)):=⟨_,rfl⟩;rw[←hG] at HS;have HG:=ah hG;clear hG;go_enter Tryz.func59, Tryz.ntmps59;go_wp2_with (go_at_call 103;(with_reducible refine HF.out.mono ?_);rintro x wx ⟨rfl,rfl⟩;unfold ptrO ptrV;dsimp only);go_loopw [7,9,20] (fun ov _ iv wr=> ∃ (k:Nat) (C:Option Addr) (cc:Nat) (ts:Rows_),k≤ks.length∧ov = .slice C k cc∧iv = .int .i64 (k:Int)∧Hid (ts.length=k∧txt ts=txt (ks.take k)∧Sat w0 (Row 41 1 (.slice C k cc) k (ts.map slOf)*(RoL ts*(Pt ps[i].1 163 (flC ps[i].2 (.slice A ks.length c))*(Row 41 1 (.slice A ks.length c) ks.length (ks.map slOf)*(RoL ks*G))))) wr)) (fun _ _ iv _=>ks.length - (intOf iv).toNat)
 case atStart=>exact⟨0,none,0,[],by omega,rfl,rfl,rfl,rfl,(HS.out.rolNil [] (by simp)).row_nil _ 1⟩
 case round=>
  obtain⟨k,C,cc,ts,hk,rfl,rfl,HD⟩:=hrel;by_cases hlt:k<ks.length
  ·have hrd:RdL wr A ks:=⟨RdV.of_own HD.out.2.2.up4.row_own,fun x hx=>HD.out.2.2.up5.rol hx⟩;obtain⟨⟨b,o,rfl,hc⟩,hx⟩:=hrd.get hlt;have hk2:(k:Int)<ks.length:=by omega
   have hxl:=HSm.out ks[k] (List.getElem_mem hlt);have HT:Hid (txt (ks.take (k+1))=txt (ks.take k)++[ks[k].2.2]):=by
    unfold Hid txt;rw[List.take_succ_eq_append_getElem hlt,List.map_append];rfl
   have HCl:=ah (clone_any ks[k].1 ks[k].2.1 ks[k].2.2 wr hx (by omega));clear hx hrd;generalize ks[k]=x at*
   go_wp2_with (first
    | (go_at_call 104;(with_reducible refine HCl.out.mono ?_);rintro e w2 ⟨v2,rfl,h2,_,k2⟩;have hs:=HD.out.2.2.gotRow k2 h2;obtain⟨A2,c2,hv2,_⟩:=hs.row_sl;subst hv2;have HS2:=ah (hs.row_rol (l:=x.2.2));clear hs h2 k2)
    | (at_builtin;refine wpList_appS rfl (.tmp 24) (.tmp 27) 87 rfl 41 i0 _ 1 24 Tryz.underlying87 hi0.out hz0.out hz1.out hz2.out rfl (by decide) (.slice C k cc) k (ts.map slOf) rfl w0 _ (by exact(HS2.out.alloc' _).up2) (some ⟨w2.heap.size,0,none⟩) 1 1 [slOf (A2,c2,x.2.2)] rfl (lit_rdv _ _ _) rfl (slOf_oneX _) (by unfold maxLen;omega) (by omega) ?_;intro A3 c3 w3 hs3;have HS3:=ah hs3;clear hs3))
   go_roundw
   ·refine⟨k+1,A3,c3,ts++[(A2,c2,x.2.2)],by omega,rfl,by push_cast;rfl,?_,?_,?_⟩
    ·rw[List.length_append,HD.out.1];rfl
    ·rw[HT.out, ←HD.out.2.1,txt,List.map_append];rfl
    ·rw[List.map_append];exact HS3.out.of (by rw[←rol_app,List.map_singleton];ac_rfl)
   ·simp[intOf];omega
  ·obtain rfl:k=ks.length:=by omega
   have hk2:¬ ((ks.length:Nat):Int)<ks.length:=by omega
   go_wp2_with fail;go_ret2;refine⟨_,rfl,ts,?_,?_⟩
   ·rw[HD.out.2.1,List.take_length];exact HKs.out
   ·rw[HD.out.1];have h9:=Sat.flI HKs.out (HD.out.2.2.of (show _=Pt ps[i].1 163 (flC ps[i].2 (.slice A ks.length c))*(Row 41 1 (.slice A ks.length c) ks.length (ks.map slOf)*(RoL ks*(Row 41 1 (.slice C ks.length cc) ks.length (ts.map slOf)*(RoL ts*G)))) by ac_rfl));refine h9.of ?_;rw[HG.out,space_at hi]
    ac_rfl
end
section
variable {w0 w:World} {F:SP} {v:Value} {f:Fl}
theorem oputS (x n:Nat) (z:Int) (hz:z=n) (hx:x<18446744073709551616) (h0:1≤n) (hn:n≤8) (w0 w:World) (F:SP) (h:Sat w0 F w) (P:List UInt8) (hP:putB x n=P):
  Calls Tryz.prog 117 #[.int .u64 (x:Int),.int .i64 z] w fun e w'=> ∃ A c,e = .returned (.slice A P.length c)∧Sat w0 (Row 5 1 (.slice A P.length c) P.length (P.map bv)*F) w':=by
 subst hz;subst hP;exact(oput_any x n hx h0 hn w0 w F h).mono fun _ _ ⟨A,c,e,_,_,hs⟩=>⟨A,c,e,hs⟩
theorem joinS (A:Option Addr) (n c:Nat) (ks:Rows_) (hn:ks.length=n) (w0 w:World) (F:SP) (h:Sat w0 F w) (hr:RdL w A ks) (l:List UInt8) (hl:(txt ks).flatten=l) (htot:l.length≤140737488355328) (hks:n≤1000000):
  Calls Tryz.prog 61 #[.slice A n c] w fun e w'=> ∃ B d,e = .returned (.slice B l.length d)∧Sat w0 (Row 5 1 (.slice B l.length d) l.length (l.map bv)*F) w':=by
 subst hn;subst hl;refine(join_any A c ks w hr htot (by omega)).mono ?_;rintro e w' ⟨v2,rfl,h2,k2⟩;have hs:=h.gotRow k2 h2;obtain⟨B,d,rfl,_⟩:=hs.row_sl;exact⟨B,d,rfl,hs⟩
theorem pad_map (l:List UInt8):(padB l).map bv=l.map bv++nulls (512 - l.length):=by
 unfold padB nulls;rw[List.map_append,List.map_replicate];rfl
set_option maxHeartbeats 2000000 in
theorem frame_any (q:Nat) (A:Option Addr) (c:Nat) (p:List UInt8) (h:Sat w0 (Pt q 163 (flC f v)*F) w) (hp: ∀ W,Sat w0 F W→Rd W A p) (hl:p.length≤480) (hb:f.birth<18446744073709551616) (hli:f.life<18446744073709551616):
  Calls Tryz.prog 150 #[.pointer (some ⟨q,0,none⟩),.slice A p.length c] w fun e w'=> ∃ B d,e = .returned (.slice B 512 d)∧Sat w0 (Row 5 1 (.slice B 512 d) 512 ((frameB f.birth f.life p).map bv)*(Pt q 163 (flC f v)*F)) w':=by
 obtain⟨P1,hP1⟩: ∃ P,putB f.birth 8=P:=⟨_,rfl⟩;obtain⟨P2,hP2⟩: ∃ P,putB f.life 8=P:=⟨_,rfl⟩;obtain⟨P3,hP3⟩: ∃ P,putB p.length 2=P:=⟨_,rfl⟩;have l1:P1.length=8:=by rw[←hP1,putB_len]
 have l2:P2.length=8:=by rw[←hP2,putB_len]
 have l3:P3.length=2:=by rw[←hP3,putB_len]
 obtain⟨H,hH⟩: ∃ H,H=P1++(P2++(P3++p)):=⟨_,rfl⟩;have hHl:H.length=18+p.length:=by rw[hH];simp only[List.length_append,l1,l2,l3];omega
 have HFr:Hid ((frameB f.birth f.life p).map bv=H.map bv++nulls (512 - H.length)):=by
  unfold Hid frameB;rw[hP1,hP2,hP3, ←hH,pad_map]
 have hb0:Hid (f.birth<18446744073709551616):=hb;have hli0:Hid (f.life<18446744073709551616):=hli;have hwp:IntKind.u64.wrap (p.length:Int)=p.length:=by rw[IntKind.wrap_u64];omega
 have hH512:H.length≤498:=by omega
 have hsub:(512:Int) - (H.length:Int)=((512 - H.length:Nat):Int):=by omega
 have hH0:0<H.length:=by omega
 have HH:=ah hH;have HP1:=ah hP1;have HP2:=ah hP2;have HP3:=ah hP3;have HS:=ah h.drew;have HR:=ah hp;have HC:Hid (Chg No w w.drew):=(Chg.refl No w).drew;clear h hP1 hP2 hP3 l1 l2 l3 hH hHl hp hb hli;go_enter Tryz.func150, Tryz.ntmps150;go_upto_region 1 with fail;refine wp_region_held_drew (S:=fun w'=>w'.cell? ⟨q,3,none⟩=some (.int .u64 (f.birth:Int))∧w'.cell? ⟨q,4,none⟩=some (.int .u64 (f.life:Int))) (by kernel_rfl) ⟨HS.out.cell 3,HS.out.cell 4⟩ ?_;intro hS0;refine rtk 0 ?_;refine rtk 1 ?_;refine rtk 2 ?_;refine rtk 3 ?_;refine rtk 5 ?_;refine rtk 6 ?_;refine rtk 7 ?_;refine rtk 8 ?_;refine rtk 10 ?_;refine rtk 11 ?_;refine rtk 12 ?_;refine rtk 14 ?_;refine rck 4 fun K hK=>?_
 go_simp;go_at_call 117;refine(oputS f.birth 8 8 rfl hb0.out (by omega) (by omega) w0 w.drew _ HS.out P1 HP1.out).mono ?_;rintro y w4 ⟨A4,c4,rfl,hs⟩;replace HS:=ah hs;clear hs
 refine hK.out _ _ ⟨HS.out.up2.cell 3,HS.out.up2.cell 4⟩ (fun hS0=>?_);clear hK K;refine rck 9 fun K hK=>?_
 go_simp;go_at_call 117;refine(oputS f.life 8 8 rfl hli0.out (by omega) (by omega) w0 w4 _ HS.out P2 HP2.out).mono ?_;rintro y w9 ⟨A9,c9,rfl,hs⟩;replace HS:=ah hs;clear hs
 refine hK.out _ _ ⟨HS.out.up3.cell 3,HS.out.up3.cell 4⟩ (fun hS0=>?_);clear hK K;refine rck 13 fun K hK=>?_
 go_simp;go_at_call 117;refine(oputS p.length 2 2 rfl (by omega) (by omega) (by omega) w0 w9 _ HS.out P3 HP3.out).mono ?_;rintro y w13 ⟨A13,c13,rfl,hs⟩;replace HS:=ah hs;clear hs
 refine hK.out _ _ ⟨HS.out.up4.cell 3,HS.out.up4.cell 4⟩ (fun hS0=>?_);clear hK K;refine rck 15 fun K hK=>?_
 go_simp;have hs:=HS.out.allocPt 41 #[.slice A4 P1.length c4,.slice A9 P2.length c9,.slice A13 P3.length c13,.slice A p.length c];revert hs;generalize World.alloc w13 _=w15;generalize w13.heap.size=B15;intro hs;replace HS:=ah hs;clear hs;refine hK.out _ _ ⟨HS.out.up5.cell 3,HS.out.up5.cell 4⟩ (fun hS0=>?_);clear hK K;refine rck 16 fun K hK=>?_
 go_simp;go_at_call 61;refine(joinS (some ⟨B15,0,none⟩) 4 4 [(A4,c4,P1),(A9,c9,P2),(A13,c13,P3),(A,c,p)] rfl w0 w15 _ HS.out ⟨RdV.of_at HS.out.at (fun j hj=>by simp at hj;have:j=0∨j=1∨j=2∨j=3:=(by omega);rcases this with rfl | rfl | rfl | rfl<;>rfl),fun k hk=>by simp at hk;rcases hk with rfl | rfl | rfl | rfl;exact RdV.of_own HS.out.up4.row_own;exact RdV.of_own HS.out.up3.row_own;exact RdV.of_own HS.out.up2.row_own;exact HR.out _ HS.out.right.right.right.right.right⟩ H (by rw[HH.out];simp[txt]) (by omega) (by omega)).mono ?_;rintro y w16 ⟨A16,c16,rfl,hs⟩;replace HS:=ah hs;clear hs
 refine hK.out _ _ ⟨HS.out.up6.cell 3,HS.out.up6.cell 4⟩ (fun hS0=>?_);clear hK K;refine rtk 17 ?_;refine wpAnyH_done (by kernel_rfl) ?_ _;go_upto_region 2 with fail;obtain⟨g,rfl,_⟩:=HS.out.row_at hH0;obtain⟨j0,hj,hy0,hy1,hy2⟩:=info_parts info_u8o;go_wp2_with (at_builtin;refine wpList_appZ rfl (.tmp 23) (.tmp 26) 41 3 5 j0 rfl Tryz.underlying41 Tryz.underlying3 hj hy0 hy1 hy2 g H.length c16 (512 - H.length) (H.map bv) rfl rfl w0 _ HS.out (by omega) (by omega) ?_;intro A5 c5 w5 hs;replace HS:=ah hs;clear hs);go_ret;have e5:H.length+(512 - H.length)=512:=by omega
 have h9:=HS.out;rw[e5, ←HFr.out] at h9;exact⟨A5,c5,by rw[e5];rfl,h9.drop2.drop2.drop2.drop2⟩
end
section
variable {w0 w:World} {F:SP} {s d slot turn:Nat} {v:Value} {ps:List (Nat × Fl)} {D:Dk}
theorem space_set {i:Nat} (h:i<ps.length) (x:Nat × Fl) (hx:x.1=ps[i].1):SpaceC s d slot turn v (ps.set i x)*F=FlP x.1 x.2*(Pt s 153 #[ptrV d,.int .i64 (slot:Int),.int .u64 (turn:Int),v]*(Row 155 1 v ps.length (ps.map fun x=>ptrV x.1)*(FlsP (ps.eraseIdx i)*F))):=by
 have e:(ps.set i x).map (fun y=>ptrV y.1)=ps.map fun y=>ptrV y.1:=by
  apply List.ext_getElem?;intro j;rw[List.getElem?_map,List.getElem?_map,List.getElem?_set];by_cases ej:i=j
  ·subst ej;rw[if_pos rfl,if_pos h,List.getElem?_eq_getElem h,Option.map_some,Option.map_some,hx]
  ·rw[if_neg ej]
 rw[space_d,fls_set h,List.length_set,e]
 ac_rfl
theorem append_none (n:Int) (A:Option Addr) (c m:Nat) (h:Sat w0 (SpaceC s d slot turn v ps*F) w) (hl:ps.length≤1000000) (hi:idxN ps n=ps.length):
  Calls Tryz.prog 120 #[.pointer (some ⟨s,0,none⟩),.int .i64 n,.slice A m c] w fun e w'=>e = .returned (.int .i64 34)∧w=w':=by
 have HF:=find_any n h hl;rw[hi,List.getElem?_eq_none (Nat.le_refl _)] at HF;have HF:=ah HF;clear h hi;go_enter Tryz.func120, Tryz.ntmps120;go_wp2_with (go_at_call 103;(with_reducible refine HF.out.mono ?_);rintro x wx ⟨rfl,rfl⟩;unfold ptrO;dsimp only);go_ret;exact⟨rfl,rfl⟩
theorem append_long (n:Int) (A:Option Addr) (c m:Nat) (h:Sat w0 (SpaceC s d slot turn v ps*F) w) (hl:ps.length≤1000000) {i:Nat} (hi:i<ps.length) (he:idxN ps n=i) (hm:480<m):
  Calls Tryz.prog 120 #[.pointer (some ⟨s,0,none⟩),.int .i64 n,.slice A m c] w fun e w'=>e = .returned (.int .i64 35)∧w=w':=by
 have HF:=find_any n h hl;rw[he,List.getElem?_eq_getElem hi] at HF;have HF:=ah HF;have hm2:(480:Int)<m:=by omega
 clear h he hm;go_enter Tryz.func120, Tryz.ntmps120;go_wp2_with (go_at_call 103;(with_reducible refine HF.out.mono ?_);rintro x wx ⟨rfl,rfl⟩;unfold ptrO ptrV;dsimp only);go_ret;exact⟨rfl,rfl⟩
theorem append_end (n:Int) (A:Option Addr) (c m:Nat) (h:Sat w0 (SpaceC s d slot turn v ps*F) w) (hl:ps.length≤1000000) {i:Nat} (hi:i<ps.length) (he:idxN ps n=i) (hm:m≤480) (hf:ps[i].2.frames.length=ps[i].2.blocks):
  Calls Tryz.prog 120 #[.pointer (some ⟨s,0,none⟩),.int .i64 n,.slice A m c] w fun e w'=>e = .returned (.int .i64 36)∧Sat w0 (SpaceC s d slot turn v ps*F) w':=by
 have HF:=find_any n h hl;rw[he,List.getElem?_eq_getElem hi] at HF;have HF:=ah HF;have HS:=ah h;obtain⟨u,ks,hks,hg,B,c2,rfl,hu⟩:=h.spaceF hi;have g2:=hg.2.2.1;have g5:=hg.2.2.2.2.2;have hkl:ks.length=ps[i].2.frames.length:=by rw[←hks,txt,List.length_map]
 rw[hkl,hf] at g5;have hm2:¬ (480:Int)<m:=by omega
 clear h hg hu hks he hkl hf hm;generalize ps[i].2.blocks=b at*
 go_enter Tryz.func120, Tryz.ntmps120;go_upto_region 6 with (go_at_call 103;(with_reducible refine HF.out.mono ?_);rintro x wx ⟨rfl,rfl⟩;unfold ptrO ptrV;dsimp only)
 go_region
 all_goals
  go_wp2_with fail;go_ret;exact⟨rfl,by first | exact HS.out | exact HS.out.drew⟩
theorem Sat.up8 {A B C D' E G H I:SP} (h:Sat w0 (A*(B*(C*(D'*(E*(G*(H*(I*F)))))))) w):Sat w0 (I*(A*(B*(C*(D'*(E*(G*(H*F)))))))) w:=h.of (by ac_rfl)
theorem Sat.dn8 {A B C D' E G H I:SP} (h:Sat w0 (I*(A*(B*(C*(D'*(E*(G*(H*F)))))))) w):Sat w0 (A*(B*(C*(D'*(E*(G*(H*(I*F)))))))) w:=h.of (by ac_rfl)
def AppX (w0:World) (F:SP) (s d slot turn:Nat) (v:Value) (ps:List (Nat × Fl)) (i:Nat) (hi:i<ps.length) (p:List UInt8) (r:Dk × Int) (e:Ending) (w':World):Prop:=
 e = .returned (.int .i64 r.2)∧Sat w0 (SpaceC s d slot turn v (if r.2=0 then ps.set i (ps[i].1,{ ps[i].2 with frames:=ps[i].2.frames++[p] }) else ps)*(Disk d r.1*F)) w'
set_option maxHeartbeats 4000000 in
theorem append_write (n:Int) (A:Option Addr) (c:Nat) (p:List UInt8) (h:Sat w0 (SpaceC s d slot turn v ps*(Disk d D*F)) w) (hp: ∀ W,Sat w0 F W→Rd W A p) (hl:ps.length≤1000000) {i:Nat} (hi:i<ps.length) (he:idxN ps n=i) (hm:p.length≤480) (hf:ps[i].2.frames.length<ps[i].2.blocks) (hfb:ps[i].2.first+ps[i].2.blocks≤65536)
  (hb:ps[i].2.birth<18446744073709551616) (hli:ps[i].2.life<18446744073709551616) (hw1:D.writes≤1000000000) (hw2:D.pend.length≤1000000000) (hw3:D.armed≤9223372036854775807):
  Calls Tryz.prog 120 #[.pointer (some ⟨s,0,none⟩),.int .i64 n,.slice A p.length c] w (AppX w0 F s d slot turn v ps i hi p (D.write ((ps[i].2.first+ps[i].2.frames.length:Nat):Int) (frameB ps[i].2.birth ps[i].2.life p))):=by
 obtain⟨i0,hi0',hz0',hz1',hz2'⟩:=info_parts rowsT;have hi0:=ah hi0';have hz0:=ah hz0';have hz1:=ah hz1';have hz2:=ah hz2';obtain⟨q,hq0⟩: ∃ q,q=ps[i].1:=⟨_,rfl⟩;have HF:Hid (Calls Tryz.prog 103 #[.pointer (some ⟨s,0,none⟩),.int .i64 n] w fun e w'=>e = .returned (.pointer (some ⟨q,0,none⟩))∧w=w'):=(find_any n h hl).mono fun e w' ⟨h1,h2⟩=>⟨by rw[h1,he,List.getElem?_eq_getElem hi,hq0];rfl,h2⟩
 obtain⟨v5,ks,hks,hfl⟩:=(h.of (space_at hi)).fl;obtain⟨B,bc,rfl,hu1,hu2⟩:=hfl.up2.row_sl;have hkl:ks.length=ps[i].2.frames.length:=by rw[←hks,txt,List.length_map]
 obtain⟨N,hN⟩: ∃ N,N=ps[i].2.frames.length:=⟨_,rfl⟩;have hkN:ks.length=N:=hkl.trans hN.symm;obtain⟨f,hf0⟩: ∃ f,f=ps[i].2:=⟨_,rfl⟩;obtain⟨bl,hbl⟩: ∃ b,b=frameB f.birth f.life p:=⟨_,rfl⟩;have hbl5:bl.length=512:=by rw[hbl];exact frame_len hm
 obtain⟨J,hJ⟩: ∃ J,J=ps[i].2.first+ps[i].2.frames.length:=⟨_,rfl⟩;have hJn:(ps[i].2.first:Int)+(ks.length:Int)=(J:Int):=by omega
 have hwJ:IntKind.i64.wrap (J:Int)=J:=by rw[IntKind.wrap_i64];omega
 have hJs:J≤65536:=by omega
 have hk16:ks.length≤65536:=by omega
 obtain⟨R,hR⟩: ∃ R,R=D.write (J:Int) bl:=⟨_,rfl⟩;rw[←hJ, ←hf0, ←hbl, ←hR];rw[←hf0] at hb hli hJn hf;rw[←hf0, ←hq0] at hfl;obtain⟨G,hG⟩: ∃ G,G=Pt s 153 #[ptrV d,.int .i64 (slot:Int),.int .u64 (turn:Int),v]*(Row 155 1 v ps.length (ps.map fun x=>ptrV x.1)*FlsP (ps.eraseIdx i)):=⟨_,rfl⟩;have HS:Hid (Sat w0 (Pt q 163 (flC f (.slice B ks.length bc))*(Row 41 1 (.slice B ks.length bc) ks.length (ks.map slOf)*(RoL ks*(Pt s 153 #[ptrV d,.int .i64 (slot:Int),.int .u64 (turn:Int),v]*(Row 155 1 v ps.length (ps.map fun x=>ptrV x.1)*(FlsP (ps.eraseIdx i)*(Disk d D*F))))))) w):=hfl;have HHp:=ah hp;have HKs:=ah hks;have Hf0:=ah hf0;have Hq0:=ah hq0;have HBl:=ah hbl;have HR:=ah hR;have HG:=ah hG;have hb0:Hid (f.birth<18446744073709551616):=hb;have hli0:Hid (f.life<18446744073709551616):=hli;have HW:Hid (∀ (X:SP) (W:World) (A:Option Addr) (c:Nat),Sat w0 (Disk d D*X) W→Rd W A bl→Calls Tryz.prog 131 #[.pointer (some ⟨d,0,none⟩),.int .i64 (J:Int),.slice A 512 c] W fun e w'=>e = .returned (.int .i64 R.2)∧Sat w0 (Disk d R.1*X) w'):=fun X W A c hX hA=>by
  have h9:=write_any d D (J:Int) A c bl w0 W X hX hA (by omega) hw1 hw2 hw3;unfold WriteD at h9;rw[hbl5, ←hR] at h9;exact h9
 have hnf:¬ ((ks.length:Nat):Int)=(f.blocks:Int):=by rw[←hf0] at hkl;omega
 have hm2:¬ (480:Int)<p.length:=by omega
 clear h hfl hks hf0 hq0 hbl hR hG hb hli hp hkl hi0' hz0' hz1' hz2' he hw1 hw2 hw3 hN hkN hJ hf hfb hbl5;have y0:w.cell? ⟨s,0,none⟩=some (.pointer (some ⟨d,0,none⟩)):=HS.out.up4.cell 0;have y1:w.cell? ⟨q,1,none⟩=some (.int .i64 (f.first:Int)):=HS.out.cell 1;have y2:w.cell? ⟨q,2,none⟩=some (.int .i64 (f.blocks:Int)):=HS.out.cell 2;have y5:w.cell? ⟨q,5,none⟩=some (.slice B ks.length bc):=HS.out.cell 5;go_enter Tryz.func120, Tryz.ntmps120;go_upto_region 6 with (go_at_call 103;(with_reducible refine HF.out.mono ?_);rintro x wx ⟨rfl,rfl⟩)
 go_region
 go_upto_region 8 with fail;replace HS:=ah HS.out.drew.drew;clear y0 y1 y2 y5;refine wp_region_held_drew (S:=fun w'=>w'.cell? ⟨s,0,none⟩=some (.pointer (some ⟨d,0,none⟩))∧w'.cell? ⟨q,1,none⟩=some (.int .i64 (f.first:Int))∧w'.cell? ⟨q,5,none⟩=some (.slice B ks.length bc)) (by kernel_rfl) ⟨HS.out.up4.cell 0,HS.out.cell 1,HS.out.cell 5⟩ ?_;intro hS0;refine rtk 0 ?_;refine rtk 1 ?_;refine rtk 2 ?_;refine rtk 3 ?_;refine rtk 4 ?_;refine rtk 5 ?_;refine rtk 6 ?_;refine rtk 7 ?_;refine rtk 8 ?_;refine rtk 9 ?_;refine rtk 10 ?_;refine rtk 11 ?_;refine rtk 12 ?_;refine rtk 13 ?_;refine rtk 14 ?_;refine rtk 15 ?_;refine rtk 16 ?_;refine rck 17 fun K hK=>?_
 go_simp;go_at_call 150;refine(frame_any q A c p HS.out (fun W hW=>HHp.out W hW.right.right.right.right.right.right) hm hb0.out hli0.out).mono ?_;rintro y w17 ⟨B17,d17,rfl,hs⟩;rw[←HBl.out] at hs;replace HS:=ah hs;clear hs
 refine hK.out _ _ ⟨HS.out.up5.cell 0,HS.out.up2.cell 1,HS.out.up2.cell 5⟩ (fun hS0=>?_);clear hK K;refine rck 18 fun K hK=>?_
 go_simp;go_at_call 131;refine(HW.out _ w17 B17 d17 HS.out.up8 (RdV.of_own HS.out.row_own)).mono ?_;rintro y w18 ⟨rfl,hs⟩;replace HS:=ah (hs.dn8);clear hs
 refine hK.out _ _ ⟨HS.out.up5.cell 0,HS.out.up2.cell 1,HS.out.up2.cell 5⟩ (fun hS0=>?_);clear hK K;refine rtk 19 ?_;refine wpAnyH_done (by kernel_rfl) ?_ _;replace HS:=ah HS.out.right;have HCl:Hid (∀ (W:World) (V:Value) (rs:Rows_) (D3:Dk),txt rs=f.frames→Sat w0 (Pt q 163 (flC f V)*(Row 41 1 V rs.length (rs.map slOf)*(RoL rs*(Pt s 153 #[ptrV d,.int .i64 (slot:Int),.int .u64 (turn:Int),v]*(Row 155 1 v ps.length (ps.map fun x=>ptrV x.1)*(FlsP (ps.eraseIdx i)*(Disk d D3*F))))))) W→Sat w0 (SpaceC s d slot turn v ps*(Disk d D3*F)) W):=fun W V rs D3 ht hW=>by
  refine(Sat.flI ht hW).of ?_;rw[space_at hi,Hf0.out,Hq0.out]
 by_cases hr:R.2=0
 ·have hr2:¬ R.2≠0:=by omega
  go_upto_region 11 with fail;have y5:w18.cell? ⟨q,5,none⟩=some (.slice B ks.length bc):=HS.out.cell 5;have HC:=ah (clone_any A c p w18.drew (HHp.out _ HS.out.drew.right.right.right.right.right.right.right) (by omega));go_region_law (first
   | (go_simp;go_at_call 104;(with_reducible refine HC.out.mono ?_);rintro e w6 ⟨v6,rfl,h6,_,k6⟩;have hs:=HS.out.drew.gotRow k6 h6;obtain⟨A6,c6,hv6,_⟩:=hs.row_sl;subst hv6;have HS6:=ah (hs.row_rol (l:=p));have z5:w6.cell? ⟨q,5,none⟩=some (.slice B ks.length bc):=HS6.out.up2.cell 5;have z6: ∀ o,(w6.alloc o).cell? ⟨q,5,none⟩=some (.slice B ks.length bc):=(fun o=>(HS6.out.alloc' o).up2.cell 5);clear hs h6 k6)
   | (refine step_appS rfl (.tmp 57) (.tmp 60) 87 rfl 41 i0 _ 1 24 Tryz.underlying87 hi0.out hz0.out hz1.out hz2.out rfl (by decide) (.slice B ks.length bc) ks.length (ks.map slOf) rfl w0 _ (by exact(HS6.out.alloc' _).up3) (some ⟨w6.heap.size,0,none⟩) 1 1 [slOf (A6,c6,p)] rfl (lit_rdv _ _ _) rfl (slOf_oneX _) (by unfold maxLen;omega) (by omega) ?_;intro A8 c8 w8 hs;have HS8:=ah hs.up3;have c1:w8.cell? ⟨q,5,none⟩=some (.slice B ks.length bc):=hs.up3.cell 5;have f1:=hs.up3.frozen 5;clear hs))
  all_goals
   have h5:=HS8.out.set 5 (.slice A8 (ks.length+1) c8);clear c1 f1;revert h5;generalize World.setCell _ _ _=w9;intro h5;have HS9:Hid (Sat w0 (Pt q 163 (flC { f with frames:=f.frames++[p] } (.slice A8 (ks.length+1) c8))*(Row 41 1 (.slice A8 (ks.length+1) c8) (ks.length+1) (ks.map slOf++[slOf (A6,c6,p)])*(RoL [(A6,c6,p)]*(RoL ks*(Pt s 153 #[ptrV d,.int .i64 (slot:Int),.int .u64 (turn:Int),v]*(Row 155 1 v ps.length (ps.map fun x=>ptrV x.1)*(FlsP (ps.eraseIdx i)*(Disk d R.1*F)))))))) w9):=h5;clear h5;go_wp2_with fail;go_ret;refine⟨by rw[hr];rfl,?_⟩;rw[if_pos hr,space_set hi (ps[i].1,{ ps[i].2 with frames:=ps[i].2.frames++[p] }) rfl];have ht:txt (ks++[(A6,c6,p)])=({ f with frames:=f.frames++[p] }:Fl).frames:=by
    unfold txt;rw[List.map_append];show txt ks++[p]=f.frames++[p];rw[HKs.out,Hf0.out]
   have h9:=Sat.flI (ks:=ks++[(A6,c6,p)]) (v:= .slice A8 (ks.length+1) c8) ht (HS9.out.of (by
    show _=_*(Row _ 1 _ (ks++[(A6,c6,p)]).length _*(RoL (ks++[(A6,c6,p)])*(Pt s 153 #[ptrV d,.int .i64 (slot:Int),.int .u64 (turn:Int),v]*(Row 155 1 v ps.length (ps.map fun x=>ptrV x.1)*(FlsP (ps.eraseIdx i)*(Disk d R.1*F))))));rw[List.length_append,List.map_append, ←rol_app];show _=_*(Row _ 1 _ (ks.length+1) (ks.map slOf++[slOf (A6,c6,p)])*_)
    ac_rfl))
   rw[Hf0.out,Hq0.out] at h9;exact h9
 ·go_wp2_with fail;go_ret;refine⟨rfl,?_⟩;rw[if_neg hr];exact HCl.out _ _ ks _ (HKs.out.trans (by rw[Hf0.out])) HS.out
end
end Go.Proofs.YtmbaiglpgaoogaaGreat
