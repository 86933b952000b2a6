/- Joined, as they were built one by one: ExtS ExtW Ext0 Ext1. -/
import Derived.Test.YtmbaiglpgaoogaaGreatV08
import Derived.Test.YtmbaiglpgaoogaaGreatV11
import Derived.Test.YtmbaiglpgaoogaaGreatV12
set_option maxHeartbeats 16000000
namespace Go.Proofs.YtmbaiglpgaoogaaGreat
open Go.RowKit
set_option linter.unusedVariables false
set_option maxRecDepth 100000
structure FsOk (n turn:Nat) (fs:List Fl):Prop where
 count:fs.length<=24
 nums:fs.Pairwise fun a b=>a.num<b.num
 apart:fs.Pairwise fun a b=>a.first+a.blocks<=b.first\/b.first+b.blocks<=a.first
 each: ∀ f ∈ fs,1<=f.num/\f.num<2147483648/\2<=f.first/\1<=f.blocks/\f.first+f.blocks<=n/\f.birth<=turn
structure Fils (D:Dk) (turn:Nat) (fs:List Fl) (sf:Nat->Nat) (lim:Nat):Prop where
 off:D.off=false
 wf:WfD D
 two:2<=D.cells.length
 most:D.cells.length<=65536
 ok:FsOk D.cells.length turn fs
 cap:turn<=lim/\lim<=1000000000
 each: ∀ f ∈ fs,f.life<=lim/\ ∃ ls,FileOk D f ls (sf f.num)
 births: ∀ i,2<=i->i<D.cells.length-> ∀ r,May D i r->r.2=0->getN (r.1.take 8)<=turn
structure Heads (D:Dk) (slot turn:Nat) (hs:List Hd):Prop where
 lt:slot<2
 here: ∀ r,May D slot r->r=(sealB turn hs,0)
 there: ∀ r,May D (1 - slot) r->r.2=0-> ∀ t gs,unsealB r.1=some (t,gs)->liesH D.cells.length gs=true->t<turn
structure Good (D:Dk) (S:Spc) (sf:Nat->Nat) (lim:Nat):Prop where
 fils:Fils D S.turn S.files sf lim
 heads:Heads D S.slot S.turn (S.files.map Fl.hd)
section
variable {D E:Dk} {S:Spc} {sf:Nat->Nat} {lim turn slot n:Nat} {fs:List Fl} {f:Fl}
theorem FsOk.hdOk (h:FsOk n turn fs) (hn:n<=65536) (ht:turn<9223372036854775807): ∀ x ∈ fs.map Fl.hd,HdOk x:=fun x hx=>by
 obtain⟨f,hf,rfl⟩:=List.mem_map.1 hx;obtain⟨h1,h2,h3,h4,h5,h6⟩:=h.each f hf;exact⟨by show f.num<_;omega,by show f.first<_;omega,by show f.blocks<_;omega,by show f.birth<_;omega⟩
theorem FsOk.lies (h:FsOk n turn fs):liesH n (fs.map Fl.hd)=true:=by
 unfold liesH;rw[List.all_eq_true];intro x hx;obtain⟨f,hf,rfl⟩:=List.mem_map.1 hx;obtain⟨h1,h2,h3,h4,h5,h6⟩:=h.each f hf;exact decide_eq_true ⟨h3,h4,by show (f.blocks:Int)<=n - f.first;omega⟩
theorem readX_heads {hs:List Hd} (h:Heads D slot turn hs) (h0:D.off=false) (h2:2<=D.cells.length) (ht:turn<18446744073709551616) (hn:hs.length<=24) (ho: ∀ x ∈ hs,HdOk x) (hl:liesH D.cells.length hs=true):
  readX D=(some ⟨slot,turn,hs.map Hd.fl⟩,0):=by
 have hu:=unseal_seal ht hn ho;have r1:=h.here _ (may_read D slot h0 (by have:=h.lt;omega));have hs2:=h.lt;have r2:=h.there _ (may_read D (1 - slot) h0 (by omega));unfold readX;rw[h0];simp only[Bool.false_eq_true,if_false];have hb: ∀ s:Option Spc,(∀ x,s=some x->x.turn<turn)->bestH D s slot=some ⟨slot,turn,hs.map Hd.fl⟩:=fun s hsx=>by
  unfold bestH;rw[r1];simp only[ne_eq,not_true_eq_false,if_false,hu];rw[if_pos];refine⟨hl,?_⟩
  cases s with
  | none=>rfl
  | some x=>exact decide_eq_true (hsx x rfl)
 have ha: ∀ x,bestH D none (1 - slot)=some x->x.turn<turn:=fun x hx=>by
  unfold bestH at hx;split at hx
  .cases hx
  .rename_i e;split at hx
   .cases hx
   .rename_i t gs e2;split at hx
    .rename_i e3;injection hx with hx
     rw[<-hx];exact r2 (by simpa using e) t gs e2 e3.1
    .cases hx
 have hc:bestH D (some ⟨slot,turn,hs.map Hd.fl⟩) (1 - slot)=some ⟨slot,turn,hs.map Hd.fl⟩:=by
  unfold bestH;split
  .rfl
  .rename_i e;split
   .rfl
   .rename_i t gs e2;rw[if_neg];rintro ⟨e3,e4⟩;have:=r2 (by simpa using e) t gs e2 e3;have e5:turn<t:=of_decide_eq_true e4;omega
 have hcase:slot=0\/slot=1:=by omega
 rcases hcase with rfl | rfl
 .have h1:=hb none (fun x e=>by cases e);rw[h1];rw[show bestH D (some ⟨0,turn,hs.map Hd.fl⟩) 1=some ⟨0,turn,hs.map Hd.fl⟩ from hc]
 .rw[hb _ ha]
theorem Heads.sub {hs:List Hd} (h:Heads D slot turn hs) (hl:E.cells.length=D.cells.length) (h2:2<=D.cells.length) (hm: ∀ i r,i<D.cells.length->May E i r->May D i r):Heads E slot turn hs:=by
 have:=h.lt;exact⟨h.lt,fun r hr=>h.here r (hm slot r (by omega) hr),fun r hr=>by rw[hl];exact h.there r (hm _ r (by omega) hr)⟩
def lenAt (fs:List Fl) (num:Nat):Nat:=match fs.find? fun f=>f.num==num with | some f=>f.frames.length | none=>0
theorem find_num: ∀ {fs:List Fl},(fs.Pairwise fun a b=>a.num<b.num)->f ∈ fs->(fs.find? fun g=>g.num==f.num)=some f
 | [],_,h=>by cases h
 | g::gs,hp,h=>by
  rw[List.find?_cons];rcases List.mem_cons.1 h with rfl | h
  .simp
  .have:=(List.pairwise_cons.1 hp).1 f h;rw[show (g.num==f.num)=false by simp;omega];exact find_num (List.pairwise_cons.1 hp).2 h
theorem lenAt_mem (hp:fs.Pairwise fun a b=>a.num<b.num) (h:f ∈ fs):lenAt fs f.num=f.frames.length:=by
 unfold lenAt;rw[find_num hp h]
def Fewer (sf:Nat->Nat):List Fl->List Fl->Prop
 | [],[]=>True
 | f::fs,g::gs=>(g.num=f.num/\g.first=f.first/\g.blocks=f.blocks/\g.birth=f.birth/\ ∃ m,sf f.num<=m/\m<=f.frames.length/\g.frames=f.frames.take m)/\Fewer sf fs gs
 | _,_=>False
theorem Fewer.hd {sf:Nat->Nat}: ∀ {fs gs:List Fl},Fewer sf fs gs->gs.map Fl.hd=fs.map Fl.hd
 | [],[],_=>rfl
 | f::fs,g::gs,h=>by
  obtain⟨⟨h1,h2,h3,h4,_⟩,h5⟩:=h;rw[List.map_cons,List.map_cons,h5.hd];unfold Fl.hd;rw[h1,h2,h3,h4]
 | [],_::_,h=>h.elim
 | _::_,[],h=>h.elim
theorem FsOk.hd {gs:List Fl} (h:FsOk n turn fs) (e:gs.map Fl.hd=fs.map Fl.hd):FsOk n turn gs:=by
 have hl:gs.length=fs.length:=by have:=congrArg List.length e;simpa using this
 have hi: ∀ i (h1:i<gs.length),(gs[i].num=(fs[i]'(by omega)).num/\gs[i].first=(fs[i]'(by omega)).first)/\gs[i].blocks=(fs[i]'(by omega)).blocks/\gs[i].birth=(fs[i]'(by omega)).birth:=fun i h1=>by
  have h2:(gs.map Fl.hd)[i]?=(fs.map Fl.hd)[i]?:=by rw[e]
  rw[List.getElem?_map,List.getElem?_map,List.getElem?_eq_getElem h1,List.getElem?_eq_getElem (show i<fs.length by omega)] at h2;simp only[Option.map_some] at h2;injection h2 with h2
  unfold Fl.hd at h2;injection h2 with a b c d
  exact⟨⟨a,b⟩,c,d⟩
 refine⟨by rw[hl];exact h.count,?_,?_,fun g hg=>?_⟩
 .rw[List.pairwise_iff_getElem];intro i j h1 h2 hij;have:=List.pairwise_iff_getElem.1 h.nums i j (by omega) (by omega) hij;rw[(hi i h1).1.1,(hi j h2).1.1];exact this
 .rw[List.pairwise_iff_getElem];intro i j h1 h2 hij;have:=List.pairwise_iff_getElem.1 h.apart i j (by omega) (by omega) hij;rw[(hi i h1).1.2,(hi j h2).1.2,(hi i h1).2.1,(hi j h2).2.1];exact this
 .obtain⟨i,h1,rfl⟩:=List.getElem_of_mem hg;have:=h.each (fs[i]'(by omega)) (List.getElem_mem _);rw[(hi i h1).1.1,(hi i h1).1.2,(hi i h1).2.1,(hi i h1).2.2];exact this
theorem load_hd (f:Fl):Fl.load E f.hd.fl=Fl.load E { f with frames:=[] }:=rfl
theorem fils_crash (h:Fils D turn fs sf lim) (hl:E.cells.length=D.cells.length) (hE: ∀ i,i<D.cells.length->May D i (E.read (i:Int))) (hS: ∀ i r,i<D.cells.length->May E i r->r=E.read (i:Int)):
  ∀ gs,(∀ f ∈ gs,f ∈ fs)->Fewer sf gs (gs.map fun f=>Fl.load E f.hd.fl)/\ ∀ g ∈ (gs.map fun f=>Fl.load E f.hd.fl),g.life<=lim+1/\ ∃ ls,FileOk E g ls g.frames.length
 | [],_=>⟨trivial,by simp⟩
 | f::gs,hg=>by
  have hf:=hg f (by simp);obtain⟨i1,i2⟩:=fils_crash h hl hE hS gs (fun x hx=>hg x (List.mem_cons_of_mem _ hx));obtain⟨h1,ls,h2⟩:=h.each f hf;obtain⟨a1,a2,a3,a4,a5,a6⟩:=h.ok.each f hf;have hlim:=h.cap;obtain⟨m,b1,b2,life,b3,b4,b5⟩:=h2.crashed (E:=E) (by omega) (by omega) (fun k hk=>hE _ (by omega)) (fun k r hk hr=>hS _ r (by omega) hr);rw[List.map_cons,load_hd,b4];refine⟨⟨⟨rfl,rfl,rfl,rfl,m,b1,b2,rfl⟩,i1⟩,fun g hg=>?_⟩;rcases List.mem_cons.1 hg with rfl | hg
  .refine⟨by show life<=lim+1;omega,ls.take m,?_⟩;have e:(f.frames.take m).length=m:=by rw[List.length_take];omega
   have:({ f with life:=life,frames:=f.frames.take m }:Fl).frames.length=m:=e;rw[this];exact b5
  .exact i2 g hg
theorem load_again (h:Fils D turn fs sf lim): ∀ gs,(∀ f ∈ gs,f ∈ fs)->Fewer (fun num=>lenAt fs num) gs (gs.map fun f=>Fl.load D f.hd.fl)/\ ∀ g ∈ (gs.map fun f=>Fl.load D f.hd.fl),g.life<=lim+1/\ ∃ ls,FileOk D g ls (sf g.num)
 | [],_=>⟨trivial,by simp⟩
 | f::gs,hg=>by
  have hf:=hg f (by simp);obtain⟨i1,i2⟩:=load_again h gs (fun x hx=>hg x (List.mem_cons_of_mem _ hx));obtain⟨h1,ls,h2⟩:=h.each f hf;obtain⟨a1,a2,a3,a4,a5,a6⟩:=h.ok.each f hf;have hlim:=h.cap;obtain⟨life,b3,b4,b5⟩:=h2.again (by omega) (by omega) (fun k hk=>may_read D _ h.off (by omega));rw[List.map_cons,load_hd,b4];refine⟨⟨⟨rfl,rfl,rfl,rfl,f.frames.length,by show lenAt fs f.num<=_;rw[lenAt_mem h.ok.nums hf];exact Nat.le_refl _,Nat.le_refl _,(List.take_length).symm⟩,i1⟩,fun g hg=>?_⟩;rcases List.mem_cons.1 hg with rfl | hg
  .exact⟨by show life<=lim+1;omega,ls,b5⟩
  .exact i2 g hg
theorem openX_read {s:Spc} (h:readX D=(some s,0)):openX D=(some { s with files:=s.files.map (Fl.load D) },0):=by
 unfold openX;rw[h];rfl
structure Came (D E:Dk):Prop where
 off:E.off=false
 wf:WfD E
 len:E.cells.length=D.cells.length
 may: ∀ i,i<D.cells.length->May D i (E.read (i:Int))
 one: ∀ i r,i<D.cells.length->May E i r->r=E.read (i:Int)
theorem came_crash {keep:List Bool} {torn bytes:Int} (hw:WfD D):Came D (D.crash keep torn bytes):=
 ⟨crash_off,crash_wf,crash_len,fun i hi=>crash_may hw i hi,fun i r hi hr=>may_nil _ i crash_pend crash_off (by rw[crash_len];exact hi) hr⟩
theorem Came.sub (h:Came D E): ∀ i r,i<D.cells.length->May E i r->May D i r:=fun i r hi hr=>by rw[h.one i r hi hr];exact h.may i hi
theorem found (hlim2:lim+1<=1000000000) (hf:Fils D turn fs sf lim) (hc:Came D E) (hh:Heads E slot turn (fs.map Fl.hd)): ∃ gs,openX E=(some ⟨slot,turn,gs⟩,0)/\Fewer sf fs gs/\Good E ⟨slot,turn,gs⟩ (lenAt gs) (lim+1):=by
 have hlim:=hf.cap;have hr:=readX_heads hh hc.off (by rw[hc.len];exact hf.two) (by omega) (by rw[List.length_map];exact hf.ok.count) (hf.ok.hdOk hf.most (by omega)) (by rw[hc.len];exact hf.ok.lies);obtain⟨h1,h2⟩:=fils_crash hf hc.len hc.may hc.one fs (fun _ h=>h);refine⟨fs.map fun f=>Fl.load E f.hd.fl,?_,h1,⟨?_,?_⟩⟩
 .rw[openX_read hr];simp only[List.map_map];rfl
 .have hok:FsOk E.cells.length turn (fs.map fun f=>Fl.load E f.hd.fl):=by rw[hc.len];exact hf.ok.hd h1.hd
  refine⟨hc.off,hc.wf,by rw[hc.len];exact hf.two,by rw[hc.len];exact hf.most,hok,?_,fun g hg=>?_,fun i hi hin r hr e=>?_⟩
  .exact⟨by show turn<=lim+1;omega,hlim2⟩
  .rw[lenAt_mem hok.nums hg];exact h2 g hg
  .rw[hc.len] at hin;exact hf.births i hi hin r (hc.sub i r hin hr) e
 .show Heads E slot turn _;rw[h1.hd];exact hh
theorem heads_far {hs:List Hd} {i:Nat} {b:List UInt8} (h:Heads D slot turn hs) (hi:2<=i):Heads (D.wr i b) slot turn hs:=by
 have:=h.lt;refine⟨h.lt,fun r hr=>?_,fun r hr=>?_⟩
 .rcases wr_may hr with h1 | ⟨h1,_⟩
  .exact h.here r h1
  .omega
 .rcases wr_may hr with h1 | ⟨h1,_⟩
  .exact h.there r h1
  .omega
def Spc.grow (S:Spc) (num:Nat) (p:List UInt8):Spc:={ S with files:=S.files.map fun g=>if g.num=num then { g with frames:=g.frames++[p] } else g }
theorem grow_hd (S:Spc) (num:Nat) (p:List UInt8):(S.grow num p).files.map Fl.hd=S.files.map Fl.hd:=by
 unfold Spc.grow;simp only[List.map_map];apply List.map_congr_left;intro g _;simp only[Function.comp];split<;>rfl
theorem num_inj: ∀ {fs:List Fl},(fs.Pairwise fun a b=>a.num<b.num)-> ∀ {f g:Fl},f ∈ fs->g ∈ fs->f.num=g.num->f=g:=by
 intro fs hp f g hf hg e;have h1:=find_num hp hf;have h2:=find_num hp hg;rw[e,h2] at h1;injection h1 with h1
 exact h1.symm
theorem apart_of (h:FsOk n turn fs) {g:Fl} (hf:f ∈ fs) (hg:g ∈ fs) (hne:f.num≠g.num):f.first+f.blocks<=g.first\/g.first+g.blocks<=f.first:=by
 obtain⟨i,hi,rfl⟩:=List.getElem_of_mem hf;obtain⟨j,hj,rfl⟩:=List.getElem_of_mem hg;have hij:i≠j:=by rintro rfl;exact hne rfl
 rcases Nat.lt_or_ge i j with h1 | h1
 .exact List.pairwise_iff_getElem.1 h.apart i j hi hj h1
 .exact(List.pairwise_iff_getElem.1 h.apart j i hj hi (by omega)).symm
theorem good_append (h:Good D S sf lim) (hf:f ∈ S.files) {p:List UInt8} (hp:p.length<=480) (hlt:f.frames.length<f.blocks):Good (D.wr (f.first+f.frames.length) (frameB f.birth f.life p)) (S.grow f.num p) sf lim:=by
 have hF:=h.fils;obtain⟨a1,a2,a3,a4,a5,a6⟩:=hF.ok.each f hf;obtain⟨l1,ls,l2⟩:=hF.each f hf;have hlim:=hF.cap;refine⟨⟨rfl,wr_wf hF.wf (by omega) (frame_len hp),hF.two,hF.most,hF.ok.hd (grow_hd S f.num p),hlim,fun g hg=>?_,fun i hi hin r hr e=>?_⟩,?_⟩
 .unfold Spc.grow at hg;simp only[List.mem_map] at hg;obtain⟨x,hx,rfl⟩:=hg;by_cases e:x.num=f.num
  .obtain rfl:=num_inj hF.ok.nums hx hf e;rw[if_pos rfl];exact⟨l1,_,l2.append hF.off a5 (by omega) (by omega) hp hlt⟩
  .rw[if_neg e];obtain⟨m1,ms,m2⟩:=hF.each x hx;obtain⟨c1,c2,c3,c4,c5,c6⟩:=hF.ok.each x hx;refine⟨m1,ms,m2.far hF.off c5 ?_⟩;rcases apart_of hF.ok hf hx (fun q=>e q.symm) with q | q
   .left;omega
   .right;omega
 .rcases wr_may hr with h1 | ⟨h1,h2 | h2⟩
  .exact hF.births i hi hin r h1 e
  .rw[h2];show getN ((frameB f.birth f.life p).take 8)<=S.turn;rw[frame_birth (by omega) (by omega) hp];exact a6
  .rw[h2] at e;cases e
 .show Heads _ S.slot S.turn _;rw[grow_hd];exact heads_far h.heads (by omega)
theorem came_flush (hw:WfD D) (h0:D.off=false):Came D D.flush.1:=by
 have hl:D.flush.1.cells.length=D.cells.length:=by rw[flush_on D h0];exact lay_len _ _
 have ho:D.flush.1.off=false:=by rw[flush_on D h0];exact h0
 have hp:D.flush.1.pend=[]:=by rw[flush_on D h0]
 exact⟨ho,⟨fun x hx=>by rw[hp] at hx;cases hx⟩,hl,fun i hi=>by rw[flush_read D hw h0 i hi];exact may_read D i h0 hi,fun i r hi hr=>may_nil _ i hp ho (by omega) hr⟩
theorem fils_flush (hF:Fils D turn fs sf lim):Fils D.flush.1 turn fs (lenAt fs) lim:=by
 have hc:=came_flush hF.wf hF.off;refine⟨hc.off,hc.wf,by rw[hc.len];exact hF.two,by rw[hc.len];exact hF.most,by rw[hc.len];exact hF.ok,hF.cap,fun g hg=>?_,fun i hi hin r hr e=>hF.births i hi (by rw[hc.len] at hin;exact hin) r (hc.sub i r (by rw[hc.len] at hin;exact hin) hr) e⟩;obtain⟨m1,ms,m2⟩:=hF.each g hg;rw[lenAt_mem hF.ok.nums hg];exact⟨m1,ms,m2.flush hF.wf hF.off (hF.ok.each g hg).2.2.2.2.1⟩
theorem good_flush (h:Good D S sf lim):Good D.flush.1 S (lenAt S.files) lim:=by
 have hc:=came_flush h.fils.wf h.fils.off;exact⟨fils_flush h.fils,h.heads.sub hc.len h.fils.two hc.sub⟩
structure Next (D:Dk) (S:Spc) (sf:Nat->Nat) (fs:List Fl) (sg:Nat->Nat):Prop where
 ok:FsOk D.cells.length (S.turn+1) fs
 each: ∀ f ∈ fs,(f ∈ S.files/\sg f.num<=sf f.num)\/(f=⟨f.num,f.first,f.blocks,S.turn+1,1,[]⟩/\sg f.num=0)
section
variable {sg:Nat->Nat} {gs:List Fl}
theorem fils_head (h:Good D S sf lim) (hn:Next D S sf gs sg) (hlim:lim+1<=1000000000) {b:List UInt8} (hb:b.length=512):Fils (D.wr (1 - S.slot) b) (S.turn+1) gs sg (lim+1)/\Fils (D.wr (1 - S.slot) b) S.turn S.files sf lim:=by
 have hF:=h.fils;have hs:=h.heads.lt;have h2:=hF.two;have hl:=hF.cap;have hw:=wr_wf (i:=1 - S.slot) (b:=b) hF.wf (by omega) hb;have hbi: ∀ i,2<=i->i<D.cells.length-> ∀ r,May (D.wr (1 - S.slot) b) i r->r.2=0->getN (r.1.take 8)<=S.turn:=fun i hi hin r hr e=>by
  rcases wr_may hr with h1 | ⟨h1,_⟩
  .exact hF.births i hi hin r h1 e
  .omega
 refine⟨⟨rfl,hw,h2,hF.most,hn.ok,⟨by omega,hlim⟩,fun f hf=>?_,fun i hi hin r hr e=>Nat.le_succ_of_le (hbi i hi hin r hr e)⟩,⟨rfl,hw,h2,hF.most,hF.ok,hl,fun f hf=>?_,hbi⟩⟩
 .obtain⟨a1,a2,a3,a4,a5,a6⟩:=hn.ok.each f hf;rcases hn.each f hf with ⟨e1,e2⟩ | ⟨e1,e2⟩
  .obtain⟨m1,ms,m2⟩:=hF.each f e1;exact⟨by omega,ms,(m2.far hF.off a5 (.inl (by omega))).less e2⟩
  .rw[e2,e1];refine⟨by show 1<=lim+1;omega,[],FileOk.fresh (fun k r hk hr e=>?_) rfl a5⟩;have:=hbi _ (by omega) (by show f.first+k<D.cells.length;omega) r hr e;omega
 .obtain⟨a1,a2,a3,a4,a5,a6⟩:=hF.ok.each f hf;obtain⟨m1,ms,m2⟩:=hF.each f hf;exact⟨m1,ms,m2.far hF.off a5 (.inl (by omega))⟩
theorem heads_new (h:Good D S sf lim) (hn:Next D S sf gs sg) (hc:Came (D.wr (1 - S.slot) (sealB (S.turn+1) (gs.map Fl.hd))) E):
  Heads E S.slot S.turn (S.files.map Fl.hd)\/Heads E (1 - S.slot) (S.turn+1) (gs.map Fl.hd):=by
 have hF:=h.fils;have hs:=h.heads.lt;have h2:=hF.two;have hl:=hF.cap;have hold: ∀ r,May E S.slot r->r=(sealB S.turn (S.files.map Fl.hd),0):=fun r hr=>by
  rcases wr_may (hc.sub S.slot r (by show S.slot<D.cells.length;omega) hr) with h1 | ⟨h1,_⟩
  .exact h.heads.here r h1
  .omega
 by_cases he:E.read ((1 - S.slot:Nat):Int)=(sealB (S.turn+1) (gs.map Fl.hd),0)
 .right
  refine⟨by omega,fun r hr=>?_,fun r hr e t g hu hli=>?_⟩
  .rw[hc.one _ r (by show 1 - S.slot<D.cells.length;omega) hr,he]
  .rw[show 1 - (1 - S.slot)=S.slot by omega] at hr;have h3:=hold r hr;rw[h3] at hu;rw[unseal_seal (by omega) (by rw[List.length_map];exact hF.ok.count) (hF.ok.hdOk hF.most (by omega))] at hu;injection hu with hu
   injection hu with h4 h5
   omega
 .left
  refine⟨hs,hold,fun r hr e t g hu hli=>?_⟩;have hr2:=hc.one _ r (by show 1 - S.slot<D.cells.length;omega) hr;rcases wr_may (hc.sub (1 - S.slot) r (by show 1 - S.slot<D.cells.length;omega) hr) with h1 | ⟨_,h1 | h1⟩
  .rw[hc.len] at hli;exact h.heads.there r h1 e t g hu hli
  .rw[<-hr2] at he;exact absurd h1 he
  .rw[h1] at e;cases e
theorem found_head (h:Good D S sf lim) (hn:Next D S sf gs sg) (hlim:lim+2<=1000000000) (hc:Came (D.wr (1 - S.slot) (sealB (S.turn+1) (gs.map Fl.hd))) E):
  (∃ fs',openX E=(some ⟨S.slot,S.turn,fs'⟩,0)/\Fewer sf S.files fs'/\Good E ⟨S.slot,S.turn,fs'⟩ (lenAt fs') (lim+1))\/
  (∃ fs',openX E=(some ⟨1 - S.slot,S.turn+1,fs'⟩,0)/\Fewer sg gs fs'/\Good E ⟨1 - S.slot,S.turn+1,fs'⟩ (lenAt fs') (lim+2)):=by
 obtain⟨f1,f2⟩:=fils_head h hn (by omega) (b:=sealB (S.turn+1) (gs.map Fl.hd)) (sealB_len (by rw[List.length_map];exact hn.ok.count));rcases heads_new h hn hc with h1 | h1
 .exact .inl (found (by omega) f2 hc h1)
 .exact .inr (found (by omega) f1 hc h1)
theorem good_put (h:Good D S sf lim) (hn:Next D S sf gs sg) (hlim:lim+1<=1000000000):Good (D.wr (1 - S.slot) (sealB (S.turn+1) (gs.map Fl.hd))).flush.1 ⟨1 - S.slot,S.turn+1,gs⟩ (lenAt gs) (lim+1):=by
 obtain⟨f1,f2⟩:=fils_head h hn (by omega) (b:=sealB (S.turn+1) (gs.map Fl.hd)) (sealB_len (by rw[List.length_map];exact hn.ok.count));have hc:=came_flush f1.wf f1.off;refine⟨fils_flush f1,?_⟩;have hF:=h.fils;have hs:=h.heads.lt;have h2:=hF.two;have hl:=hF.cap;have he:(D.wr (1 - S.slot) (sealB (S.turn+1) (gs.map Fl.hd))).flush.1.read ((1 - S.slot:Nat):Int)=(sealB (S.turn+1) (gs.map Fl.hd),0):=by
  rw[flush_read _ f1.wf f1.off _ (by show 1 - S.slot<D.cells.length;omega),wr_read hF.off (by omega),if_pos rfl]
 refine⟨by show 1 - S.slot<2;omega,fun r hr=>?_,fun r hr e t g hu hli=>?_⟩
 .rw[hc.one _ r (by show 1 - S.slot<D.cells.length;omega) hr,he]
 .simp only at hr;rw[show 1 - (1 - S.slot)=S.slot by omega] at hr;rcases wr_may (hc.sub S.slot r (by show S.slot<D.cells.length;omega) hr) with h1 | ⟨h1,_⟩
  .have h3:=h.heads.here r h1;rw[h3] at hu;rw[unseal_seal (by omega) (by rw[List.length_map];exact hF.ok.count) (hF.ok.hdOk hF.most (by omega))] at hu;injection hu with hu
   injection hu with h4 h5
   show t<S.turn+1;omega
  .omega
end
theorem found_crash (h:Good D S sf lim) (hlim:lim+1<=1000000000) (hc:Came D E): ∃ gs,openX E=(some ⟨S.slot,S.turn,gs⟩,0)/\Fewer sf S.files gs/\Good E ⟨S.slot,S.turn,gs⟩ (lenAt gs) (lim+1):=
 found hlim h.fils hc (h.heads.sub hc.len h.fils.two hc.sub)
theorem found_again (h:Good D S sf lim) (hlim:lim+1<=1000000000): ∃ gs,openX D=(some ⟨S.slot,S.turn,gs⟩,0)/\Fewer (lenAt S.files) S.files gs/\Good D ⟨S.slot,S.turn,gs⟩ sf (lim+1):=by
 have hf:=h.fils;have hl:=hf.cap;have hr:=readX_heads h.heads hf.off hf.two (by omega) (by rw[List.length_map];exact hf.ok.count) (hf.ok.hdOk hf.most (by omega)) hf.ok.lies;obtain⟨h1,h2⟩:=load_again hf S.files (fun _ h=>h);refine⟨S.files.map fun f=>Fl.load D f.hd.fl,?_,h1,⟨⟨hf.off,hf.wf,hf.two,hf.most,hf.ok.hd h1.hd,⟨by show S.turn<=lim+1;omega,hlim⟩,h2,hf.births⟩,?_⟩⟩
 .rw[openX_read hr];simp only[List.map_map];rfl
 .show Heads D S.slot S.turn _;rw[h1.hd];exact h.heads
end
def apartP (p q:Nat × Nat):Prop:=p.1+p.2<=q.1\/q.1+q.2<=p.1
def freeAt (n:Nat) (l:List (Nat × Nat)) (bl:Int) (a:Nat):Prop:=(a:Int)+bl<=n/\ ∀ p ∈ l,(a:Int)+bl<=p.1\/p.1+p.2<=a
theorem placeX_spec {n:Nat} {bl:Int} (hb:1<=bl): ∀ (l:List (Nat × Nat)) (first:Nat),(l.Pairwise fun p q=>p.1<=q.1)->l.Pairwise apartP->(∀ p ∈ l,first<=p.1/\1<=p.2/\p.1+p.2<=n)->
  ((placeX n bl first l).2=true->first<=(placeX n bl first l).1/\freeAt n l bl (placeX n bl first l).1)/\(∀ a,first<=a->freeAt n l bl a->(placeX n bl first l).2=true/\(placeX n bl first l).1<=a)
 | [],first,_,_,_=>by
  unfold placeX;refine⟨fun h=>⟨Nat.le_refl _,?_,by simp⟩,fun a ha hf=>⟨decide_eq_true ?_,ha⟩⟩
  .have:=of_decide_eq_true h;omega
  .have:=hf.1;omega
 | p::l,first,hs,hp,he=>by
  obtain⟨hs1,hs2⟩:=List.pairwise_cons.1 hs;obtain⟨hp1,hp2⟩:=List.pairwise_cons.1 hp;have hep:=he p (by simp);unfold placeX;by_cases h:bl<=(p.1:Int) - first
  .rw[if_pos h];refine⟨fun _=>⟨Nat.le_refl _,by omega,fun q hq=>?_⟩,fun a ha _=>⟨rfl,ha⟩⟩;left
   rcases List.mem_cons.1 hq with rfl | hq
   .show (first:Int)+bl<=_;omega
   .have:=hs1 q hq;show (first:Int)+bl<=_;omega
  .rw[if_neg h];have hl: ∀ q ∈ l,p.1+p.2<=q.1/\1<=q.2/\q.1+q.2<=n:=fun q hq=>by
    have h1:=hs1 q hq;have h2:=he q (List.mem_cons_of_mem _ hq);rcases hp1 q hq with h3 | h3
    .exact⟨h3,h2.2.1,h2.2.2⟩
    .omega
   obtain⟨i1,i2⟩:=placeX_spec hb l (p.1+p.2) hs2 hp2 hl;refine⟨fun ho=>?_,fun a ha hf=>?_⟩
   .obtain⟨j1,j2,j3⟩:=i1 ho;refine⟨by omega,j2,fun q hq=>?_⟩;rcases List.mem_cons.1 hq with rfl | hq
    .exact .inr j1
    .exact j3 q hq
   .refine i2 a ?_ ⟨hf.1,fun q hq=>hf.2 q (List.mem_cons_of_mem _ hq)⟩;rcases hf.2 p (by simp) with h3 | h3
    .omega
    .exact h3
theorem insF_perm (p:Nat × Nat): ∀ l,(insF p l).Perm (p::l)
 | []=>List.Perm.refl _
 | q::l=>by
  unfold insF;split
  .exact List.Perm.refl _
  .exact(List.Perm.cons q (insF_perm p l)).trans (List.Perm.swap _ _ _)
theorem insF_sorted (p:Nat × Nat): ∀ l,(l.Pairwise fun p q:Nat × Nat=>p.1<=q.1)->(insF p l).Pairwise fun p q=>p.1<=q.1
 | [],_=>List.pairwise_singleton _ _
 | q::l,h=>by
  obtain⟨h1,h2⟩:=List.pairwise_cons.1 h;unfold insF;split
  .rename_i hpq;exact List.pairwise_cons.2 ⟨fun x hx=>by
    rcases List.mem_cons.1 hx with rfl | hx
    .exact hpq
    .exact Nat.le_trans hpq (h1 x hx),h⟩
  .rename_i hpq;refine List.pairwise_cons.2 ⟨fun x hx=>?_,insF_sorted p l h2⟩;rcases List.mem_cons.1 ((insF_perm p l).mem_iff.1 hx) with rfl | hx
   .omega
   .exact h1 x hx
theorem sortF_perm: ∀ l,(sortF l).Perm l
 | []=>List.Perm.refl _
 | p::l=>(insF_perm p (sortF l)).trans (List.Perm.cons p (sortF_perm l))
theorem sortF_sorted: ∀ l,(sortF l).Pairwise fun p q=>p.1<=q.1
 | []=>List.Pairwise.nil
 | p::l=>insF_sorted p _ (sortF_sorted l)
theorem insN_perm (p:Fl): ∀ l,(insN p l).Perm (p::l)
 | []=>List.Perm.refl _
 | q::l=>by
  unfold insN;split
  .exact List.Perm.refl _
  .exact(List.Perm.cons q (insN_perm p l)).trans (List.Perm.swap _ _ _)
theorem insN_sorted (p:Fl): ∀ l,(l.Pairwise fun p q:Fl=>p.num<=q.num)->(insN p l).Pairwise fun p q=>p.num<=q.num
 | [],_=>List.pairwise_singleton _ _
 | q::l,h=>by
  obtain⟨h1,h2⟩:=List.pairwise_cons.1 h;unfold insN;split
  .rename_i hpq;exact List.pairwise_cons.2 ⟨fun x hx=>by
    rcases List.mem_cons.1 hx with rfl | hx
    .exact hpq
    .exact Nat.le_trans hpq (h1 x hx),h⟩
  .rename_i hpq;refine List.pairwise_cons.2 ⟨fun x hx=>?_,insN_sorted p l h2⟩;rcases List.mem_cons.1 ((insN_perm p l).mem_iff.1 hx) with rfl | hx
   .omega
   .exact h1 x hx
theorem sortN_perm: ∀ l,(sortN l).Perm l
 | []=>List.Perm.refl _
 | p::l=>(insN_perm p (sortN l)).trans (List.Perm.cons p (sortN_perm l))
theorem sortN_sorted: ∀ l,(sortN l).Pairwise fun p q=>p.num<=q.num
 | []=>List.Pairwise.nil
 | p::l=>insN_sorted p _ (sortN_sorted l)
theorem apartP_symm {p q:Nat × Nat} (h:apartP p q):apartP q p:=h.symm
theorem perm_apart {l m:List (Nat × Nat)} (h:l.Perm m) (hp:l.Pairwise apartP):m.Pairwise apartP:=(h.pairwise_iff (fun h=>apartP_symm h)).1 hp
structure LieOk (n:Nat) (l:List (Nat × Nat)):Prop where
 apart:l.Pairwise apartP
 each: ∀ p ∈ l,2<=p.1/\1<=p.2/\p.1+p.2<=n
theorem place_sort {n:Nat} {bl:Int} (hb:1<=bl) {l:List (Nat × Nat)} (h:LieOk n l):
  ((placeX n bl 2 (sortF l)).2=true->2<=(placeX n bl 2 (sortF l)).1/\freeAt n l bl (placeX n bl 2 (sortF l)).1)/\(∀ a,2<=a->freeAt n l bl a->(placeX n bl 2 (sortF l)).2=true/\(placeX n bl 2 (sortF l)).1<=a):=by
 have hp:=sortF_perm l;have h9:=placeX_spec (n:=n) hb (sortF l) 2 (sortF_sorted l) (perm_apart hp.symm h.apart) (fun p hq=>h.each p (hp.mem_iff.1 hq));have hf: ∀ a,freeAt n (sortF l) bl a↔freeAt n l bl a:=fun a=>⟨fun ⟨h1,h2⟩=>⟨h1,fun q hq=>h2 q (hp.mem_iff.2 hq)⟩,fun ⟨h1,h2⟩=>⟨h1,fun q hq=>h2 q (hp.mem_iff.1 hq)⟩⟩
 exact⟨fun ho=>⟨(h9.1 ho).1,(hf _).1 (h9.1 ho).2⟩,fun a ha hfa=>h9.2 a ha ((hf a).2 hfa)⟩
theorem LieOk.snoc {n:Nat} {l:List (Nat × Nat)} (h:LieOk n l) {a:Nat} {bl:Int} (hb:1<=bl) (h2:2<=a) (hf:freeAt n l bl a):LieOk n (l++[(a,bl.toNat)]):=by
 refine⟨List.pairwise_append.2 ⟨h.apart,List.pairwise_singleton _ _,fun p hp q hq=>?_⟩,fun p hp=>?_⟩
 .rw[List.mem_singleton] at hq;subst hq;rcases hf.2 p hp with h3 | h3
  .right;show a+bl.toNat<=p.1;omega
  .exact .inl h3
 .rcases List.mem_append.1 hp with hp | hp
  .exact h.each p hp
  .rw[List.mem_singleton] at hp;subst hp;have:=hf.1;exact⟨h2,by show 1<=bl.toNat;omega,by show a+bl.toNat<=n;omega⟩
theorem addX_some {n turn:Nat}: ∀ (add:List Fi) (lie:List (Nat × Nat)) (fs gs:List Fl),addX n turn add lie fs=some gs->(∀ x ∈ add,1<=x.blocks)->LieOk n lie->
  ∃ news:List Fl,gs=fs++news/\news.map (·.num)=add.map (·.num.toNat)/\(∀ f ∈ news,f=⟨f.num,f.first,f.blocks,turn,1,[]⟩)/\LieOk n (lie++news.map fun f=>(f.first,f.blocks))/\news.map (·.blocks)=add.map (·.blocks.toNat)
 | [],lie,fs,gs,h,_,hl=>by
  unfold addX at h;injection h with h
  exact⟨[],by simp[h],rfl,by simp,by simpa using hl,rfl⟩
 | x::add,lie,fs,gs,h,hb,hl=>by
  unfold addX at h;have hx:=hb x (by simp);have hp:=(place_sort hx hl).1;obtain⟨a,o,e⟩: ∃ a o,placeX n x.blocks 2 (sortF lie)=(a,o):=⟨_,_,rfl⟩;rw[e] at h hp
  cases o with
  | false=>cases h
  | true=>
   obtain⟨p1,p2⟩:=hp rfl;have hl2:=hl.snoc hx p1 p2;obtain⟨news,h1,h2,h3,h4,h5⟩:=addX_some add _ _ gs h (fun y hy=>hb y (List.mem_cons_of_mem _ hy)) hl2;refine⟨⟨x.num.toNat,a,x.blocks.toNat,turn,1,[]⟩::news,by rw[h1,List.append_assoc];rfl,by rw[List.map_cons,List.map_cons,h2],fun f hf=>?_,by rw[List.map_cons];simpa using h4,by rw[List.map_cons,List.map_cons,h5]⟩;rcases List.mem_cons.1 hf with rfl | hf
   .rfl
   .exact h3 f hf
theorem find_some {S:Spc} {n:Int} (h:(S.find n).isSome=true): ∃ f ∈ S.files,(f.num:Int)=n:=by
 unfold Spc.find at h;rw[List.find?_isSome] at h;obtain⟨f,h1,h2⟩:=h;exact⟨f,h1,by simpa using h2⟩
theorem find_none {S:Spc} {n:Int} (h:(S.find n).isSome=false): ∀ f ∈ S.files,(f.num:Int)≠n:=fun f hf e=>by
 have:(S.find n).isSome=true:=by
  unfold Spc.find;rw[List.find?_isSome];exact⟨f,hf,by simpa using e⟩
 rw[h] at this;cases this
theorem mayDrop_iff {S:Spc}: ∀ (l ahead:List Int),S.mayDrop ahead l=true↔(∀ n ∈ l,(S.find n).isSome=true/\n ∉ ahead)/\l.Nodup
 | [],ahead=>by simp[Spc.mayDrop]
 | n::l,ahead=>by
  unfold Spc.mayDrop;simp only[Bool.and_eq_true,mayDrop_iff l (ahead++[n]),List.nodup_cons,List.mem_cons,Bool.not_eq_true',List.contains_eq_mem,decide_eq_false_iff_not];constructor
  .rintro ⟨⟨h1,h2⟩,h3,h4⟩;refine⟨?_,?_,h4⟩
   .rintro m (rfl | hm)
    .exact⟨h1,h2⟩
    .have:=h3 m hm;simp only[List.mem_append,List.mem_singleton,not_or] at this;exact⟨this.1,this.2.1⟩
   .intro hm;have:=(h3 n hm).2;simp at this
  .rintro ⟨h1,h2,h3⟩;refine⟨⟨(h1 n (.inl rfl)).1,(h1 n (.inl rfl)).2⟩,fun m hm=>⟨(h1 m (.inr hm)).1,?_⟩,h3⟩;simp only[List.mem_append,List.mem_singleton,not_or];exact⟨(h1 m (.inr hm)).2,fun e=>h2 (e ▸ hm)⟩
theorem mayAdd_iff {S:Spc} {drop:List Int}: ∀ (l:List Fi) (seen:List Int),S.mayAdd drop seen l=true↔(∀ x ∈ l,(1<=x.num/\x.num<=2147483647/\1<=x.blocks)/\x.num ∉ seen/\((S.find x.num).isSome=false\/x.num ∈ drop))/\(l.map (·.num)).Nodup
 | [],seen=>by simp[Spc.mayAdd]
 | n::l,seen=>by
  unfold Spc.mayAdd;simp only[Bool.and_eq_true,Bool.or_eq_true,mayAdd_iff l (seen++[n.num]),List.map_cons,List.nodup_cons,List.mem_cons,Bool.not_eq_true',List.contains_eq_mem,decide_eq_false_iff_not,decide_eq_true_eq];constructor
  .rintro ⟨⟨⟨h1,h2⟩,h3⟩,h4,h5⟩;refine⟨?_,?_,h5⟩
   .rintro m (rfl | hm)
    .exact⟨h1,h2,h3⟩
    .obtain⟨a,b,c⟩:=h4 m hm;simp only[List.mem_append,List.mem_singleton,not_or] at b;exact⟨a,b.1,c⟩
   .intro hm;obtain⟨y,hy,e⟩:=List.mem_map.1 hm;have:=(h4 y hy).2.1;simp only[List.mem_append,List.mem_singleton,not_or] at this;exact this.2 e
  .rintro ⟨h1,h2,h3⟩;refine⟨⟨⟨(h1 n (.inl rfl)).1,(h1 n (.inl rfl)).2.1⟩,(h1 n (.inl rfl)).2.2⟩,fun m hm=>⟨(h1 m (.inr hm)).1,?_,(h1 m (.inr hm)).2.2⟩,h3⟩;simp only[List.mem_append,List.mem_singleton,not_or];exact⟨(h1 m (.inr hm)).2.1,fun e=>h2 (List.mem_map.2 ⟨m,hm,e⟩)⟩
theorem drop_count: ∀ (fs:List Fl) (drop:List Int),(fs.Pairwise fun a b=>a.num<b.num)->drop.Nodup->(∀ n ∈ drop, ∃ f ∈ fs,(f.num:Int)=n)->(fs.filter fun f=> !drop.contains (f.num:Int)).length+drop.length=fs.length
 | [],drop,_,_,hd=>by
  cases drop with
  | nil=>rfl
  | cons n l=>obtain⟨f,hf,_⟩:=hd n (by simp);cases hf
 | f::fs,drop,hp,hn,hd=>by
  obtain⟨hp1,hp2⟩:=List.pairwise_cons.1 hp;by_cases hm:(f.num:Int) ∈ drop
  .have ih:=drop_count fs (drop.erase (f.num:Int)) hp2 (hn.erase _) (fun n hn2=>by
    have h1:=(List.Nodup.mem_erase_iff hn).1 hn2;obtain⟨g,hg,e⟩:=hd n h1.2;rcases List.mem_cons.1 hg with rfl | hg
    .exact absurd e.symm h1.1
    .exact⟨g,hg,e⟩)
   have hl:=List.length_erase_of_mem hm;have hpos:=List.length_pos_of_mem hm;have he:(fs.filter fun g=> !(drop.erase (f.num:Int)).contains (g.num:Int))=fs.filter fun g=> !drop.contains (g.num:Int):=by
    apply List.filter_congr;intro g hg;have h1:=hp1 g hg;have:((g.num:Int) ∈ drop.erase (f.num:Int))↔(g.num:Int) ∈ drop:=by
     rw[List.Nodup.mem_erase_iff hn];exact⟨fun h=>h.2,fun h=>⟨by omega,h⟩⟩
    simp only[List.contains_eq_mem,this]
   rw[he] at ih;rw[List.filter_cons,if_neg (by simp[hm]),List.length_cons];omega
  .have ih:=drop_count fs drop hp2 hn (fun n hn2=>by
    obtain⟨g,hg,e⟩:=hd n hn2;rcases List.mem_cons.1 hg with rfl | hg
    .exact absurd (e ▸ hn2) hm
    .exact⟨g,hg,e⟩)
   rw[List.filter_cons,if_pos (by simp[hm]),List.length_cons,List.length_cons];omega
theorem FsOk.lieOk {n turn:Nat} {fs:List Fl} (h:FsOk n turn fs):LieOk n (fs.map fun f=>(f.first,f.blocks)):=by
 refine⟨?_,fun p hp=>?_⟩
 .rw[List.pairwise_map];exact h.apart
 .obtain⟨f,hf,rfl⟩:=List.mem_map.1 hp;obtain⟨h1,h2,h3,h4,h5,h6⟩:=h.each f hf;exact⟨h3,h4,h5⟩
theorem pw_strict {l:List Fl} (h:l.Pairwise fun p q=>p.num<=q.num) (hn:(l.map (·.num)).Nodup):l.Pairwise fun p q=>p.num<q.num:=by
 have h2:l.Pairwise fun p q=>p.num≠q.num:=by
  have:=List.pairwise_map.1 hn;exact this
 exact(h.and h2).imp fun ⟨a,b⟩=>by omega
theorem next_of {D:Dk} {S:Spc} {sf:Nat->Nat} {lim:Nat} (h:Good D S sf lim) {add:List Fi} {drop:List Int} (hm:S.may add drop=true) (hc:(S.files.length:Int)+add.length - drop.length<=24) {fs:List Fl}
  (ha:addX D.cells.length (S.turn+1) add S.lie (S.files.filter fun f=> !drop.contains (f.num:Int))=some fs):
  Next D S sf (sortN fs) (fun num=>if (num:Int) ∈ add.map (·.num) then 0 else sf num):=by
 unfold Spc.may at hm;obtain⟨hm1,hm2⟩:=(Bool.and_eq_true _ _).mp hm |>fun x=>(x:_/\_)
 obtain⟨d1,d2⟩:=(mayDrop_iff drop []).1 hm1;obtain⟨a1,a2⟩:=(mayAdd_iff add []).1 hm2;have hok:=h.fils.ok;obtain⟨news,rfl,n1,n2,n3,n4⟩:=addX_some add S.lie _ fs ha (fun x hx=>(a1 x hx).1.2.2) hok.lieOk;obtain⟨K,hK⟩: ∃ K,K=S.files.filter fun f=> !drop.contains (f.num:Int):=⟨_,rfl⟩;have hKm: ∀ f ∈ K,f ∈ S.files/\(f.num:Int) ∉ drop:=fun f hf=>by
  rw[hK,List.mem_filter] at hf;exact⟨hf.1,by simpa using hf.2⟩
 have hcnt:=drop_count S.files drop hok.nums d2 (fun n hn=>find_some (d1 n hn).1);rw[<-hK] at hcnt ⊢;have hnl:news.length=add.length:=by have:=congrArg List.length n1;simpa using this
 have hnew: ∀ f ∈ news, ∃ x ∈ add,f.num=x.num.toNat/\(f.num:Int)=x.num:=fun f hf=>by
  have:f.num ∈ news.map (·.num):=List.mem_map_of_mem hf;rw[n1] at this;obtain⟨x,hx,e⟩:=List.mem_map.1 this;have h9:=(a1 x hx).1.1;exact⟨x,hx,e.symm,by omega⟩
 have hperm:=sortN_perm (K++news);have hKS:K.Sublist S.files:=by rw[hK];exact List.filter_sublist
 have hKn:K.Pairwise fun a b=>a.num<b.num:=hok.nums.sublist hKS;have hnd:((K++news).map (·.num)).Nodup:=by
  rw[List.map_append];refine List.nodup_append.2 ⟨?_,?_,?_⟩
  .exact List.pairwise_map.2 (hKn.imp fun h=>by omega)
  .rw[n1];refine List.pairwise_map.2 ?_;have h8:=List.pairwise_map.1 a2;refine List.Pairwise.imp_of_mem (fun {x y} hx hy hne=>?_) h8;have h6:=(a1 x hx).1.1;have h7:=(a1 y hy).1.1;omega
  .intro x hx y hy e;subst e;obtain⟨f,hf,e1⟩:=List.mem_map.1 hx;obtain⟨g,hg,e2⟩:=List.mem_map.1 hy;obtain⟨z,hz,_,e3⟩:=hnew g hg;obtain⟨k1,k2⟩:=hKm f hf;have hfz:(f.num:Int)=z.num:=by omega
   rcases(a1 z hz).2.2 with q | q
   .exact find_none q f k1 hfz
   .exact k2 (hfz ▸ q)
 have hlie:LieOk D.cells.length ((K++news).map fun f=>(f.first,f.blocks)):=by
  rw[List.map_append];refine⟨n3.apart.sublist (List.Sublist.append ?_ (List.Sublist.refl _)),fun p hp=>n3.each p ?_⟩
  .exact hKS.map _
  .rcases List.mem_append.1 hp with q | q
   .exact List.mem_append_left _ ((hKS.map _).mem q)
   .exact List.mem_append_right _ q
 refine⟨⟨?_,?_,?_,fun f hf=>?_⟩,fun f hf=>?_⟩
 .rw[hperm.length_eq,List.length_append];omega
 .exact pw_strict (sortN_sorted _) ((hperm.map _).nodup_iff.2 hnd)
 .have h8:(K++news).Pairwise fun a b=>a.first+a.blocks<=b.first\/b.first+b.blocks<=a.first:=List.pairwise_map.1 hlie.apart;exact(hperm.symm.pairwise_iff (fun h=>h.symm)).1 h8
 .have hf2:=hperm.mem_iff.1 hf;have h3:=hlie.each (f.first,f.blocks) (List.mem_map_of_mem hf2);rcases List.mem_append.1 hf2 with q | q
  .obtain⟨b1,b2,b3,b4,b5,b6⟩:=hok.each f (hKm f q).1;exact⟨b1,b2,b3,b4,b5,by omega⟩
  .obtain⟨z,hz,e1,e2⟩:=hnew f q;have h9:=(a1 z hz).1;have h10:=congrArg Fl.birth (n2 f q);simp only at h10;exact⟨by omega,by omega,h3.1,h3.2.1,h3.2.2,by omega⟩
 .have hf2:=hperm.mem_iff.1 hf;rcases List.mem_append.1 hf2 with q | q
  .left
   refine⟨(hKm f q).1,?_⟩;split
   .exact Nat.zero_le _
   .exact Nat.le_refl _
  .right
   refine⟨n2 f q,?_⟩;obtain⟨z,hz,e1,e2⟩:=hnew f q;rw[if_pos];rw[e2];exact List.mem_map_of_mem hz
section
variable {D:Dk} {S:Spc} {sf:Nat->Nat} {lim:Nat}
theorem put_eq (h:Good D S sf lim) {fs:List Fl} (hn:fs.length<=24):
  (D.armed=1->S.put fs D=(S,D.took (1 - S.slot) (sealB (S.turn+1) (fs.map Fl.hd)),21))/\(D.armed≠1->S.put fs D=(⟨1 - S.slot,S.turn+1,fs⟩,(D.wr (1 - S.slot) (sealB (S.turn+1) (fs.map Fl.hd))).flush.1,0)):=by
 have hs:=h.heads.lt;have h2:=h.fils.two;have hl:=h.fils.cap;have hi:(S.slot+1) % 2=1 - S.slot:=by omega
 have ht:(S.turn+1) % 18446744073709551616=S.turn+1:=Nat.mod_eq_of_lt (by omega);have hw:=write_took D (1 - S.slot) (sealB (S.turn+1) (fs.map Fl.hd)) h.fils.off (by omega) (sealB_len (by rw[List.length_map];exact hn));unfold Spc.put;simp only[hi,ht,hw];constructor
 .intro ha;rw[if_pos (by rw[if_pos ha];simp),if_pos ha]
 .intro ha;have e:D.took (1 - S.slot) (sealB (S.turn+1) (fs.map Fl.hd))=D.wr (1 - S.slot) (sealB (S.turn+1) (fs.map Fl.hd)):=by
   unfold Dk.wr Dk.took;simp only[if_neg ha,h.fils.off]
  rw[if_neg (by rw[if_neg ha];simp),e];have hf:=flush_on (D.wr (1 - S.slot) (sealB (S.turn+1) (fs.map Fl.hd))) rfl;rw[if_neg (by rw[hf];simp)]
theorem took_crash (D:Dk) (i:Nat) (b:List UInt8) (keep:List Bool) (torn bytes:Int):(D.took i b).crash keep torn bytes=(D.wr i b).crash keep torn bytes:=rfl
end
def ptrV (p:Nat):Value:= .pointer (some ⟨p,0,none⟩)
def flC (f:Fl) (v:Value):Array Value:= #[.int .i64 (f.num:Int),.int .i64 (f.first:Int),.int .i64 (f.blocks:Int),.int .u64 (f.birth:Int),.int .u64 (f.life:Int),v]
def FlP (p:Nat) (f:Fl):SP:=fun h=> ∃ v ks,txt ks=f.frames/\(Pt p 163 (flC f v)*(Row 41 1 v ks.length (ks.map slOf)*RoL ks)) h
def FlsP:List (Nat × Fl)->SP
 | []=>Emp
 | x::l=>FlP x.1 x.2*FlsP l
def SpaceC (s d slot turn:Nat) (v:Value) (ps:List (Nat × Fl)):SP:=
 Pt s 153 #[ptrV d,.int .i64 (slot:Int),.int .u64 (turn:Int),v]*(Row 155 1 v ps.length (ps.map fun x=>ptrV x.1)*FlsP ps)
def SpaceP (s d:Nat) (S:Spc):SP:=fun h=> ∃ v ps,ps.map (·.2)=S.files/\SpaceC s d S.slot S.turn v ps h
section
variable {w0 w:World} {F:SP} {p s d slot turn:Nat} {f:Fl} {v:Value} {ks:Rows_} {ps:List (Nat × Fl)} {S:Spc}
theorem Sat.fl (h:Sat w0 (FlP p f*F) w): ∃ v ks,txt ks=f.frames/\Sat w0 (Pt p 163 (flC f v)*(Row 41 1 v ks.length (ks.map slOf)*(RoL ks*F))) w:=by
 obtain⟨c,x,h1,a,g,h2,h3,⟨v,ks,h4,h5⟩,h6⟩:=h;refine⟨v,ks,h4,Sat.of (A:=(Pt p 163 (flC f v)*(Row 41 1 v ks.length (ks.map slOf)*RoL ks))*F) ⟨c,x,h1,a,g,h2,h3,h5,h6⟩ ?_⟩
 ac_rfl
theorem Sat.flI (ht:txt ks=f.frames) (h:Sat w0 (Pt p 163 (flC f v)*(Row 41 1 v ks.length (ks.map slOf)*(RoL ks*F))) w):Sat w0 (FlP p f*F) w:=by
 have h2:Sat w0 ((Pt p 163 (flC f v)*(Row 41 1 v ks.length (ks.map slOf)*RoL ks))*F) w:=h.of (by ac_rfl);exact h2.mono fun y ⟨a,g,h3,h4,h5,h6⟩=>⟨a,g,h3,h4,⟨v,ks,ht,h5⟩,h6⟩
theorem fls_app: ∀ (a b:List (Nat × Fl)),FlsP (a++b)=FlsP a*FlsP b
 | [],b=>by show FlsP b=Emp*FlsP b;rw[emp_star]
 | x::a,b=>by show FlP x.1 x.2*FlsP (a++b)=(FlP x.1 x.2*FlsP a)*FlsP b;rw[fls_app a b,star_assoc]
theorem fls_one (x:Nat × Fl):FlsP [x]=FlP x.1 x.2:=by show FlP x.1 x.2*Emp=_;rw[star_emp]
theorem fls_perm {a b:List (Nat × Fl)} (h:a.Perm b):FlsP a=FlsP b:=by
 induction h with
 | nil=>rfl
 | cons x _ ih=>show FlP x.1 x.2*_=FlP x.1 x.2*_;rw[ih]
 | swap x y l=>show FlP y.1 y.2*(FlP x.1 x.2*FlsP l)=FlP x.1 x.2*(FlP y.1 y.2*FlsP l);rw[star_left]
 | trans _ _ i1 i2=>exact i1.trans i2
theorem fls_at': ∀ (ps:List (Nat × Fl)) (i:Nat) (h:i<ps.length),FlsP ps=FlP ps[i].1 ps[i].2*FlsP (ps.eraseIdx i)
 | x::l,0,h=>rfl
 | x::l,i+1,h=>by
  have hi:i<l.length:=by simpa using h
  show FlP x.1 x.2*FlsP l=FlP l[i].1 l[i].2*(FlP x.1 x.2*FlsP (l.eraseIdx i));rw[fls_at' l i hi,star_left]
theorem fls_at {i:Nat} (h:i<ps.length):FlsP ps=FlP ps[i].1 ps[i].2*FlsP (ps.eraseIdx i):=fls_at' ps i h
theorem fls_set {i:Nat} (h:i<ps.length) (x:Nat × Fl):FlsP (ps.set i x)=FlP x.1 x.2*FlsP (ps.eraseIdx i):=by
 have h2:i<(ps.set i x).length:=by rw[List.length_set];exact h
 rw[fls_at h2,List.getElem_set_self,List.eraseIdx_set_eq]
theorem Sat.space (h:Sat w0 (SpaceP s d S*F) w): ∃ v ps,ps.map (·.2)=S.files/\Sat w0 (SpaceC s d S.slot S.turn v ps*F) w:=by
 obtain⟨c,x,h1,a,g,h2,h3,⟨v,ps,h4,h5⟩,h6⟩:=h;exact⟨v,ps,h4,c,x,h1,a,g,h2,h3,h5,h6⟩
theorem Sat.spaceI (ht:ps.map (·.2)=S.files) (h:Sat w0 (SpaceC s d S.slot S.turn v ps*F) w):Sat w0 (SpaceP s d S*F) w:=
 h.mono fun y ⟨a,g,h3,h4,h5,h6⟩=>⟨a,g,h3,h4,⟨v,ps,ht,h5⟩,h6⟩
theorem space_d:SpaceC s d slot turn v ps*F=Pt s 153 #[ptrV d,.int .i64 (slot:Int),.int .u64 (turn:Int),v]*(Row 155 1 v ps.length (ps.map fun x=>ptrV x.1)*(FlsP ps*F)):=by
 unfold SpaceC;ac_rfl
theorem space_at {i:Nat} (h:i<ps.length):SpaceC s d slot turn v ps*F=FlP ps[i].1 ps[i].2*(Pt s 153 #[ptrV d,.int .i64 (slot:Int),.int .u64 (turn:Int),v]*(Row 155 1 v ps.length (ps.map fun x=>ptrV x.1)*(FlsP (ps.eraseIdx i)*F))):=by
 rw[space_d,fls_at h];ac_rfl
theorem Sat.spaceR (h:Sat w0 (SpaceC s d slot turn v ps*F) w): ∃ A c,v = .slice A ps.length c/\ps.length<=c/\c<=maxLen/\RdV w A (ps.map fun x=>ptrV x.1)/\
  (w.cell? ⟨s,0,none⟩=some (ptrV d)/\w.cell? ⟨s,1,none⟩=some (.int .i64 (slot:Int))/\w.cell? ⟨s,2,none⟩=some (.int .u64 (turn:Int))/\w.cell? ⟨s,3,none⟩=some v):=by
 have h1:=h.of space_d;obtain⟨A,c,rfl,h2,h3⟩:=h1.up2.row_sl;exact⟨A,c,rfl,h2,h3,RdV.of_own h1.up2.row_own,h1.cell 0,h1.cell 1,h1.cell 2,h1.cell 3⟩
theorem Sat.spaceF (h:Sat w0 (SpaceC s d slot turn v ps*F) w) {i:Nat} (hi:i<ps.length): ∃ u ks,txt ks=ps[i].2.frames/\(w.cell? ⟨ps[i].1,0,none⟩=some (.int .i64 (ps[i].2.num:Int))/\w.cell? ⟨ps[i].1,1,none⟩=some (.int .i64 (ps[i].2.first:Int))/\w.cell? ⟨ps[i].1,2,none⟩=some (.int .i64 (ps[i].2.blocks:Int))/\
  w.cell? ⟨ps[i].1,3,none⟩=some (.int .u64 (ps[i].2.birth:Int))/\w.cell? ⟨ps[i].1,4,none⟩=some (.int .u64 (ps[i].2.life:Int))/\w.cell? ⟨ps[i].1,5,none⟩=some u)/\ ∃ A c,u = .slice A ks.length c/\ks.length<=c/\c<=maxLen/\RdL w A ks:=by
 obtain⟨u,ks,h1,h2⟩:=(h.of (space_at hi)).fl;obtain⟨A,c,e,h3,h4⟩:=h2.up2.row_sl;refine⟨u,ks,h1,⟨h2.cell 0,h2.cell 1,h2.cell 2,h2.cell 3,h2.cell 4,h2.cell 5⟩,A,c,e,h3,h4,?_,?_⟩
 .subst e;exact RdV.of_own h2.up2.row_own
 .intro k hk;exact h2.up3.rol hk
end
def idxN (ps:List (Nat × Fl)) (n:Int):Nat:=ps.findIdx fun x=>((x.2.num:Nat):Int)==n
theorem idxN_le (ps:List (Nat × Fl)) (n:Int):idxN ps n<=ps.length:=List.findIdx_le_length
theorem idxN_here {ps:List (Nat × Fl)} {n:Int} {i:Nat} (hi:i<ps.length) (h1:(ps[i].2.num:Int)=n) (h2: ∀ j (hj:j<i),((ps[j]'(by omega)).2.num:Int)≠n):idxN ps n=i:=by
 unfold idxN;rw[List.findIdx_eq hi];exact⟨by simpa using h1,fun j hj=>by simpa using h2 j hj⟩
theorem idxN_none {ps:List (Nat × Fl)} {n:Int} (h2: ∀ j (hj:j<ps.length),(ps[j].2.num:Int)≠n):idxN ps n=ps.length:=by
 unfold idxN;rw[List.findIdx_eq_length];intro x hx;obtain⟨j,hj,rfl⟩:=List.getElem_of_mem hx;simpa using h2 j hj
theorem idxN_find {ps:List (Nat × Fl)} {S:Spc} (ht:ps.map (·.2)=S.files) (n:Int):S.find n=(ps[idxN ps n]?).map (·.2):=by
 unfold Spc.find idxN;rw[<-ht,List.find?_map];rw[<-List.find?_eq_getElem?_findIdx];rfl
section
variable {w0 w:World} {F:SP} {s d slot turn:Nat} {v:Value} {ps:List (Nat × Fl)}
def ptrO (o:Option (Nat × Fl)):Value:=match o with | some x=>ptrV x.1 | none=> .pointer none
theorem ptr_get {A:Option Addr} {k:Nat} (h:RdV w A (ps.map fun x=>ptrV x.1)) (hk:k<ps.length): ∃ b o,A=some ⟨b,o,none⟩/\w.cell? ⟨b,o+k,none⟩=some (.pointer (some ⟨ps[k].1,0,none⟩)):=by
 obtain⟨b,o,e,hc⟩:=h (by intro e;have:=congrArg List.length e;simp at this;rw[this] at hk;simp at hk);refine⟨b,o,e,?_⟩;have:=hc k (by simpa using hk);rw[this];simp[ptrV]
theorem find_any (n:Int) (h:Sat w0 (SpaceC s d slot turn v ps*F) w) (hl:ps.length<=1000000):
  Calls Tryz.prog 103 #[.pointer (some ⟨s,0,none⟩),.int .i64 n] w fun e w'=>e = .returned (ptrO ps[idxN ps n]?)/\w=w':=by
 obtain⟨A,c,rfl,h1,h2,h3,h4,h5,h6,h7⟩:=h.spaceR;have HS:=ah h;have HR:=ah h3;clear h h3 h4 h5 h6;go_enter Tryz.func103, Tryz.ntmps103;go_wp2_with fail;go_loopw [6,12] (fun _ iv wr=> ∃ k:Nat,k<=ps.length/\iv = .int .i64 (k:Int)/\wr=w/\Hid (∀ j (hj:j<k) (hl:j<ps.length),(ps[j].2.num:Int)≠n)) (fun _ iv _=>ps.length - (intOf iv).toNat)
 case atStart=>exact⟨0,by omega,rfl,rfl,fun j hj=>by omega⟩
 case round=>
  obtain⟨k,hk,rfl,rfl,HD⟩:=hrel;by_cases hlt:k<ps.length
  .obtain⟨b,o,rfl,hc⟩:=ptr_get HR.o hlt;obtain⟨u,ks,hks,hg,hu⟩:=HS.o.spaceF hlt;have g0:=hg.1;clear hg hu;have hk2:(k:Int)<ps.length:=by omega
   by_cases e:(ps[k].2.num:Int)=n
   .have HE:Hid (idxN ps n=k):=idxN_here hlt e (fun j hj=>HD.o j hj (by omega));have HE2:Hid (ptrO ps[k]? = .pointer (some ⟨ps[k].1,0,none⟩)):=by unfold Hid ptrO;rw[List.getElem?_eq_getElem hlt];rfl
    clear hks;generalize ps[k].2.num=m at*
    generalize ps[k].1=q at*
    subst e;go_wp2_with fail;go_ret;refine⟨?_,rfl⟩;rw[HE.o,HE2.o];rfl
   .have HN:Hid (∀ j (hj:j<k+1) (hl:j<ps.length),(ps[j].2.num:Int)≠n):=fun j hj hl=>by
     by_cases ej:j=k
     .subst ej;exact e
     .exact HD.o j (by omega) hl
    clear hks;generalize ps[k].2.num=m at*
    generalize ps[k].1=q at*
    go_wp2_with fail;go_roundw
    .exact⟨k+1,by omega,by push_cast;rfl,trivial,HN.o⟩
    .simp[intOf];omega
  .have HE:Hid (idxN ps n=ps.length):=idxN_none (fun j hj=>HD.o j (by omega) hj);have hk2:¬ (k:Int)<ps.length:=by omega
   go_wp2_with fail;go_ret;refine⟨?_,rfl⟩;rw[HE.o,List.getElem?_eq_none (Nat.le_refl _)];rfl
theorem fileT:(Tryz.prog.info? 128).map (fun i=>(i.zero,i.size,i.bytes))=some (some (.agg #[.int .i64 0,.int .i64 0,.int .i64 0]),3,24):=by kernel_rfl
def fiV (f:Fl):List Value:=[.int .i64 (f.num:Int),.int .i64 (f.first:Int),.int .i64 (f.blocks:Int)]
theorem files_any (h:Sat w0 (SpaceC s d slot turn v ps*F) w) (hl:ps.length<=1000000):
  Calls Tryz.prog 67 #[.pointer (some ⟨s,0,none⟩)] w fun e w'=> ∃ u,e = .returned u/\Sat w0 (Row 128 3 u ps.length ((ps.map (·.2)).flatMap fiV)*(SpaceC s d slot turn v ps*F)) w':=by
 obtain⟨i0,hi0',hz0',hz1',hz2'⟩:=info_parts fileT;have hi0:=ah hi0';have hz0:=ah hz0';have hz1:=ah hz1';have hz2:=ah hz2';obtain⟨A,c,rfl,h1,h2,h3,h4,h5,h6,h7⟩:=h.spaceR;have HS:=ah h;have HR:=ah h3;clear h h3 h4 h5 h6 hi0' hz0' hz1' hz2';go_enter Tryz.func67, Tryz.ntmps67;go_wp2_with fail;go_loopw [3,5,11] (fun ov _ iv wr=> ∃ (k:Nat) (C:Option Addr) (cc:Nat),k<=ps.length/\ov = .slice C k cc/\iv = .int .i64 (k:Int)/\Hid (Sat w0 (Row 128 3 (.slice C k cc) k (((ps.take k).map (·.2)).flatMap fiV)*(SpaceC s d slot turn (.slice A ps.length c) ps*F)) wr)) (fun _ _ iv _=>ps.length - (intOf iv).toNat)
 case atStart=>exact⟨0,none,0,by omega,rfl,rfl,HS.o.row_nil _ 3⟩
 case round=>
  obtain⟨k,C,cc,hk,rfl,rfl,HD⟩:=hrel;by_cases hlt:k<ps.length
  .obtain⟨A2,c2,e9,_,_,hR2,_⟩:=HD.o.right.spaceR;injection e9 with e9 _ e8
   subst e9;subst e8;obtain⟨b,o,rfl,hc⟩:=ptr_get hR2 hlt;obtain⟨u,ks,hks,hg,hu⟩:=HD.o.right.spaceF hlt;have g0:=hg.1;have g1:=hg.2.1;have g2:=hg.2.2.1;have hk2:(k:Int)<ps.length:=by omega
   have HT:Hid (((ps.take (k+1)).map (·.2)).flatMap fiV=((ps.take k).map (·.2)).flatMap fiV++[.int .i64 (ps[k].2.num:Int),.int .i64 (ps[k].2.first:Int),.int .i64 (ps[k].2.blocks:Int)]):=by
    unfold Hid;rw[List.take_succ_eq_append_getElem hlt,List.map_append,List.flatMap_append];rfl
   clear hg hu hks hR2;generalize ps[k].2.num=m0 at*
   generalize ps[k].2.first=m1 at*
   generalize ps[k].2.blocks=m2 at*
   generalize ps[k].1=q at*
   go_wp2_with (at_builtin;refine wpList_appS rfl (.tmp 15) (.tmp 20) 105 rfl 128 i0 _ 3 24 Tryz.underlying105 hi0.o hz0.o hz1.o hz2.o rfl (by decide) (.slice C k cc) k _ rfl w0 _ (by exact HD.o.alloc' _) (some ⟨wr.heap.size,0,none⟩) 1 1 [.int .i64 (m0:Int),.int .i64 (m1:Int),.int .i64 (m2:Int)] rfl (lit_rdv _ _ _) rfl (by intro u hu;simp at hu;rcases hu with rfl | rfl | rfl<;>rfl) (by unfold maxLen;omega) (by omega) ?_;intro A3 c3 w3 hs;have HS3:=ah hs;clear hs);go_roundw
   .exact⟨k+1,A3,c3,by omega,rfl,by push_cast;rfl,by rw[HT.o];exact HS3.o⟩
   .simp[intOf];omega
  .obtain rfl:k=ps.length:=by omega
   have hk2:¬ ((ps.length:Nat):Int)<ps.length:=by omega
   go_wp2_with fail;go_ret;exact⟨_,rfl,by rw[<-List.take_length (l:=ps)];simpa using HD.o⟩
end
end Go.Proofs.YtmbaiglpgaoogaaGreat
