/- Joined, as they were built one by one: RangeFn RangeFC. -/
import Derived.RangeFuncLeaves
import Derived.RangeFuncFrom
import Derived.Test.YtmbaiglpgaoogaaGreatW01
set_option linter.unusedVariables false
set_option maxRecDepth 100000
namespace Go.Proofs.YtmbaiglpgaoogaaGreat
open Go.RowKit Z
theorem lC (w:World) (l:Nat) (o:Obj):ao (One l) w (w.putObj l o):=⟨rfl,rfl,rfl,Nat.le_of_eq World.putObj_size.symm,fun _ _ hk=>World.putObj_heap_other hk⟩
theorem pg {w:World} {l:Nat} {o o':Obj} (hl:w.heap[l]?=some o) (ho:o.isCells=false) (ho':o'.isCells=false) (p:Addr):(w.putObj l o').cell? p=w.cell? p:=by
 by_cases e:p.block=l
 .have h1:=World.putObj_heap_same (w:=w) (o:=o') (Array.getElem?_eq_some_iff.1 hl).1;unfold World.cell?;rw[e,h1,hl]
  cases o<;>cases o'<;>simp_all [Obj.isCells]
 .unfold World.cell?;rw[World.putObj_heap_other e]
def Jk {α:Type} (bn:Nat) (I:List α->World->Prop) (xs:List α) (A:World):Exit->Act->World->Prop
 | .normal,_,B=>ao (One bn) A B/\I xs B
 | _,_,_=>False
structure Kept (n:Nat) (A B:World):Prop where
 aL:ao (C7 n) A B
 rows: ∀ (k:Nat) (cs:Array Value) (t:TypeId) (fr:Nat × Nat),A.heap[k]?=some (Obj.cells cs t fr)->B.heap[k]?=some (Obj.cells cs t fr)
theorem zO {n:Nat} {A B:World} (h:ao No A B):Kept n A B:=⟨h.no,fun k cs t fr e=>(h.block k (lt_of_block e) id).trans e⟩
theorem qo {n L:Nat} {A:World} {o:Obj} (o':Obj) (hl:A.heap[L]?=some o) (ho:o.isCells=false) (hn:n<=L):Kept n A (A.putObj L o'):=by
 refine⟨(lC A L o').mono fun i _ (hi:i=L)=>by show n<=i;omega,fun k cs t fr e=>?_⟩;have hne:k≠L:=by
  rintro rfl;rw[hl] at e;injection e with e
  subst e
  cases ho
 rw[World.putObj_heap_other hne];exact e
theorem Kept.cell {n:Nat} {A B:World} (h:Kept n A B) {p:Addr} {v:Value} (e:A.cell? p=some v):B.cell? p=some v:=by
 unfold World.cell? at e ⊢;split at e
 .rename_i cs t fr he;rw[h.rows _ _ _ _ he];exact e
 .cases e
theorem DS {P:Program} {α:Type} {g:Operand} {ps:Array Tmp} {assign body:Code} {Q:Exit->Act->World->Prop} {a:Act} {w:World} {gf:Nat} {lb:Array Value} (bn:Nat) (hbn:bn<w.heap.size)
 (hg:a.eval g = .func (.func gf) #[] lb) (eg: ∀ args w,(callFunc gf args).run P w = .ok (.enter gf args) w)
 {encs:α->Array Value} (hps: ∀ x,(encs x).size=ps.size) (Ok:List α->α->World->Prop) (S:List α->Prop)
 (hseq: ∀ (l:Nat) (J:List α->World->Prop) (W:World),w.heap.size<=l->ao No w W->(∀ pre A B,J pre A->ao No A B->J pre B)->
  (∀ pre x A,J pre A->Ok pre x A->YieldAt Fence.wide 10 P l (encs x) A fun e B=>e = .returned (.bool true)/\J (pre++[x]) B/\ao (fun k=>k=bn\/k=l) A B)->
  J [] W->CallsIn Fence.wide 11 P gf (#[.func (.yield l) #[] #[]]++lb) W fun e B=>(∃ v,e = .returned v)/\ ∃ xs,S xs/\J xs B)
 (I:List α->World->Prop) (hI: ∀ pre A B,I pre A->Kept w.heap.size A B->I pre B) (h0:I [] w)
 (hround: ∀ l pre x A,w.heap.size<=l->I pre A->Ok pre x A->assign.wpIn (Fence.wide.inRound l) 10 P
  (Exit.then (fun a₁ A1=>ao No A A1/\ ∀ A2,Kept w.heap.size A1 A2->(∀ p,A2.cell? p=A1.cell? p)->body.wpIn (Fence.wide.inRound l) 10 P (Jk bn I (pre++[x]) A2) a₁ A2) (fun _ _ _=>False))
  { tmps:=(ps.zip (encs x)).foldl (fun t (p,v)=>t.setIfInBounds p v) a.tmps,defers:=[] } A)
 (hdone: ∀ (D:Nat) (xs:List α) (B:World),w.heap.size<=D->S xs->I xs B->B.heap[D]?=some (.deferred (some []))->Q .normal { a with defers:={ target:= .collected D,args:= #[] }::a.defers } B):
 (Code.rangeFunc g ps assign body).wpIn Fence.wide 12 P Q a w:=by
 refine wpIn_rangeFunc ?_;intro fn hfn;obtain⟨mk,hmk⟩: ∃ mk:LoopState->Option Code->Loop,mk=fun st pe=>{ state:=st,pending:=pe,fn,tmps:=a.tmps,params:=ps,assign,body,defers:=w.heap.size }:=⟨_,rfl⟩;obtain⟨D,hD⟩: ∃ D,D=w.heap.size:=⟨_,rfl⟩;obtain⟨L,hL⟩: ∃ L,L=w.heap.size+1:=⟨_,rfl⟩;obtain⟨V,hV⟩: ∃ V,(w.alloc (.deferred (some []))).alloc (.loop (mk .ready none))=V:=⟨_,rfl⟩;have kV:ao No w V:=by rw[<-hV];exact((ao.refl No w).alloc _).alloc _
 have V1:V.heap[L]?=some (.loop (mk .ready none)):=by
  rw[<-hV,hL];have:=World.alloc_heap_new (w.alloc (.deferred (some []))) (.loop (mk .ready none));rwa [World.size_alloc] at this
 have V0:V.heap[D]?=some (.deferred (some [])):=by
  rw[<-hV,hD];exact(((ao.refl No (w.alloc (.deferred (some [])))).alloc _).block _ (by simp) id).trans (World.alloc_heap_new w _)
 refine⟨L,[{ target:= .collected D,args:= #[] }],V,{ target:= .fn (.func gf) lb,args:= #[.func (.yield L) #[] #[]] },V,gf, #[.func (.yield L) #[] #[]]++lb,V,?_,?_,fun _ _=>trivial,?_,fun h=>by simp[Fence.wide] at h,?_⟩
 .rw[<-hV,hmk,hL,hD];exact run_enterLoop_outer _ _ _ _ _
 .simp only[resolve,hg];simp[go_sem]
 .simp[invoke,go_sem,eg]
 have hDL:D≠L:=by omega
 have hbD:D≠bn:=by omega
 have hbL:L≠bn:=by omega
 refine(hseq L (fun pre A=>I pre A/\A.heap[L]?=some (.loop (mk .ready none))/\A.heap[D]?=some (.deferred (some []))) V (by omega) kV ?_ ?_ ⟨hI _ _ _ h0 (zO kV),V1,V0⟩).mono ?_
 .rintro pre A B ⟨h1,h2,h3⟩ k;exact⟨hI _ _ _ h1 (zO k),(k.block L (lt_of_block h2) id).trans h2,(k.block D (lt_of_block h3) id).trans h3⟩
 .rintro pre x A ⟨hi,hl,hd⟩ hok;have hy:=run_yield (P:=P) (args:=encs x) hl (by rw[hmk];exact hps x);rw[hmk] at hy;refine⟨fn,_,assign,body,hy,roundIn_of_wpIn hfn (wpIn_mono (hround L pre x A (by omega) hi hok) ?_)⟩;intro e a1 A1 hq
  cases e with
  | normal=>
   obtain⟨k1,hb⟩:=hq;have l1:A1.heap[L]?=some (.loop (mk .ready none)):=(k1.block L (lt_of_block hl) id).trans hl;have d1:A1.heap[D]?=some (.deferred (some [])):=(k1.block D (lt_of_block hd) id).trans hd;refine⟨_,run_beginRound l1 (by rw[hmk]),?_⟩;have k2:=lC A1 L (.loop { mk .ready none with state:= .busy });have l2:(A1.putObj L (.loop { mk .ready none with state:= .busy })).heap[L]?=some (.loop { mk .ready none with state:= .busy }):=World.putObj_heap_same (lt_of_block l1);have d2:=(k2.block D (lt_of_block d1) hDL).trans d1;refine wpIn_mono (hb _ (qo _ l1 rfl (by omega)) (pg l1 rfl rfl)) ?_;intro e3 a3 A3 h3
   cases e3 with
   | normal=>
    obtain⟨k3,hi3⟩:=h3;have l3:=(k3.block L (lt_of_block l2) hbL).trans l2;have d3:=(k3.block D (lt_of_block d2) hbD).trans d2;have hr:=run_endRound (P:=P) none l3;have k4:=lC A3 L (.loop { mk .ready none with state:=if (none:Option Code).isNone then LoopState.ready else .done,pending:=none });refine⟨_,_,hr,rfl,⟨hI _ _ _ hi3 (qo _ l3 rfl (by omega)),?_,(k4.block D (lt_of_block d3) hDL).trans d3⟩,?_⟩
    .rw[World.putObj_heap_same (lt_of_block l3),hmk];rfl
    .exact(((k1.no.tr (k2.mono fun _ _ h=> .inr h)).tr (k3.mono fun _ _ h=> .inl h)).tr (k4.mono fun _ _ h=> .inr h))
   | _=>exact h3.elim
  | _=>exact hq.elim
 .rintro e B ⟨⟨v,rfl⟩,xs,hS,hi,hl,hd⟩;have hr:=run_endLoop (P:=P) hl (by rw[hmk];simp);have k4:=lC B L (.loop { mk .ready none with state:= .exhausted });rw[hmk] at hr k4;refine⟨none,_,hr,?_⟩;exact hdone D xs _ (by omega) hS (hI _ _ _ hi (qo _ hl rfl (by omega))) ((k4.block D (lt_of_block hd) hDL).trans hd)
end Go.Proofs.YtmbaiglpgaoogaaGreat
