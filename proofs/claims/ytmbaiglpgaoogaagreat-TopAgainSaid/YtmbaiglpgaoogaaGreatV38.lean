/- Joined, as they were built one by one: StpF StpH StpI Sto12 Sto15 Sto26. -/
import Derived.Test.YtmbaiglpgaoogaaGreatV08
import Derived.Test.YtmbaiglpgaoogaaGreatV16
import Derived.Test.YtmbaiglpgaoogaaGreatV18
import Derived.Test.YtmbaiglpgaoogaaGreatV26
import Derived.Test.YtmbaiglpgaoogaaGreatV27
import Derived.Test.YtmbaiglpgaoogaaGreatV31
import Derived.Test.YtmbaiglpgaoogaaGreatV32
import Derived.Test.YtmbaiglpgaoogaaGreatV34
import Derived.Test.YtmbaiglpgaoogaaGreatV36
set_option maxHeartbeats 16000000
namespace Go.Proofs.YtmbaiglpgaoogaaGreat
open Go.RowKit
set_option linter.unusedVariables false
set_option maxRecDepth 100000
def sizK (p:Kv):Nat:=p.1.length+p.2.length+40
def fK (M:List Kv):List UInt8->Option Value:=fun k=>(getK k M).map fun v=> .int .i64 ((k.length+v.length+40:Nat):Int)
theorem getK_snoc (k:List UInt8) (p:Kv): ∀ M:List Kv,getK k (M++[p])=match getK k M with | some v=>some v | none=>if p.1=k then some p.2 else none
 | []=>rfl
 | q::M=>by
  show (if q.1=k then some q.2 else getK k (M++[p]))=match (if q.1=k then some q.2 else getK k M) with | some v=>some v | none=>if p.1=k then some p.2 else none
  by_cases h:q.1=k
  .rw[if_pos h,if_pos h]
  .rw[if_neg h,if_neg h];exact getK_snoc k p M
theorem fK_snoc {M:List Kv} {p:Kv} (h: ∀ q ∈ M,q.1≠p.1):fK (M++[p])=updS (fK M) p.1 (some (.int .i64 ((p.1.length+p.2.length+40:Nat):Int))):=by
 funext k
 unfold fK updS;rw[getK_snoc];by_cases hk:k=p.1
 .rw[if_pos hk,hk,getK_none h];simp
 .rw[if_neg hk]
  cases hg:getK k M with
  | some v=>simp[hg]
  | none=>simp only[hg];rw[if_neg (fun e=>hk e.symm)]
theorem fK_put {M:List Kv} (h:M.Pairwise kLT) (c:Chn):fK (putM c M)=if c.dead=true then updS (updS (fK M) c.key (some (.int .i64 ((c.key.length+c.value.length+40:Nat):Int)))) c.key none else updS (fK M) c.key (some (.int .i64 ((c.key.length+c.value.length+40:Nat):Int))):=by
 funext k
 unfold fK;rw[putM_get c h];unfold livC;by_cases hk:c.key=k
 .subst hk
  cases hd:c.dead with
  | true=>simp[updS]
  | false=>simp[updS]
 .have hk2:¬ k=c.key:=fun e=>hk e.symm
  rw[if_neg hk]
  cases hd:c.dead with
  | true=>simp[updS,hk2]
  | false=>simp[updS,hk2]
def sumL (left:Lit->Bool) (M:List Kv):Nat:=((M.filter fun p=> !left (.string p.1)).map sizK).sum
theorem sumL_cons (left:Lit->Bool) (p:Kv) (M:List Kv):sumL left (p::M)=(if left (.string p.1)=true then 0 else sizK p)+sumL left M:=by
 unfold sumL;rw[List.filter_cons]
 cases left (.string p.1) with
 | true=>simp
 | false=>simp
theorem sumL_visit {left:Lit->Bool} {k v:List UInt8}: ∀ {M:List Kv},M.Pairwise kLT->getK k M=some v->left (.string k)=true->sumL (fun z=>left z && !z.sameKey (.string k)) M=sumL left M+(k.length+v.length+40)
 | [],_,h,_=>by cases h
 | p::M,hp,h,hl=>by
  obtain⟨h1,h2⟩:=List.pairwise_cons.1 hp;rw[sumL_cons,sumL_cons];unfold getK at h;by_cases hk:p.1=k
  .rw[if_pos hk] at h;injection h with h
   have h3:sumL (fun z=>left z && !z.sameKey (.string k)) M=sumL left M:=by
    unfold sumL;congr 2
    apply List.filter_congr;intro q hq;have hne:q.1≠k:=by rw[<-hk];exact(kcb_ne (h1 q hq)).symm
    have h4:(Lit.string q.1).sameKey (.string k)=false:=Maps.sameKey_ne (fun e=>hne (by injection e));simp[h4]
   rw[h3,hk];have h5:(left (.string k) && !(Lit.string k).sameKey (.string k))=false:=by rw[WideAt.sameKey_self (by simp[WideAt.IsKeyLit])];simp
   rw[h5,hl];simp only[Bool.false_eq_true,if_false,if_true];have h6:sizK p=k.length+v.length+40:=by unfold sizK;rw[hk,h]
   omega
  .rw[if_neg hk] at h;rw[sumL_visit h2 h hl];have h4:(Lit.string p.1).sameKey (.string k)=false:=Maps.sameKey_ne (fun e=>hk (by injection e));simp only[h4,Bool.not_false,Bool.and_true];omega
theorem sumL_all {left:Lit->Bool} (h: ∀ z,left z=false) (M:List Kv):sumL left M=sizM M:=by
 unfold sumL sizM;rw[List.filter_eq_self.2 (fun p _=>by rw[h];rfl)];rfl
theorem sumL_start {D:DataW Value} {M:List Kv} (hM:M.Pairwise kLT) (hs:SaysS D (fK M)):sumL (Maps.has D) M=0:=by
 unfold sumL;rw[List.filter_eq_nil_iff.2]
 .rfl
 .intro p hp h;have h1:Maps.has D (.string p.1)=false:=by simpa using h
  have h2:=saysS_has hs h1;have h3:getK p.1 M=some p.2:=by
   have: ∀ {M:List Kv},M.Pairwise kLT->p ∈ M->getK p.1 M=some p.2:=by
    intro M
    induction M with
    | nil=>intro _ h;cases h
    | cons q M ih=>
     intro hM hp;obtain⟨h4,h5⟩:=List.pairwise_cons.1 hM;unfold getK;rcases List.mem_cons.1 hp with rfl | hp
     .rw[if_pos rfl]
     .rw[if_neg (kcb_ne (h4 p hp)),ih h5 hp]
   exact this hM hp
  unfold fK at h2;rw[h3] at h2
  cases h2
theorem sumL_le (left:Lit->Bool): ∀ M:List Kv,sumL left M<=sizM M
 | []=>Nat.le_refl _
 | p::M=>by
  have ih:=sumL_le left M;rw[sumL_cons];have h1:sizM (p::M)=sizK p+sizM M:=by unfold sizM;rw[List.map_cons,List.sum_cons];rfl
  rw[h1];split<;>omega
def fullB (n:Nat) (M:List Kv) (cs:List Chn):Bool:=decide (imgN n*480<sizM M+400) || decide (logN n<needN (laiB cs).length)
theorem sizM_le: ∀ {M:List Kv},(∀ p ∈ M,p.1.length<=200/\p.2.length<=20000)->sizM M<=M.length*20240
 | [],_=>Nat.le_refl _
 | p::M,h=>by
  have ih:=sizM_le fun q hq=>h q (List.mem_cons_of_mem _ hq)
  have h1:=h p List.mem_cons_self;unfold sizM at ih ⊢;rw[List.map_cons,List.sum_cons,List.length_cons];omega
theorem putM_mem {c:Chn} {M:List Kv} {p:Kv} (h:p ∈ putM c M):p ∈ M\/p=(c.key,c.value):=by
 unfold putM at h;rcases List.mem_append.1 h with h | h
 .exact .inl ((List.takeWhile_sublist _).mem h)
 .rcases List.mem_append.1 h with h | h
  .split at h
   .cases h
   .exact .inr (List.mem_singleton.1 h)
  .have hd:=List.dropWhile_sublist (fun q:Kv=>decide (Lib.compareBytes q.1 c.key<0)) (l:=M);split at h
   .cases h
   .rename_i q T he;rw[he] at hd;split at h
    .exact .inl (hd.mem (List.mem_cons_of_mem _ h))
    .exact .inl (hd.mem h)
theorem putM_len (c:Chn) (M:List Kv):(putM c M).length<=M.length+1:=by
 have e:=congrArg List.length (List.takeWhile_append_dropWhile (p:=fun q:Kv=>decide (Lib.compareBytes q.1 c.key<0)) (l:=M));unfold putM;rw[List.length_append] at e;rw[List.length_append,List.length_append];have h1:(if c.dead=true then ([]:List Kv) else [(c.key,c.value)]).length<=1:=by split<;>simp
 cases hd:M.dropWhile (fun q:Kv=>decide (Lib.compareBytes q.1 c.key<0)) with
 | nil=>
  rw[hd] at e;simp only[List.length_nil] at e ⊢;omega
 | cons q T=>
  rw[hd,List.length_cons] at e;simp only;have h2:(if q.1=c.key then T else q::T).length<=T.length+1:=by split<;>simp
  omega
theorem putsM_size: ∀ {cs:List Chn} {M:List Kv},(∀ c ∈ cs,ChgOk c)->(∀ p ∈ M,p.1.length<=200/\p.2.length<=20000)->(∀ p ∈ putsM cs M,p.1.length<=200/\p.2.length<=20000)/\(putsM cs M).length<=M.length+cs.length
 | [],M,_,h=>⟨h,Nat.le_refl _⟩
 | c::cs,M,hc,h=>by
  have hcc:=hc c List.mem_cons_self;obtain⟨h1,h2⟩:=putsM_size (cs:=cs) (M:=putM c M) (fun x hx=>hc x (List.mem_cons_of_mem _ hx)) fun p hp=>by
   rcases putM_mem hp with hp | rfl
   .exact h p hp
   .have:=hcc.key;have:=hcc.val;exact⟨by show c.key.length<=200;omega,by show c.value.length<=20000;omega⟩
  refine⟨h1,?_⟩;have:=putM_len c M;rw[List.length_cons];show (putsM cs (putM c M)).length<=_;omega
def SnOk (v:Sd) (olds:Int->Option (List Kv)) (j:Int):Prop:=
 (v.snaps j=none/\olds j=none)\/ ∃ q Mo,v.snaps j=some q/\olds j=some Mo/\q<=v.seq/\Mo.Pairwise kLT/\ ∀ k,alE k (q:Int) v.L=getK k Mo
structure StI (n t k:Nat) (D:Dk) (S:Spc) (v:Sd) (M:List Kv) (olds:Int->Option (List Kv)):Prop where
 dsk: ∃ sf lim i E bs,Dsk n D S sf lim i E bs bs.length false/\v.log=i+1/\Con n t v.seq E bs/\mapD E bs=M/\lim<=4*k+8/\i<=2*k+2
 mem:MemIs v.L v.seq M t
 snaps: ∀ j,SnOk v olds j
 cnt:Cnt D (20000*k+100)
 few:v.seq<=k/\v.few<=k/\v.next<=k+1
def FndI (n t k:Nat) (D:Dk) (S:Spc) (Ms:List (List Kv)):Prop:=
 ∃ sf lim i E bs x,Dsk n D S sf lim i E bs bs.length x/\Con n t k E bs/\mapD E bs ∈ Ms/\lim<=4*k+8/\i<=2*k+2/\Cnt D (20000*k+100)
def CrsI (n t k:Nat) (D:Dk) (Ms:List (List Kv)):Prop:=Cnt D (20000*k+100)/\ ∀ keep torn bytes,
 ∃ S',openX (D.crash keep torn bytes)=(some S',0)/\FndI n t k (D.crash keep torn bytes) S' Ms
section
variable {n t k:Nat} {D D':Dk} {S:Spc} {v:Sd} {M:List Kv} {olds:Int->Option (List Kv)} {sf:Nat->Nat} {lim i:Nat} {E E':List Ent} {bs:List (List Chn)} {cs:List Chn} {x:Bool}
theorem Con.snoc (h:Con n t k E bs) (hc:BatOk cs) (hs:sizM (putsM cs (mapD E bs))+400<=imgN n*480):Con n (t+cs.length) (k+1) E (bs++[cs]):=by
 refine⟨h.img,fun c hcc=>?_,?_,by rw[mapD_snoc];exact hs,fun x hx=>?_,?_⟩
 .rcases List.mem_append.1 hcc with h1 | h1
  .exact h.bats c h1
  .rw[List.mem_singleton] at h1;subst h1;exact hc
 .have:=h.few;rw[List.map_append,List.sum_append];simp only[List.map_cons,List.map_nil,List.sum_cons,List.sum_nil];omega
 .have:=h.seqs x hx;rw[List.length_append,List.length_singleton];omega
 .have:=h.bl;rw[List.length_append,List.length_singleton];omega
theorem Con.fresh {q:Nat} {L:List Ent} (hm:MemIs L q M t) (hs:sizM M+400<=imgN n*480):Con n t q (nowE L) []:=by
 obtain⟨h1,h2,h3,h4⟩:=hm.img;exact⟨h1,fun c hc=>(by cases hc),by simpa using h3,by show sizM ((nowE L).map pairE)+400<=_;rw[h2];exact hs,fun x hx=>by have:=h4 x hx;simpa using this,Nat.zero_le _⟩
theorem map_fresh {q:Nat} {L:List Ent} (hm:MemIs L q M t):mapD (nowE L) []=M:=hm.img.2.1
theorem SnOk.done {qs:List Int} (hm:MemIs v.L v.seq M t) (hc: ∀ p ∈ cs,ChgOk p) (hq:v.seq+1<=1000000000) (hp: ∀ j q,v.snaps j=some q->(q:Int) ∈ qs) {lg:Nat} {j:Int} (h:SnOk v olds j):
  SnOk { v with log:=lg,L:=tidyE qs (doneE v.seq cs v.L),seq:=v.seq+1 } olds j:=by
 rcases h with h1 | ⟨q,Mo,h1,h2,h3,h4,h5⟩
 .exact .inl h1
 .refine .inr ⟨q,Mo,h1,h2,Nat.le_succ_of_le h3,h4,fun ky=>?_⟩;show alE ky (q:Int) (tidyE qs (doneE v.seq cs v.L))=_;rw[(hm.done hc hq).kept (hp j q h1),hm.then cs (by omega),h5]
theorem CrOut.crs {safe:Nat} (h:CrOut n D lim i E bs safe) (hl:lim<=4*k+8) (hi:i<=2*k+2) (hc: ∀ m,safe<=m->m<=bs.length->Con n t k E (bs.take m)) {Ms:List (List Kv)} (hM: ∀ m,safe<=m->m<=bs.length->mapD E (bs.take m) ∈ Ms) (hn:Cnt D (20000*k+100)):CrsI n t k D Ms:=⟨hn,fun keep torn bytes=>by
 obtain⟨S',h1,m,h2,h3,sf',x,h4⟩:=h keep torn bytes;refine⟨S',h1,sf',lim,i,E,bs.take m,x,?_,hc m h2 h3,hM m h2 h3,hl,hi,hn.crash⟩;have hl:(bs.take m).length=m:=by rw[List.length_take];omega
 rw[hl];exact h4⟩
theorem CrEi.crs (h:CrEi n D lim i E E' bs) (hl:lim<=4*k+8) (hi:i+2<=2*k+2) (hc1:Con n t k E bs) (hc2:Con n t k E' []) (h1:mapD E bs=M) (h2:mapD E' []=M) (hn:Cnt D (20000*k+100)) {Ms:List (List Kv)} (hM:M ∈ Ms):CrsI n t k D Ms:=⟨hn,fun keep torn bytes=>by
 obtain⟨S',o,sf',h3 | h3⟩:=h keep torn bytes
 .obtain⟨x,h3⟩:=h3;exact⟨S',o,sf',lim,i,E,bs,x,h3,hc1,by rw[h1];exact hM,hl,by omega,hn.crash⟩
 .exact⟨S',o,sf',lim,i+2,E',[],false,h3,hc2,by rw[h2];exact hM,hl,hi,hn.crash⟩⟩
end
section
variable {n t k:Nat} {D D':Dk} {S S':Spc} {v:Sd} {M:List Kv} {olds:Int->Option (List Kv)} {sf:Nat->Nat} {lim i slot turn:Nat} {lo:Bool} {a b:Nat × Nat} {LF:List (List UInt8)} {E E':List Ent} {bs:List (List Chn)} {cs:List Chn} {x:Bool} {qs:List Int}
structure PutOk (n t k:Nat) (v:Sd) (M:List Kv) (olds:Int->Option (List Kv)) (cs:List Chn):Prop where
 mem:MemIs v.L v.seq M t
 snaps: ∀ j,SnOk v olds j
 few:v.seq<=k/\v.few<=k/\v.next<=k+1
 kk:k<=100000
 bat:BatOk cs
 siz:sizM (putsM cs M)+400<=imgN n*480
 log:needN (laiB cs).length<=logN n
theorem put_sti (hp:PutOk n t k v M olds cs) (hd:Dsx n D slot turn lo a b LF none sf lim i E (bs++[cs]) bs.length) (hcon:Con n t v.seq E bs) (hmap:mapD E bs=M) (hl:lim<=4*(k+1)+8) (hi:i<=2*(k+1)+2) (hc:Cnt D (20000*(k+1)+100)) (hq:PtsOf v.snaps v.few qs):
  StI n (t+cs.length) (k+1) D.flush.1 (stS slot turn n i lo a b (cutsB (packB E)) LF none) { v with log:=i+1,L:=tidyE qs (doneE v.seq cs v.L),seq:=v.seq+1 } (putsM cs M) olds:=by
 obtain⟨h1,h2⟩:=hd.sync;have hk:=hp.kk;have hf:=hp.few;refine⟨⟨_,lim,i,E,bs++[cs],h2.dsk,rfl,hcon.snoc hp.bat (by rw[hmap];exact hp.siz),by rw[mapD_snoc,hmap],hl,hi⟩,(hp.mem.done hp.bat.each (by omega)).tidy qs,fun j=>?_,hc.flush hd.good.fils.off,?_⟩
 .exact(hp.snaps j).done hp.mem hp.bat.each (by omega) (fun j q hjq=>(hq.1 _).2 ⟨j,q,hjq,rfl⟩)
 .show v.seq+1<=k+1/\v.few<=k+1/\v.next<=k+1+1;omega
theorem put_crs (hp:PutOk n t k v M olds cs) (h:CrOut n D' (lim+1) i E (bs++[cs]) bs.length) (hcon:Con n t v.seq E bs) (hmap:mapD E bs=M) (hs:sizM M+400<=imgN n*480) (hl:lim+1<=4*(k+1)+8) (hi:i<=2*(k+1)+2) (hc:Cnt D' (20000*(k+1)+100)):
  CrsI n (t+cs.length) (k+1) D' [M,putsM cs M]:=by
 have hf:=hp.few;have hlen:(bs++[cs]).length=bs.length+1:=by simp
 have htk: ∀ m,bs.length<=m->m<=(bs++[cs]).length->(bs++[cs]).take m=bs\/(bs++[cs]).take m=bs++[cs]:=fun m h1 h2=>by
  rw[hlen] at h2;by_cases hm:m=bs.length
  .left;rw[hm,List.take_left]
  .right;rw[List.take_of_length_le (by rw[hlen];omega)]
 have hc1:=hcon.mono (Nat.le_add_right t cs.length) (show v.seq<=k+1 by omega);have hc2:=(hcon.snoc hp.bat (by rw[hmap];exact hp.siz)).mono (Nat.le_refl _) (show v.seq+1<=k+1 by omega);refine h.crs hl hi (fun m h1 h2=>?_) (fun m h1 h2=>?_) hc
 .rcases htk m h1 h2 with h3 | h3<;>rw[h3]
  .exact hc1
  .exact hc2
 .rcases htk m h1 h2 with h3 | h3<;>rw[h3]
  .rw[hmap];exact List.mem_cons_self
  .rw[mapD_snoc,hmap];exact List.mem_cons_of_mem _ (List.mem_singleton_self _)
theorem mem_sizes {L:List Ent} {q:Nat} (hm:MemIs L q M t): ∀ p ∈ M,p.1.length<=200/\p.2.length<=20000:=fun p hp=>by
 obtain⟨h1,h2,h3,h4⟩:=hm.img;rw[<-h2] at hp;obtain⟨e,he,rfl⟩:=List.mem_map.1 hp;have h5:=(h1.each e he).1.key;have h6:=(h1.each e he).1.val;exact⟨by show e.key.length<=200;omega,by show e.value.length<=20000;omega⟩
end
theorem prs_at {w:World} {A:Option Addr} {qs:List En} (h:RdV w A (qs.flatMap prV)) (hn:0<qs.length): ∃ b o,A=some ⟨b,o,none⟩/\ ∀ i (hi:i<qs.length),
  w.cell? ⟨b,o+i*2,none⟩=some (slv' qs[i].key)/\w.cell? ⟨b,o+i*2+1,none⟩=some (slv' qs[i].value):=by
 obtain⟨b,o,rfl,_⟩:=RdV.elem (f:=prV) (k:=2) (fun _=>rfl) (by decide) h hn;refine⟨b,o,rfl,fun i hi=>?_⟩;obtain⟨b',o',e,hc⟩:=RdV.elem (f:=prV) (k:=2) (fun _=>rfl) (by decide) h hi;injection e with e
 injection e with e1 e2
 subst e1;subst e2;refine⟨by simpa [prV] using hc 0 (by decide),?_⟩;have:=hc 1 (by decide);rw[<-Nat.add_assoc] at this;simpa [prV] using this
section
variable {w0 w:World} {F:SP}
theorem mk_mapi (w:World):(Instr.makeMap 192 none).run Tryz.prog w = .ok (.map (some w.heap.size)) (w.alloc (.map #[] 0)):=by
 simp[Instr.makeMap]
abbrev MpI (mb n:Nat) (M:List Kv):SP:=MapS Tryz.prog 9 mb n (fK M)
theorem kv_fresh {M:List Kv} (h:M.Pairwise kLT) {i:Nat} (hi:i<M.length): ∀ q ∈ M.take i,q.1≠M[i].1:=fun q hq=>by
 have h2:=h;rw[<-List.take_append_drop i M,List.drop_eq_getElem_cons hi] at h2;exact kcb_ne ((List.pairwise_append.1 h2).2.2 q hq _ List.mem_cons_self)
theorem full_st (n:Nat) (b d s:Nat) (v:Sd) (A:Option Addr) (c:Nat) (ps:List Pu) (D:Dk) (M:List Kv) (h:Sat w0 (DbP b d s v*(Disk d D*F)) w) (hn:64<=n/\n<=65536) (hD:D.cells.length=n) (hb: ∀ W,Sat w0 F W->RdV W A (ps.flatMap puC)/\PusR W ps) (hok: ∀ p ∈ ps,ChgOk p.chn)
  (hp:ps.length<=10000) (hL:v.L.length<=80000) (hM:viewE v.seq v.L=M) (hMs:M.Pairwise kLT) (hsz: ∀ p ∈ M,p.1.length<=200/\p.2.length<=20000):
  Calls Tryz.prog 69 #[.pointer (some ⟨b,0,none⟩),.slice A ps.length c] w fun x w'=>x = .returned (.bool (fullB n (putsM (ps.map Pu.chn) M) (ps.map Pu.chn)))/\Sat w0 (DbP b d s v*(Disk d D*F)) w':=by
 have hMl:M.length<=v.L.length:=by
  rw[<-hM];unfold viewE;rw[List.length_map];exact(scan_sub _ _ _).length_le
 obtain⟨tb,hr,mb,ns,_,hs0⟩:=h.db;have c0:w.cell? ⟨b,0,none⟩=some (.pointer (some ⟨d,0,none⟩)):=(hs0.of (db_d ..)).cell 0;have HBl:Hid (Calls Tryz.prog 51 #[.pointer (some ⟨d,0,none⟩)] w fun e w'=>e = .returned (.int .i64 (n:Int))/\w=w'):=by
  have h9:=blocks_any d D w0 w _ h.up2;rw[hD] at h9;exact h9
 have HSz:=ah (fun W=>sizes_any n hn W);have HSc:Hid (∀ W,Sat w0 (DbP b d s v*(MpI w.heap.size 0 []*(Disk d D*F))) W->Calls Tryz.prog 24 #[.pointer (some ⟨b,0,none⟩),.slice none 0 0,.slice none 0 0,.int .i64 4611686018427387904] W (ToldK w0 (DbP b d s v*(MpI w.heap.size 0 []*(Disk d D*F))) M)):=fun W hW=>by
  have h9:=scan_st b d s v (none,0,[]) (none,0,[]) 4611686018427387904 (Rd.nil _ _) (Rd.nil _ _) hW (by omega);rw[cut_all,hM,List.take_of_length_le (by show _<=4611686018427387904;omega)] at h9;exact h9
 have hmk:=mk_mapi w;have HM0:Hid (Sat w0 (DbP b d s v*(MpI w.heap.size 0 []*(Disk d D*F))) (w.alloc (.map #[] 0))):=(h.mapS_new (P:= Tryz.prog) (k:= 9)).up2;obtain⟨mp,hmp⟩: ∃ mp,mp=w.heap.size:=⟨_,rfl⟩;obtain⟨w1,hw1⟩: ∃ w1,w1=w.alloc (.map #[] 0):=⟨_,rfl⟩;rw[<-hmp, <-hw1] at HM0 hmk;rw[<-hmp] at HSc;have HMs:=ah hMs;have HSzM:=ah hsz;have HOk:=ah hok;have HMl:=ah hMl;have HB:Hid (∀ W,Sat w0 F W->RdV W A (ps.flatMap puC)/\PusR W ps):=hb;have HOkC:Hid (∀ c ∈ ps.map Pu.chn,ChgOk c):=fun c hc=>by obtain⟨p,hp,rfl⟩:=List.mem_map.1 hc;exact hok p hp
 have HPS:=ah (putsM_size HOkC.o hsz);have HPss:Hid ((putsM (ps.map Pu.chn) M).Pairwise kLT):=putsM_sorted _ hMs;clear h hs0 hM hMs hsz hok hb hmp hw1 hMl hD;have HC0:=ah c0;clear c0;have c0:=HC0.o;have HKs:Hid (∀ W (A:Option Addr) (c:Nat) (l:List UInt8),Rd W A l->(convert 41 9 (.slice A l.length c)).run Tryz.prog W = .ok (strV l) W):=fun W A c l hr=>str_any hr c
 go_enter Tryz.func69, Tryz.ntmps69;go_wp2_with (first
  | (go_at_call 51;(with_reducible refine HBl.o.mono ?_);rintro e wx ⟨rfl,rfl⟩)
  | (go_at_call 93;(with_reducible refine(HSz.o _).mono ?_);rintro e wx ⟨rfl,rfl⟩)
  | (go_at_call 24;(with_reducible refine(HSc.o _ HM0.o).mono ?_);rintro e w2 ⟨es,qs,B,cc,rfl,hin,hqs,hs2⟩;have HIn:=ah hin;have HQs:=ah hqs;have HS2:=ah (hs2.of (show _=MpI mp 0 []*(Row 65 2 (.slice B qs.length cc) qs.length (qs.flatMap prV)*(OwnE es*(DbP b d s v*(Disk d D*F)))) by ac_rfl));clear hin hqs hs2))
 clear hmk HM0 HSc HBl HSz c0 HC0;have HQl:Hid (qs.length=M.length):=by unfold Hid;rw[<-HQs.o,List.length_map]
 have hql:qs.length<=80000:=by have:=HQl.o;have:=HMl.o;omega
 go_loopw [28] (fun iv wr=> ∃ i:Nat,i<=qs.length/\iv = .int .i64 (i:Int)/\Hid (Sat w0 (MpI mp i (M.take i)*(Row 65 2 (.slice B qs.length cc) qs.length (qs.flatMap prV)*(OwnE es*(DbP b d s v*(Disk d D*F))))) wr)) (fun iv _=>qs.length - (intOf iv).toNat)
 case atStart=>exact⟨0,by omega,rfl,HS2.o⟩
 case round=>
  obtain⟨i,hi,rfl,HD⟩:=hrel;by_cases hlt:i<qs.length
  .obtain⟨lb,lo,hA,hq⟩:=prs_at HD.o.up2.row_rdK (by omega);subst hA;obtain⟨y0,y1⟩:=hq i hlt;have HRi:=ah (ownE_r HD.o.up3 _ (HIn.o _ (List.getElem_mem hlt)));have hiM:i<M.length:=by have:=HQl.o;omega
   have HMi:Hid (M[i]=pairE qs[i].ent):=by
    unfold Hid;simp only[<-HQs.o,List.getElem_map]
   have HTk:Hid (M.take (i+1)=M.take i++[pairE qs[i].ent]):=by
    unfold Hid;rw[List.take_add_one,List.getElem?_eq_getElem hiM,HMi.o];rfl
   have HFr:Hid (∀ q ∈ M.take i,q.1≠(pairE qs[i].ent).1):=by have:=kv_fresh HMs.o hiM;rw[HMi.o] at this;exact this
   have HLn:Hid ((pairE qs[i].ent).1.length<=200/\(pairE qs[i].ent).2.length<=20000):=by have:=HSzM.o _ (List.getElem_mem hiM);rw[HMi.o] at this;exact this
   have hii:(i:Int)<qs.length:=by omega
   clear hq hiM HMi;generalize qs[i]=x at*
   obtain⟨⟨kA,kc,kl⟩,⟨vA,vc,vl⟩,sq,dd⟩:=x;replace y0:_=some (Value.slice kA kl.length kc):=y0;replace y1:_=some (Value.slice vA vl.length vc):=y1;replace HTk:Hid (M.take (i+1)=M.take i++[(kl,vl)]):=HTk;replace HFr:Hid (∀ q ∈ M.take i,q.1≠kl):=HFr;obtain⟨hkl,hvl⟩:kl.length<=200/\vl.length<=20000:=HLn.o;go_upto_region 6 with fail;have hs2:=HD.o.allocPt 65 #[.slice kA kl.length kc,.slice vA vl.length vc];obtain⟨W4,hW4⟩: ∃ W4,W4=wr.alloc (.cells #[.slice kA kl.length kc,.slice vA vl.length vc] 65):=⟨_,rfl⟩;rw[<-hW4] at hs2;rw[<-hW4];have hst:=HKs.o W4 kA kc kl (by rw[hW4];exact HRi.o.1.alloc _);clear hW4 y0 y1;have x0:=hs2.cell 0;have x1:=hs2.cell 1;obtain⟨W5,hrun,hs5,_⟩:=hs2.up2.mapS_store (t:= 192) Tryz.underlying9 Tryz.underlying192 kl (by omega) (.int .i64 ((kl.length:Int)+vl.length+40)) (by unfold maxLen;omega);have HS5:=ah hs5.drop2;clear hs2 hs5;go_wp2_with fail;go_roundw
   .refine⟨i+1,by omega,by push_cast;rfl,?_⟩;have h9:=fK_snoc (M:=M.take i) (p:=(kl,vl)) HFr.o;rw[show ((((kl,vl):Kv).1.length+((kl,vl):Kv).2.length+40:Nat):Int)=(kl.length:Int)+vl.length+40 by simp] at h9;show Sat w0 (MapS Tryz.prog 9 mp (i+1) (fK (M.take (i+1)))*_) W5;rw[HTk.o,h9];exact HS5.o
   .simp[intOf];omega
  .have hie:i=M.length:=by have:=HQl.o;omega
   have HS3:Hid (Sat w0 (MpI mp M.length M*(DbP b d s v*(Disk d D*F))) wr):=by
    have h9:=HD.o;rw[hie,List.take_length] at h9;exact h9.drop2.drop2
   have hml:M.length<=80000:=by have:=HMl.o;omega
   clear hie HD;go_wp2_with fail;go_loopw [47] (fun iv wr2=> ∃ i:Nat,i<=ps.length/\iv = .int .i64 (i:Int)/\Hid (Sat w0 (MpI mp (M.length+i) (putsM ((ps.map Pu.chn).take i) M)*(DbP b d s v*(Disk d D*F))) wr2)) (fun iv _=>ps.length - (intOf iv).toNat)
   case atStart=>exact⟨0,by omega,rfl,HS3.o⟩
   case round=>
    obtain⟨i,hi,rfl,HD⟩:=hrel;by_cases hlt:i<ps.length
    .obtain⟨lb,lo,hA,hq⟩:=pus_at (HB.o wr HD.o.right.right.right).1 (by omega);obtain⟨y0,y1,y2⟩:=hq i hlt;have HRi:=ah ((HB.o wr HD.o.right.right.right).2 _ (List.getElem_mem hlt));have HOi:=ah (HOk.o _ (List.getElem_mem hlt));have HMm:=ah (List.getElem_mem hlt);have HPt:Hid (putsM ((ps.map Pu.chn).take (i+1)) M=putM ps[i].chn (putsM ((ps.map Pu.chn).take i) M)):=by
      unfold Hid;rw[List.take_add_one,List.getElem?_eq_getElem (by rw[List.length_map];exact hlt),List.getElem_map];unfold putsM;rw[List.foldl_append];rfl
     have HSo:Hid ((putsM ((ps.map Pu.chn).take i) M).Pairwise kLT):=putsM_sorted _ HMs.o;have hii:(i:Int)<ps.length:=by omega
     have HA:=ah hA;clear hq hA;generalize putsM ((ps.map Pu.chn).take i) M=N0 at*
     generalize ps[i]=x at*
     obtain⟨⟨kA,kc,kl⟩,⟨vA,vc,vl⟩,dd⟩:=x;replace y0:_=some (Value.slice kA kl.length kc):=y0;replace y1:_=some (Value.slice vA vl.length vc):=y1;replace y2:_=some (Value.bool dd):=y2;have hkl:kl.length<=128:=HOi.o.key.2;have hvl:vl.length<=16384:=HOi.o.val;rw[HA.o];go_upto_region 11 with fail;have hs2:=HD.o.allocPt 43 #[.slice kA kl.length kc,.slice vA vl.length vc,.bool dd];obtain⟨W4,hW4⟩: ∃ W4,W4=wr.alloc (.cells #[.slice kA kl.length kc,.slice vA vl.length vc,.bool dd] 43):=⟨_,rfl⟩;rw[<-hW4] at hs2;rw[<-hW4];have hr4:Rd W4 kA kl:=by rw[hW4];exact HRi.o.1.alloc _
     have hst:=HKs.o W4 kA kc kl hr4;obtain⟨bx,hbx⟩: ∃ bx,bx=wr.heap.size:=⟨_,rfl⟩;rw[<-hbx] at hs2;rw[<-hbx];clear hW4 hbx y0 y1 y2;have x0:=hs2.cell 0;have x1:=hs2.cell 1;obtain⟨W5,hrun,hs5,hch⟩:=hs2.up2.mapS_store (t:= 192) Tryz.underlying9 Tryz.underlying192 kl (by omega) (.int .i64 ((kl.length:Int)+vl.length+40)) (by unfold maxLen;omega);have z0:W5.cell? ⟨bx,0,none⟩=some (Value.slice kA kl.length kc):=hs5.up2.cell 0;have z2:W5.cell? ⟨bx,2,none⟩=some (Value.bool dd):=hs5.up2.cell 2;have HPk:=ah (fK_put HSo.o (⟨kl,vl,dd⟩:Chn))
     cases dd
     .have HS5:=ah hs5.drop2;clear hs2 hs5 hch;go_wp2_with fail;go_roundw
      .refine⟨i+1,by omega,by push_cast;rfl,?_⟩;have h9:=HPk.o;rw[if_neg (by simp),show ((((⟨kl,vl,false⟩:Chn).key.length+(⟨kl,vl,false⟩:Chn).value.length+40:Nat)):Int)=(kl.length:Int)+vl.length+40 by simp] at h9;rw[HPt.o];show Sat w0 (MapS Tryz.prog 9 mp (M.length+(i+1)) (fK (putM ⟨kl,vl,false⟩ N0))*_) W5;rw[h9];exact HS5.o
      .simp[intOf];omega
     .have hst5:=HKs.o W5 kA kc kl ((HB.o W5 hs5.right.right.right.right).2 _ HMm.o).1;obtain⟨W6,hrun2,hs6,_⟩:=hs5.mapS_drop (t:= 192) Tryz.underlying9 Tryz.underlying192 kl (by omega) 0;have HS5:=ah hs6.drop2;clear hs2 hs5 hch hs6;go_wp2_with fail;go_roundw
      .refine⟨i+1,by omega,by push_cast;rfl,?_⟩;have h9:=HPk.o;rw[if_pos rfl,show ((((⟨kl,vl,true⟩:Chn).key.length+(⟨kl,vl,true⟩:Chn).value.length+40:Nat)):Int)=(kl.length:Int)+vl.length+40 by simp] at h9;rw[HPt.o];show Sat w0 (MapS Tryz.prog 9 mp (M.length+(i+1)) (fK (putM ⟨kl,vl,true⟩ N0))*_) W6;rw[h9];exact HS5.o
      .simp[intOf];omega
    .have hie:i=ps.length:=by omega
     have HS4:Hid (Sat w0 (MpI mp (M.length+ps.length) (putsM (ps.map Pu.chn) M)*(DbP b d s v*(Disk d D*F))) wr):=by
      have h9:=HD.o;rw[hie,List.take_of_length_le (by rw[List.length_map];omega)] at h9;exact h9
     clear hie HD;obtain⟨N,hN⟩: ∃ N,N=putsM (ps.map Pu.chn) M:=⟨_,rfl⟩;rw[<-hN] at HS4 HPS HPss;have HNn:=ah hN;have hsm:sizM N<=2000000000:=by
      have h8:=sizM_le HPS.o.1;have h9:=HPS.o.2;rw[List.length_map] at h9;omega
     have HSm:=ah hsm;have HLd:=ah (fun W (hW:Sat w0 F W)=>laid_any A c ps W (HB.o W hW).1 (HB.o W hW).2 (fun p hp=>⟨(HOk.o p hp).key.2,(HOk.o p hp).val⟩) (by omega));clear hN;obtain⟨ob,hob,Dm,hown,hsays⟩:=HS4.o.mapS_obj;have HOb:=ah hob;have HOwn:=ah hown;have HSays:=ah hsays;clear hob hown hsays HS4 hsm;go_wp2_with (at_range;refine wpList_range_own _ rfl _ 192 rfl 9 3 (Maps.string_keyed Tryz.underlying9) Tryz.underlying192 heldR mp (M.length+ps.length) Dm rfl HOwn.o ?_;intro w6 hrg0 hg0 hs0);go_frame
     have HS6:=ah (HOb.o.rg_start hrg0 hg0 hs0);obtain⟨R,hR⟩: ∃ R,R=wr.heap.size:=⟨_,rfl⟩;rw[<-hR] at HS6;rw[<-hR];clear hrg0 hg0 hs0 hR;go_loopw [12] (fun nv wr3=> ∃ (left:Lit->Bool) (cnt m:Nat),nv = .int .i64 (m:Int)/\m<=2000000400/\Hid (m=400+sumL left N/\Sat w0 (RgP Tryz.prog 9 mp R (M.length+ps.length) Dm left cnt*(DbP b d s v*(Disk d D*F))) wr3)) (fun _ wr3=>wr3.rangeLeft mp R)
     case atStart=>exact⟨Maps.has Dm,Maps.size Dm,400,rfl,by omega,by rw[sumL_start HPss.o HSays.o],HS6.o⟩
     case round=>
      obtain⟨left,cnt,m,rfl,hm,HD⟩:=hrel;have HG:=ah HD.o.2.rg;go_wp2_with (at_next;refine wpList_next_ranges _ rfl _ rfl 9 (Maps.string_keyed Tryz.underlying9) heldR Value.string id (fun key kl hkey=>(by obtain⟨x,rfl,_⟩:=WideMaps.string_of_keyOf Tryz.underlying9 hkey;exact⟨x,rfl⟩)) (fun v y hv=>⟨v,rfl⟩) mp R (M.length+ps.length) Dm left cnt rfl HG.o ?_ ?_)
      .intro hc0 hl0;have HL0:=ah hl0;clear hc0 hl0;have HEn:Hid (m=400+sizM N):=by have h9:=HD.o.1;rw[sumL_all HL0.o] at h9;exact h9
       have HS7:Hid (Sat w0 (DbP b d s v*(Disk d D*F)) wr):=HD.o.2.right;have hib:=(img_le hn.2).2.1;obtain⟨im,him⟩: ∃ im,im=imgN n:=⟨_,rfl⟩;have HIm:=ah him;rw[<-him] at hib;rw[<-him];clear him HD;have HQc:Hid (fullB n N (ps.map Pu.chn)=(decide (imgN n*480<sizM N+400) || decide (logN n<needN (laiB (ps.map Pu.chn)).length))):=rfl;have HS8:=ah HS7.o.right.right;by_cases hfl:im*480<m
       .have hfl2:(im:Int)*480<m:=by omega
        have hres:fullB n (putsM (ps.map Pu.chn) M) (ps.map Pu.chn)=true:=by
         rw[<-HNn.o,HQc.o, <-HIm.o,decide_eq_true (by have:=HEn.o;omega)];rfl
        have HRes:=ah hres;clear hfl hres;go_wp2_with fail;go_ret;refine⟨?_,HS7.o⟩;rw[HRes.o];rfl
       .have hfl2:¬ (im:Int)*480<m:=by omega
        have HLw:=ah (HLd.o wr HS8.o);obtain⟨bl,hbl⟩: ∃ bl,bl=laiB (ps.map Pu.chn):=⟨_,rfl⟩;have HBl2:=ah hbl;rw[<-hbl] at HLw HQc;obtain⟨ln,hln⟩: ∃ ln,ln=logN n:=⟨_,rfl⟩;have HLn:=ah hln;rw[<-hln] at HQc;rw[<-hln];obtain⟨nd,hnd⟩: ∃ nd,nd=needN bl.length:=⟨_,rfl⟩;have HNd:=ah hnd;rw[<-hnd] at HQc;have HNeed:Hid (∀ W,bl.length<=9223372036854775807->Calls Tryz.prog 116 #[.int .i64 (bl.length:Int)] W fun e w'=>e = .returned (.int .i64 (nd:Int))/\W=w'):=fun W h=>by rw[hnd];exact need_nat bl.length W h
        have HBll:Hid (bl.length<=9223372036854775807):=by
         unfold Hid;rw[hbl];have: ∀ l:List Chn,(∀ c ∈ l,ChgOk c)->(laiB l).length<=l.length*20000:=fun l=>by
          induction l with
          | nil=>intro _;exact Nat.le_refl _
          | cons p l ih=>
           intro h;have h1:=ih fun q hq=>h q (List.mem_cons_of_mem _ hq)
           have h2:=h p List.mem_cons_self;have h3:=h2.key;have h4:=h2.val;rw[laiB_cons,List.length_append,lai1_len,List.length_cons];omega
         have h9:=this _ HOkC.o;rw[List.length_map] at h9;omega
        clear hbl hln hnd hfl;by_cases hnl:ln<nd
        .have hnl2:(ln:Int)<nd:=by omega
         have hres:fullB n (putsM (ps.map Pu.chn) M) (ps.map Pu.chn)=true:=by
          rw[<-HNn.o,HQc.o,decide_eq_true hnl,Bool.or_true]
         have HRes:=ah hres;clear hnl hres;go_wp2_with (first
          | (go_at_call 71;(with_reducible refine HLw.o.mono ?_);rintro e w8 ⟨LB,ld,rfl,hs8⟩;have HS9:=ah (HS7.o.new hs8.chg);clear hs8)
          | (go_at_call 116;(with_reducible refine(HNeed.o _ HBll.o).mono ?_);rintro e wx ⟨rfl,rfl⟩))
         go_ret;refine⟨?_,HS9.o⟩;rw[HRes.o];rfl
        .have hnl2:¬ (ln:Int)<nd:=by omega
         have hres:fullB n (putsM (ps.map Pu.chn) M) (ps.map Pu.chn)=false:=by
          rw[<-HNn.o,HQc.o,decide_eq_false hnl,Bool.or_false, <-HIm.o,decide_eq_false (by have:=HEn.o;omega)]
         have HNl:Hid (decide (ln<nd)=false):=decide_eq_false hnl;have HRes:=ah hres;clear hnl hres;go_wp2_with (first
          | (go_at_call 71;(with_reducible refine HLw.o.mono ?_);rintro e w8 ⟨LB,ld,rfl,hs8⟩;have HS9:=ah (HS7.o.new hs8.chg);clear hs8)
          | (go_at_call 116;(with_reducible refine(HNeed.o _ HBll.o).mono ?_);rintro e wx ⟨rfl,rfl⟩))
         go_ret;refine⟨?_,HS9.o⟩;rw[HRes.o];first | rfl | exact congrArg (fun q=>Ending.returned (.bool q)) HNl.o
      .intro x c1 kl y1 y2 w7 cnt' hkey hlk hv hat hrg' hlt hg hsz hen;obtain⟨x',ex,rfl,hwf⟩:=WideMaps.string_of_keyOf Tryz.underlying9 hkey;injection ex with ex
       subst ex;unfold heldR at hv;injection hv with hv
       injection hv with hv1 hv2
       subst hv1;have hfx:fK N x.data.toList=some c1:=saysS_at HSays.o (fun zd=>hat zd);obtain⟨vv,hv1,hv2⟩: ∃ vv,getK x.data.toList N=some vv/\ .int .i64 ((x.data.toList.length+vv.length+40:Nat):Int)=c1:=by
        unfold fK at hfx
        cases hf:getK x.data.toList N with
        | none=>rw[hf] at hfx;cases hfx
        | some vv=>rw[hf] at hfx;injection hfx with hfx;exact⟨vv,rfl,hfx⟩
       subst hv2;have hvis:=sumL_visit HPss.o hv1 hlk;obtain⟨z,hz⟩: ∃ z,z=x.data.toList.length+vv.length+40:=⟨_,rfl⟩;rw[<-hz] at hen hvis;have hle:=sumL_le (fun q=>left q && !q.sameKey (.string x.data.toList)) N;have hm2:m+z<=2000000400:=by have:=HD.o.1;have:=HSm.o;omega
       have HVis:=ah hvis;have HS7:=ah (HD.o.2.rg_next hg hrg');have HLt:Hid (cnt'<cnt):=hlt;clear hkey hlk hat hrg' hlt hg hsz hwf hfx hv1 hz hvis hle;go_wp2_with fail;go_roundw
       case rel=>
        refine⟨fun q=>left q && !q.sameKey (.string x.data.toList),cnt',m+z,by push_cast;rfl,hm2,?_,HS7.o⟩;have h1:=HD.o.1;have h2:=HVis.o;omega
       case measure=>rw[HS7.o.rg.left_eq,HG.o.left_eq];exact HLt.o
end
theorem buildB_pos (L:List Ent):12<=(buildB L).length:=by
 unfold buildB allB bodyB idxB;simp only[List.length_append,putB_len];omega
theorem rngL_every (L:List Ent):rngL [] [] L=L:=by
 unfold rngL;rw[List.filter_eq_self];intro x _;unfold inR;have:Op.bytesLess x.key []=false:=by rw[cb_less];cases x.key<;>rfl
 rw[this];rfl
theorem rngT_every {L:List Ent} (h:L.Pairwise LTE) (hs: ∀ x ∈ L,x.seq<=topSeq):rngT [] [] L=L:=by rw[rngT_eq h hs,rngL_every]
structure Unp (w:World) (E:List Ent) (A:Option Addr) (c L0 m:Nat) (Q:Option Addr) (mc a:Nat) (B:Option Addr) (d:Nat) (wr:World):Prop where
 st:(m=L0/\Q=A/\mc=c/\a=0/\B=none/\d=0/\Chg No w wr)\/(m=0/\ ∃ es:List En,a=es.length/\es.map En.ent=E/\Sat w (Row 120 4 (.slice B a d) a (es.flatMap enV)*OwnE es) wr)
theorem unpacked_any (A:Option Addr) (c:Nat) (E:List Ent) (w:World) (hE:ImgOk E) (hn:E.length<=60000) (h:Rd w A (packB E)) (hc:(packB E).length<=c) (hm:c<=maxLen):
  Calls Tryz.prog 60 #[.slice A (packB E).length c] w (ToldE w E):=by
 have hm2:=hm;unfold maxLen at hm2;obtain⟨i0,hi0,hz0,hz1,hz2⟩:=info_parts info_entry;have Hi0:=ah hi0;have Hz0:=ah hz0;have Hz1:=ah hz1;have Hz2:=ah hz2;obtain⟨L0,hL0⟩: ∃ L0,L0=(packB E).length:=⟨_,rfl⟩;have HSt:Hid (Unp w E A c L0 L0 A c 0 none 0 w):=⟨.inl ⟨rfl,rfl,rfl,rfl,rfl,rfl,Chg.refl _ _⟩⟩;have HR:Hid (Rd w A (packB E)):=h;have HL0:=ah hL0;have HIm:=ah hE;rw[<-hL0] at hc ⊢;have hL1:L0<=9223372036854775807:=by omega
 clear hi0 hz0 hz1 hz2 h hL0 hE;go_enter Tryz.func60, Tryz.ntmps60;go_wp2_with fail;go_loopw [0,3] (fun bvv ov wr=> ∃ (m mc a d:Nat) (Q B:Option Addr),m<=L0/\m<=mc/\mc<=9223372036854775807/\bvv = .slice Q m mc/\ov = .slice B a d/\Hid (Unp w E A c L0 m Q mc a B d wr)) (fun bvv _ _=>lenOf bvv)
 case atStart=>exact⟨L0,c,0,0,A,none,by omega,hc,by omega,rfl,rfl,HSt.o⟩
 case round=>
  obtain⟨m,mc,a,d,Q,B,hm0,hmc,hmx,rfl,rfl,HU⟩:=hrel;have hfin:m=0->ToldE w E (.returned (.slice B a d)) wr:=fun h0=>by
   rcases HU.o.st with ⟨h1,rfl,rfl,rfl,rfl,rfl,k⟩ | ⟨_,es,h1,h2,h3⟩
   .have h4:E=[]:=by
     cases hE:E with
     | nil=>rfl
     | cons e L=>
      have h5:=HL0.o;rw[hE] at h5;unfold packB at h5;rw[List.length_append,putB_len] at h5;omega
    subst h4;refine⟨[],none,0,rfl,rfl,?_⟩;exact(((Sat.start w).new k).row_nil 120 4)
   .subst h1;exact⟨es,B,d,rfl,h2,h3⟩
  have HF:=ah hfin;clear hfin;by_cases h4:4<m
  .obtain⟨hmL,hQ,hmcc,ha,hB,hd,hk⟩:m=L0/\Q=A/\mc=c/\a=0/\B=none/\d=0/\Chg No w wr:=by
    rcases HU.o.st with h1 | ⟨h1,_⟩
    .exact h1
    .omega
   subst hQ;subst hmcc;subst ha;subst hB;subst hd;have HK:=ah hk;obtain⟨e0,E0,hE⟩: ∃ e0 E0,E=e0::E0:=by
    cases hE:E with
    | nil=>
     have h5:=HL0.o;rw[hE] at h5;have h6:(packB []).length=0:=rfl;omega
    | cons e L=>exact⟨e,L,rfl⟩
   have hpk:packB E=putB (buildB E).length 4++buildB E:=by rw[hE];rfl
   have hbd:buildE E=0:=HIm.o.build (by omega);have hsq:=HIm.o.seq;have hbl:=buildB_le E fun e he=>⟨(HIm.o.each e he).1.key.2,(HIm.o.each e he).1.val⟩
   have hsE:sumE E<=E.length*16512:=by
    have: ∀ l:List Ent,(∀ e ∈ l,EntOk e)->sumE l<=l.length*16512:=fun l=>by
     induction l with
     | nil=>intro _;exact Nat.le_refl _
     | cons e l ih=>
      intro h;have h1:=ih fun x hx=>h x (List.mem_cons_of_mem _ hx)
      have h2:=h e List.mem_cons_self;have h3:=h2.key;have h4:=h2.val;unfold sumE at h1 ⊢;rw[List.map_cons,List.sum_cons,List.length_cons];omega
    exact this E fun e he=>(HIm.o.each e he).1
   have hmt:m=(buildB E).length+4:=by
    have h5:=HL0.o;rw[hpk,List.length_append,putB_len] at h5;omega
   obtain⟨t,ht⟩: ∃ t,t=(buildB E).length:=⟨_,rfl⟩;rw[<-ht] at hmt hbl;have hrd:Rd wr Q (packB E):=HR.o.new hk;rw[hpk, <-ht] at hrd;have h4l:(putB t 4).length=4:=putB_len _ _;obtain⟨g,o,rfl,_⟩:=hrd (by intro hq;have:=congrArg List.length hq;simp[putB_len] at this);have hget:=oget_n (some ⟨g,o,none⟩) mc (putB t 4) 4 h4l.symm t (get4 (by omega)) wr (by have h9:=hrd.take 4;rwa [List.take_left' h4l] at h9) (by omega);have hrt:Rd wr (some ⟨g,o+4,none⟩) (buildB E):=by
    have h9:=hrd.drop (k:=4) (cap:=mc) (by rw[List.length_append,h4l];omega) (by rw[List.length_append,h4l, <-ht];omega);rw[if_neg (by omega),List.drop_left' h4l,Option.map_some,Addr.add_lit] at h9;exact h9
   have HGet:=ah hget;have hm4:m - 4=t:=by omega
   have HOp:=ah (opn7 (some ⟨g,o+4,none⟩) (m - 4) (mc - 4) E hbd hsq wr (by omega) hrt (by omega) (by unfold maxLen;omega));have HEv:Hid (rngT [] [] E=E):=rngT_every HIm.o.lte (fun x hx=>by have:=(HIm.o.each x hx).1.seq;unfold topSeq;omega);have hmn:min (4+(t:Int)) (m:Int)=m:=by omega
   have hw64:IntKind.i64.wrap (t:Int)=t:=by rw[IntKind.wrap_i64];omega
   have hmI:(4:Int)<m:=by omega
   have htb:t<=2000000000:=by omega
   have HMt:=ah hmt;have HTt:=ah ht;clear hmL hk hE hpk hbd hsq hbl hsE hmt ht hrd h4l hget hrt HU hm4;go_upto_region 4 with (go_at_call 105;(with_reducible refine HGet.o.mono ?_);rintro y wx ⟨rfl,rfl⟩)
   go_upto_region 6 with (go_at_call 106;(with_reducible refine HOp.o.mono ?_);rintro y w2 ⟨T,es,rfl,hes,htb,k2⟩;have HES:=ah hes;have HTb:=ah htb;have HK2:=ah (HK.o.tr k2);clear hes htb k2)
   have hrg:=trange_any (none,0,[]) (none,0,[]) T es w2 (Rd.nil _ _) (Rd.nil _ _) HTb.o;rw[HES.o] at hrg;dsimp only at hrg;rw[HEv.o] at hrg;have HRg:Hid (Calls Tryz.prog 107 #[.pointer (some ⟨T,0,none⟩),.slice none 0 0,.slice none 0 0] w2 (ToldE w2 E)):=hrg;clear hrg HOp HGet;go_wp2_with (first
    | (go_at_call 107;(with_reducible refine HRg.o.mono ?_);rintro y w3 ⟨fs,FA,fc,rfl,hfs,hs3⟩;have HFs:=ah hfs;have HFl:Hid (fs.length=E.length):=(by unfold Hid;rw[<-hfs,List.length_map]);have HS3:=ah ((((Sat.start w).new HK2.o).join hs3 (owned_star (owned_row _ _ _ _ _) (owned_ownES _))).row_nil 120 4);have hfe:fs.length<=60000:=(by have:=HFl.o;omega);clear hfs hs3)
    | (at_builtin;refine wpList_appS rfl (.tmp 27) (.tmp 29) 116 rfl 120 i0 _ 4 64 Tryz.underlying116 Hi0.o Hz0.o Hz1.o Hz2.o rfl (by decide) (.slice none 0 0) 0 [] rfl w _ (by exact HS3.o) FA fs.length fc (fs.flatMap enV) rfl (by exact(HS3.o.right.of (star_assoc _ _ _)).row_rdK) (by exact ents_len fs) (by exact ent_ones fs) (by unfold maxLen;omega) (by omega) ?_;intro A5 c5 w5 hs5;have HS5:=ah hs5;clear hs5))
   go_roundw
   .refine⟨0,mc - m,fs.length,c5,(if mc=m then some ⟨g,o,none⟩ else some ⟨g,o+m,none⟩),A5,by omega,by omega,by omega,by simp,by simp,⟨.inr ⟨rfl,fs,rfl,HFs.o,?_⟩⟩⟩;have h1:=HS5.o;rw[List.nil_append,Nat.zero_add] at h1;have h2:=h1.of (show _=(Row 120 4 (.slice FA fs.length fc) fs.length (fs.flatMap enV)*Emp)*(Row 120 4 (.slice A5 fs.length c5) fs.length (fs.flatMap enV)*OwnE fs) by ac_rfl);exact h2.right
   .simp[lenOf];omega
  .have h4':¬ (4:Int)<m:=by omega
   have hmz:m=0:=by
    rcases HU.o.st with ⟨h1,rfl,rfl,rfl,rfl,rfl,k⟩ | ⟨h1,_⟩
    .have h5:=HL0.o
     cases hE:E with
     | nil=>rw[hE] at h5;have h6:(packB []).length=0:=rfl;omega
     | cons e L=>
      rw[hE] at h5;unfold packB at h5;rw[List.length_append,putB_len] at h5;have:=buildB_pos (e::L);omega
    .exact h1
   have HFz:=ah (HF.o hmz);clear hmz;go_wp2_with fail;go_ret;exact HFz.o
def pairsE (es:List En):List Kv:=es.map fun q=>pairE q.ent
theorem pairs_len (es:List En):(pairsE es).length=es.length:=by unfold pairsE;rw[List.length_map]
theorem pairsE_take {qs:List En} {i:Nat} (hi:i<qs.length):(pairsE qs).take (i+1)=(pairsE qs).take i++[(qs[i].key.2.2,qs[i].value.2.2)]:=by
 unfold pairsE;rw[List.take_add_one,List.getElem?_eq_getElem (by rw[List.length_map];exact hi),List.getElem_map];rfl
theorem pairs_ne {es fs:List En} {i:Nat} (ha:i<es.length) (hb:i<fs.length) (h:(es[i].key.2.2,es[i].value.2.2)≠(fs[i].key.2.2,fs[i].value.2.2)):pairsE es≠pairsE fs:=fun e=>by
 apply h;have h1:=congrArg (fun l=>l[i]?) e;unfold pairsE at h1;simp only[List.getElem?_map,List.getElem?_eq_getElem ha,List.getElem?_eq_getElem hb,Option.map_some,Option.some.injEq] at h1;exact h1
section
variable {w0 w:World} {F:SP}
theorem pairs_any (A B:Option Addr) (c d:Nat) (es fs:List En) (w:World) (h1:RdV w A (es.flatMap prV)) (r1:EnsR w es) (h2:RdV w B (fs.flatMap prV)) (r2:EnsR w fs) (hn:es.length<=1000000):
  Calls Tryz.prog 23 #[.slice A es.length c,.slice B fs.length d] w fun x w'=>x = .returned (.bool (decide (pairsE es=pairsE fs)))/\Chg No w w':=by
 have H1:=ah h1;have H2:=ah h2;have R1:=ah r1;have R2:=ah r2;clear h1 h2 r1 r2;by_cases hl:es.length=fs.length
 case neg=>
  have hD:decide (pairsE es=pairsE fs)=false:=decide_eq_false fun e=>hl (by have:=congrArg List.length e;rw[pairs_len,pairs_len] at this;exact this)
  rw[hD];have hne:((es.length:Int) !=fs.length)=true:=by rw[bne_iff_ne];omega
  clear hD hl;go_enter Tryz.func23, Tryz.ntmps23;go_wp2_with fail;go_ret;exact⟨rfl,Chg.refl _ _⟩
 case pos=>
  obtain⟨n,hN⟩: ∃ n,n=es.length:=⟨_,rfl⟩;have HNa:Hid (es.length=n):=hN.symm;have HNb:Hid (fs.length=n):=by unfold Hid;omega
  rw[<-hl, <-hN];rw[<-hN] at hn;clear hN hl;go_enter Tryz.func23, Tryz.ntmps23;go_wp2_with fail;go_loopw [5] (fun iv wr=> ∃ (i:Nat),i<=n/\iv = .int .i64 (i:Int)/\Hid ((pairsE es).take i=(pairsE fs).take i/\Chg No w wr)) (fun iv _=>n - (intOf iv).toNat)
  case atStart=>exact⟨0,by omega,rfl,rfl,Chg.refl _ _⟩
  case round=>
   obtain⟨i,hi,rfl,HD⟩:=hrel;by_cases hlt:i<n
   .have hia:i<es.length:=by rw[HNa.o];exact hlt
    have hib:i<fs.length:=by rw[HNb.o];exact hlt
    obtain⟨la,oa,rfl,hqa⟩:=prs_at (H1.o.new HD.o.2) (by omega);obtain⟨lb,ob,rfl,hqb⟩:=prs_at (H2.o.new HD.o.2) (by omega);obtain⟨y0,y1⟩:=hqa i hia;obtain⟨z0,z1⟩:=hqb i hib;have ra:=R1.o _ (List.getElem_mem hia);have rb:=R2.o _ (List.getElem_mem hib);have ta:=pairsE_take hia;have tb:=pairsE_take hib;have tn:=fun h=>pairs_ne (es:=es) (fs:=fs) hia hib h
    generalize es[i]=p at*
    generalize fs[i]=q at*
    obtain⟨⟨kA,kc,kl⟩,⟨vA,vc,vl⟩,eq1,dd1⟩:=p;obtain⟨⟨kB,lc,ml⟩,⟨vB,uc,ul⟩,eq2,dd2⟩:=q;replace y0:_=some (Value.slice kA kl.length kc):=y0;replace y1:_=some (Value.slice vA vl.length vc):=y1;replace z0:_=some (Value.slice kB ml.length lc):=z0;replace z1:_=some (Value.slice vB ul.length uc):=z1;dsimp only at ta tb tn;have hk:=HD.o.2.drew;obtain⟨SA,SB,B1,e1,e2,e3,e4⟩:=str_two kl ml;obtain⟨TA,TB,C1,g1,g2,g3,g4⟩:=str_two vl ul;have s1:=str_any (ra.1.new hk) kc;have s2:=str_any (rb.1.new hk) lc;have s3:=str_any (ra.2.new hk) vc;have s4:=str_any (rb.2.new hk) uc;dsimp only at s1 s2 s3 s4;rw[<-e1] at s1;rw[<-e2] at s2;rw[<-g1] at s3;rw[<-g2] at s4;have Y0:=ah y0;have Y1:=ah y1;have Z0:=ah z0;have Z1:=ah z1;have S1:=ah s1;have S2:=ah s2;have S3:=ah s3;have S4:=ah s4;have TAk:=ah ta;have TBk:=ah tb;have TN:=ah tn;have E4:=ah e4;have G4:=ah g4;have hii:(i:Int)<n:=by omega
    clear hqa hqb ra rb ta tb tn hk e1 e2 e4 g1 g2 g4 y0 y1 z0 z1 s1 s2 s3 s4 hia hib
    cases B1
    .go_upto_region 6 with fail;refine wp_region_held_drew (S:=fun w'=>w'.cell? ⟨la,oa+i*2,none⟩=some (.slice kA kl.length kc)/\w'.cell? ⟨la,oa+i*2+1,none⟩=some (.slice vA vl.length vc)/\w'.cell? ⟨lb,ob+i*2,none⟩=some (.slice kB ml.length lc)/\w'.cell? ⟨lb,ob+i*2+1,none⟩=some (.slice vB ul.length uc)/\(convert 41 9 (.slice kA kl.length kc)).run Tryz.prog w' = .ok (.string SA) w'/\(convert 41 9 (.slice kB ml.length lc)).run Tryz.prog w' = .ok (.string SB) w'/\(convert 41 9 (.slice vA vl.length vc)).run Tryz.prog w' = .ok (.string TA) w'/\(convert 41 9 (.slice vB ul.length uc)).run Tryz.prog w' = .ok (.string TB) w') (by kernel_rfl) ⟨(by exact Y0.o),(by exact Y1.o),(by exact Z0.o),(by exact Z1.o),S1.o,S2.o,S3.o,S4.o⟩ ?_;intro hS0;refine rtk 0 ?_;refine rtk 1 ?_;refine rtk 2 ?_;refine rtk 3 ?_;refine rtk 4 ?_;refine rtk 5 ?_;refine rtk 6 ?_;refine rtk 7 ?_;refine rtk 8 ?_;refine rtk 9 ?_;refine rtk 10 ?_;refine rtk 11 ?_;refine rtk 12 ?_;refine rtk 13 ?_;refine rsk 14 ?_;refine rsk 15 ?_;refine rsk 16 ?_;refine rsk 17 ?_;refine rsk 18 ?_;refine rsk 19 ?_;refine rsk 20 ?_;refine rsk 21 ?_;refine rsk 22 ?_;refine rsk 23 ?_;refine rsk 24 ?_;refine rsk 25 ?_;refine rsk 26 ?_;refine rtk 27 ?_;refine wpAnyH_done (by kernel_rfl) ?_ _;go_wp2_with fail;go_ret;refine⟨?_,HD.o.2.drew⟩;rw[decide_eq_false (TN.o fun e=>by injection e with e5 e6;have:=E4.o;rw[decide_eq_true e5] at this;cases this)];rfl
    .cases C1
     .go_upto_region 6 with fail;refine wp_region_held_drew (S:=fun w'=>w'.cell? ⟨la,oa+i*2,none⟩=some (.slice kA kl.length kc)/\w'.cell? ⟨la,oa+i*2+1,none⟩=some (.slice vA vl.length vc)/\w'.cell? ⟨lb,ob+i*2,none⟩=some (.slice kB ml.length lc)/\w'.cell? ⟨lb,ob+i*2+1,none⟩=some (.slice vB ul.length uc)/\(convert 41 9 (.slice kA kl.length kc)).run Tryz.prog w' = .ok (.string SA) w'/\(convert 41 9 (.slice kB ml.length lc)).run Tryz.prog w' = .ok (.string SB) w'/\(convert 41 9 (.slice vA vl.length vc)).run Tryz.prog w' = .ok (.string TA) w'/\(convert 41 9 (.slice vB ul.length uc)).run Tryz.prog w' = .ok (.string TB) w') (by kernel_rfl) ⟨(by exact Y0.o),(by exact Y1.o),(by exact Z0.o),(by exact Z1.o),S1.o,S2.o,S3.o,S4.o⟩ ?_;intro hS0;refine rtk 0 ?_;refine rtk 1 ?_;refine rtk 2 ?_;refine rtk 3 ?_;refine rtk 4 ?_;refine rtk 5 ?_;refine rtk 6 ?_;refine rtk 7 ?_;refine rtk 8 ?_;refine rtk 9 ?_;refine rtk 10 ?_;refine rtk 11 ?_;refine rtk 12 ?_;refine rtk 13 ?_;refine rtk 14 ?_;refine rtk 15 ?_;refine rtk 16 ?_;refine rtk 17 ?_;refine rtk 18 ?_;refine rtk 19 ?_;refine rtk 20 ?_;refine rtk 21 ?_;refine rtk 22 ?_;refine rtk 23 ?_;refine rtk 24 ?_;refine rtk 25 ?_;refine rtk 26 ?_;refine rtk 27 ?_;refine wpAnyH_done (by kernel_rfl) ?_ _;go_wp2_with fail;go_ret;refine⟨?_,HD.o.2.drew⟩;rw[decide_eq_false (TN.o fun e=>by injection e with e5 e6;have:=G4.o;rw[decide_eq_true e6] at this;cases this)];rfl
     .go_upto_region 6 with fail;refine wp_region_held_drew (S:=fun w'=>w'.cell? ⟨la,oa+i*2,none⟩=some (.slice kA kl.length kc)/\w'.cell? ⟨la,oa+i*2+1,none⟩=some (.slice vA vl.length vc)/\w'.cell? ⟨lb,ob+i*2,none⟩=some (.slice kB ml.length lc)/\w'.cell? ⟨lb,ob+i*2+1,none⟩=some (.slice vB ul.length uc)/\(convert 41 9 (.slice kA kl.length kc)).run Tryz.prog w' = .ok (.string SA) w'/\(convert 41 9 (.slice kB ml.length lc)).run Tryz.prog w' = .ok (.string SB) w'/\(convert 41 9 (.slice vA vl.length vc)).run Tryz.prog w' = .ok (.string TA) w'/\(convert 41 9 (.slice vB ul.length uc)).run Tryz.prog w' = .ok (.string TB) w') (by kernel_rfl) ⟨(by exact Y0.o),(by exact Y1.o),(by exact Z0.o),(by exact Z1.o),S1.o,S2.o,S3.o,S4.o⟩ ?_;intro hS0;refine rtk 0 ?_;refine rtk 1 ?_;refine rtk 2 ?_;refine rtk 3 ?_;refine rtk 4 ?_;refine rtk 5 ?_;refine rtk 6 ?_;refine rtk 7 ?_;refine rtk 8 ?_;refine rtk 9 ?_;refine rtk 10 ?_;refine rtk 11 ?_;refine rtk 12 ?_;refine rtk 13 ?_;refine rtk 14 ?_;refine rtk 15 ?_;refine rtk 16 ?_;refine rtk 17 ?_;refine rtk 18 ?_;refine rtk 19 ?_;refine rtk 20 ?_;refine rtk 21 ?_;refine rtk 22 ?_;refine rtk 23 ?_;refine rtk 24 ?_;refine rtk 25 ?_;refine rtk 26 ?_;refine rtk 27 ?_;refine wpAnyH_done (by kernel_rfl) ?_ _;go_wp2_with fail;go_roundw
      .refine⟨i+1,by omega,by push_cast;rfl,?_,HD.o.2.drew⟩;rw[TAk.o,TBk.o,HD.o.1,of_decide_eq_true E4.o.symm,of_decide_eq_true G4.o.symm]
      .simp[intOf];omega
   .have hie:i=n:=by omega
    subst hie;have HE:Hid (decide (pairsE es=pairsE fs)=true):=by
     have h1:=HD.o.1;rw[List.take_of_length_le (by rw[pairs_len,HNa.o];omega),List.take_of_length_le (by rw[pairs_len,HNb.o];omega)] at h1;exact decide_eq_true h1
    go_wp2_with fail;go_ret;exact⟨by rw[HE.o];rfl,HD.o.2⟩
end
end Go.Proofs.YtmbaiglpgaoogaaGreat
