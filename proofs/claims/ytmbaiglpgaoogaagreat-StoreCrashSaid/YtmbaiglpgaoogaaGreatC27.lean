/- Joined, as they were built one by one: StRef1 StRef2 StRef3. -/
import Derived.Test.YtmbaiglpgaoogaaGreatC02
import Derived.Test.YtmbaiglpgaoogaaGreatC26
set_option maxHeartbeats 16000000
set_option linter.unusedVariables false
set_option maxRecDepth 100000
namespace Go.Proofs.YtmbaiglpgaoogaaGreat
open Go.RowKit Z
def cn (es:List En):List cW:=es.flatMap fun e=>[e.key,e.value]
def Nt (v:Value) (n:Nat):Prop:= ∃ A c,v = .slice A n c/\n<=c/\c<=maxLen/\((A=none/\c=0)\/ ∃ g,A=some ⟨g,0,none⟩)
def Ja:Value->Option Addr
 | .slice A _ _=>A
 | _=>none
def eH (v:Value) (es:List En):SP:=SP.and (Nt v es.length) (Ro (Ja v) (es.flatMap cM)*ca (cn es))
def bQ (v:Value) (M:List Kv):SP:=fun h=> ∃ es,az es=M/\eH v es h
section
variable {w0 w w':World} {F:SP} {v:Value} {M:List Kv} {es fs:List En}
theorem Sat.mp (h:Sat w0 (bQ v M*F) w): ∃ es,az es=M/\Sat w0 (eH v es*F) w:=by
 obtain⟨c,x,h1,a,g,h2,h3,⟨es,h4,h5⟩,h8⟩:=h;exact⟨es,h4,⟨c,x,h1,a,g,h2,h3,h5,h8⟩⟩
theorem Sat.Bi (h:Sat w0 (eH v es*F) w) (he:az es=M):Sat w0 (bQ v M*F) w:=by
 obtain⟨c,x,h1,a,g,h2,h3,h5,h8⟩:=h;exact⟨c,x,h1,a,g,h2,h3,⟨es,he,h5⟩,h8⟩
theorem Sat.xP (h:Sat w0 (eH v es*F) w):Nt v es.length/\Sat w0 (Ro (Ja v) (es.flatMap cM)*(ca (cn es)*F)) w:=by
 obtain⟨p,h1⟩:=Sat.pure h;exact⟨p,h1.of (aj ..)⟩
theorem Sat.CD (p:Nt v es.length) (h:Sat w0 (Ro (Ja v) (es.flatMap cM)*(ca (cn es)*F)) w):Sat w0 (eH v es*F) w:=Sat.ML p (h.of (aj ..).symm)
theorem Sat.qn (h:Sat w0 (eH v es*F) w):Sat w0 (eH v es*(eH v es*F)) w:=by
 obtain⟨p,h1⟩:=h.xP;have e:Ro (Ja v) (es.flatMap cM)*(ca (cn es)*F)=(Ro (Ja v) (es.flatMap cM)*Ro (Ja v) (es.flatMap cM))*((ca (cn es)*ca (cn es))*F):=by rw[KL,BO]
 have h2:Sat w0 (Ro (Ja v) (es.flatMap cM)*(ca (cn es)*(Ro (Ja v) (es.flatMap cM)*(ca (cn es)*F)))) w:=h1.of (e.trans (by ac_rfl));have h3:=Sat.CD p h2;have h4:Sat w0 (Ro (Ja v) (es.flatMap cM)*(ca (cn es)*(eH v es*F))) w:=h3.of (by ac_rfl);exact Sat.CD p h4
theorem Sat.vG (h:Sat w0 (bQ v M*F) w):Sat w0 (bQ v M*(bQ v M*F)) w:=by
 obtain⟨es,he,h1⟩:=h.mp;exact((h1.qn.Bi he).av.Bi he).av
theorem Sat.lW (h:Sat w0 (eH v es*F) w):Sat w0 (ca (cn es)*(eH v es*F)) w:=by
 obtain⟨p,h1⟩:=h.qn.xP;exact h1.right
theorem Sat.qh {n:Nat} (h:Sat w0 (Row 65 2 v n (es.flatMap cM)*(ca (cn es)*F)) w) (hn:es.length=n):Sat w0 (eH v es*F) w:=by
 subst hn;obtain⟨hl,⟨rfl,e2,h1⟩ | ⟨g,cap,cur,rfl,h1,h2,h3,h4,h5⟩⟩:=h.cw
 .have e3:es.flatMap cM=[]:=List.eq_nil_of_length_eq_zero (by rw[hl,e2]);refine Sat.CD ⟨none,0,by rw[e2],by omega,Nat.zero_le _,.inl ⟨rfl,rfl⟩⟩ ?_;rw[e3];exact h1.Ct _
 .refine Sat.CD ⟨_,_,rfl,h1,h2,.inr ⟨g,rfl⟩⟩ ?_;refine h5.Lz fun j hj=>?_
  have:(es.flatMap cM)[j]?=some (es.flatMap cM)[j]:=List.getElem?_eq_getElem hj;rw[Nat.zero_add, <-this, <-h4,List.getElem?_take,if_pos (by rw[<-hl];exact hj)];simp
theorem Ju (h:Sat w0 (ca (cn es)*F) w):jH w es:=fun e he=>by
 have m: ∀ y,y ∈ [e.key,e.value]->y ∈ cn es:=fun y hy=>List.mem_flatMap.2 ⟨e,he,hy⟩
 exact⟨h.Fe (m _ (by simp)),h.Fe (m _ (by simp))⟩
theorem Sat.nj (h:Sat w0 (eH v es*F) w):jH w es:=Ju h.lW
theorem Sat.mD (h:Sat w0 (eH v es*F) w): ∃ A c,v = .slice A es.length c/\es.length<=c/\c<=maxLen:=by
 obtain⟨⟨A,c,h1,h2,h3,_⟩,_⟩:=h.xP;exact⟨A,c,h1,h2,h3⟩
theorem Sat.Mw {A:Option Addr} {n c:Nat} (h:Sat w0 (eH (.slice A n c) es*F) w):(A=none/\es.length=0/\c=0)\/ ∃ g,A=some ⟨g,0,none⟩:=by
 obtain⟨⟨B,d,h1,h2,h3,h4⟩,_⟩:=h.xP;injection h1 with e1 e2 e3
 subst e1;rcases h4 with ⟨h4,h5⟩ | h4
 .exact .inl ⟨h4,by omega,by omega⟩
 .exact .inr h4
theorem Sat.jV {A:Option Addr} {c:Nat} (h:Sat w0 (eH (.slice A es.length c) es*F) w):aH w A (es.flatMap cM):=h.xP.2.rdv
theorem Sat.wy (h:Sat w0 F w):Sat w0 (bQ (.slice none 0 0) []*F) w:=by
 refine Sat.Bi (es:=[]) ?_ rfl;exact Sat.qh (n:=0) ((h.lE (cn []) (fun r hr=>by cases hr)).aI 65 2) rfl
theorem ow (h: ∀ e ∈ fs,e ∈ es): ∀ r ∈ cn fs,r ∈ cn es:=fun r hr=>by
 obtain⟨e,he,h1⟩:=List.mem_flatMap.1 hr;exact List.mem_flatMap.2 ⟨e,h e he,h1⟩
theorem tU (h:Sat w0 (bQ v M*F) w) (hl:M.length<=100000):
 Calls Tryz.prog 28 #[.agg #[v]] w fun e w'=> ∃ v',e = .returned (.agg #[v'])/\Sat w0 (bQ v' M*(bQ v M*F)) w':=by
 obtain⟨es,he,h1⟩:=h.mp;obtain⟨A,c,rfl,hc1,hc2⟩:=h1.mD;have hel:es.length<=100000:=by rw[<-bB,he];exact hl
 obtain⟨j0,hj,hy0,hy1,hy2⟩:=info_parts qj;have Hj:=ah hj;have Hy0:=ah hy0;have Hy1:=ah hy1;have Hy2:=ah hy2;have h2:=((h1.bG (b:=w.heap.size) 32 #[.slice A es.length c] rfl).bG (b:=w.heap.size+1) 32 #[.slice none 0 0] (by simp)).bG (b:=w.heap.size+1+1) 32 #[.slice none 0 0] (by simp);have HE:=ah he;clear h h1 he hj hy0 hy1 hy2 hl hc1 hc2;go_enter Tryz.func28, Tryz.ntmps28;go_upto_region 2 with fail;revert h2;generalize ((w.alloc _).alloc _).alloc _=W;intro h2;generalize w.heap.size=E at*
 have x0:=h2.cell 0;have x1:=h2.bD.cell 0;have HS:=ah ((h2.of (show _=eH (.slice A es.length c) es*(Pt (E+1+1) 32 #[.slice none 0 0]*(Pt (E+1) 32 #[.slice none 0 0]*(Pt E 32 #[.slice A es.length c]*F))) by ac_rfl)).aI 65 2);clear h2;go_upto_region 3 with (at_builtin;refine au rfl (.tmp 5) (.tmp 7) 30 rfl 65 j0 _ 2 48 Tryz.underlying30 Hj.o Hy0.o Hy1.o Hy2.o rfl (by decide) (.slice none 0 0) 0 [] rfl w0 _ (by exact HS.o) A es.length c (es.flatMap cM) rfl (by exact HS.o.right.jV) (dF es) (iA es) (by unfold maxLen;omega) (by omega) ?_;intro B4 c4 w4 hs4;simp only[Nat.zero_add,List.nil_append] at hs4 ⊢;have HS4:=ah hs4;have f0:=hs4.bD.frozen 0;have y0:=hs4.bD.cell 0;clear hs4)
 have h5:=HS4.o.bD.set 0 (.slice B4 es.length c4);revert h5;generalize w4.setCell _ _=W5;intro h5;clear f0 y0 x0 x1;have x0:W5.cell? ⟨E+1+1,0,none⟩=some (.slice B4 es.length c4):=h5.cell 0;have x1:=h5.bW.cell 0;have f1:=h5.bW.frozen 0;have h6:=h5.bW.set 0 (.slice B4 es.length c4);go_wp2_with fail;revert h6;generalize World.setCell _ _ _=W6;intro h6;refine bodyPost_ret (results_cell_row (p:=2) (by kernel_rfl) _ _ (E+1) 32 _ (0,0) _ rfl h6.at Tryz.underlying32 rfl (by kernel_rfl)) rfl ?_;refine⟨.slice B4 es.length c4,rfl,?_⟩;have h7:=h6.right.right;have h8:=(h7.of (show _=Pt E 32 #[.slice A es.length c]*(eH (.slice A es.length c) es*(Row 65 2 (.slice B4 es.length c4) es.length (es.flatMap cM)*F)) by ac_rfl)).right.lW;have h9:Sat w0 (eH (.slice B4 es.length c4) es*(eH (.slice A es.length c) es*F)) W6:=Sat.qh (h8.of (by ac_rfl)) rfl;exact((h9.Bi HE.o).av.Bi HE.o).av
end
def sV (k:List UInt8) (M:List Kv):Nat:=(M.takeWhile fun q=>decide (Lib.compareBytes q.1 k<0)).length
theorem Lx (k:List UInt8) (M:List Kv):sV k M<=M.length:=by
 unfold sV;exact(List.takeWhile_sublist _).length_le
theorem xQ {k:List UInt8}: ∀ {M:List Kv} {i:Nat} (hi:i<M.length),(∀ j (hj:j<M.length),j<i->Lib.compareBytes (M[j]'hj).1 k<0)->¬ Lib.compareBytes (M[i]'hi).1 k<0->sV k M=i
 | p::M,i,hi,h,hn=>by
  unfold sV;rw[List.takeWhile_cons]
  cases i with
  | zero=>
   have h1:¬ Lib.compareBytes p.1 k<0:=hn;rw[if_neg (by simpa using h1)];rfl
  | succ i=>
   have h1:Lib.compareBytes p.1 k<0:=h 0 (by simp) (by omega);rw[if_pos (by simpa using h1),List.length_cons];have h2:=xQ (k:=k) (M:=M) (i:=i) (by simpa using hi) (fun j hj hji=>h (j+1) (by simpa using hj) (by omega)) hn;unfold sV at h2;rw[h2]
theorem I1 {k:List UInt8} {M:List Kv} (h: ∀ j (hj:j<M.length),Lib.compareBytes (M[j]'hj).1 k<0):sV k M=M.length:=by
 unfold sV;rw[(oW (f:=fun q:Kv=>decide (Lib.compareBytes q.1 k<0)) (L:=M) (fun x hx=>by
  obtain⟨j,hj,rfl⟩:=List.mem_iff_getElem.1 hx;simpa using h j hj)).1]
def pk (k:List UInt8) (M:List Kv):Nat:=if h:sV k M<M.length then (if (M[sV k M]'h).1=k then sV k M+1 else sV k M) else sV k M
theorem Kb (p:cJ) (M:List Kv):fG p M=M.take (sV p.key M)++((if p.dead=true then [] else [(p.key,p.value)])++M.drop (pk p.key M)):=by
 have h1:M.takeWhile (fun q=>decide (Lib.compareBytes q.1 p.key<0))=M.take (sV p.key M):=by
  unfold sV;have e:=List.takeWhile_append_dropWhile (p:=fun q:Kv=>decide (Lib.compareBytes q.1 p.key<0)) (l:=M);have h2:M.take (M.takeWhile fun q=>decide (Lib.compareBytes q.1 p.key<0)).length=(M.takeWhile (fun q=>decide (Lib.compareBytes q.1 p.key<0))++M.dropWhile (fun q=>decide (Lib.compareBytes q.1 p.key<0))).take (M.takeWhile fun q=>decide (Lib.compareBytes q.1 p.key<0)).length:=by rw[e]
  rw[h2,List.take_left'];rfl
 have h3:M.dropWhile (fun q=>decide (Lib.compareBytes q.1 p.key<0))=M.drop (sV p.key M):=by
  unfold sV;have e:=List.takeWhile_append_dropWhile (p:=fun q:Kv=>decide (Lib.compareBytes q.1 p.key<0)) (l:=M);have h2:M.drop (M.takeWhile fun q=>decide (Lib.compareBytes q.1 p.key<0)).length=(M.takeWhile (fun q=>decide (Lib.compareBytes q.1 p.key<0))++M.dropWhile (fun q=>decide (Lib.compareBytes q.1 p.key<0))).drop (M.takeWhile fun q=>decide (Lib.compareBytes q.1 p.key<0)).length:=by rw[e]
  rw[h2,List.drop_left'];rfl
 unfold fG;rw[h1,h3];congr 2
 unfold pk;by_cases h:sV p.key M<M.length
 .rw[dif_pos h,List.drop_eq_getElem_cons h];by_cases h4:(M[sV p.key M]).1=p.key
  .rw[if_pos h4];simp only[h4,if_true]
  .rw[if_neg h4,List.drop_eq_getElem_cons h];simp only[h4,if_false]
 .rw[dif_neg h,List.drop_of_length_le (by omega)]
section
variable {w0 w w':World} {F:SP}
theorem AZ (es:List En) (k:Nat):(es.flatMap cM).drop (k*2)=(es.drop k).flatMap cM:=by
 have e:es.flatMap cM=(es.take k).flatMap cM++(es.drop k).flatMap cM:=by rw[<-List.flatMap_append,List.take_append_drop]
 by_cases hk:k<=es.length
 .rw[e,List.drop_left'];rw[dF,List.length_take,Nat.min_eq_left hk]
 .rw[List.drop_of_length_le (l:=es) (by omega),List.drop_of_length_le (by rw[dF];omega)];rfl
theorem ku {A:Option Addr} {v:Value} {es gs:List En} {g m q c y:Nat} {ty:TypeId} {cs:Array Value} {X:SP} {M':List Kv} (h:Sat w0 (Row 65 2 (.slice A (m+q) c) (m+q) (gs.flatMap cM++(es.drop y).flatMap cM)*(ca (cn gs)*(X*(Pt g ty cs*(eH v es*F))))) w) (hm:gs.length=m) (hq:es.length - y=q) (hp:az (gs++es.drop y)=M'):
 Sat w0 (Pt g ty (cs.setIfInBounds 0 (.slice A (m+q) c))*(bQ (.slice A (m+q) c) M'*F)) (w.setCell ⟨g,0,none⟩ (.slice A (m+q) c)):=by
 have h1:=h.bW.set 0 (.slice A (m+q) c);generalize w.setCell ⟨g,0,none⟩ (.slice A (m+q) c)=W at*
 have h2:=(h1.of (show _=eH v es*(X*(ca (cn gs)*(Row 65 2 (.slice A (m+q) c) (m+q) (gs.flatMap cM++(es.drop y).flatMap cM)*(Pt g ty (cs.setIfInBounds 0 (.slice A (m+q) c))*F)))) by ac_rfl)).lW.fS (ow (fs:=es.drop y) fun e he=>List.mem_of_mem_drop he);have h3:=(h2.of (show _=eH v es*(X*(ca (cn gs)*(ca (cn (es.drop y))*(Row 65 2 (.slice A (m+q) c) (m+q) (gs.flatMap cM++(es.drop y).flatMap cM)*(Pt g ty (cs.setIfInBounds 0 (.slice A (m+q) c))*F))))) by ac_rfl)).right.right.iL;have e1:cn (gs++es.drop y)=cn gs++cn (es.drop y):=by unfold cn;rw[List.flatMap_append]
 have e2:(gs++es.drop y).length=m+q:=by rw[List.length_append,List.length_drop,hm,hq]
 rw[<-e1] at h3;have h4:Sat w0 (eH (.slice A (m+q) c) (gs++es.drop y)*(Pt g ty (cs.setIfInBounds 0 (.slice A (m+q) c))*F)) W:=by
  refine Sat.qh (n:=m+q) ?_ e2;rw[List.flatMap_append];exact h3.of (by ac_rfl)
 exact(h4.Bi hp).av
theorem GQ:(Tryz.prog.info? 5).map (fun i=>(i.zero,i.size,i.bytes))=some (some (.int .u8 0),1,1):=by kernel_rfl
theorem Eb (g:Nat) (ty:TypeId) (cs:Array Value) (v:Value) (M:List Kv) (p:Pu) (hv:cs[0]?=some v) (h:Sat w0 (Pt g ty cs*(bQ v M*F)) w) (hl:M.length<=10000) (hp: ∀ W,Sat w0 F W->MX W p) (hz:p.key.2.2.length<=1000000/\p.value.2.2.length<=1000000):
 Calls Tryz.prog 75 #[.pointer (some ⟨g,0,none⟩),.agg #[aO p.key,aO p.value,.bool p.dead]] w fun e w'=>e = .returned (.tuple #[])/\ ∃ v',Sat w0 (Pt g ty (cs.setIfInBounds 0 v')*(bQ v' (fG p.bE M)*F)) w':=by
 obtain⟨es,he,h1⟩:=h.av.mp;obtain⟨LA,lc,rfl,hlc1,hlc2⟩:=h1.mD;obtain⟨⟨kA,kc,kl⟩,⟨vA,vc,vl⟩,dd⟩:=p;obtain⟨hz1,hz2⟩:=hz;replace hz1:kl.length<=1000000:=hz1;replace hz2:vl.length<=1000000:=hz2;have hn:es.length<=10000:=by rw[<-bB,he];exact hl
 have HPe:Hid (∀ gs:List En,az gs=M.take (sV kl M)++(if dd=true then [] else [(kl,vl)])->az (gs++es.drop (pk kl M))=fG ⟨kl,vl,dd⟩ M):=ah fun gs hg=>by
  have e9:az (es.drop (pk kl M))=M.drop (pk kl M):=by rw[<-he];unfold az;rw[List.map_drop]
  rw[dY,hg,e9,Kb,List.append_assoc]
 obtain⟨j0,hj,hy0,hy1,hy2⟩:=info_parts qj;obtain⟨j1,hj1,hu0,hu1,hu2⟩:=info_parts GQ;have Hj:=ah hj;have Hy0:=ah hy0;have Hy1:=ah hy1;have Hy2:=ah hy2;have Hj1:=ah hj1;have Hz0:=ah hu0;have Hz1:=ah hu1;have Hz2:=ah hu2;have h2:=h1.av.bG (b:=w.heap.size) 43 #[.slice kA kl.length kc,.slice vA vl.length vc,.bool dd] rfl;obtain⟨z,hzd⟩: ∃ z,z=sV kl M:=⟨_,rfl⟩;obtain⟨y,hyd⟩: ∃ y,y=pk kl M:=⟨_,rfl⟩;have hzn:z<=es.length:=by rw[hzd, <-bB,he];exact Lx kl M
 have HZ:=ah hzd;have HY:=ah hyd;have HE:=ah he;have HPr:Hid (∀ W,Sat w0 F W->Rd W kA kl/\Rd W vA vl):=ah fun W hW=>hp W hW
 have HCs:=ah hv;have hEl: ∀ i (hi:i<es.length),(M[i]'(by rw[<-he,bB];exact hi)).1=es[i].key.2.2:=fun i hi=>by
  subst he;unfold az;rw[List.getElem_map];rfl
 have HEl:=ah hEl;clear hj hy0 hy1 hy2 hj1 hu0 hu1 hu2 h h1 hzd hyd hp hv hEl;show Calls Tryz.prog 75 #[.pointer (some ⟨g,0,none⟩),.agg #[.slice kA kl.length kc,.slice vA vl.length vc,.bool dd]] w _;go_enter Tryz.func75, Tryz.ntmps75;go_upto_region 1 with fail;revert h2;generalize w.alloc _=W1;intro h2;generalize w.heap.size=E at*
 have HS:=ah h2;clear h2;go_upto_block 0 with fail
 go_cut [4,5] (fun ov iv wx=> ∃ (d:Nat) (B:Option Addr),ov = .slice B z d/\iv = .int .i64 (z:Int)/\Hid (Sat w0 (Row 65 2 (.slice B z d) z ((es.take z).flatMap cM)*(Pt E 43 #[.slice kA kl.length kc,.slice vA vl.length vc,.bool dd]*(Pt g ty cs*(eH (.slice LA es.length lc) es*F)))) wx))
 case first=>
  go_wp2_with fail;go_loopw [4,5] (fun ov iv wr=> ∃ (i d:Nat) (B:Option Addr),i<=es.length/\iv = .int .i64 (i:Int)/\ov = .slice B i d/\Hid ((∀ j (hj:j<es.length),j<i->Lib.compareBytes es[j].key.2.2 kl<0)/\Sat w0 (Row 65 2 (.slice B i d) i ((es.take i).flatMap cM)*(Pt E 43 #[.slice kA kl.length kc,.slice vA vl.length vc,.bool dd]*(Pt g ty cs*(eH (.slice LA es.length lc) es*F)))) wr)) (fun _ iv _=>es.length - (intOf iv).toNat)
  case atStart=>exact⟨0,0,none,by omega,rfl,rfl,(fun j hj h=>by omega),HS.o.aI 65 2⟩
  case round=>
   obtain⟨i,d,B,hi,rfl,rfl,HD⟩:=hrel;have hsr:=HD.o.2.drew;have c0:wr.drew.cell? ⟨g,0,none⟩=some (.slice LA es.length lc):=(hsr.bD.cell 0).trans HCs.o;have hEn:=hsr.right.right.right.nj;by_cases hlt:i<es.length
   .obtain⟨lb,lo,rfl,hq⟩:=mK hsr.right.right.right.jV (by omega);obtain⟨y0,y1⟩:=hq i hlt;have ra:=hEn _ (List.getElem_mem hlt);obtain⟨SA,SB,B1,e1,e2,e3,e4⟩:=sA es[i].key.2.2 kl;have s1:=cK ra.1 es[i].key.2.1;have s2:=cK (HPr.o _ hsr.right.right.right.right).1 kc;rw[<-e1] at s1;rw[<-e2] at s2;have HB4:Hid (B1=true↔Lib.compareBytes es[i].key.2.2 kl<0):=ah (by rw[e4,iQ,decide_eq_true_iff]);have HTk:Hid ((es.take (i+1)).flatMap cM=(es.take i).flatMap cM++cM es[i]):=ah (by rw[List.take_add_one,List.getElem?_eq_getElem hlt,List.flatMap_append];rfl);have HMi:Hid ((M[i]'(by rw[<-he,bB];exact hlt)).1=es[i].key.2.2):=HEl.o i hlt;have HLs:Hid (∀ j (hj:j<es.length),j<i->Lib.compareBytes es[j].key.2.2 kl<0):=HD.o.1;have HLq:Hid (Lib.compareBytes es[i].key.2.2 kl<0-> ∀ j (hj:j<es.length),j<i+1->Lib.compareBytes es[j].key.2.2 kl<0):=ah fun h0 j hj hji=>by
     by_cases e:j=i
     .subst e;exact h0
     .exact HD.o.1 j hj (by omega)
    clear hq ra e1 e2 e4;generalize es[i]=q at*
    obtain⟨⟨kB,kd,kl0⟩,⟨vB,vd,vl0⟩,eq0,dd0⟩:=q;replace y0:_=some (Value.slice kB kl0.length kd):=y0;replace y1:_=some (Value.slice vB vl0.length vd):=y1;dsimp only at s1 HB4;have hii:(i:Int)<es.length:=by omega
    have E3:=ah e3;have C0:=ah c0;have Y0:=ah y0;have Y1:=ah y1;have G0:Hid (wr.drew.cell? ⟨g,0,none⟩=some (.slice (some ⟨lb,lo,none⟩) es.length lc)/\wr.drew.cell? ⟨lb,lo+i*2,none⟩=some (.slice kB kl0.length kd)/\wr.drew.cell? ⟨E,0,none⟩=some (.slice kA kl.length kc)/\(convert 41 9 (.slice kB kl0.length kd)).run Tryz.prog wr.drew = .ok (.string SA) wr.drew/\(convert 41 9 (.slice kA kl.length kc)).run Tryz.prog wr.drew = .ok (.string SB) wr.drew):=ah ⟨c0,y0,hsr.av.cell 0,s1,s2⟩;clear c0 y0 y1 s1 s2 hEn e3;go_upto_region 3 with fail
    cases B1 with
    | true=>
     have hLs:=HLq.o (HB4.o.1 rfl);have e3:=E3.o;refine wp_region_held_drew (S:=fun w'=>w'.cell? ⟨g,0,none⟩=some (.slice (some ⟨lb,lo,none⟩) es.length lc)/\w'.cell? ⟨lb,lo+i*2,none⟩=some (.slice kB kl0.length kd)/\w'.cell? ⟨E,0,none⟩=some (.slice kA kl.length kc)/\(convert 41 9 (.slice kB kl0.length kd)).run Tryz.prog w' = .ok (.string SA) w'/\(convert 41 9 (.slice kA kl.length kc)).run Tryz.prog w' = .ok (.string SB) w') (by kernel_rfl) G0.o ?_;intro hS0;refine an 0 1 2 3 ?_;refine an 4 5 6 7 ?_;refine an 8 9 10 11 ?_;refine an 12 13 14 15 ?_;refine an 16 17 18 19 ?_;refine cm 20 21 ?_;refine wpAnyH_done (by kernel_rfl) ?_ _;obtain⟨W2,hW2⟩: ∃ W2,W2=wr.drew:=⟨_,rfl⟩;have c0:=C0.o;have y0:=Y0.o;have y1:=Y1.o;rw[<-hW2] at c0 y0 y1 hsr;rw[<-hW2];have HSa:=ah (hsr.aC (.cells #[.slice kB kl0.length kd,.slice vB vl0.length vd] 65));have HLs2:=ah hLs;clear hW2 e3 hLs hsr G0 hS0;go_wp2_with (at_builtin;refine au rfl (.tmp 28) (.tmp 36) 30 rfl 65 j0 _ 2 48 Tryz.underlying30 Hj.o Hy0.o Hy1.o Hy2.o rfl (by decide) (.slice B i d) i ((es.take i).flatMap cM) rfl w0 _ (by exact HSa.o) (some ⟨W2.heap.size,0,none⟩) 1 1 [.slice kB kl0.length kd,.slice vB vl0.length vd] rfl (by exact(aL _ _ _)) rfl (by intro u hu;simp at hu;rcases hu with rfl | rfl<;>rfl) (by unfold maxLen;omega) (by omega) ?_;intro B7 c7 w7 hs7;have HS7:=ah hs7;clear hs7);go_roundw
     .refine⟨i+1,c7,B7,by omega,by push_cast;rfl,rfl,HLs2.o,?_⟩;rw[HTk.o];exact HS7.o
     .simp[intOf];omega
    | false=>
     have HIz:Hid (i=z):=ah (by
      rw[HZ.o];exact(xQ (by rw[<-he,bB];exact hlt) (fun j hj hji=>by
       have hj2:j<es.length:=by omega
       rw[HEl.o j hj2];exact HLs.o j hj2 hji) (by
       rw[HMi.o];intro h0;have:=HB4.o.2 h0
       cases this)).symm)
     have e3:=E3.o;refine wp_region_held_drew (S:=fun w'=>w'.cell? ⟨g,0,none⟩=some (.slice (some ⟨lb,lo,none⟩) es.length lc)/\w'.cell? ⟨lb,lo+i*2,none⟩=some (.slice kB kl0.length kd)/\w'.cell? ⟨E,0,none⟩=some (.slice kA kl.length kc)/\(convert 41 9 (.slice kB kl0.length kd)).run Tryz.prog w' = .ok (.string SA) w'/\(convert 41 9 (.slice kA kl.length kc)).run Tryz.prog w' = .ok (.string SB) w') (by kernel_rfl) G0.o ?_;intro hS0;refine an 0 1 2 3 ?_;refine an 4 5 6 7 ?_;refine an 8 9 10 11 ?_;refine an 12 13 14 15 ?_;refine an 16 17 18 19 ?_;refine cm 20 21 ?_;refine wpAnyH_done (by kernel_rfl) ?_ _;go_wp2_with fail;go_meet
     exact⟨d,B,by rw[<-HIz.o],by rw[<-HIz.o],by rw[<-HIz.o];exact hsr⟩
   .have hie:i=es.length:=by omega
    have HIz:Hid (i=z):=ah (by
     rw[HZ.o,I1 (fun j hj=>by
      have hj2:j<es.length:=by rw[<-bB,he];exact hj
      rw[HEl.o j hj2];exact HD.o.1 j hj2 (by omega)), <-he,bB]
     exact hie)
    have hii:¬ (i:Int)<es.length:=by omega
    have G0:=ah c0;clear c0 hEn;go_upto_region 3 with fail;refine wp_region_held_drew (S:=fun w'=>w'.cell? ⟨g,0,none⟩=some (.slice LA es.length lc)) (by kernel_rfl) G0.o ?_;intro hS0;refine an 0 1 2 3 ?_;refine an 4 5 6 7 ?_;refine cD 8 ?_;refine cD 9 ?_;refine cD 10 ?_;refine cD 11 ?_;refine cD 12 ?_;refine cD 13 ?_;refine cD 14 ?_;refine cD 15 ?_;refine cD 16 ?_;refine cD 17 ?_;refine cD 18 ?_;refine cD 19 ?_;refine cD 20 ?_;refine cH 21 ?_;refine wpAnyH_done (by kernel_rfl) ?_ _;go_wp2_with fail;go_meet
    exact⟨d,B,by rw[<-HIz.o,hie],by rw[<-HIz.o,hie],by rw[<-HIz.o];exact hsr⟩
 case rest=>
  obtain⟨d,B,rfl,rfl,HD⟩:=hcut;have hx0:Sat w0 (Row 65 2 (.slice B z d) z ((es.take z).flatMap cM)*(ca (cn (es.take z))*(Pt E 43 #[.slice kA kl.length kc,.slice vA vl.length vc,.bool dd]*(Pt g ty cs*(eH (.slice LA es.length lc) es*F))))) wc:=by
   have h1:=(HD.o.of (show _=eH (.slice LA es.length lc) es*(Row 65 2 (.slice B z d) z ((es.take z).flatMap cM)*(Pt E 43 #[.slice kA kl.length kc,.slice vA vl.length vc,.bool dd]*(Pt g ty cs*F))) by ac_rfl)).lW.fS (ow (fs:=es.take z) fun e he=>List.mem_of_mem_take he);exact h1.of (by ac_rfl)
  obtain⟨fs,hfs⟩: ∃ fs,fs=es.take z:=⟨_,rfl⟩;rw[<-hfs] at hx0;have HFl:Hid (fs.length=z):=ah (by rw[hfs,List.length_take];omega);have HFp:Hid (az fs=M.take z):=ah (by rw[hfs,zA,he]);have HX0:=ah hx0;clear hfs hx0 HD;refine ‹∀ (a:Act) (w:World),Code.wp _ _ _ a w->_› _ _ ?_
  apply wp_seq_k;intro _ _;go_cut [4] (fun ov wx=> ∃ (m d:Nat) (B:Option Addr) (gs:List En),ov = .slice B m d/\Hid (gs.length=m/\m<=z+1/\az gs=M.take z++(if dd=true then [] else [(kl,vl)])/\Sat w0 (Row 65 2 (.slice B m d) m (gs.flatMap cM)*(ca (cn gs)*(Pt E 43 #[.slice kA kl.length kc,.slice vA vl.length vc,.bool dd]*(Pt g ty cs*(eH (.slice LA es.length lc) es*F))))) wx))
  case first=>
   have c2:wc.cell? ⟨E,2,none⟩=some (.bool dd):=HX0.o.bD.cell 2
   cases dd with
   | true=>
    go_wp2_with fail;go_meet
    exact⟨z,d,B,fs,rfl,HFl.o,by omega,by rw[HFp.o];simp,HX0.o⟩
   | false=>
    go_upto_region 7 with fail;clear c2;generalize wc=W at*
    obtain⟨Z,hZ⟩: ∃ Z,Z=Pt E 43 #[.slice kA kl.length kc,.slice vA vl.length vc,.bool false]*(Pt g ty cs*(eH (.slice LA es.length lc) es*F)):=⟨_,rfl⟩;obtain⟨Y,hY⟩: ∃ Y,Y=ca (cn fs)*Z:=⟨_,rfl⟩;obtain⟨X,hX⟩: ∃ X,X=Row 65 2 (.slice B z d) z (fs.flatMap cM)*Y:=⟨_,rfl⟩;have HYE:Hid (∀ v,Sat w0 Y v->v.cell? ⟨E,0,none⟩=some (.slice kA kl.length kc)/\v.cell? ⟨E,1,none⟩=some (.slice vA vl.length vc)):=ah fun v hv=>by
     rw[hY,hZ] at hv;exact⟨hv.av.cell 0,hv.av.cell 1⟩
    have HXE:Hid (∀ v,Sat w0 X v->v.cell? ⟨E,0,none⟩=some (.slice kA kl.length kc)/\v.cell? ⟨E,1,none⟩=some (.slice vA vl.length vc)):=ah fun v hv=>by
     rw[hX] at hv;exact HYE.o _ hv.right
    have HXR:Hid (∀ v,Sat w0 X v->Rd v kA kl/\Rd v vA vl):=ah fun v hv=>by
     rw[hX,hY,hZ] at hv;exact HPr.o _ hv.right.right.right.right.right
    have HSW:Hid (Sat w0 X W):=ah (by rw[hX,hY,hZ];exact HX0.o);refine wp_region_held_drew (S:=fun w'=>w'.cell? ⟨E,0,none⟩=some (.slice kA kl.length kc)/\w'.cell? ⟨E,1,none⟩=some (.slice vA vl.length vc)) (by kernel_rfl) (HXE.o _ HSW.o.drew) ?_;intro hS0;refine an 0 2 3 6 ?_;refine cH 7 ?_;refine dc (i:=1) (j:=5) rfl rfl (by kernel_rfl) (fun K hK=>?_) (fun K hK=>?_)
    ·
     go_simp;have hs:=((HSW.o.af 5 #[]).ef (n:=0) (cap:=0) (size:=1) (Nat.le_refl _) (Nat.zero_le _) rfl).drew;obtain⟨v1,hv1⟩: ∃ v,v=(W.alloc (.cells #[] 5)).drew:=⟨_,rfl⟩;obtain⟨g1,hg1⟩: ∃ x,x=W.heap.size:=⟨_,rfl⟩;rw[<-hv1, <-hg1] at hs;rw[<-hv1, <-hg1];have HS1:=ah hs;clear hs hv1 hg1;refine hK.out _ _ (HXE.o _ (Sat.right HS1.o)) (fun hS0=>?_);clear hK K;refine dc (i:=4) (j:=5) rfl rfl (by kernel_rfl) (fun K hK=>?_) (fun K hK=>?_)
     ·
      refine aQ rfl (.tmp 44) (.tmp 46) 41 rfl 5 j1 _ 1 1 Tryz.underlying41 Hj1.o Hz0.o Hz1.o Hz2.o rfl (by decide) (.slice (some ⟨g1,0,none⟩) 0 0) 0 [] rfl w0 _ (by exact HS1.o) kA kl.length kc (kl.map bv) rfl (by exact(HXR.o _ HS1.o.right).1) (by simp) (by intro u hu;obtain⟨b,_,rfl⟩:=List.mem_map.1 hu;rfl) (by unfold maxLen;omega) (by omega) ?_;intro A4 c4 v4 hs;simp only[Nat.zero_add,List.nil_append] at hs ⊢;have HS4:=ah hs;clear hs;refine hK.out _ _ (HXE.o _ (Sat.right HS4.o)) (fun hS0=>?_);clear hK K
      try simp only[Act.put,jt,jA,jy]
      refine bR 5 fun K hK=>?_
      go_simp;have hs:=(HS4.o.af 5 #[]).ef (n:=0) (cap:=0) (size:=1) (Nat.le_refl _) (Nat.zero_le _) rfl;obtain⟨v5,hv5⟩: ∃ v,v=v4.alloc (.cells #[] 5):=⟨_,rfl⟩;obtain⟨g5,hg5⟩: ∃ x,x=v4.heap.size:=⟨_,rfl⟩;rw[<-hv5, <-hg5] at hs;rw[<-hv5, <-hg5];have HS5:=ah hs;clear hs hv5 hg5;refine hK.out _ _ (HXE.o _ (Sat.right (Sat.right HS5.o))) (fun hS0=>?_);clear hK K;refine bR 8 fun K hK=>?_
      refine aQ rfl (.tmp 48) (.tmp 50) 41 rfl 5 j1 _ 1 1 Tryz.underlying41 Hj1.o Hz0.o Hz1.o Hz2.o rfl (by decide) (.slice (some ⟨g5,0,none⟩) 0 0) 0 [] rfl w0 _ (by exact HS5.o) vA vl.length vc (vl.map bv) rfl (by exact(HXR.o _ HS5.o.right.right).2) (by simp) (by intro u hu;obtain⟨b,_,rfl⟩:=List.mem_map.1 hu;rfl) (by unfold maxLen;omega) (by omega) ?_;intro A8 c8 v8 hs;simp only[Nat.zero_add,List.nil_append] at hs ⊢;have HS8:=ah hs;clear hs;refine hK.out _ _ (HXE.o _ (Sat.right (Sat.right HS8.o))) (fun hS0=>?_);clear hK K
      try simp only[Act.put,jt,jA,jy]
      refine cH 9 ?_;refine bR 10 fun K hK=>?_
      go_simp;have HS10:=ah ((HS8.o.av).aC (.cells #[.slice A4 kl.length c4,.slice A8 vl.length c8] 65));refine hK.out _ _ (HXE.o _ (Sat.right (Sat.right HS10.o))) (fun hS0=>?_);clear hK K;refine bR 11 fun K hK=>?_
      have hs10:=HS10.o;rw[hX] at hs10;refine aQ rfl (.tmp 43) (.tmp 53) 30 rfl 65 j0 _ 2 48 Tryz.underlying30 Hj.o Hy0.o Hy1.o Hy2.o rfl (by decide) (.slice B z d) z (fs.flatMap cM) rfl w0 _ (by exact hs10.of (show _=Row 65 2 (.slice B z d) z (fs.flatMap cM)*(Row 5 1 (.slice A4 kl.length c4) kl.length (kl.map bv)*(Row 5 1 (.slice A8 vl.length c8) vl.length (vl.map bv)*Y)) by ac_rfl)) (some ⟨v8.heap.size,0,none⟩) 1 1 [.slice A4 kl.length c4,.slice A8 vl.length c8] rfl (by exact(aL _ _ _)) rfl (by intro u hu;simp at hu;rcases hu with rfl | rfl<;>rfl) (by unfold maxLen;omega) (by omega) ?_;intro A11 c11 w11 hs;have HS11:=ah hs;clear hs hs10;refine hK.out _ _ (HYE.o _ (Sat.right (Sat.right (Sat.right HS11.o)))) (fun hS0=>?_);clear hK K
      try simp only[Act.put,jt,jA,jy]
      refine cH 12 ?_;refine wpAnyH_done (by kernel_rfl) ?_ _;go_wp2_with fail;go_meet
      have h1:=HS11.o.av.eI;have h2:=(h1.of (show _=Row 5 1 (.slice A8 vl.length c8) vl.length (vl.map bv)*(ca [(A4,c4,kl)]*(Row 65 2 (.slice A11 (z+1) c11) (z+1) (fs.flatMap cM++[.slice A4 kl.length c4,.slice A8 vl.length c8])*Y)) by ac_rfl)).eI;rw[hY] at h2;have h3:=(h2.of (show _=ca (cn fs)*(ca [(A4,c4,kl)]*(ca [(A8,c8,vl)]*(Row 65 2 (.slice A11 (z+1) c11) (z+1) (fs.flatMap cM++[.slice A4 kl.length c4,.slice A8 vl.length c8])*Z))) by ac_rfl)).iL.iL;refine⟨z+1,c11,A11,fs++[⟨(A4,c4,kl),(A8,c8,vl),0,false⟩],rfl,?_,Nat.le_refl _,?_,?_⟩
      .rw[List.length_append,HFl.o];rfl
      .rw[dY,HFp.o];rfl
      .have e1:cn (fs++[⟨(A4,c4,kl),(A8,c8,vl),0,false⟩])=cn fs++[(A4,c4,kl)]++[(A8,c8,vl)]:=by
        unfold cn;rw[List.flatMap_append,List.append_assoc];rfl
       rw[e1,List.flatMap_append];exact h3.of (by rw[hZ];show _=Row 65 2 (.slice A11 (z+1) c11) (z+1) (fs.flatMap cM++[.slice A4 kl.length c4,.slice A8 vl.length c8])*_;ac_rfl)
     ·
      go_simp;have hs:=(HS1.o.af 5 #[]).ef (n:=0) (cap:=0) (size:=1) (Nat.le_refl _) (Nat.zero_le _) rfl;obtain⟨v5,hv5⟩: ∃ v,v=v1.alloc (.cells #[] 5):=⟨_,rfl⟩;obtain⟨g5,hg5⟩: ∃ x,x=v1.heap.size:=⟨_,rfl⟩;rw[<-hv5, <-hg5] at hs;rw[<-hv5, <-hg5];have HS5:=ah hs;clear hs hv5 hg5;refine hK.out _ _ (HXE.o _ (Sat.right (Sat.right HS5.o))) (fun hS0=>?_);clear hK K;refine bR 4 fun K hK=>?_
      refine aQ rfl (.tmp 44) (.tmp 46) 41 rfl 5 j1 _ 1 1 Tryz.underlying41 Hj1.o Hz0.o Hz1.o Hz2.o rfl (by decide) (.slice (some ⟨g1,0,none⟩) 0 0) 0 [] rfl w0 _ (by exact HS5.o.av) kA kl.length kc (kl.map bv) rfl (by exact(HXR.o _ HS5.o.right.right).1) (by simp) (by intro u hu;obtain⟨b,_,rfl⟩:=List.mem_map.1 hu;rfl) (by unfold maxLen;omega) (by omega) ?_;intro A4 c4 v4 hs;simp only[Nat.zero_add,List.nil_append] at hs ⊢;have HS4:=ah hs;clear hs;refine hK.out _ _ (HXE.o _ (Sat.right (Sat.right HS4.o))) (fun hS0=>?_);clear hK K
      try simp only[Act.put,jt,jA,jy]
      refine bR 8 fun K hK=>?_
      refine aQ rfl (.tmp 48) (.tmp 50) 41 rfl 5 j1 _ 1 1 Tryz.underlying41 Hj1.o Hz0.o Hz1.o Hz2.o rfl (by decide) (.slice (some ⟨g5,0,none⟩) 0 0) 0 [] rfl w0 _ (by exact HS4.o.av) vA vl.length vc (vl.map bv) rfl (by exact(HXR.o _ HS4.o.right.right).2) (by simp) (by intro u hu;obtain⟨b,_,rfl⟩:=List.mem_map.1 hu;rfl) (by unfold maxLen;omega) (by omega) ?_;intro A8 c8 v8 hs;simp only[Nat.zero_add,List.nil_append] at hs ⊢;have HS8:=ah hs;clear hs;refine hK.out _ _ (HXE.o _ (Sat.right (Sat.right HS8.o))) (fun hS0=>?_);clear hK K
      try simp only[Act.put,jt,jA,jy]
      refine cH 9 ?_;refine bR 10 fun K hK=>?_
      go_simp;have HS10:=ah ((HS8.o.av).aC (.cells #[.slice A4 kl.length c4,.slice A8 vl.length c8] 65));refine hK.out _ _ (HXE.o _ (Sat.right (Sat.right HS10.o))) (fun hS0=>?_);clear hK K;refine bR 11 fun K hK=>?_
      have hs10:=HS10.o;rw[hX] at hs10;refine aQ rfl (.tmp 43) (.tmp 53) 30 rfl 65 j0 _ 2 48 Tryz.underlying30 Hj.o Hy0.o Hy1.o Hy2.o rfl (by decide) (.slice B z d) z (fs.flatMap cM) rfl w0 _ (by exact hs10.of (show _=Row 65 2 (.slice B z d) z (fs.flatMap cM)*(Row 5 1 (.slice A4 kl.length c4) kl.length (kl.map bv)*(Row 5 1 (.slice A8 vl.length c8) vl.length (vl.map bv)*Y)) by ac_rfl)) (some ⟨v8.heap.size,0,none⟩) 1 1 [.slice A4 kl.length c4,.slice A8 vl.length c8] rfl (by exact(aL _ _ _)) rfl (by intro u hu;simp at hu;rcases hu with rfl | rfl<;>rfl) (by unfold maxLen;omega) (by omega) ?_;intro A11 c11 w11 hs;have HS11:=ah hs;clear hs hs10;refine hK.out _ _ (HYE.o _ (Sat.right (Sat.right (Sat.right HS11.o)))) (fun hS0=>?_);clear hK K
      try simp only[Act.put,jt,jA,jy]
      refine cH 12 ?_;refine wpAnyH_done (by kernel_rfl) ?_ _;go_wp2_with fail;go_meet
      have h1:=HS11.o.av.eI;have h2:=(h1.of (show _=Row 5 1 (.slice A8 vl.length c8) vl.length (vl.map bv)*(ca [(A4,c4,kl)]*(Row 65 2 (.slice A11 (z+1) c11) (z+1) (fs.flatMap cM++[.slice A4 kl.length c4,.slice A8 vl.length c8])*Y)) by ac_rfl)).eI;rw[hY] at h2;have h3:=(h2.of (show _=ca (cn fs)*(ca [(A4,c4,kl)]*(ca [(A8,c8,vl)]*(Row 65 2 (.slice A11 (z+1) c11) (z+1) (fs.flatMap cM++[.slice A4 kl.length c4,.slice A8 vl.length c8])*Z))) by ac_rfl)).iL.iL;refine⟨z+1,c11,A11,fs++[⟨(A4,c4,kl),(A8,c8,vl),0,false⟩],rfl,?_,Nat.le_refl _,?_,?_⟩
      .rw[List.length_append,HFl.o];rfl
      .rw[dY,HFp.o];rfl
      .have e1:cn (fs++[⟨(A4,c4,kl),(A8,c8,vl),0,false⟩])=cn fs++[(A4,c4,kl)]++[(A8,c8,vl)]:=by
        unfold cn;rw[List.flatMap_append,List.append_assoc];rfl
       rw[e1,List.flatMap_append];exact h3.of (by rw[hZ];show _=Row 65 2 (.slice A11 (z+1) c11) (z+1) (fs.flatMap cM++[.slice A4 kl.length c4,.slice A8 vl.length c8])*_;ac_rfl)
    ·
     go_simp;have hs:=((HSW.o.af 5 #[]).ef (n:=0) (cap:=0) (size:=1) (Nat.le_refl _) (Nat.zero_le _) rfl).drew;obtain⟨v5,hv5⟩: ∃ v,v=(W.alloc (.cells #[] 5)).drew:=⟨_,rfl⟩;obtain⟨g5,hg5⟩: ∃ x,x=W.heap.size:=⟨_,rfl⟩;rw[<-hv5, <-hg5] at hs;rw[<-hv5, <-hg5];have HS5:=ah hs;clear hs hv5 hg5;refine hK.out _ _ (HXE.o _ (Sat.right HS5.o)) (fun hS0=>?_);clear hK K;refine bR 1 fun K hK=>?_
     go_simp;have hs:=(HS5.o.af 5 #[]).ef (n:=0) (cap:=0) (size:=1) (Nat.le_refl _) (Nat.zero_le _) rfl;obtain⟨v1,hv1⟩: ∃ v,v=v5.alloc (.cells #[] 5):=⟨_,rfl⟩;obtain⟨g1,hg1⟩: ∃ x,x=v5.heap.size:=⟨_,rfl⟩;rw[<-hv1, <-hg1] at hs;rw[<-hv1, <-hg1];have HS1:=ah hs;clear hs hv1 hg1;refine hK.out _ _ (HXE.o _ (Sat.right (Sat.right HS1.o))) (fun hS0=>?_);clear hK K;refine bR 4 fun K hK=>?_
     refine aQ rfl (.tmp 44) (.tmp 46) 41 rfl 5 j1 _ 1 1 Tryz.underlying41 Hj1.o Hz0.o Hz1.o Hz2.o rfl (by decide) (.slice (some ⟨g1,0,none⟩) 0 0) 0 [] rfl w0 _ (by exact HS1.o) kA kl.length kc (kl.map bv) rfl (by exact(HXR.o _ HS1.o.right.right).1) (by simp) (by intro u hu;obtain⟨b,_,rfl⟩:=List.mem_map.1 hu;rfl) (by unfold maxLen;omega) (by omega) ?_;intro A4 c4 v4 hs;simp only[Nat.zero_add,List.nil_append] at hs ⊢;have HS4:=ah hs;clear hs;refine hK.out _ _ (HXE.o _ (Sat.right (Sat.right HS4.o))) (fun hS0=>?_);clear hK K
     try simp only[Act.put,jt,jA,jy]
     refine bR 8 fun K hK=>?_
     refine aQ rfl (.tmp 48) (.tmp 50) 41 rfl 5 j1 _ 1 1 Tryz.underlying41 Hj1.o Hz0.o Hz1.o Hz2.o rfl (by decide) (.slice (some ⟨g5,0,none⟩) 0 0) 0 [] rfl w0 _ (by exact HS4.o.av) vA vl.length vc (vl.map bv) rfl (by exact(HXR.o _ HS4.o.right.right).2) (by simp) (by intro u hu;obtain⟨b,_,rfl⟩:=List.mem_map.1 hu;rfl) (by unfold maxLen;omega) (by omega) ?_;intro A8 c8 v8 hs;simp only[Nat.zero_add,List.nil_append] at hs ⊢;have HS8:=ah hs;clear hs;refine hK.out _ _ (HXE.o _ (Sat.right (Sat.right HS8.o))) (fun hS0=>?_);clear hK K
     try simp only[Act.put,jt,jA,jy]
     refine cH 9 ?_;refine bR 10 fun K hK=>?_
     go_simp;have HS10:=ah ((HS8.o.av).aC (.cells #[.slice A4 kl.length c4,.slice A8 vl.length c8] 65));refine hK.out _ _ (HXE.o _ (Sat.right (Sat.right HS10.o))) (fun hS0=>?_);clear hK K;refine bR 11 fun K hK=>?_
     have hs10:=HS10.o;rw[hX] at hs10;refine aQ rfl (.tmp 43) (.tmp 53) 30 rfl 65 j0 _ 2 48 Tryz.underlying30 Hj.o Hy0.o Hy1.o Hy2.o rfl (by decide) (.slice B z d) z (fs.flatMap cM) rfl w0 _ (by exact hs10.of (show _=Row 65 2 (.slice B z d) z (fs.flatMap cM)*(Row 5 1 (.slice A4 kl.length c4) kl.length (kl.map bv)*(Row 5 1 (.slice A8 vl.length c8) vl.length (vl.map bv)*Y)) by ac_rfl)) (some ⟨v8.heap.size,0,none⟩) 1 1 [.slice A4 kl.length c4,.slice A8 vl.length c8] rfl (by exact(aL _ _ _)) rfl (by intro u hu;simp at hu;rcases hu with rfl | rfl<;>rfl) (by unfold maxLen;omega) (by omega) ?_;intro A11 c11 w11 hs;have HS11:=ah hs;clear hs hs10;refine hK.out _ _ (HYE.o _ (Sat.right (Sat.right (Sat.right HS11.o)))) (fun hS0=>?_);clear hK K
     try simp only[Act.put,jt,jA,jy]
     refine cH 12 ?_;refine wpAnyH_done (by kernel_rfl) ?_ _;go_wp2_with fail;go_meet
     have h1:=HS11.o.av.eI;have h2:=(h1.of (show _=Row 5 1 (.slice A8 vl.length c8) vl.length (vl.map bv)*(ca [(A4,c4,kl)]*(Row 65 2 (.slice A11 (z+1) c11) (z+1) (fs.flatMap cM++[.slice A4 kl.length c4,.slice A8 vl.length c8])*Y)) by ac_rfl)).eI;rw[hY] at h2;have h3:=(h2.of (show _=ca (cn fs)*(ca [(A4,c4,kl)]*(ca [(A8,c8,vl)]*(Row 65 2 (.slice A11 (z+1) c11) (z+1) (fs.flatMap cM++[.slice A4 kl.length c4,.slice A8 vl.length c8])*Z))) by ac_rfl)).iL.iL;refine⟨z+1,c11,A11,fs++[⟨(A4,c4,kl),(A8,c8,vl),0,false⟩],rfl,?_,Nat.le_refl _,?_,?_⟩
     .rw[List.length_append,HFl.o];rfl
     .rw[dY,HFp.o];rfl
     .have e1:cn (fs++[⟨(A4,c4,kl),(A8,c8,vl),0,false⟩])=cn fs++[(A4,c4,kl)]++[(A8,c8,vl)]:=by
       unfold cn;rw[List.flatMap_append,List.append_assoc];rfl
      rw[e1,List.flatMap_append];exact h3.of (by rw[hZ];show _=Row 65 2 (.slice A11 (z+1) c11) (z+1) (fs.flatMap cM++[.slice A4 kl.length c4,.slice A8 vl.length c8])*_;ac_rfl)
  case rest=>
   obtain⟨m,d2,B2,gs,rfl,HG⟩:=hcut;refine ‹∀ (a:Act) (w:World),Code.wp _ _ _ a w->_› _ _ ?_
   apply wp_seq_k;intro _ _;have hsr:=HG.o.2.2.2.drew;have c0:wc.drew.cell? ⟨g,0,none⟩=some (.slice LA es.length lc):=(hsr.bW.cell 0).trans HCs.o;by_cases hlt:z<es.length
   .obtain⟨lb,lo,rfl,hq⟩:=mK hsr.right.right.right.right.jV (by omega);obtain⟨y0,y1⟩:=hq z hlt;have ra:=hsr.right.right.right.right.nj _ (List.getElem_mem hlt);obtain⟨SA,SB,B1,e1,e2,e3,e4⟩:=mg es[z].key.2.2 kl;have s1:=cK ra.1 es[z].key.2.1;have s2:=cK (HPr.o _ hsr.right.right.right.right.right).1 kc;rw[<-e1] at s1;rw[<-e2] at s2;have HYz:Hid (y=if B1=true then z+1 else z):=ah (by
     have hzm:z<M.length:=by rw[<-he,bB];exact hlt
     have hk:=HEl.o z hlt;have hzz:=HZ.o;rw[HY.o];unfold pk;subst hzz;rw[dif_pos hzm,hk,e4];simp only[decide_eq_true_eq])
    clear hq ra e1 e2 e4;generalize es[z]=q at*
    obtain⟨⟨kB,kd,kl0⟩,⟨vB,vd,vl0⟩,eq0,dd0⟩:=q;replace y0:_=some (Value.slice kB kl0.length kd):=y0;dsimp only at s1;have hii:(z:Int)<es.length:=by omega
    have E3:=ah e3;have G0:Hid (wc.drew.cell? ⟨g,0,none⟩=some (.slice (some ⟨lb,lo,none⟩) es.length lc)/\wc.drew.cell? ⟨lb,lo+z*2,none⟩=some (.slice kB kl0.length kd)/\wc.drew.cell? ⟨E,0,none⟩=some (.slice kA kl.length kc)/\(convert 41 9 (.slice kB kl0.length kd)).run Tryz.prog wc.drew = .ok (.string SA) wc.drew/\(convert 41 9 (.slice kA kl.length kc)).run Tryz.prog wc.drew = .ok (.string SB) wc.drew):=ah ⟨c0,y0,hsr.bD.cell 0,s1,s2⟩;clear y0 y1 s1 s2 e3;go_upto_region 8 with fail
    cases B1 with
    | true=>
     have e3:=E3.o;refine wp_region_held_drew (S:=fun w'=>w'.cell? ⟨g,0,none⟩=some (.slice (some ⟨lb,lo,none⟩) es.length lc)/\w'.cell? ⟨lb,lo+z*2,none⟩=some (.slice kB kl0.length kd)/\w'.cell? ⟨E,0,none⟩=some (.slice kA kl.length kc)/\(convert 41 9 (.slice kB kl0.length kd)).run Tryz.prog w' = .ok (.string SA) w'/\(convert 41 9 (.slice kA kl.length kc)).run Tryz.prog w' = .ok (.string SB) w') (by kernel_rfl) G0.o ?_;intro hS0;refine an 0 1 2 3 ?_;refine an 4 5 6 7 ?_;refine an 8 9 10 11 ?_;refine an 12 13 14 15 ?_;refine an 16 17 18 19 ?_;refine cm 20 21 ?_;refine wpAnyH_done (by kernel_rfl) ?_ _;go_upto_region 10 with fail;have hyz:y=z+1:=by rw[HYz.o,if_pos rfl]
     rw[show (z:Int)+1=(y:Int) by omega];have hyn:y<=es.length:=by omega
     clear hyz hlt hii E3 G0 hS0 HYz e3;obtain⟨W9,hW9⟩: ∃ W9,W9=wc.drew:=⟨_,rfl⟩;rw[<-hW9] at hsr;rw[<-hW9];have c0:W9.cell? ⟨g,0,none⟩=some (.slice (some ⟨lb,lo,none⟩) es.length lc):=(hsr.bW.cell 0).trans HCs.o;have HS9:=ah hsr;clear hW9 hsr;by_cases hly:lc=y
     .have hrd:aH W9 (some ⟨lb,lo,none⟩) ((es.drop y).flatMap cM):=by
       rw[List.drop_of_length_le (by omega)];exact aH.nil _ _
      have hmz:=HG.o.2.1;go_wp2_with (at_builtin;refine au rfl (.tmp 80) (.tmp 86) 30 rfl 65 j0 _ 2 48 Tryz.underlying30 Hj.o Hy0.o Hy1.o Hy2.o rfl (by decide) (.slice B2 m d2) m (gs.flatMap cM) rfl w0 _ (by exact HS9.o) (some ⟨lb,lo,none⟩) (es.length - y) 0 ((es.drop y).flatMap cM) rfl (by exact hrd) (by rw[dF,List.length_drop]) (iA _) (by unfold maxLen;omega) (by omega) ?_;intro B10 c10 w10 hs10;have HS10:=ah hs10;have x1:=(hs10.bW.cell 0).trans HCs.o;have f1:=hs10.bW.frozen 0;clear hs10);go_end0
      exact⟨rfl,.slice B10 (m+(es.length - y)) c10,ku HS10.o HG.o.1 rfl (by have h9:=HPe.o gs (by have h8:=HG.o.2.2.1;rw[HZ.o] at h8;exact h8);rw[<-HY.o] at h9;exact h9)⟩
     .have hrd:aH W9 (some ⟨lb,lo+y*2,none⟩) ((es.drop y).flatMap cM):=by
       have h4:=aH.drop HS9.o.right.right.right.right.jV (k:=y*2) (cap:=lc*2) (by rw[dF];omega) (by rw[dF];omega);rw[if_neg (by omega)] at h4;have e5:(es.flatMap cM).drop (y*2)=(es.drop y).flatMap cM:=AZ es y;rw[e5] at h4;have e6:Option.map (fun x:Addr=>x.add (y*2)) (some ⟨lb,lo,none⟩)=some ⟨lb,lo+y*2,none⟩:=by simp[Addr.add]
       rw[e6] at h4;exact h4
      have hmz:=HG.o.2.1;go_wp2_with (at_builtin;refine au rfl (.tmp 80) (.tmp 86) 30 rfl 65 j0 _ 2 48 Tryz.underlying30 Hj.o Hy0.o Hy1.o Hy2.o rfl (by decide) (.slice B2 m d2) m (gs.flatMap cM) rfl w0 _ (by exact HS9.o) (some ⟨lb,lo+y*2,none⟩) (es.length - y) (lc - y) ((es.drop y).flatMap cM) rfl (by exact hrd) (by rw[dF,List.length_drop]) (iA _) (by unfold maxLen;omega) (by omega) ?_;intro B10 c10 w10 hs10;have HS10:=ah hs10;have x1:=(hs10.bW.cell 0).trans HCs.o;have f1:=hs10.bW.frozen 0;clear hs10);go_end0
      exact⟨rfl,.slice B10 (m+(es.length - y)) c10,ku HS10.o HG.o.1 rfl (by have h9:=HPe.o gs (by have h8:=HG.o.2.2.1;rw[HZ.o] at h8;exact h8);rw[<-HY.o] at h9;exact h9)⟩
    | false=>
     have e3:=E3.o;refine wp_region_held_drew (S:=fun w'=>w'.cell? ⟨g,0,none⟩=some (.slice (some ⟨lb,lo,none⟩) es.length lc)/\w'.cell? ⟨lb,lo+z*2,none⟩=some (.slice kB kl0.length kd)/\w'.cell? ⟨E,0,none⟩=some (.slice kA kl.length kc)/\(convert 41 9 (.slice kB kl0.length kd)).run Tryz.prog w' = .ok (.string SA) w'/\(convert 41 9 (.slice kA kl.length kc)).run Tryz.prog w' = .ok (.string SB) w') (by kernel_rfl) G0.o ?_;intro hS0;refine an 0 1 2 3 ?_;refine an 4 5 6 7 ?_;refine an 8 9 10 11 ?_;refine an 12 13 14 15 ?_;refine an 16 17 18 19 ?_;refine cm 20 21 ?_;refine wpAnyH_done (by kernel_rfl) ?_ _;go_upto_region 10 with fail;have hyz:y=z:=by rw[HYz.o,if_neg (by simp)]
     rw[<-hyz];have hyn:y<=es.length:=by omega
     clear hyz hlt hii E3 G0 hS0 HYz e3;obtain⟨W9,hW9⟩: ∃ W9,W9=wc.drew:=⟨_,rfl⟩;rw[<-hW9] at hsr;rw[<-hW9];have c0:W9.cell? ⟨g,0,none⟩=some (.slice (some ⟨lb,lo,none⟩) es.length lc):=(hsr.bW.cell 0).trans HCs.o;have HS9:=ah hsr;clear hW9 hsr;by_cases hly:lc=y
     .have hrd:aH W9 (some ⟨lb,lo,none⟩) ((es.drop y).flatMap cM):=by
       rw[List.drop_of_length_le (by omega)];exact aH.nil _ _
      have hmz:=HG.o.2.1;go_wp2_with (at_builtin;refine au rfl (.tmp 80) (.tmp 86) 30 rfl 65 j0 _ 2 48 Tryz.underlying30 Hj.o Hy0.o Hy1.o Hy2.o rfl (by decide) (.slice B2 m d2) m (gs.flatMap cM) rfl w0 _ (by exact HS9.o) (some ⟨lb,lo,none⟩) (es.length - y) 0 ((es.drop y).flatMap cM) rfl (by exact hrd) (by rw[dF,List.length_drop]) (iA _) (by unfold maxLen;omega) (by omega) ?_;intro B10 c10 w10 hs10;have HS10:=ah hs10;have x1:=(hs10.bW.cell 0).trans HCs.o;have f1:=hs10.bW.frozen 0;clear hs10);go_end0
      exact⟨rfl,.slice B10 (m+(es.length - y)) c10,ku HS10.o HG.o.1 rfl (by have h9:=HPe.o gs (by have h8:=HG.o.2.2.1;rw[HZ.o] at h8;exact h8);rw[<-HY.o] at h9;exact h9)⟩
     .have hrd:aH W9 (some ⟨lb,lo+y*2,none⟩) ((es.drop y).flatMap cM):=by
       have h4:=aH.drop HS9.o.right.right.right.right.jV (k:=y*2) (cap:=lc*2) (by rw[dF];omega) (by rw[dF];omega);rw[if_neg (by omega)] at h4;have e5:(es.flatMap cM).drop (y*2)=(es.drop y).flatMap cM:=AZ es y;rw[e5] at h4;have e6:Option.map (fun x:Addr=>x.add (y*2)) (some ⟨lb,lo,none⟩)=some ⟨lb,lo+y*2,none⟩:=by simp[Addr.add]
       rw[e6] at h4;exact h4
      have hmz:=HG.o.2.1;go_wp2_with (at_builtin;refine au rfl (.tmp 80) (.tmp 86) 30 rfl 65 j0 _ 2 48 Tryz.underlying30 Hj.o Hy0.o Hy1.o Hy2.o rfl (by decide) (.slice B2 m d2) m (gs.flatMap cM) rfl w0 _ (by exact HS9.o) (some ⟨lb,lo+y*2,none⟩) (es.length - y) (lc - y) ((es.drop y).flatMap cM) rfl (by exact hrd) (by rw[dF,List.length_drop]) (iA _) (by unfold maxLen;omega) (by omega) ?_;intro B10 c10 w10 hs10;have HS10:=ah hs10;have x1:=(hs10.bW.cell 0).trans HCs.o;have f1:=hs10.bW.frozen 0;clear hs10);go_end0
      exact⟨rfl,.slice B10 (m+(es.length - y)) c10,ku HS10.o HG.o.1 rfl (by have h9:=HPe.o gs (by have h8:=HG.o.2.2.1;rw[HZ.o] at h8;exact h8);rw[<-HY.o] at h9;exact h9)⟩
   .have hii:¬ (z:Int)<es.length:=by omega
    have G0:=ah c0;have HYz:Hid (y=z):=ah (by
     rw[HY.o];have hzz:=HZ.o;unfold pk;rw[dif_neg (by rw[<-hzz, <-he,bB];omega)];exact hzz.symm)
    clear c0;go_upto_region 8 with fail;refine wp_region_held_drew (S:=fun w'=>w'.cell? ⟨g,0,none⟩=some (.slice LA es.length lc)) (by kernel_rfl) G0.o ?_;intro hS0;refine an 0 1 2 3 ?_;refine an 4 5 6 7 ?_;refine cD 8 ?_;refine cD 9 ?_;refine cD 10 ?_;refine cD 11 ?_;refine cD 12 ?_;refine cD 13 ?_;refine cD 14 ?_;refine cD 15 ?_;refine cD 16 ?_;refine cD 17 ?_;refine cD 18 ?_;refine cD 19 ?_;refine cD 20 ?_;refine cH 21 ?_;refine wpAnyH_done (by kernel_rfl) ?_ _;go_upto_region 10 with fail;have hyz:=HYz.o;have hyn:y<=es.length:=by omega
    rw[<-hyz];rcases hsr.right.right.right.right.Mw with ⟨e1,e2,e4⟩ | ⟨lb,e1⟩
    .have e3:=e2;have HE0:Hid (es.drop y=[]):=ah (List.drop_of_length_le (by omega));have hy0:y=0:=by omega
     subst e1;have c0:wc.drew.cell? ⟨g,0,none⟩=some (.slice none 0 0):=by rw[G0.o,e2,e4]
     have HS9:=ah hsr;have HLq:Hid (es.length=0):=e2;clear hyz hlt hii G0 hS0 HYz hsr e2 e3 e4 hyn;subst hy0;obtain⟨W9,hW9⟩: ∃ W9,W9=wc.drew:=⟨_,rfl⟩;rw[<-hW9] at HS9 c0;rw[<-hW9];clear hW9;have hmz:=HG.o.2.1;go_wp2_with (at_builtin;refine au rfl (.tmp 80) (.tmp 86) 30 rfl 65 j0 _ 2 48 Tryz.underlying30 Hj.o Hy0.o Hy1.o Hy2.o rfl (by decide) (.slice B2 m d2) m (gs.flatMap cM) rfl w0 _ (by exact HS9.o) none 0 0 [] rfl (by exact aH.nil _ _) rfl (by intro u hu;cases hu) (by unfold maxLen;omega) (by omega) ?_;intro B10 c10 w10 hs10;have HS10:=ah hs10;have x1:=(hs10.bW.cell 0).trans HCs.o;have f1:=hs10.bW.frozen 0;clear hs10);go_end0
     have h10:=HS10.o;have e10:(es.drop 0).flatMap cM=[]:=by rw[HE0.o];rfl
     rw[<-e10] at h10;exact⟨rfl,.slice B10 m c10,ku (q:=0) h10 HG.o.1 (by rw[HLq.o]) (by have h9:=HPe.o gs (by have h8:=HG.o.2.2.1;rw[HZ.o] at h8;exact h8);rw[<-HY.o] at h9;exact h9)⟩
    .subst e1;obtain⟨lo,hlo⟩: ∃ lo,lo=0:=⟨_,rfl⟩;have HCt:Hid (cs[0]?=some (Value.slice (some ⟨lb,lo,none⟩) es.length lc)):=ah (by rw[hlo];exact HCs.o);rw[<-hlo] at hsr G0;clear HCs;have HCs:=HCt;clear HCt;clear hyz hlt hii G0 hS0 HYz hlo;obtain⟨W9,hW9⟩: ∃ W9,W9=wc.drew:=⟨_,rfl⟩;rw[<-hW9] at hsr;rw[<-hW9];have c0:W9.cell? ⟨g,0,none⟩=some (.slice (some ⟨lb,lo,none⟩) es.length lc):=(hsr.bW.cell 0).trans HCs.o;have HS9:=ah hsr;clear hW9 hsr;by_cases hly:lc=y
     .have hrd:aH W9 (some ⟨lb,lo,none⟩) ((es.drop y).flatMap cM):=by
       rw[List.drop_of_length_le (by omega)];exact aH.nil _ _
      have hmz:=HG.o.2.1;go_wp2_with (at_builtin;refine au rfl (.tmp 80) (.tmp 86) 30 rfl 65 j0 _ 2 48 Tryz.underlying30 Hj.o Hy0.o Hy1.o Hy2.o rfl (by decide) (.slice B2 m d2) m (gs.flatMap cM) rfl w0 _ (by exact HS9.o) (some ⟨lb,lo,none⟩) (es.length - y) 0 ((es.drop y).flatMap cM) rfl (by exact hrd) (by rw[dF,List.length_drop]) (iA _) (by unfold maxLen;omega) (by omega) ?_;intro B10 c10 w10 hs10;have HS10:=ah hs10;have x1:=(hs10.bW.cell 0).trans HCs.o;have f1:=hs10.bW.frozen 0;clear hs10);go_end0
      exact⟨rfl,.slice B10 (m+(es.length - y)) c10,ku HS10.o HG.o.1 rfl (by have h9:=HPe.o gs (by have h8:=HG.o.2.2.1;rw[HZ.o] at h8;exact h8);rw[<-HY.o] at h9;exact h9)⟩
     .have hrd:aH W9 (some ⟨lb,lo+y*2,none⟩) ((es.drop y).flatMap cM):=by
       have h4:=aH.drop HS9.o.right.right.right.right.jV (k:=y*2) (cap:=lc*2) (by rw[dF];omega) (by rw[dF];omega);rw[if_neg (by omega)] at h4;have e5:(es.flatMap cM).drop (y*2)=(es.drop y).flatMap cM:=AZ es y;rw[e5] at h4;have e6:Option.map (fun x:Addr=>x.add (y*2)) (some ⟨lb,lo,none⟩)=some ⟨lb,lo+y*2,none⟩:=by simp[Addr.add]
       rw[e6] at h4;exact h4
      have hmz:=HG.o.2.1;go_wp2_with (at_builtin;refine au rfl (.tmp 80) (.tmp 86) 30 rfl 65 j0 _ 2 48 Tryz.underlying30 Hj.o Hy0.o Hy1.o Hy2.o rfl (by decide) (.slice B2 m d2) m (gs.flatMap cM) rfl w0 _ (by exact HS9.o) (some ⟨lb,lo+y*2,none⟩) (es.length - y) (lc - y) ((es.drop y).flatMap cM) rfl (by exact hrd) (by rw[dF,List.length_drop]) (iA _) (by unfold maxLen;omega) (by omega) ?_;intro B10 c10 w10 hs10;have HS10:=ah hs10;have x1:=(hs10.bW.cell 0).trans HCs.o;have f1:=hs10.bW.frozen 0;clear hs10);go_end0
      exact⟨rfl,.slice B10 (m+(es.length - y)) c10,ku HS10.o HG.o.1 rfl (by have h9:=HPe.o gs (by have h8:=HG.o.2.2.1;rw[HZ.o] at h8;exact h8);rw[<-HY.o] at h9;exact h9)⟩
end
section
variable {w0 w w':World} {F:SP} {v:Value} {M:List Kv} {es:List En}
theorem Bv (A:Option Addr) (c:Nat) (ps:List Pu) (w:World) (h:aH w A (ps.flatMap dQ)) (hn:ps.length<=100000) (hb: ∀ p ∈ ps,p.key.2.2.length<=1000000000/\p.value.2.2.length<=1000000000):
 Calls Tryz.prog 74 #[.slice A ps.length c] w fun x w'=>x = .returned (.int .i64 (dB (ps.map Pu.bE):Nat))/\aq No w w':=by
 have HL:=ah h;have HB:=ah hb;have HSum:Hid (∀ i,i<=ps.length->(((ps.take i).map Pu.bE).map kJ).sum<=300000000000000):=fun i hi=>by
  have h1:=Al 2000000016 ((ps.take i).map Pu.bE) (fun p hp=>by
   obtain⟨q,hq,rfl⟩:=List.mem_map.1 hp;have h2:=hb q (List.mem_of_mem_take hq);have h3:kJ q.bE=q.key.2.2.length+q.value.2.2.length+16:=rfl;omega)
  rw[List.length_map,List.length_take] at h1;omega
 clear h hb;go_enter Tryz.func74, Tryz.ntmps74;go_wp2_with fail;go_loopw [4] (fun iv wr=> ∃ i:Nat,i<=ps.length/\iv = .int .i64 (i:Int)/\Hid ((∀ j (h:j<ps.length),j<i->rf ps[j].bE=false)/\aq No w wr)) (fun iv _=>ps.length - (intOf iv).toNat)
 case atStart=>exact⟨0,by omega,rfl,(fun j _ h=>by omega),aq.refl _ _⟩
 case round=>
  obtain⟨i,hi,rfl,HD⟩:=hrel;by_cases hlt:i<ps.length
  .obtain⟨lb,lo,rfl,hq⟩:=gx (HL.o.new HD.o.2) (by omega);obtain⟨y0,_,_⟩:=hq i hlt;have hbi:=HB.o _ (List.getElem_mem hlt);have hii:(i:Int)<ps.length:=by omega
   obtain⟨q,hqe⟩: ∃ q,q=ps[i]:=⟨_,rfl⟩;have HQ:=ah hqe;rw[<-hqe] at y0 hbi;clear hq hqe;obtain⟨⟨kA,kc,kl⟩,⟨vA,vc,vl⟩,dd⟩:=q;replace y0:_=some (Value.slice kA kl.length kc):=y0;replace hbi:kl.length<=1000000000/\vl.length<=1000000000:=hbi;obtain⟨hbk,hbv⟩:=hbi;have HBk:Hid (rf ps[i].bE=(decide (kl.length=0) || decide (128<kl.length))):=by rw[<-HQ.o];rfl
   by_cases hk:kl.length=0\/128<kl.length
   .have HE:Hid (dB (ps.map Pu.bE)=100):=by
     unfold Hid dB;rw[if_pos];refine List.any_eq_true.2 ⟨ps[i].bE,List.mem_map.2 ⟨ps[i],List.getElem_mem _,rfl⟩,?_⟩;rw[HBk.o];simpa using hk
    rcases hk with hk | hk
    .have hk0:(kl.length:Int)<1:=by omega
     clear hk;go_wp2_with fail;go_ret;exact⟨by rw[HE.o];rfl,HD.o.2⟩
    .have hk0:¬ (kl.length:Int)<1:=by omega
     have hk1:(128:Int)<kl.length:=by omega
     clear hk;go_wp2_with fail;go_ret;exact⟨by rw[HE.o];rfl,HD.o.2⟩
   .have hk0:¬ (kl.length:Int)<1:=by omega
    have hk1:¬ (128:Int)<kl.length:=by omega
    have HG:Hid (rf ps[i].bE=false):=by
     unfold Hid;rw[HBk.o,decide_eq_false (by omega),decide_eq_false (by omega)];rfl
    clear hk;go_wp2_with fail;go_roundw
    .refine⟨i+1,by omega,by push_cast;rfl,fun j h hj=>?_,HD.o.2⟩;by_cases e:j=i
     .subst e;exact HG.o
     .exact HD.o.1 j h (by omega)
    .simp[intOf];omega
  .have hie:i=ps.length:=by omega
   have HNo:Hid ((ps.map Pu.bE).any rf=false):=by
    unfold Hid;rw[List.any_eq_false];intro x hx;obtain⟨e,he,rfl⟩:=List.mem_map.1 hx;obtain⟨j,hj,rfl⟩:=List.getElem_of_mem he;rw[HD.o.1 j hj (by omega)];simp
   have HK:=ah HD.o.2;clear HD;have hie2:¬ (i:Int)<ps.length:=by omega
   clear hie hlt;go_wp2_with fail;go_loopw [3,5] (fun nv jv wx=> ∃ (j n:Nat),j<=ps.length/\jv = .int .i64 (j:Int)/\nv = .int .i64 (n:Int)/\Hid (n=(((ps.take j).map Pu.bE).map kJ).sum/\(∀ q (h:q<ps.length),q<j->ka ps[q].bE=false)/\aq No w wx)) (fun _ jv _=>ps.length - (intOf jv).toNat)
   case atStart=>exact⟨0,0,by omega,rfl,rfl,rfl,(fun j _ h=>by omega),HK.o⟩
   case round=>
    obtain⟨j,n,hj,rfl,rfl,HD⟩:=hrel;have hnb:=HSum.o j hj;rw[<-HD.o.1] at hnb;by_cases hlt:j<ps.length
    .obtain⟨lb,lo,rfl,hq⟩:=gx (HL.o.new HD.o.2.2) (by omega);obtain⟨y0,y1,y2⟩:=hq j hlt;have hbi:=HB.o _ (List.getElem_mem hlt);have hii:(j:Int)<ps.length:=by omega
     have HNx:Hid ((((ps.take (j+1)).map Pu.bE).map kJ).sum=n+(ps[j].key.2.2.length+ps[j].value.2.2.length+16)):=by
      unfold Hid;rw[List.take_add_one,List.getElem?_eq_getElem hlt,List.map_append,List.map_append,List.sum_append, <-HD.o.1];rfl
     obtain⟨q,hqe⟩: ∃ q,q=ps[j]:=⟨_,rfl⟩;have HQ:=ah hqe;rw[<-hqe] at y0 y1 y2 hbi HNx;clear hq hqe;obtain⟨⟨kA,kc,kl⟩,⟨vA,vc,vl⟩,dd⟩:=q;replace y0:_=some (Value.slice kA kl.length kc):=y0;replace y1:_=some (Value.slice vA vl.length vc):=y1;replace y2:_=some (Value.bool dd):=y2;replace hbi:kl.length<=1000000000/\vl.length<=1000000000:=hbi;obtain⟨hbk,hbv⟩:=hbi;replace HNx:Hid ((((ps.take (j+1)).map Pu.bE).map kJ).sum=n+(kl.length+vl.length+16)):=HNx;have HBv:Hid (ka ps[j].bE=(decide (16384<vl.length) || (dd && decide (0<vl.length)))):=by rw[<-HQ.o];rfl
     have HE:Hid (ka ps[j].bE=true->dB (ps.map Pu.bE)=101):=ah fun h0=>by
      unfold dB;rw[HNo.o,if_neg (by simp),if_pos];exact List.any_eq_true.2 ⟨ps[j].bE,List.mem_map.2 ⟨ps[j],List.getElem_mem _,rfl⟩,h0⟩
     have w1:IntKind.i64.wrap ((n:Int)+kl.length)=(n:Int)+kl.length:=by rw[IntKind.wrap_i64];omega
     have w2:IntKind.i64.wrap ((n:Int)+kl.length+vl.length)=(n:Int)+kl.length+vl.length:=by rw[IntKind.wrap_i64];omega
     have w3:IntKind.i64.wrap ((n:Int)+kl.length+vl.length+16)=(n:Int)+kl.length+vl.length+16:=by rw[IntKind.wrap_i64];omega
     have HG0:Hid (aq No w wr.drew/\(wr.drew.cell? ⟨lb,lo+j*3,none⟩=some (.slice kA kl.length kc)/\wr.drew.cell? ⟨lb,lo+j*3+1,none⟩=some (.slice vA vl.length vc))):=ah ⟨HD.o.2.2.drew,y0,y1⟩;have HLs:Hid (ka ps[j].bE=false-> ∀ q (h:q<ps.length),q<j+1->ka ps[q].bE=false):=ah fun h0 q h hq=>by
      by_cases e:q=j
      .subst e;exact h0
      .exact HD.o.2.1 q h (by omega)
     have HK2:=ah HD.o.2.2;clear hnb HD;by_cases h1:(16384:Int)<vl.length
     .have HE1:Hid (dB (ps.map Pu.bE)=101):=ah (HE.o (by rw[HBv.o,decide_eq_true (by omega)];rfl));go_wp2_with fail;go_ret;exact⟨by rw[HE1.o];rfl,HK2.o⟩
     .cases dd with
      | true=>
       by_cases h2:(0:Int)<vl.length
       .have HE1:Hid (dB (ps.map Pu.bE)=101):=ah (HE.o (by rw[HBv.o,decide_eq_true (p:=0<vl.length) (by omega)];simp));have h3:0<vl.length:=by omega
        go_wp2_with fail;go_ret;exact⟨by rw[HE1.o];rfl,HK2.o⟩
       .have HF:Hid (ka ps[j].bE=false):=ah (by rw[HBv.o,decide_eq_false (by omega),decide_eq_false (by omega)];rfl);have h3:¬ 0<vl.length:=by omega
        go_upto_region 12 with fail;refine wp_region_held_drew (S:=fun w'=>aq No w w'/\(w'.cell? ⟨lb,lo+j*3,none⟩=some (.slice kA kl.length kc)/\w'.cell? ⟨lb,lo+j*3+1,none⟩=some (.slice vA vl.length vc))) (by kernel_rfl) HG0.o ?_;intro hS0;refine an 0 1 2 3 ?_;refine an 4 5 6 7 ?_;refine an 8 9 10 11 ?_;refine an 12 13 14 15 ?_;refine cH 16 ?_;refine wpAnyH_done (by kernel_rfl) ?_ _;have HT:=ah HG0.o.1;have HLt:=ah (HLs.o HF.o);clear HG0;go_wp2_with fail;go_roundw
        .exact⟨j+1,n+(kl.length+vl.length+16),by omega,by push_cast;rfl,by congr 1;push_cast;omega,HNx.o.symm,HLt.o,HT.o⟩
        .simp[intOf];omega
      | false=>
       have HF:Hid (ka ps[j].bE=false):=ah (by rw[HBv.o,decide_eq_false (by omega)];rfl);go_upto_region 12 with fail;refine wp_region_held_drew (S:=fun w'=>aq No w w'/\(w'.cell? ⟨lb,lo+j*3,none⟩=some (.slice kA kl.length kc)/\w'.cell? ⟨lb,lo+j*3+1,none⟩=some (.slice vA vl.length vc))) (by kernel_rfl) HG0.o ?_;intro hS0;refine an 0 1 2 3 ?_;refine an 4 5 6 7 ?_;refine an 8 9 10 11 ?_;refine an 12 13 14 15 ?_;refine cH 16 ?_;refine wpAnyH_done (by kernel_rfl) ?_ _;have HT:=ah HG0.o.1;have HLt:=ah (HLs.o HF.o);clear HG0;go_wp2_with fail;go_roundw
       .exact⟨j+1,n+(kl.length+vl.length+16),by omega,by push_cast;rfl,by congr 1;push_cast;omega,HNx.o.symm,HLt.o,HT.o⟩
       .simp[intOf];omega
    .have hje:j=ps.length:=by omega
     subst hje;have HN:Hid (n=((ps.map Pu.bE).map kJ).sum):=by have:=HD.o.1;rw[List.take_length] at this;exact this
     have HNv:Hid ((ps.map Pu.bE).any ka=false):=by
      unfold Hid;rw[List.any_eq_false];intro x hx;obtain⟨e,he,rfl⟩:=List.mem_map.1 hx;obtain⟨j,hj,rfl⟩:=List.getElem_of_mem he;rw[HD.o.2.1 j hj (by omega)];simp
     have HE:Hid (dB (ps.map Pu.bE)=if 262144<n then 102 else 0):=by
      unfold Hid dB;rw[HNo.o,HNv.o, <-HN.o];rfl
     have HK:=ah HD.o.2.2;clear HN HNo HNv HD hie2 hi;by_cases hl:262144<n
     .have hl2:(262144:Int)<n:=by omega
      replace HE:Hid (dB (ps.map Pu.bE)=102):=by unfold Hid;rw[HE.o,if_pos hl]
      clear hl;go_wp2_with fail;go_ret;exact⟨by rw[HE.o];rfl,HK.o⟩
     .have hl2:¬ (262144:Int)<n:=by omega
      replace HE:Hid (dB (ps.map Pu.bE)=0):=by unfold Hid;rw[HE.o,if_neg hl]
      clear hl;go_wp2_with fail;go_ret;exact⟨by rw[HE.o];rfl,HK.o⟩
theorem yw {k:List UInt8}: ∀ {es:List En} {i:Nat} (hi:i<es.length),(∀ j (hj:j<es.length),j<i->es[j].key.2.2≠k)->es[i].key.2.2=k->ba k (az es)=some es[i].value.2.2
 | e::es,0,_,_,h=>by
  show (if e.key.2.2=k then some e.value.2.2 else _)=_;exact if_pos h
 | e::es,i+1,hi,hn,h=>by
  show (if e.key.2.2=k then some e.value.2.2 else ba k (az es))=_;refine(if_neg (hn 0 (by simp) (by omega))).trans ?_;exact yw (i:=i) (by simpa using hi) (fun j hj hji=>hn (j+1) (by simpa using hj) (by omega)) h
theorem DV {k:List UInt8} {es:List En} (h: ∀ j (hj:j<es.length),es[j].key.2.2≠k):ba k (az es)=none:=eQ fun p hp=>by
 unfold az at hp;obtain⟨e,he,rfl⟩:=List.mem_map.1 hp;obtain⟨j,hj,rfl⟩:=List.getElem_of_mem he;exact h j hj
theorem Gp (K:cW) (hK: ∀ W,Sat w0 F W->Rd W K.1 K.2.2) (h:Sat w0 (bQ v M*F) w) (hl:M.length<=100000):
 Calls Tryz.prog 81 #[.agg #[v],.slice K.1 K.2.2.length K.2.1] w fun x w'=> ∃ A c,x = .returned (.tuple #[.slice A ((ba K.2.2 M).getD []).length c,.bool (ba K.2.2 M).isSome])/\Sat w0 (ca [(A,c,(ba K.2.2 M).getD [])]*(bQ v M*F)) w':=by
 obtain⟨es,he,h1⟩:=h.mp;obtain⟨A,c,rfl,hc1,hc2⟩:=h1.mD;have hel:es.length<=100000:=by rw[<-bB,he];exact hl
 obtain⟨KA,KC,kl⟩:=K;have HPr:Hid (∀ W,Sat w0 F W->Rd W KA kl):=ah hK;have h2:=h1.bG (b:=w.heap.size) 32 #[.slice A es.length c] rfl;have HE:=ah he;clear h h1 he hK hl hc1 hc2;show Calls Tryz.prog 81 #[.agg #[.slice A es.length c],.slice KA kl.length KC] w fun x w'=> ∃ A c,x = .returned (.tuple #[.slice A ((ba kl M).getD []).length c,.bool (ba kl M).isSome])/\Sat w0 (ca [(A,c,(ba kl M).getD [])]*(bQ (.slice _ es.length _) M*F)) w'
 go_enter Tryz.func81, Tryz.ntmps81;go_upto_region 1 with fail;revert h2;generalize w.alloc _=W;intro h2;generalize w.heap.size=E at*
 have HS:=ah h2;clear h2;go_wp2_with fail;go_loopw [6] (fun iv wr=> ∃ (i:Nat),i<=es.length/\iv = .int .i64 (i:Int)/\Hid ((∀ j (hj:j<es.length),j<i->es[j].key.2.2≠kl)/\Sat w0 (Pt E 32 #[.slice A es.length c]*(eH (.slice A es.length c) es*F)) wr)) (fun iv _=>es.length - (intOf iv).toNat)
 case atStart=>exact⟨0,by omega,rfl,(fun j _ h=>by omega),HS.o⟩
 case round=>
  obtain⟨i,hi,rfl,HD⟩:=hrel;have x0:wr.cell? ⟨E,0,none⟩=some (.slice A es.length c):=HD.o.2.cell 0;by_cases hlt:i<es.length
  .have hsr:=HD.o.2.drew;obtain⟨lb,lo,rfl,hq⟩:=mK hsr.right.jV (by omega);obtain⟨y0,y1⟩:=hq i hlt;have ra:=hsr.right.nj _ (List.getElem_mem hlt);obtain⟨SA,SB,B1,e1,e2,e3,e4⟩:=mg es[i].key.2.2 kl;have s1:=cK ra.1 es[i].key.2.1;have s2:=cK (HPr.o _ hsr.right.right) KC;rw[<-e1] at s1;rw[<-e2] at s2;have HB4:=ah e4;have HIn:Hid (es[i].value ∈ cn es):=ah (List.mem_flatMap.2 ⟨es[i],List.getElem_mem hlt,by simp⟩);have HHit:Hid (es[i].key.2.2=kl->ba kl M=some es[i].value.2.2):=ah fun h0=>by
    rw[<-HE.o];exact yw hlt HD.o.1 h0
   have HLq:Hid (es[i].key.2.2≠kl-> ∀ j (hj:j<es.length),j<i+1->es[j].key.2.2≠kl):=ah fun h0 j hj hji=>by
    by_cases e:j=i
    .subst e;exact h0
    .exact HD.o.1 j hj (by omega)
   clear hq ra e1 e2 e4;generalize es[i]=p at*
   obtain⟨⟨kA,kc,kl0⟩,⟨vA,vc,vl⟩,eq1,dd1⟩:=p;replace y0:_=some (Value.slice kA kl0.length kc):=y0;replace y1:_=some (Value.slice vA vl.length vc):=y1;dsimp only at s1 HB4;have hii:(i:Int)<es.length:=by omega
   have x1:wr.drew.cell? ⟨E,0,none⟩=some (.slice (some ⟨lb,lo,none⟩) es.length c):=hsr.cell 0;have G0:Hid (wr.drew.cell? ⟨E,0,none⟩=some (.slice (some ⟨lb,lo,none⟩) es.length c)/\wr.drew.cell? ⟨lb,lo+i*2,none⟩=some (.slice kA kl0.length kc)/\(convert 41 9 (.slice kA kl0.length kc)).run Tryz.prog wr.drew = .ok (.string SA) wr.drew/\(convert 41 9 (.slice KA kl.length KC)).run Tryz.prog wr.drew = .ok (.string SB) wr.drew):=ah ⟨x1,y0,s1,s2⟩;have HR:=ah hsr;have Y1:=ah y1;clear y0 y1 s1 s2 hsr x1;go_upto_region 4 with fail;have E3:=ah e3
   cases B1 with
   | true=>
    have e3:=E3.o;refine wp_region_held_drew (S:=fun w'=>w'.cell? ⟨E,0,none⟩=some (.slice (some ⟨lb,lo,none⟩) es.length c)/\w'.cell? ⟨lb,lo+i*2,none⟩=some (.slice kA kl0.length kc)/\(convert 41 9 (.slice kA kl0.length kc)).run Tryz.prog w' = .ok (.string SA) w'/\(convert 41 9 (.slice KA kl.length KC)).run Tryz.prog w' = .ok (.string SB) w') (by kernel_rfl) G0.o ?_;intro hS0;refine an 0 1 2 3 ?_;refine an 4 5 6 7 ?_;refine cm 8 9 ?_;refine wpAnyH_done (by kernel_rfl) ?_ _;have hK:=HHit.o (of_decide_eq_true HB4.o.symm);replace hK:ba kl M=some vl:=hK;have HK:=ah hK;have y1:=Y1.o;have x1:wr.drew.cell? ⟨E,0,none⟩=some (.slice (some ⟨lb,lo,none⟩) es.length c):=HR.o.cell 0;clear hK e3;go_wp2_with fail;go_ret2;refine⟨vA,vc,by rw[HK.o];rfl,?_⟩;rw[HK.o];have h5:=HR.o.right.lW.fS (rs':=[(vA,vc,vl)]) (fun r hr=>by rw[List.mem_singleton] at hr;rw[hr];exact HIn.o);exact(h5.av.Bi HE.o).av
   | false=>
    have e3:=E3.o;refine wp_region_held_drew (S:=fun w'=>w'.cell? ⟨E,0,none⟩=some (.slice (some ⟨lb,lo,none⟩) es.length c)/\w'.cell? ⟨lb,lo+i*2,none⟩=some (.slice kA kl0.length kc)/\(convert 41 9 (.slice kA kl0.length kc)).run Tryz.prog w' = .ok (.string SA) w'/\(convert 41 9 (.slice KA kl.length KC)).run Tryz.prog w' = .ok (.string SB) w') (by kernel_rfl) G0.o ?_;intro hS0;refine an 0 1 2 3 ?_;refine an 4 5 6 7 ?_;refine cm 8 9 ?_;refine wpAnyH_done (by kernel_rfl) ?_ _;have HLt:=ah (HLq.o (of_decide_eq_false HB4.o.symm));clear e3;go_wp2_with fail;go_roundw
    .exact⟨i+1,by omega,by push_cast;rfl,HLt.o,HR.o⟩
    .simp[intOf];omega
  .have hie:i=es.length:=by omega
   have HK:Hid (ba kl M=none):=ah (by
    rw[<-HE.o];exact DV fun j hj=>HD.o.1 j hj (by omega))
   have hii:¬ (i:Int)<es.length:=by omega
   clear hlt hie;go_wp2_with fail;go_ret2;refine⟨none,0,by rw[HK.o];rfl,?_⟩;rw[HK.o];exact Sat.lE (HD.o.2.right.Bi HE.o) _ (by intro r hr;rw[List.mem_singleton] at hr;rw[hr];rfl)
theorem Ep {f t:List UInt8} {es:List En} {i q:Nat} (h:((dU f t (az (es.take i))).take q).length=q):(dU f t (az es)).take q=(dU f t (az (es.take i))).take q:=by
 have e:az es=az (es.take i)++az (es.drop i):=by rw[<-dY,List.take_append_drop]
 have e2:dU f t (az es)=dU f t (az (es.take i))++dU f t (az (es.drop i)):=by rw[e];exact List.filter_append ..
 rw[e2,List.take_append_of_le_length];rw[List.length_take] at h;omega
theorem Dp {f t:List UInt8} {es:List En} {i:Nat} (hi:i<es.length):dU f t (az (es.take (i+1)))=dU f t (az (es.take i))++(if yp f t es[i].key.2.2=true then [(es[i].key.2.2,es[i].value.2.2)] else []):=by
 rw[List.take_add_one,List.getElem?_eq_getElem hi,dY];unfold dU;rw[List.filter_append];congr 1
 show List.filter (fun p:Kv=>yp f t p.1) [(es[i].key.2.2,es[i].value.2.2)]=_;rw[List.filter_cons,List.filter_nil]
theorem E8 (f t:cW) (aD:Int) (hK: ∀ W,Sat w0 F W->Rd W f.1 f.2.2/\Rd W t.1 t.2.2) (h:Sat w0 (bQ v M*F) w) (hl:M.length<=100000):
 Calls Tryz.prog 83 #[.agg #[v],.slice f.1 f.2.2.length f.2.1,.slice t.1 t.2.2.length t.2.1,.int .i64 aD] w fun x w'=> ∃ v',x = .returned v'/\Sat w0 (bQ v' ((dU f.2.2 t.2.2 M).take aD.toNat)*(bQ v M*F)) w':=by
 obtain⟨es,he,h1⟩:=h.mp;obtain⟨A,c,rfl,hc1,hc2⟩:=h1.mD;have hel:es.length<=100000:=by rw[<-bB,he];exact hl
 obtain⟨fA,fC,fl⟩:=f;obtain⟨tA,tC,tl⟩:=t;obtain⟨j0,hj,hy0,hy1,hy2⟩:=info_parts qj;have Hj:=ah hj;have Hy0:=ah hy0;have Hy1:=ah hy1;have Hy2:=ah hy2;have HPr:Hid (∀ W,Sat w0 F W->Rd W fA fl/\Rd W tA tl):=ah hK;have h2:=h1.bG (b:=w.heap.size) 32 #[.slice A es.length c] rfl;have HE:=ah he;clear h h1 he hK hl hc1 hc2 hj hy0 hy1 hy2;show Calls Tryz.prog 83 #[.agg #[.slice A es.length c],.slice fA fl.length fC,.slice tA tl.length tC,.int .i64 aD] w fun x w'=> ∃ v',x = .returned v'/\Sat w0 (bQ v' ((dU fl tl M).take aD.toNat)*(bQ (.slice _ es.length _) M*F)) w'
 go_enter Tryz.func83, Tryz.ntmps83;go_upto_region 1 with fail;revert h2;generalize w.alloc _=W;intro h2;generalize w.heap.size=E at*
 have HS:=ah (h2.aI 65 2);clear h2;go_wp2_with fail;go_loopw [9,10] (fun ov iv wr=> ∃ (i m d:Nat) (B:Option Addr) (gs:List En),i<=es.length/\m<=i/\iv = .int .i64 (i:Int)/\ov = .slice B m d/\Hid (gs.length=m/\az gs=(dU fl tl (az (es.take i))).take aD.toNat/\(∀ g ∈ gs,g ∈ es)/\Sat w0 (Row 65 2 (.slice B m d) m (gs.flatMap cM)*(Pt E 32 #[.slice A es.length c]*(eH (.slice A es.length c) es*F))) wr)) (fun _ iv _=>es.length - (intOf iv).toNat)
 case atStart=>exact⟨0,0,0,none,[],by omega,by omega,rfl,rfl,rfl,by simp[az,dU],(fun g hg=>by cases hg),HS.o⟩
 case round=>
  obtain⟨i,m,d,B,gs,hi,hmi,rfl,rfl,HD⟩:=hrel;have x0:wr.cell? ⟨E,0,none⟩=some (.slice A es.length c):=HD.o.2.2.2.av.cell 0;have HFin:Hid (az gs=(dU fl tl M).take aD.toNat->Sat w0 (bQ (.slice B m d) ((dU fl tl M).take aD.toNat)*(bQ (.slice A es.length c) M*F)) wr):=ah fun h0=>by
   have h5:=(HD.o.2.2.2.of (show _=eH (.slice A es.length c) es*(Pt E 32 #[.slice A es.length c]*(Row 65 2 (.slice B m d) m (gs.flatMap cM)*F)) by ac_rfl)).lW.fS (ow HD.o.2.2.1);have h6:Sat w0 (Row 65 2 (.slice B m d) m (gs.flatMap cM)*(ca (cn gs)*(eH (.slice A es.length c) es*F))) wr:=(h5.of (show _=Pt E 32 #[.slice A es.length c]*(Row 65 2 (.slice B m d) m (gs.flatMap cM)*(ca (cn gs)*(eH (.slice A es.length c) es*F))) by ac_rfl)).right;exact(((h6.qh HD.o.1).Bi h0).av.Bi HE.o).av
  by_cases hlt:i<es.length
  .have hii:(i:Int)<es.length:=by omega
   by_cases hmm:(m:Int)<aD
   .obtain⟨lb,lo,rfl,hq⟩:=mK HD.o.2.2.2.right.right.jV (by omega);obtain⟨y0,y1⟩:=hq i hlt;have hsd:=HD.o.2.2.2;have ra:=hsd.right.right.nj _ (List.getElem_mem hlt);obtain⟨SA,SB,B1,e1,e2,e3,e4⟩:=sA es[i].key.2.2 fl;obtain⟨SA',SC,B2,e1',e2',e3',e4'⟩:=sA es[i].key.2.2 tl;have s1:=cK ra.1 es[i].key.2.1;have s2:=cK (HPr.o _ hsd.right.right.right).1 fC;have s3:=cK (HPr.o _ hsd.right.right.right).2 tC;rw[<-e1] at s1;rw[<-e2] at s2;rw[<-e2'] at s3;rw[e1', <-e1] at e3';have HB1:=ah e4;have HB2:=ah e4';have HIn:=ah (List.getElem_mem hlt);have HSt:=ah (Dp (f:=fl) (t:=tl) hlt);clear hq ra e1 e2 e4 e1' e2' e4';generalize es[i]=p at*
    obtain⟨⟨kA,kc,kl0⟩,⟨vA,vc,vl⟩,eq1,dd1⟩:=p;replace y0:_=some (Value.slice kA kl0.length kc):=y0;replace y1:_=some (Value.slice vA vl.length vc):=y1;dsimp only at s1 HB1 HB2 HSt;have HS2:=ah hsd;clear hsd;have HNo:Hid (yp fl tl kl0=false->Hid (gs.length=m/\az gs=(dU fl tl (az (es.take (i+1)))).take aD.toNat/\(∀ g ∈ gs,g ∈ es))):=ah fun h0=>by
     refine⟨HD.o.1,?_,HD.o.2.2.1⟩;rw[HSt.o,if_neg (by rw[h0];simp),List.append_nil];exact HD.o.2.1
    cases B1 with
    | true=>
     have HI:=ah (HNo.o (by unfold yp;rw[<-HB1.o];rfl));go_wp2_with fail;go_roundw
     .exact⟨i+1,m,d,B,gs,by omega,by omega,by push_cast;rfl,rfl,HI.o.out.1,HI.o.out.2.1,HI.o.out.2.2,HS2.o⟩
     .simp[intOf];omega
    | false=>
     by_cases ht0:tl.length=0
     .have hz0:((tl.length:Int)==0)=true:=by rw[ht0];rfl
      have HI:Hid (yp fl tl kl0=true):=ah (by unfold yp;rw[<-HB1.o,List.eq_nil_of_length_eq_zero ht0];rfl);clear ht0;go_upto_region 7 with fail;have HSa:=ah (HS2.o.aC (.cells #[.slice kA kl0.length kc,.slice vA vl.length vc] 65));go_wp2_with (at_builtin;refine au rfl (.tmp 47) (.tmp 53) 30 rfl 65 j0 _ 2 48 Tryz.underlying30 Hj.o Hy0.o Hy1.o Hy2.o rfl (by decide) (.slice B m d) m (gs.flatMap cM) rfl w0 _ (by exact HSa.o) (some ⟨wr.heap.size,0,none⟩) 1 1 [.slice kA kl0.length kc,.slice vA vl.length vc] rfl (by exact(aL _ _ _)) rfl (by intro u hu;simp at hu;rcases hu with rfl | rfl<;>rfl) (by unfold maxLen;omega) (by omega) ?_;intro B7 c7 w7 hs7;have HS7:=ah hs7;clear hs7);go_roundw
      .refine⟨i+1,m+1,c7,B7,gs++[⟨(kA,kc,kl0),(vA,vc,vl),eq1,dd1⟩],by omega,by omega,by push_cast;rfl,rfl,?_,?_,?_,?_⟩
       .rw[List.length_append,HD.o.1];rfl
       .have h7:=congrArg List.length HD.o.2.1;rw[bB,HD.o.1,List.length_take] at h7;have h8:(dU fl tl (az (es.take i))).length=m:=by omega
        have h9:=HD.o.2.1;rw[List.take_of_length_le (by omega)] at h9;rw[HSt.o,if_pos HI.o,List.take_of_length_le (by rw[List.length_append,h8];show m+1<=_;omega), <-h9,dY];rfl
       .intro g hg;rcases List.mem_append.1 hg with hg | hg
        .exact HD.o.2.2.1 g hg
        .rw[List.mem_singleton] at hg;rw[hg];exact HIn.o
       .rw[List.flatMap_append];exact HS7.o
      .simp[intOf];omega
     .have hz0:((tl.length:Int)==0)=false:=by rw[beq_eq_false_iff_ne];omega
      cases B2 with
      | true=>
       have HI:Hid (yp fl tl kl0=true):=ah (by unfold yp;rw[<-HB1.o, <-HB2.o];simp);clear ht0;go_upto_region 7 with fail;have HSa:=ah (HS2.o.aC (.cells #[.slice kA kl0.length kc,.slice vA vl.length vc] 65));go_wp2_with (at_builtin;refine au rfl (.tmp 47) (.tmp 53) 30 rfl 65 j0 _ 2 48 Tryz.underlying30 Hj.o Hy0.o Hy1.o Hy2.o rfl (by decide) (.slice B m d) m (gs.flatMap cM) rfl w0 _ (by exact HSa.o) (some ⟨wr.heap.size,0,none⟩) 1 1 [.slice kA kl0.length kc,.slice vA vl.length vc] rfl (by exact(aL _ _ _)) rfl (by intro u hu;simp at hu;rcases hu with rfl | rfl<;>rfl) (by unfold maxLen;omega) (by omega) ?_;intro B7 c7 w7 hs7;have HS7:=ah hs7;clear hs7);go_roundw
       .refine⟨i+1,m+1,c7,B7,gs++[⟨(kA,kc,kl0),(vA,vc,vl),eq1,dd1⟩],by omega,by omega,by push_cast;rfl,rfl,?_,?_,?_,?_⟩
        .rw[List.length_append,HD.o.1];rfl
        .have h7:=congrArg List.length HD.o.2.1;rw[bB,HD.o.1,List.length_take] at h7;have h8:(dU fl tl (az (es.take i))).length=m:=by omega
         have h9:=HD.o.2.1;rw[List.take_of_length_le (by omega)] at h9;rw[HSt.o,if_pos HI.o,List.take_of_length_le (by rw[List.length_append,h8];show m+1<=_;omega), <-h9,dY];rfl
        .intro g hg;rcases List.mem_append.1 hg with hg | hg
         .exact HD.o.2.2.1 g hg
         .rw[List.mem_singleton] at hg;rw[hg];exact HIn.o
        .rw[List.flatMap_append];exact HS7.o
       .simp[intOf];omega
      | false=>
       have HI:=ah (HNo.o (by unfold yp;rw[<-HB1.o, <-HB2.o,decide_eq_false (by intro h0;rw[h0] at ht0;exact ht0 rfl)];rfl));clear ht0;go_wp2_with fail;go_roundw
       .exact⟨i+1,m,d,B,gs,by omega,by omega,by push_cast;rfl,rfl,HI.o.out.1,HI.o.out.2.1,HI.o.out.2.2,HS2.o⟩
       .simp[intOf];omega
   .have HT:=ah (HFin.o (by
     rw[HD.o.2.1, <-HE.o];have h7:=congrArg List.length HD.o.2.1;rw[bB,HD.o.1] at h7;exact(Ep (by rw[<-h7];rw[List.length_take] at h7;omega)).symm))
    go_wp2_with fail;go_ret;exact⟨_,rfl,HT.o⟩
  .have hie:i=es.length:=by omega
   have HT:=ah (HFin.o (by rw[HD.o.2.1,hie,List.take_length,HE.o]));have hii:¬ (i:Int)<es.length:=by omega
   clear hlt hie;go_wp2_with fail;go_ret;exact⟨_,rfl,HT.o⟩
end
end Go.Proofs.YtmbaiglpgaoogaaGreat
