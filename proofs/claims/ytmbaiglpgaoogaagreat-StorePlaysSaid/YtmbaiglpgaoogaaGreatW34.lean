/- Joined, as they were built one by one: StRef2 StRef3 StRef4 StWhMk StRm. -/
import Derived.Test.YtmbaiglpgaoogaaGreatW02
import Derived.Test.YtmbaiglpgaoogaaGreatW13
import Derived.Test.YtmbaiglpgaoogaaGreatW19
import Derived.Test.YtmbaiglpgaoogaaGreatW33
set_option maxHeartbeats 16000000
namespace Go.Proofs.YtmbaiglpgaoogaaGreat
open Go.RowKit
set_option linter.unusedVariables false
set_option maxRecDepth 100000
def mJ (k:List UInt8) (M:List Kv):Nat:=(M.takeWhile fun q=>decide (Lib.compareBytes q.1 k<0)).length
theorem H9 (k:List UInt8) (M:List Kv):mJ k M<=M.length:=by
 unfold mJ;exact(List.takeWhile_sublist _).length_le
theorem um {k:List UInt8}: ∀ {M:List Kv} {i:Nat} (hi:i<M.length),(∀ j (hj:j<M.length),j<i->Lib.compareBytes (M[j]'hj).1 k<0)->¬ Lib.compareBytes (M[i]'hi).1 k<0->mJ k M=i
 | p::M,i,hi,h,hn=>by
  unfold mJ;rw[List.takeWhile_cons]
  cases i with
  | zero=>
   have h1:¬ Lib.compareBytes p.1 k<0:=hn;rw[if_neg (by simpa using h1)];rfl
  | succ i=>
   have h1:Lib.compareBytes p.1 k<0:=h 0 (by simp) (by omega);rw[if_pos (by simpa using h1),List.length_cons];have h2:=um (k:=k) (M:=M) (i:=i) (by simpa using hi) (fun j hj hji=>h (j+1) (by simpa using hj) (by omega)) hn;unfold mJ at h2;rw[h2]
theorem Gj {k:List UInt8} {M:List Kv} (h: ∀ j (hj:j<M.length),Lib.compareBytes (M[j]'hj).1 k<0):mJ k M=M.length:=by
 unfold mJ;rw[(nz (f:=fun q:Kv=>decide (Lib.compareBytes q.1 k<0)) (L:=M) (fun x hx=>by
  obtain⟨j,hj,rfl⟩:=List.mem_iff_getElem.1 hx;simpa using h j hj)).1]
def ij (k:List UInt8) (M:List Kv):Nat:=if h:mJ k M<M.length then (if (M[mJ k M]'h).1=k then mJ k M+1 else mJ k M) else mJ k M
theorem Aj (p:cw) (M:List Kv):dH p M=M.take (mJ p.key M)++((if p.dead=true then [] else [(p.key,p.value)])++M.drop (ij p.key M)):=by
 have h1:M.takeWhile (fun q=>decide (Lib.compareBytes q.1 p.key<0))=M.take (mJ p.key M):=by
  unfold mJ;have e:=List.takeWhile_append_dropWhile (p:=fun q:Kv=>decide (Lib.compareBytes q.1 p.key<0)) (l:=M);have h2:M.take (M.takeWhile fun q=>decide (Lib.compareBytes q.1 p.key<0)).length=(M.takeWhile (fun q=>decide (Lib.compareBytes q.1 p.key<0))++M.dropWhile (fun q=>decide (Lib.compareBytes q.1 p.key<0))).take (M.takeWhile fun q=>decide (Lib.compareBytes q.1 p.key<0)).length:=by rw[e]
  rw[h2,List.take_left'];rfl
 have h3:M.dropWhile (fun q=>decide (Lib.compareBytes q.1 p.key<0))=M.drop (mJ p.key M):=by
  unfold mJ;have e:=List.takeWhile_append_dropWhile (p:=fun q:Kv=>decide (Lib.compareBytes q.1 p.key<0)) (l:=M);have h2:M.drop (M.takeWhile fun q=>decide (Lib.compareBytes q.1 p.key<0)).length=(M.takeWhile (fun q=>decide (Lib.compareBytes q.1 p.key<0))++M.dropWhile (fun q=>decide (Lib.compareBytes q.1 p.key<0))).drop (M.takeWhile fun q=>decide (Lib.compareBytes q.1 p.key<0)).length:=by rw[e]
  rw[h2,List.drop_left'];rfl
 unfold dH;rw[h1,h3];congr 2
 unfold ij;by_cases h:mJ p.key M<M.length
 .rw[dif_pos h,List.drop_eq_getElem_cons h];by_cases h4:(M[mJ p.key M]).1=p.key
  .rw[if_pos h4];simp only[h4,if_true]
  .rw[if_neg h4,List.drop_eq_getElem_cons h];simp only[h4,if_false]
 .rw[dif_neg h,List.drop_of_length_le (by omega)]
section
variable {w0 w w':World} {F:SP}
theorem xV (es:List En) (k:Nat):(es.flatMap cI).drop (k*2)=(es.drop k).flatMap cI:=by
 have e:es.flatMap cI=(es.take k).flatMap cI++(es.drop k).flatMap cI:=by rw[<-List.flatMap_append,List.take_append_drop]
 by_cases hk:k<=es.length
 .rw[e,List.drop_left'];rw[du,List.length_take,Nat.min_eq_left hk]
 .rw[List.drop_of_length_le (l:=es) (by omega),List.drop_of_length_le (by rw[du];omega)];rfl
theorem jq {A:Option Addr} {v:Value} {es gs:List En} {g m q c y:Nat} {ty:TypeId} {cs:Array Value} {X:SP} {M':List Kv} (h:Sat w0 (Row 65 2 (.slice A (m+q) c) (m+q) (gs.flatMap cI++(es.drop y).flatMap cI)*(bZ (cg gs)*(X*(Pt g ty cs*(fh v es*F))))) w) (hm:gs.length=m) (hq:es.length - y=q) (hp:aY (gs++es.drop y)=M'):
 Sat w0 (Pt g ty (cs.setIfInBounds 0 (.slice A (m+q) c))*(qb (.slice A (m+q) c) M'*F)) (w.setCell ⟨g,0,none⟩ (.slice A (m+q) c)):=by
 have h1:=h.bK.set 0 (.slice A (m+q) c);generalize w.setCell ⟨g,0,none⟩ (.slice A (m+q) c)=W at*
 have h2:=(h1.of (show _=fh v es*(X*(bZ (cg gs)*(Row 65 2 (.slice A (m+q) c) (m+q) (gs.flatMap cI++(es.drop y).flatMap cI)*(Pt g ty (cs.setIfInBounds 0 (.slice A (m+q) c))*F)))) by ac_rfl)).oJ.ik (si (fs:=es.drop y) fun e he=>List.mem_of_mem_drop he);have h3:=(h2.of (show _=fh v es*(X*(bZ (cg gs)*(bZ (cg (es.drop y))*(Row 65 2 (.slice A (m+q) c) (m+q) (gs.flatMap cI++(es.drop y).flatMap cI)*(Pt g ty (cs.setIfInBounds 0 (.slice A (m+q) c))*F))))) by ac_rfl)).right.right.il;have e1:cg (gs++es.drop y)=cg gs++cg (es.drop y):=by unfold cg;rw[List.flatMap_append]
 have e2:(gs++es.drop y).length=m+q:=by rw[List.length_append,List.length_drop,hm,hq]
 rw[<-e1] at h3;have h4:Sat w0 (fh (.slice A (m+q) c) (gs++es.drop y)*(Pt g ty (cs.setIfInBounds 0 (.slice A (m+q) c))*F)) W:=by
  refine Sat.tJ (n:=m+q) ?_ e2;rw[List.flatMap_append];exact h3.of (by ac_rfl)
 exact(h4.IS hp).ay
theorem DM:(Tryz.prog.info? 5).map (fun i=>(i.zero,i.size,i.bytes))=some (some (.int .u8 0),1,1):=by kernel_rfl
theorem BP (g:Nat) (ty:TypeId) (cs:Array Value) (v:Value) (M:List Kv) (p:Pu) (hv:cs[0]?=some v) (h:Sat w0 (Pt g ty cs*(qb v M*F)) w) (hl:M.length<=10000) (hp: ∀ W,Sat w0 F W->Hs W p) (hz:p.key.2.2.length<=1000000/\p.value.2.2.length<=1000000):
 Calls Tryz.prog 75 #[.pointer (some ⟨g,0,none⟩),.agg #[aJ p.key,aJ p.value,.bool p.dead]] w fun e w'=>e = .returned (.tuple #[])/\ ∃ v',Sat w0 (Pt g ty (cs.setIfInBounds 0 v')*(qb v' (dH p.bo M)*F)) w':=by
 obtain⟨es,he,h1⟩:=h.ay.mp;obtain⟨LA,lc,rfl,hlc1,hlc2⟩:=h1.zF;obtain⟨⟨kA,kc,kl⟩,⟨vA,vc,vl⟩,dd⟩:=p;obtain⟨hz1,hz2⟩:=hz;replace hz1:kl.length<=1000000:=hz1;replace hz2:vl.length<=1000000:=hz2;have hn:es.length<=10000:=by rw[<-bX,he];exact hl
 have HPe:Hid (∀ gs:List En,aY gs=M.take (mJ kl M)++(if dd=true then [] else [(kl,vl)])->aY (gs++es.drop (ij kl M))=dH ⟨kl,vl,dd⟩ M):=ah fun gs hg=>by
  have e9:aY (es.drop (ij kl M))=M.drop (ij kl M):=by rw[<-he];unfold aY;rw[List.map_drop]
  rw[jy,hg,e9,Aj,List.append_assoc]
 obtain⟨j0,hj,hy0,hy1,hy2⟩:=info_parts tK;obtain⟨j1,hj1,hu0,hu1,hu2⟩:=info_parts DM;have Hj:=ah hj;have Hy0:=ah hy0;have Hy1:=ah hy1;have Hy2:=ah hy2;have Hj1:=ah hj1;have Hz0:=ah hu0;have Hz1:=ah hu1;have Hz2:=ah hu2;have h2:=h1.ay.bN (b:=w.heap.size) 43 #[.slice kA kl.length kc,.slice vA vl.length vc,.bool dd] rfl;obtain⟨z,hzd⟩: ∃ z,z=mJ kl M:=⟨_,rfl⟩;obtain⟨y,hyd⟩: ∃ y,y=ij kl M:=⟨_,rfl⟩;have hzn:z<=es.length:=by rw[hzd, <-bX,he];exact H9 kl M
 have HZ:=ah hzd;have HY:=ah hyd;have HE:=ah he;have HPr:Hid (∀ W,Sat w0 F W->Rd W kA kl/\Rd W vA vl):=ah fun W hW=>hp W hW
 have HCs:=ah hv;have hEl: ∀ i (hi:i<es.length),(M[i]'(by rw[<-he,bX];exact hi)).1=es[i].key.2.2:=fun i hi=>by
  subst he;unfold aY;rw[List.getElem_map];rfl
 have HEl:=ah hEl;clear hj hy0 hy1 hy2 hj1 hu0 hu1 hu2 h h1 hzd hyd hp hv hEl;show Calls Tryz.prog 75 #[.pointer (some ⟨g,0,none⟩),.agg #[.slice kA kl.length kc,.slice vA vl.length vc,.bool dd]] w _;go_enter Tryz.func75, Tryz.ntmps75;go_upto_region 1 with fail;revert h2;generalize w.alloc _=W1;intro h2;generalize w.heap.size=E at*
 have HS:=ah h2;clear h2;go_upto_block 0 with fail
 go_cut [4,5] (fun ov iv wx=> ∃ (d:Nat) (B:Option Addr),ov = .slice B z d/\iv = .int .i64 (z:Int)/\Hid (Sat w0 (Row 65 2 (.slice B z d) z ((es.take z).flatMap cI)*(Pt E 43 #[.slice kA kl.length kc,.slice vA vl.length vc,.bool dd]*(Pt g ty cs*(fh (.slice LA es.length lc) es*F)))) wx))
 case first=>
  go_wp2_with fail;go_loopw [4,5] (fun ov iv wr=> ∃ (i d:Nat) (B:Option Addr),i<=es.length/\iv = .int .i64 (i:Int)/\ov = .slice B i d/\Hid ((∀ j (hj:j<es.length),j<i->Lib.compareBytes es[j].key.2.2 kl<0)/\Sat w0 (Row 65 2 (.slice B i d) i ((es.take i).flatMap cI)*(Pt E 43 #[.slice kA kl.length kc,.slice vA vl.length vc,.bool dd]*(Pt g ty cs*(fh (.slice LA es.length lc) es*F)))) wr)) (fun _ iv _=>es.length - (intOf iv).toNat)
  case atStart=>exact⟨0,0,none,by omega,rfl,rfl,(fun j hj h=>by omega),HS.o.aM 65 2⟩
  case round=>
   obtain⟨i,d,B,hi,rfl,rfl,HD⟩:=hrel;have hsr:=HD.o.2.drew;have c0:wr.drew.cell? ⟨g,0,none⟩=some (.slice LA es.length lc):=(hsr.bp.cell 0).trans HCs.o;have hEn:=hsr.right.right.right.tk;by_cases hlt:i<es.length
   .obtain⟨lb,lo,rfl,hq⟩:=nj hsr.right.right.right.j4 (by omega);obtain⟨y0,y1⟩:=hq i hlt;have ra:=hEn _ (List.getElem_mem hlt);obtain⟨SA,SB,B1,e1,e2,e3,e4⟩:=Fg es[i].key.2.2 kl;have s1:=dw ra.1 es[i].key.2.1;have s2:=dw (HPr.o _ hsr.right.right.right.right).1 kc;rw[<-e1] at s1;rw[<-e2] at s2;have HB4:Hid (B1=true↔Lib.compareBytes es[i].key.2.2 kl<0):=ah (by rw[e4,ib,decide_eq_true_iff]);have HTk:Hid ((es.take (i+1)).flatMap cI=(es.take i).flatMap cI++cI es[i]):=ah (by rw[List.take_add_one,List.getElem?_eq_getElem hlt,List.flatMap_append];rfl);have HMi:Hid ((M[i]'(by rw[<-he,bX];exact hlt)).1=es[i].key.2.2):=HEl.o i hlt;have HLs:Hid (∀ j (hj:j<es.length),j<i->Lib.compareBytes es[j].key.2.2 kl<0):=HD.o.1;have HLq:Hid (Lib.compareBytes es[i].key.2.2 kl<0-> ∀ j (hj:j<es.length),j<i+1->Lib.compareBytes es[j].key.2.2 kl<0):=ah fun h0 j hj hji=>by
     by_cases e:j=i
     .subst e;exact h0
     .exact HD.o.1 j hj (by omega)
    clear hq ra e1 e2 e4;generalize es[i]=q at*
    obtain⟨⟨kB,kd,kl0⟩,⟨vB,vd,vl0⟩,eq0,dd0⟩:=q;replace y0:_=some (Value.slice kB kl0.length kd):=y0;replace y1:_=some (Value.slice vB vl0.length vd):=y1;dsimp only at s1 HB4;have hii:(i:Int)<es.length:=by omega
    have E3:=ah e3;have C0:=ah c0;have Y0:=ah y0;have Y1:=ah y1;have G0:Hid (wr.drew.cell? ⟨g,0,none⟩=some (.slice (some ⟨lb,lo,none⟩) es.length lc)/\wr.drew.cell? ⟨lb,lo+i*2,none⟩=some (.slice kB kl0.length kd)/\wr.drew.cell? ⟨E,0,none⟩=some (.slice kA kl.length kc)/\(convert 41 9 (.slice kB kl0.length kd)).run Tryz.prog wr.drew = .ok (.string SA) wr.drew/\(convert 41 9 (.slice kA kl.length kc)).run Tryz.prog wr.drew = .ok (.string SB) wr.drew):=ah ⟨c0,y0,hsr.ay.cell 0,s1,s2⟩;clear c0 y0 y1 s1 s2 hEn e3;go_upto_region 3 with fail
    cases B1 with
    | true=>
     have hLs:=HLq.o (HB4.o.1 rfl);have e3:=E3.o;refine wp_region_held_drew (S:=fun w'=>w'.cell? ⟨g,0,none⟩=some (.slice (some ⟨lb,lo,none⟩) es.length lc)/\w'.cell? ⟨lb,lo+i*2,none⟩=some (.slice kB kl0.length kd)/\w'.cell? ⟨E,0,none⟩=some (.slice kA kl.length kc)/\(convert 41 9 (.slice kB kl0.length kd)).run Tryz.prog w' = .ok (.string SA) w'/\(convert 41 9 (.slice kA kl.length kc)).run Tryz.prog w' = .ok (.string SB) w') (by kernel_rfl) G0.o ?_;intro hS0;refine an 0 1 2 3 ?_;refine an 4 5 6 7 ?_;refine an 8 9 10 11 ?_;refine an 12 13 14 15 ?_;refine an 16 17 18 19 ?_;refine ct 20 21 ?_;refine wpAnyH_done (by kernel_rfl) ?_ _;obtain⟨W2,hW2⟩: ∃ W2,W2=wr.drew:=⟨_,rfl⟩;have c0:=C0.o;have y0:=Y0.o;have y1:=Y1.o;rw[<-hW2] at c0 y0 y1 hsr;rw[<-hW2];have HSa:=ah (hsr.aD (.cells #[.slice kB kl0.length kd,.slice vB vl0.length vd] 65));have HLs2:=ah hLs;clear hW2 e3 hLs hsr G0 hS0;go_wp2_with (at_builtin;refine av rfl (.tmp 28) (.tmp 36) 30 rfl 65 j0 _ 2 48 Tryz.underlying30 Hj.o Hy0.o Hy1.o Hy2.o rfl (by decide) (.slice B i d) i ((es.take i).flatMap cI) rfl w0 _ (by exact HSa.o) (some ⟨W2.heap.size,0,none⟩) 1 1 [.slice kB kl0.length kd,.slice vB vl0.length vd] rfl (by exact(aQ _ _ _)) rfl (by intro u hu;simp at hu;rcases hu with rfl | rfl<;>rfl) (by unfold maxLen;omega) (by omega) ?_;intro B7 c7 w7 hs7;have HS7:=ah hs7;clear hs7);go_roundw
     .refine⟨i+1,c7,B7,by omega,by push_cast;rfl,rfl,HLs2.o,?_⟩;rw[HTk.o];exact HS7.o
     .simp[intOf];omega
    | false=>
     have HIz:Hid (i=z):=ah (by
      rw[HZ.o];exact(um (by rw[<-he,bX];exact hlt) (fun j hj hji=>by
       have hj2:j<es.length:=by omega
       rw[HEl.o j hj2];exact HLs.o j hj2 hji) (by
       rw[HMi.o];intro h0;have:=HB4.o.2 h0
       cases this)).symm)
     have e3:=E3.o;refine wp_region_held_drew (S:=fun w'=>w'.cell? ⟨g,0,none⟩=some (.slice (some ⟨lb,lo,none⟩) es.length lc)/\w'.cell? ⟨lb,lo+i*2,none⟩=some (.slice kB kl0.length kd)/\w'.cell? ⟨E,0,none⟩=some (.slice kA kl.length kc)/\(convert 41 9 (.slice kB kl0.length kd)).run Tryz.prog w' = .ok (.string SA) w'/\(convert 41 9 (.slice kA kl.length kc)).run Tryz.prog w' = .ok (.string SB) w') (by kernel_rfl) G0.o ?_;intro hS0;refine an 0 1 2 3 ?_;refine an 4 5 6 7 ?_;refine an 8 9 10 11 ?_;refine an 12 13 14 15 ?_;refine an 16 17 18 19 ?_;refine ct 20 21 ?_;refine wpAnyH_done (by kernel_rfl) ?_ _;go_wp2_with fail;go_meet
     exact⟨d,B,by rw[<-HIz.o],by rw[<-HIz.o],by rw[<-HIz.o];exact hsr⟩
   .have hie:i=es.length:=by omega
    have HIz:Hid (i=z):=ah (by
     rw[HZ.o,Gj (fun j hj=>by
      have hj2:j<es.length:=by rw[<-bX,he];exact hj
      rw[HEl.o j hj2];exact HD.o.1 j hj2 (by omega)), <-he,bX]
     exact hie)
    have hii:¬ (i:Int)<es.length:=by omega
    have G0:=ah c0;clear c0 hEn;go_upto_region 3 with fail;refine wp_region_held_drew (S:=fun w'=>w'.cell? ⟨g,0,none⟩=some (.slice LA es.length lc)) (by kernel_rfl) G0.o ?_;intro hS0;refine an 0 1 2 3 ?_;refine an 4 5 6 7 ?_;refine b9 8 ?_;refine b9 9 ?_;refine b9 10 ?_;refine b9 11 ?_;refine b9 12 ?_;refine b9 13 ?_;refine b9 14 ?_;refine b9 15 ?_;refine b9 16 ?_;refine b9 17 ?_;refine b9 18 ?_;refine b9 19 ?_;refine b9 20 ?_;refine b8 21 ?_;refine wpAnyH_done (by kernel_rfl) ?_ _;go_wp2_with fail;go_meet
    exact⟨d,B,by rw[<-HIz.o,hie],by rw[<-HIz.o,hie],by rw[<-HIz.o];exact hsr⟩
 case rest=>
  obtain⟨d,B,rfl,rfl,HD⟩:=hcut;have hx0:Sat w0 (Row 65 2 (.slice B z d) z ((es.take z).flatMap cI)*(bZ (cg (es.take z))*(Pt E 43 #[.slice kA kl.length kc,.slice vA vl.length vc,.bool dd]*(Pt g ty cs*(fh (.slice LA es.length lc) es*F))))) wc:=by
   have h1:=(HD.o.of (show _=fh (.slice LA es.length lc) es*(Row 65 2 (.slice B z d) z ((es.take z).flatMap cI)*(Pt E 43 #[.slice kA kl.length kc,.slice vA vl.length vc,.bool dd]*(Pt g ty cs*F))) by ac_rfl)).oJ.ik (si (fs:=es.take z) fun e he=>List.mem_of_mem_take he);exact h1.of (by ac_rfl)
  obtain⟨fs,hfs⟩: ∃ fs,fs=es.take z:=⟨_,rfl⟩;rw[<-hfs] at hx0;have HFl:Hid (fs.length=z):=ah (by rw[hfs,List.length_take];omega);have HFp:Hid (aY fs=M.take z):=ah (by rw[hfs,lQ,he]);have HX0:=ah hx0;clear hfs hx0 HD;refine ‹∀ (a:Act) (w:World),Code.wp _ _ _ a w->_› _ _ ?_
  apply wp_seq_k;intro _ _;go_cut [4] (fun ov wx=> ∃ (m d:Nat) (B:Option Addr) (gs:List En),ov = .slice B m d/\Hid (gs.length=m/\m<=z+1/\aY gs=M.take z++(if dd=true then [] else [(kl,vl)])/\Sat w0 (Row 65 2 (.slice B m d) m (gs.flatMap cI)*(bZ (cg gs)*(Pt E 43 #[.slice kA kl.length kc,.slice vA vl.length vc,.bool dd]*(Pt g ty cs*(fh (.slice LA es.length lc) es*F))))) wx))
  case first=>
   have c2:wc.cell? ⟨E,2,none⟩=some (.bool dd):=HX0.o.bp.cell 2
   cases dd with
   | true=>
    go_wp2_with fail;go_meet
    exact⟨z,d,B,fs,rfl,HFl.o,by omega,by rw[HFp.o];simp,HX0.o⟩
   | false=>
    go_upto_region 7 with fail;clear c2;generalize wc=W at*
    obtain⟨Z,hZ⟩: ∃ Z,Z=Pt E 43 #[.slice kA kl.length kc,.slice vA vl.length vc,.bool false]*(Pt g ty cs*(fh (.slice LA es.length lc) es*F)):=⟨_,rfl⟩;obtain⟨Y,hY⟩: ∃ Y,Y=bZ (cg fs)*Z:=⟨_,rfl⟩;obtain⟨X,hX⟩: ∃ X,X=Row 65 2 (.slice B z d) z (fs.flatMap cI)*Y:=⟨_,rfl⟩;have HYE:Hid (∀ v,Sat w0 Y v->v.cell? ⟨E,0,none⟩=some (.slice kA kl.length kc)/\v.cell? ⟨E,1,none⟩=some (.slice vA vl.length vc)):=ah fun v hv=>by
     rw[hY,hZ] at hv;exact⟨hv.ay.cell 0,hv.ay.cell 1⟩
    have HXE:Hid (∀ v,Sat w0 X v->v.cell? ⟨E,0,none⟩=some (.slice kA kl.length kc)/\v.cell? ⟨E,1,none⟩=some (.slice vA vl.length vc)):=ah fun v hv=>by
     rw[hX] at hv;exact HYE.o _ hv.right
    have HXR:Hid (∀ v,Sat w0 X v->Rd v kA kl/\Rd v vA vl):=ah fun v hv=>by
     rw[hX,hY,hZ] at hv;exact HPr.o _ hv.right.right.right.right.right
    have HSW:Hid (Sat w0 X W):=ah (by rw[hX,hY,hZ];exact HX0.o);refine wp_region_held_drew (S:=fun w'=>w'.cell? ⟨E,0,none⟩=some (.slice kA kl.length kc)/\w'.cell? ⟨E,1,none⟩=some (.slice vA vl.length vc)) (by kernel_rfl) (HXE.o _ HSW.o.drew) ?_;intro hS0;refine an 0 2 3 6 ?_;refine b8 7 ?_;refine bL (i:=1) (j:=5) rfl rfl (by kernel_rfl) (fun K hK=>?_) (fun K hK=>?_)
    ·
     go_simp;have hs:=((HSW.o.ab 5 #[]).dJ (n:=0) (cap:=0) (size:=1) (Nat.le_refl _) (Nat.zero_le _) rfl).drew;obtain⟨v1,hv1⟩: ∃ v,v=(W.alloc (.cells #[] 5)).drew:=⟨_,rfl⟩;obtain⟨g1,hg1⟩: ∃ x,x=W.heap.size:=⟨_,rfl⟩;rw[<-hv1, <-hg1] at hs;rw[<-hv1, <-hg1];have HS1:=ah hs;clear hs hv1 hg1;refine hK.out _ _ (HXE.o _ (Sat.right HS1.o)) (fun hS0=>?_);clear hK K;refine bL (i:=4) (j:=5) rfl rfl (by kernel_rfl) (fun K hK=>?_) (fun K hK=>?_)
     ·
      refine aR rfl (.tmp 44) (.tmp 46) 41 rfl 5 j1 _ 1 1 Tryz.underlying41 Hj1.o Hz0.o Hz1.o Hz2.o rfl (by decide) (.slice (some ⟨g1,0,none⟩) 0 0) 0 [] rfl w0 _ (by exact HS1.o) kA kl.length kc (kl.map bv) rfl (by exact(HXR.o _ HS1.o.right).1) (by simp) (by intro u hu;obtain⟨b,_,rfl⟩:=List.mem_map.1 hu;rfl) (by unfold maxLen;omega) (by omega) ?_;intro A4 c4 v4 hs;simp only[Nat.zero_add,List.nil_append] at hs ⊢;have HS4:=ah hs;clear hs;refine hK.out _ _ (HXE.o _ (Sat.right HS4.o)) (fun hS0=>?_);clear hK K
      try simp only[Act.put,eh,ek,en]
      refine bB 5 fun K hK=>?_
      go_simp;have hs:=(HS4.o.ab 5 #[]).dJ (n:=0) (cap:=0) (size:=1) (Nat.le_refl _) (Nat.zero_le _) rfl;obtain⟨v5,hv5⟩: ∃ v,v=v4.alloc (.cells #[] 5):=⟨_,rfl⟩;obtain⟨g5,hg5⟩: ∃ x,x=v4.heap.size:=⟨_,rfl⟩;rw[<-hv5, <-hg5] at hs;rw[<-hv5, <-hg5];have HS5:=ah hs;clear hs hv5 hg5;refine hK.out _ _ (HXE.o _ (Sat.right (Sat.right HS5.o))) (fun hS0=>?_);clear hK K;refine bB 8 fun K hK=>?_
      refine aR rfl (.tmp 48) (.tmp 50) 41 rfl 5 j1 _ 1 1 Tryz.underlying41 Hj1.o Hz0.o Hz1.o Hz2.o rfl (by decide) (.slice (some ⟨g5,0,none⟩) 0 0) 0 [] rfl w0 _ (by exact HS5.o) vA vl.length vc (vl.map bv) rfl (by exact(HXR.o _ HS5.o.right.right).2) (by simp) (by intro u hu;obtain⟨b,_,rfl⟩:=List.mem_map.1 hu;rfl) (by unfold maxLen;omega) (by omega) ?_;intro A8 c8 v8 hs;simp only[Nat.zero_add,List.nil_append] at hs ⊢;have HS8:=ah hs;clear hs;refine hK.out _ _ (HXE.o _ (Sat.right (Sat.right HS8.o))) (fun hS0=>?_);clear hK K
      try simp only[Act.put,eh,ek,en]
      refine b8 9 ?_;refine bB 10 fun K hK=>?_
      go_simp;have HS10:=ah ((HS8.o.ay).aD (.cells #[.slice A4 kl.length c4,.slice A8 vl.length c8] 65));refine hK.out _ _ (HXE.o _ (Sat.right (Sat.right HS10.o))) (fun hS0=>?_);clear hK K;refine bB 11 fun K hK=>?_
      have hs10:=HS10.o;rw[hX] at hs10;refine aR rfl (.tmp 43) (.tmp 53) 30 rfl 65 j0 _ 2 48 Tryz.underlying30 Hj.o Hy0.o Hy1.o Hy2.o rfl (by decide) (.slice B z d) z (fs.flatMap cI) rfl w0 _ (by exact hs10.of (show _=Row 65 2 (.slice B z d) z (fs.flatMap cI)*(Row 5 1 (.slice A4 kl.length c4) kl.length (kl.map bv)*(Row 5 1 (.slice A8 vl.length c8) vl.length (vl.map bv)*Y)) by ac_rfl)) (some ⟨v8.heap.size,0,none⟩) 1 1 [.slice A4 kl.length c4,.slice A8 vl.length c8] rfl (by exact(aQ _ _ _)) rfl (by intro u hu;simp at hu;rcases hu with rfl | rfl<;>rfl) (by unfold maxLen;omega) (by omega) ?_;intro A11 c11 w11 hs;have HS11:=ah hs;clear hs hs10;refine hK.out _ _ (HYE.o _ (Sat.right (Sat.right (Sat.right HS11.o)))) (fun hS0=>?_);clear hK K
      try simp only[Act.put,eh,ek,en]
      refine b8 12 ?_;refine wpAnyH_done (by kernel_rfl) ?_ _;go_wp2_with fail;go_meet
      have h1:=HS11.o.ay.dZ;have h2:=(h1.of (show _=Row 5 1 (.slice A8 vl.length c8) vl.length (vl.map bv)*(bZ [(A4,c4,kl)]*(Row 65 2 (.slice A11 (z+1) c11) (z+1) (fs.flatMap cI++[.slice A4 kl.length c4,.slice A8 vl.length c8])*Y)) by ac_rfl)).dZ;rw[hY] at h2;have h3:=(h2.of (show _=bZ (cg fs)*(bZ [(A4,c4,kl)]*(bZ [(A8,c8,vl)]*(Row 65 2 (.slice A11 (z+1) c11) (z+1) (fs.flatMap cI++[.slice A4 kl.length c4,.slice A8 vl.length c8])*Z))) by ac_rfl)).il.il;refine⟨z+1,c11,A11,fs++[⟨(A4,c4,kl),(A8,c8,vl),0,false⟩],rfl,?_,Nat.le_refl _,?_,?_⟩
      .rw[List.length_append,HFl.o];rfl
      .rw[jy,HFp.o];rfl
      .have e1:cg (fs++[⟨(A4,c4,kl),(A8,c8,vl),0,false⟩])=cg fs++[(A4,c4,kl)]++[(A8,c8,vl)]:=by
        unfold cg;rw[List.flatMap_append,List.append_assoc];rfl
       rw[e1,List.flatMap_append];exact h3.of (by rw[hZ];show _=Row 65 2 (.slice A11 (z+1) c11) (z+1) (fs.flatMap cI++[.slice A4 kl.length c4,.slice A8 vl.length c8])*_;ac_rfl)
     ·
      go_simp;have hs:=(HS1.o.ab 5 #[]).dJ (n:=0) (cap:=0) (size:=1) (Nat.le_refl _) (Nat.zero_le _) rfl;obtain⟨v5,hv5⟩: ∃ v,v=v1.alloc (.cells #[] 5):=⟨_,rfl⟩;obtain⟨g5,hg5⟩: ∃ x,x=v1.heap.size:=⟨_,rfl⟩;rw[<-hv5, <-hg5] at hs;rw[<-hv5, <-hg5];have HS5:=ah hs;clear hs hv5 hg5;refine hK.out _ _ (HXE.o _ (Sat.right (Sat.right HS5.o))) (fun hS0=>?_);clear hK K;refine bB 4 fun K hK=>?_
      refine aR rfl (.tmp 44) (.tmp 46) 41 rfl 5 j1 _ 1 1 Tryz.underlying41 Hj1.o Hz0.o Hz1.o Hz2.o rfl (by decide) (.slice (some ⟨g1,0,none⟩) 0 0) 0 [] rfl w0 _ (by exact HS5.o.ay) kA kl.length kc (kl.map bv) rfl (by exact(HXR.o _ HS5.o.right.right).1) (by simp) (by intro u hu;obtain⟨b,_,rfl⟩:=List.mem_map.1 hu;rfl) (by unfold maxLen;omega) (by omega) ?_;intro A4 c4 v4 hs;simp only[Nat.zero_add,List.nil_append] at hs ⊢;have HS4:=ah hs;clear hs;refine hK.out _ _ (HXE.o _ (Sat.right (Sat.right HS4.o))) (fun hS0=>?_);clear hK K
      try simp only[Act.put,eh,ek,en]
      refine bB 8 fun K hK=>?_
      refine aR rfl (.tmp 48) (.tmp 50) 41 rfl 5 j1 _ 1 1 Tryz.underlying41 Hj1.o Hz0.o Hz1.o Hz2.o rfl (by decide) (.slice (some ⟨g5,0,none⟩) 0 0) 0 [] rfl w0 _ (by exact HS4.o.ay) vA vl.length vc (vl.map bv) rfl (by exact(HXR.o _ HS4.o.right.right).2) (by simp) (by intro u hu;obtain⟨b,_,rfl⟩:=List.mem_map.1 hu;rfl) (by unfold maxLen;omega) (by omega) ?_;intro A8 c8 v8 hs;simp only[Nat.zero_add,List.nil_append] at hs ⊢;have HS8:=ah hs;clear hs;refine hK.out _ _ (HXE.o _ (Sat.right (Sat.right HS8.o))) (fun hS0=>?_);clear hK K
      try simp only[Act.put,eh,ek,en]
      refine b8 9 ?_;refine bB 10 fun K hK=>?_
      go_simp;have HS10:=ah ((HS8.o.ay).aD (.cells #[.slice A4 kl.length c4,.slice A8 vl.length c8] 65));refine hK.out _ _ (HXE.o _ (Sat.right (Sat.right HS10.o))) (fun hS0=>?_);clear hK K;refine bB 11 fun K hK=>?_
      have hs10:=HS10.o;rw[hX] at hs10;refine aR rfl (.tmp 43) (.tmp 53) 30 rfl 65 j0 _ 2 48 Tryz.underlying30 Hj.o Hy0.o Hy1.o Hy2.o rfl (by decide) (.slice B z d) z (fs.flatMap cI) rfl w0 _ (by exact hs10.of (show _=Row 65 2 (.slice B z d) z (fs.flatMap cI)*(Row 5 1 (.slice A4 kl.length c4) kl.length (kl.map bv)*(Row 5 1 (.slice A8 vl.length c8) vl.length (vl.map bv)*Y)) by ac_rfl)) (some ⟨v8.heap.size,0,none⟩) 1 1 [.slice A4 kl.length c4,.slice A8 vl.length c8] rfl (by exact(aQ _ _ _)) rfl (by intro u hu;simp at hu;rcases hu with rfl | rfl<;>rfl) (by unfold maxLen;omega) (by omega) ?_;intro A11 c11 w11 hs;have HS11:=ah hs;clear hs hs10;refine hK.out _ _ (HYE.o _ (Sat.right (Sat.right (Sat.right HS11.o)))) (fun hS0=>?_);clear hK K
      try simp only[Act.put,eh,ek,en]
      refine b8 12 ?_;refine wpAnyH_done (by kernel_rfl) ?_ _;go_wp2_with fail;go_meet
      have h1:=HS11.o.ay.dZ;have h2:=(h1.of (show _=Row 5 1 (.slice A8 vl.length c8) vl.length (vl.map bv)*(bZ [(A4,c4,kl)]*(Row 65 2 (.slice A11 (z+1) c11) (z+1) (fs.flatMap cI++[.slice A4 kl.length c4,.slice A8 vl.length c8])*Y)) by ac_rfl)).dZ;rw[hY] at h2;have h3:=(h2.of (show _=bZ (cg fs)*(bZ [(A4,c4,kl)]*(bZ [(A8,c8,vl)]*(Row 65 2 (.slice A11 (z+1) c11) (z+1) (fs.flatMap cI++[.slice A4 kl.length c4,.slice A8 vl.length c8])*Z))) by ac_rfl)).il.il;refine⟨z+1,c11,A11,fs++[⟨(A4,c4,kl),(A8,c8,vl),0,false⟩],rfl,?_,Nat.le_refl _,?_,?_⟩
      .rw[List.length_append,HFl.o];rfl
      .rw[jy,HFp.o];rfl
      .have e1:cg (fs++[⟨(A4,c4,kl),(A8,c8,vl),0,false⟩])=cg fs++[(A4,c4,kl)]++[(A8,c8,vl)]:=by
        unfold cg;rw[List.flatMap_append,List.append_assoc];rfl
       rw[e1,List.flatMap_append];exact h3.of (by rw[hZ];show _=Row 65 2 (.slice A11 (z+1) c11) (z+1) (fs.flatMap cI++[.slice A4 kl.length c4,.slice A8 vl.length c8])*_;ac_rfl)
    ·
     go_simp;have hs:=((HSW.o.ab 5 #[]).dJ (n:=0) (cap:=0) (size:=1) (Nat.le_refl _) (Nat.zero_le _) rfl).drew;obtain⟨v5,hv5⟩: ∃ v,v=(W.alloc (.cells #[] 5)).drew:=⟨_,rfl⟩;obtain⟨g5,hg5⟩: ∃ x,x=W.heap.size:=⟨_,rfl⟩;rw[<-hv5, <-hg5] at hs;rw[<-hv5, <-hg5];have HS5:=ah hs;clear hs hv5 hg5;refine hK.out _ _ (HXE.o _ (Sat.right HS5.o)) (fun hS0=>?_);clear hK K;refine bB 1 fun K hK=>?_
     go_simp;have hs:=(HS5.o.ab 5 #[]).dJ (n:=0) (cap:=0) (size:=1) (Nat.le_refl _) (Nat.zero_le _) rfl;obtain⟨v1,hv1⟩: ∃ v,v=v5.alloc (.cells #[] 5):=⟨_,rfl⟩;obtain⟨g1,hg1⟩: ∃ x,x=v5.heap.size:=⟨_,rfl⟩;rw[<-hv1, <-hg1] at hs;rw[<-hv1, <-hg1];have HS1:=ah hs;clear hs hv1 hg1;refine hK.out _ _ (HXE.o _ (Sat.right (Sat.right HS1.o))) (fun hS0=>?_);clear hK K;refine bB 4 fun K hK=>?_
     refine aR rfl (.tmp 44) (.tmp 46) 41 rfl 5 j1 _ 1 1 Tryz.underlying41 Hj1.o Hz0.o Hz1.o Hz2.o rfl (by decide) (.slice (some ⟨g1,0,none⟩) 0 0) 0 [] rfl w0 _ (by exact HS1.o) kA kl.length kc (kl.map bv) rfl (by exact(HXR.o _ HS1.o.right.right).1) (by simp) (by intro u hu;obtain⟨b,_,rfl⟩:=List.mem_map.1 hu;rfl) (by unfold maxLen;omega) (by omega) ?_;intro A4 c4 v4 hs;simp only[Nat.zero_add,List.nil_append] at hs ⊢;have HS4:=ah hs;clear hs;refine hK.out _ _ (HXE.o _ (Sat.right (Sat.right HS4.o))) (fun hS0=>?_);clear hK K
     try simp only[Act.put,eh,ek,en]
     refine bB 8 fun K hK=>?_
     refine aR rfl (.tmp 48) (.tmp 50) 41 rfl 5 j1 _ 1 1 Tryz.underlying41 Hj1.o Hz0.o Hz1.o Hz2.o rfl (by decide) (.slice (some ⟨g5,0,none⟩) 0 0) 0 [] rfl w0 _ (by exact HS4.o.ay) vA vl.length vc (vl.map bv) rfl (by exact(HXR.o _ HS4.o.right.right).2) (by simp) (by intro u hu;obtain⟨b,_,rfl⟩:=List.mem_map.1 hu;rfl) (by unfold maxLen;omega) (by omega) ?_;intro A8 c8 v8 hs;simp only[Nat.zero_add,List.nil_append] at hs ⊢;have HS8:=ah hs;clear hs;refine hK.out _ _ (HXE.o _ (Sat.right (Sat.right HS8.o))) (fun hS0=>?_);clear hK K
     try simp only[Act.put,eh,ek,en]
     refine b8 9 ?_;refine bB 10 fun K hK=>?_
     go_simp;have HS10:=ah ((HS8.o.ay).aD (.cells #[.slice A4 kl.length c4,.slice A8 vl.length c8] 65));refine hK.out _ _ (HXE.o _ (Sat.right (Sat.right HS10.o))) (fun hS0=>?_);clear hK K;refine bB 11 fun K hK=>?_
     have hs10:=HS10.o;rw[hX] at hs10;refine aR rfl (.tmp 43) (.tmp 53) 30 rfl 65 j0 _ 2 48 Tryz.underlying30 Hj.o Hy0.o Hy1.o Hy2.o rfl (by decide) (.slice B z d) z (fs.flatMap cI) rfl w0 _ (by exact hs10.of (show _=Row 65 2 (.slice B z d) z (fs.flatMap cI)*(Row 5 1 (.slice A4 kl.length c4) kl.length (kl.map bv)*(Row 5 1 (.slice A8 vl.length c8) vl.length (vl.map bv)*Y)) by ac_rfl)) (some ⟨v8.heap.size,0,none⟩) 1 1 [.slice A4 kl.length c4,.slice A8 vl.length c8] rfl (by exact(aQ _ _ _)) rfl (by intro u hu;simp at hu;rcases hu with rfl | rfl<;>rfl) (by unfold maxLen;omega) (by omega) ?_;intro A11 c11 w11 hs;have HS11:=ah hs;clear hs hs10;refine hK.out _ _ (HYE.o _ (Sat.right (Sat.right (Sat.right HS11.o)))) (fun hS0=>?_);clear hK K
     try simp only[Act.put,eh,ek,en]
     refine b8 12 ?_;refine wpAnyH_done (by kernel_rfl) ?_ _;go_wp2_with fail;go_meet
     have h1:=HS11.o.ay.dZ;have h2:=(h1.of (show _=Row 5 1 (.slice A8 vl.length c8) vl.length (vl.map bv)*(bZ [(A4,c4,kl)]*(Row 65 2 (.slice A11 (z+1) c11) (z+1) (fs.flatMap cI++[.slice A4 kl.length c4,.slice A8 vl.length c8])*Y)) by ac_rfl)).dZ;rw[hY] at h2;have h3:=(h2.of (show _=bZ (cg fs)*(bZ [(A4,c4,kl)]*(bZ [(A8,c8,vl)]*(Row 65 2 (.slice A11 (z+1) c11) (z+1) (fs.flatMap cI++[.slice A4 kl.length c4,.slice A8 vl.length c8])*Z))) by ac_rfl)).il.il;refine⟨z+1,c11,A11,fs++[⟨(A4,c4,kl),(A8,c8,vl),0,false⟩],rfl,?_,Nat.le_refl _,?_,?_⟩
     .rw[List.length_append,HFl.o];rfl
     .rw[jy,HFp.o];rfl
     .have e1:cg (fs++[⟨(A4,c4,kl),(A8,c8,vl),0,false⟩])=cg fs++[(A4,c4,kl)]++[(A8,c8,vl)]:=by
       unfold cg;rw[List.flatMap_append,List.append_assoc];rfl
      rw[e1,List.flatMap_append];exact h3.of (by rw[hZ];show _=Row 65 2 (.slice A11 (z+1) c11) (z+1) (fs.flatMap cI++[.slice A4 kl.length c4,.slice A8 vl.length c8])*_;ac_rfl)
  case rest=>
   obtain⟨m,d2,B2,gs,rfl,HG⟩:=hcut;refine ‹∀ (a:Act) (w:World),Code.wp _ _ _ a w->_› _ _ ?_
   apply wp_seq_k;intro _ _;have hsr:=HG.o.2.2.2.drew;have c0:wc.drew.cell? ⟨g,0,none⟩=some (.slice LA es.length lc):=(hsr.bK.cell 0).trans HCs.o;by_cases hlt:z<es.length
   .obtain⟨lb,lo,rfl,hq⟩:=nj hsr.right.right.right.right.j4 (by omega);obtain⟨y0,y1⟩:=hq z hlt;have ra:=hsr.right.right.right.right.tk _ (List.getElem_mem hlt);obtain⟨SA,SB,B1,e1,e2,e3,e4⟩:=oG es[z].key.2.2 kl;have s1:=dw ra.1 es[z].key.2.1;have s2:=dw (HPr.o _ hsr.right.right.right.right.right).1 kc;rw[<-e1] at s1;rw[<-e2] at s2;have HYz:Hid (y=if B1=true then z+1 else z):=ah (by
     have hzm:z<M.length:=by rw[<-he,bX];exact hlt
     have hk:=HEl.o z hlt;have hzz:=HZ.o;rw[HY.o];unfold ij;subst hzz;rw[dif_pos hzm,hk,e4];simp only[decide_eq_true_eq])
    clear hq ra e1 e2 e4;generalize es[z]=q at*
    obtain⟨⟨kB,kd,kl0⟩,⟨vB,vd,vl0⟩,eq0,dd0⟩:=q;replace y0:_=some (Value.slice kB kl0.length kd):=y0;dsimp only at s1;have hii:(z:Int)<es.length:=by omega
    have E3:=ah e3;have G0:Hid (wc.drew.cell? ⟨g,0,none⟩=some (.slice (some ⟨lb,lo,none⟩) es.length lc)/\wc.drew.cell? ⟨lb,lo+z*2,none⟩=some (.slice kB kl0.length kd)/\wc.drew.cell? ⟨E,0,none⟩=some (.slice kA kl.length kc)/\(convert 41 9 (.slice kB kl0.length kd)).run Tryz.prog wc.drew = .ok (.string SA) wc.drew/\(convert 41 9 (.slice kA kl.length kc)).run Tryz.prog wc.drew = .ok (.string SB) wc.drew):=ah ⟨c0,y0,hsr.bp.cell 0,s1,s2⟩;clear y0 y1 s1 s2 e3;go_upto_region 8 with fail
    cases B1 with
    | true=>
     have e3:=E3.o;refine wp_region_held_drew (S:=fun w'=>w'.cell? ⟨g,0,none⟩=some (.slice (some ⟨lb,lo,none⟩) es.length lc)/\w'.cell? ⟨lb,lo+z*2,none⟩=some (.slice kB kl0.length kd)/\w'.cell? ⟨E,0,none⟩=some (.slice kA kl.length kc)/\(convert 41 9 (.slice kB kl0.length kd)).run Tryz.prog w' = .ok (.string SA) w'/\(convert 41 9 (.slice kA kl.length kc)).run Tryz.prog w' = .ok (.string SB) w') (by kernel_rfl) G0.o ?_;intro hS0;refine an 0 1 2 3 ?_;refine an 4 5 6 7 ?_;refine an 8 9 10 11 ?_;refine an 12 13 14 15 ?_;refine an 16 17 18 19 ?_;refine ct 20 21 ?_;refine wpAnyH_done (by kernel_rfl) ?_ _;go_upto_region 10 with fail;have hyz:y=z+1:=by rw[HYz.o,if_pos rfl]
     rw[show (z:Int)+1=(y:Int) by omega];have hyn:y<=es.length:=by omega
     clear hyz hlt hii E3 G0 hS0 HYz e3;obtain⟨W9,hW9⟩: ∃ W9,W9=wc.drew:=⟨_,rfl⟩;rw[<-hW9] at hsr;rw[<-hW9];have c0:W9.cell? ⟨g,0,none⟩=some (.slice (some ⟨lb,lo,none⟩) es.length lc):=(hsr.bK.cell 0).trans HCs.o;have HS9:=ah hsr;clear hW9 hsr;by_cases hly:lc=y
     .have hrd:aG W9 (some ⟨lb,lo,none⟩) ((es.drop y).flatMap cI):=by
       rw[List.drop_of_length_le (by omega)];exact aG.nil _ _
      have hmz:=HG.o.2.1;go_wp2_with (at_builtin;refine av rfl (.tmp 80) (.tmp 86) 30 rfl 65 j0 _ 2 48 Tryz.underlying30 Hj.o Hy0.o Hy1.o Hy2.o rfl (by decide) (.slice B2 m d2) m (gs.flatMap cI) rfl w0 _ (by exact HS9.o) (some ⟨lb,lo,none⟩) (es.length - y) 0 ((es.drop y).flatMap cI) rfl (by exact hrd) (by rw[du,List.length_drop]) (gX _) (by unfold maxLen;omega) (by omega) ?_;intro B10 c10 w10 hs10;have HS10:=ah hs10;have x1:=(hs10.bK.cell 0).trans HCs.o;have f1:=hs10.bK.frozen 0;clear hs10);go_end0
      exact⟨rfl,.slice B10 (m+(es.length - y)) c10,jq HS10.o HG.o.1 rfl (by have h9:=HPe.o gs (by have h8:=HG.o.2.2.1;rw[HZ.o] at h8;exact h8);rw[<-HY.o] at h9;exact h9)⟩
     .have hrd:aG W9 (some ⟨lb,lo+y*2,none⟩) ((es.drop y).flatMap cI):=by
       have h4:=aG.drop HS9.o.right.right.right.right.j4 (k:=y*2) (cap:=lc*2) (by rw[du];omega) (by rw[du];omega);rw[if_neg (by omega)] at h4;have e5:(es.flatMap cI).drop (y*2)=(es.drop y).flatMap cI:=xV es y;rw[e5] at h4;have e6:Option.map (fun x:Addr=>x.add (y*2)) (some ⟨lb,lo,none⟩)=some ⟨lb,lo+y*2,none⟩:=by simp[Addr.add]
       rw[e6] at h4;exact h4
      have hmz:=HG.o.2.1;go_wp2_with (at_builtin;refine av rfl (.tmp 80) (.tmp 86) 30 rfl 65 j0 _ 2 48 Tryz.underlying30 Hj.o Hy0.o Hy1.o Hy2.o rfl (by decide) (.slice B2 m d2) m (gs.flatMap cI) rfl w0 _ (by exact HS9.o) (some ⟨lb,lo+y*2,none⟩) (es.length - y) (lc - y) ((es.drop y).flatMap cI) rfl (by exact hrd) (by rw[du,List.length_drop]) (gX _) (by unfold maxLen;omega) (by omega) ?_;intro B10 c10 w10 hs10;have HS10:=ah hs10;have x1:=(hs10.bK.cell 0).trans HCs.o;have f1:=hs10.bK.frozen 0;clear hs10);go_end0
      exact⟨rfl,.slice B10 (m+(es.length - y)) c10,jq HS10.o HG.o.1 rfl (by have h9:=HPe.o gs (by have h8:=HG.o.2.2.1;rw[HZ.o] at h8;exact h8);rw[<-HY.o] at h9;exact h9)⟩
    | false=>
     have e3:=E3.o;refine wp_region_held_drew (S:=fun w'=>w'.cell? ⟨g,0,none⟩=some (.slice (some ⟨lb,lo,none⟩) es.length lc)/\w'.cell? ⟨lb,lo+z*2,none⟩=some (.slice kB kl0.length kd)/\w'.cell? ⟨E,0,none⟩=some (.slice kA kl.length kc)/\(convert 41 9 (.slice kB kl0.length kd)).run Tryz.prog w' = .ok (.string SA) w'/\(convert 41 9 (.slice kA kl.length kc)).run Tryz.prog w' = .ok (.string SB) w') (by kernel_rfl) G0.o ?_;intro hS0;refine an 0 1 2 3 ?_;refine an 4 5 6 7 ?_;refine an 8 9 10 11 ?_;refine an 12 13 14 15 ?_;refine an 16 17 18 19 ?_;refine ct 20 21 ?_;refine wpAnyH_done (by kernel_rfl) ?_ _;go_upto_region 10 with fail;have hyz:y=z:=by rw[HYz.o,if_neg (by simp)]
     rw[<-hyz];have hyn:y<=es.length:=by omega
     clear hyz hlt hii E3 G0 hS0 HYz e3;obtain⟨W9,hW9⟩: ∃ W9,W9=wc.drew:=⟨_,rfl⟩;rw[<-hW9] at hsr;rw[<-hW9];have c0:W9.cell? ⟨g,0,none⟩=some (.slice (some ⟨lb,lo,none⟩) es.length lc):=(hsr.bK.cell 0).trans HCs.o;have HS9:=ah hsr;clear hW9 hsr;by_cases hly:lc=y
     .have hrd:aG W9 (some ⟨lb,lo,none⟩) ((es.drop y).flatMap cI):=by
       rw[List.drop_of_length_le (by omega)];exact aG.nil _ _
      have hmz:=HG.o.2.1;go_wp2_with (at_builtin;refine av rfl (.tmp 80) (.tmp 86) 30 rfl 65 j0 _ 2 48 Tryz.underlying30 Hj.o Hy0.o Hy1.o Hy2.o rfl (by decide) (.slice B2 m d2) m (gs.flatMap cI) rfl w0 _ (by exact HS9.o) (some ⟨lb,lo,none⟩) (es.length - y) 0 ((es.drop y).flatMap cI) rfl (by exact hrd) (by rw[du,List.length_drop]) (gX _) (by unfold maxLen;omega) (by omega) ?_;intro B10 c10 w10 hs10;have HS10:=ah hs10;have x1:=(hs10.bK.cell 0).trans HCs.o;have f1:=hs10.bK.frozen 0;clear hs10);go_end0
      exact⟨rfl,.slice B10 (m+(es.length - y)) c10,jq HS10.o HG.o.1 rfl (by have h9:=HPe.o gs (by have h8:=HG.o.2.2.1;rw[HZ.o] at h8;exact h8);rw[<-HY.o] at h9;exact h9)⟩
     .have hrd:aG W9 (some ⟨lb,lo+y*2,none⟩) ((es.drop y).flatMap cI):=by
       have h4:=aG.drop HS9.o.right.right.right.right.j4 (k:=y*2) (cap:=lc*2) (by rw[du];omega) (by rw[du];omega);rw[if_neg (by omega)] at h4;have e5:(es.flatMap cI).drop (y*2)=(es.drop y).flatMap cI:=xV es y;rw[e5] at h4;have e6:Option.map (fun x:Addr=>x.add (y*2)) (some ⟨lb,lo,none⟩)=some ⟨lb,lo+y*2,none⟩:=by simp[Addr.add]
       rw[e6] at h4;exact h4
      have hmz:=HG.o.2.1;go_wp2_with (at_builtin;refine av rfl (.tmp 80) (.tmp 86) 30 rfl 65 j0 _ 2 48 Tryz.underlying30 Hj.o Hy0.o Hy1.o Hy2.o rfl (by decide) (.slice B2 m d2) m (gs.flatMap cI) rfl w0 _ (by exact HS9.o) (some ⟨lb,lo+y*2,none⟩) (es.length - y) (lc - y) ((es.drop y).flatMap cI) rfl (by exact hrd) (by rw[du,List.length_drop]) (gX _) (by unfold maxLen;omega) (by omega) ?_;intro B10 c10 w10 hs10;have HS10:=ah hs10;have x1:=(hs10.bK.cell 0).trans HCs.o;have f1:=hs10.bK.frozen 0;clear hs10);go_end0
      exact⟨rfl,.slice B10 (m+(es.length - y)) c10,jq HS10.o HG.o.1 rfl (by have h9:=HPe.o gs (by have h8:=HG.o.2.2.1;rw[HZ.o] at h8;exact h8);rw[<-HY.o] at h9;exact h9)⟩
   .have hii:¬ (z:Int)<es.length:=by omega
    have G0:=ah c0;have HYz:Hid (y=z):=ah (by
     rw[HY.o];have hzz:=HZ.o;unfold ij;rw[dif_neg (by rw[<-hzz, <-he,bX];omega)];exact hzz.symm)
    clear c0;go_upto_region 8 with fail;refine wp_region_held_drew (S:=fun w'=>w'.cell? ⟨g,0,none⟩=some (.slice LA es.length lc)) (by kernel_rfl) G0.o ?_;intro hS0;refine an 0 1 2 3 ?_;refine an 4 5 6 7 ?_;refine b9 8 ?_;refine b9 9 ?_;refine b9 10 ?_;refine b9 11 ?_;refine b9 12 ?_;refine b9 13 ?_;refine b9 14 ?_;refine b9 15 ?_;refine b9 16 ?_;refine b9 17 ?_;refine b9 18 ?_;refine b9 19 ?_;refine b9 20 ?_;refine b8 21 ?_;refine wpAnyH_done (by kernel_rfl) ?_ _;go_upto_region 10 with fail;have hyz:=HYz.o;have hyn:y<=es.length:=by omega
    rw[<-hyz];rcases hsr.right.right.right.right.JD with ⟨e1,e2,e4⟩ | ⟨lb,e1⟩
    .have e3:=e2;have HE0:Hid (es.drop y=[]):=ah (List.drop_of_length_le (by omega));have hy0:y=0:=by omega
     subst e1;have c0:wc.drew.cell? ⟨g,0,none⟩=some (.slice none 0 0):=by rw[G0.o,e2,e4]
     have HS9:=ah hsr;have HLq:Hid (es.length=0):=e2;clear hyz hlt hii G0 hS0 HYz hsr e2 e3 e4 hyn;subst hy0;obtain⟨W9,hW9⟩: ∃ W9,W9=wc.drew:=⟨_,rfl⟩;rw[<-hW9] at HS9 c0;rw[<-hW9];clear hW9;have hmz:=HG.o.2.1;go_wp2_with (at_builtin;refine av rfl (.tmp 80) (.tmp 86) 30 rfl 65 j0 _ 2 48 Tryz.underlying30 Hj.o Hy0.o Hy1.o Hy2.o rfl (by decide) (.slice B2 m d2) m (gs.flatMap cI) rfl w0 _ (by exact HS9.o) none 0 0 [] rfl (by exact aG.nil _ _) rfl (by intro u hu;cases hu) (by unfold maxLen;omega) (by omega) ?_;intro B10 c10 w10 hs10;have HS10:=ah hs10;have x1:=(hs10.bK.cell 0).trans HCs.o;have f1:=hs10.bK.frozen 0;clear hs10);go_end0
     have h10:=HS10.o;have e10:(es.drop 0).flatMap cI=[]:=by rw[HE0.o];rfl
     rw[<-e10] at h10;exact⟨rfl,.slice B10 m c10,jq (q:=0) h10 HG.o.1 (by rw[HLq.o]) (by have h9:=HPe.o gs (by have h8:=HG.o.2.2.1;rw[HZ.o] at h8;exact h8);rw[<-HY.o] at h9;exact h9)⟩
    .subst e1;obtain⟨lo,hlo⟩: ∃ lo,lo=0:=⟨_,rfl⟩;have HCt:Hid (cs[0]?=some (Value.slice (some ⟨lb,lo,none⟩) es.length lc)):=ah (by rw[hlo];exact HCs.o);rw[<-hlo] at hsr G0;clear HCs;have HCs:=HCt;clear HCt;clear hyz hlt hii G0 hS0 HYz hlo;obtain⟨W9,hW9⟩: ∃ W9,W9=wc.drew:=⟨_,rfl⟩;rw[<-hW9] at hsr;rw[<-hW9];have c0:W9.cell? ⟨g,0,none⟩=some (.slice (some ⟨lb,lo,none⟩) es.length lc):=(hsr.bK.cell 0).trans HCs.o;have HS9:=ah hsr;clear hW9 hsr;by_cases hly:lc=y
     .have hrd:aG W9 (some ⟨lb,lo,none⟩) ((es.drop y).flatMap cI):=by
       rw[List.drop_of_length_le (by omega)];exact aG.nil _ _
      have hmz:=HG.o.2.1;go_wp2_with (at_builtin;refine av rfl (.tmp 80) (.tmp 86) 30 rfl 65 j0 _ 2 48 Tryz.underlying30 Hj.o Hy0.o Hy1.o Hy2.o rfl (by decide) (.slice B2 m d2) m (gs.flatMap cI) rfl w0 _ (by exact HS9.o) (some ⟨lb,lo,none⟩) (es.length - y) 0 ((es.drop y).flatMap cI) rfl (by exact hrd) (by rw[du,List.length_drop]) (gX _) (by unfold maxLen;omega) (by omega) ?_;intro B10 c10 w10 hs10;have HS10:=ah hs10;have x1:=(hs10.bK.cell 0).trans HCs.o;have f1:=hs10.bK.frozen 0;clear hs10);go_end0
      exact⟨rfl,.slice B10 (m+(es.length - y)) c10,jq HS10.o HG.o.1 rfl (by have h9:=HPe.o gs (by have h8:=HG.o.2.2.1;rw[HZ.o] at h8;exact h8);rw[<-HY.o] at h9;exact h9)⟩
     .have hrd:aG W9 (some ⟨lb,lo+y*2,none⟩) ((es.drop y).flatMap cI):=by
       have h4:=aG.drop HS9.o.right.right.right.right.j4 (k:=y*2) (cap:=lc*2) (by rw[du];omega) (by rw[du];omega);rw[if_neg (by omega)] at h4;have e5:(es.flatMap cI).drop (y*2)=(es.drop y).flatMap cI:=xV es y;rw[e5] at h4;have e6:Option.map (fun x:Addr=>x.add (y*2)) (some ⟨lb,lo,none⟩)=some ⟨lb,lo+y*2,none⟩:=by simp[Addr.add]
       rw[e6] at h4;exact h4
      have hmz:=HG.o.2.1;go_wp2_with (at_builtin;refine av rfl (.tmp 80) (.tmp 86) 30 rfl 65 j0 _ 2 48 Tryz.underlying30 Hj.o Hy0.o Hy1.o Hy2.o rfl (by decide) (.slice B2 m d2) m (gs.flatMap cI) rfl w0 _ (by exact HS9.o) (some ⟨lb,lo+y*2,none⟩) (es.length - y) (lc - y) ((es.drop y).flatMap cI) rfl (by exact hrd) (by rw[du,List.length_drop]) (gX _) (by unfold maxLen;omega) (by omega) ?_;intro B10 c10 w10 hs10;have HS10:=ah hs10;have x1:=(hs10.bK.cell 0).trans HCs.o;have f1:=hs10.bK.frozen 0;clear hs10);go_end0
      exact⟨rfl,.slice B10 (m+(es.length - y)) c10,jq HS10.o HG.o.1 rfl (by have h9:=HPe.o gs (by have h8:=HG.o.2.2.1;rw[HZ.o] at h8;exact h8);rw[<-HY.o] at h9;exact h9)⟩
end
section
variable {w0 w w':World} {F:SP} {v:Value} {M:List Kv} {es:List En}
theorem xO (A:Option Addr) (c:Nat) (ps:List Pu) (w:World) (h:aG w A (ps.flatMap fE)) (hn:ps.length<=100000) (hb: ∀ p ∈ ps,p.key.2.2.length<=1000000000/\p.value.2.2.length<=1000000000):
 Calls Tryz.prog 74 #[.slice A ps.length c] w fun x w'=>x = .returned (.int .i64 (dm (ps.map Pu.bo):Nat))/\ao No w w':=by
 have HL:=ah h;have HB:=ah hb;have HSum:Hid (∀ i,i<=ps.length->(((ps.take i).map Pu.bo).map jF).sum<=300000000000000):=fun i hi=>by
  have h1:=yw 2000000016 ((ps.take i).map Pu.bo) (fun p hp=>by
   obtain⟨q,hq,rfl⟩:=List.mem_map.1 hp;have h2:=hb q (List.mem_of_mem_take hq);have h3:jF q.bo=q.key.2.2.length+q.value.2.2.length+16:=rfl;omega)
  rw[List.length_map,List.length_take] at h1;omega
 clear h hb;go_enter Tryz.func74, Tryz.ntmps74;go_wp2_with fail;go_loopw [4] (fun iv wr=> ∃ i:Nat,i<=ps.length/\iv = .int .i64 (i:Int)/\Hid ((∀ j (h:j<ps.length),j<i->oO ps[j].bo=false)/\ao No w wr)) (fun iv _=>ps.length - (intOf iv).toNat)
 case atStart=>exact⟨0,by omega,rfl,(fun j _ h=>by omega),ao.refl _ _⟩
 case round=>
  obtain⟨i,hi,rfl,HD⟩:=hrel;by_cases hlt:i<ps.length
  .obtain⟨lb,lo,rfl,hq⟩:=gy (HL.o.new HD.o.2) (by omega);obtain⟨y0,_,_⟩:=hq i hlt;have hbi:=HB.o _ (List.getElem_mem hlt);have hii:(i:Int)<ps.length:=by omega
   obtain⟨q,hqe⟩: ∃ q,q=ps[i]:=⟨_,rfl⟩;have HQ:=ah hqe;rw[<-hqe] at y0 hbi;clear hq hqe;obtain⟨⟨kA,kc,kl⟩,⟨vA,vc,vl⟩,dd⟩:=q;replace y0:_=some (Value.slice kA kl.length kc):=y0;replace hbi:kl.length<=1000000000/\vl.length<=1000000000:=hbi;obtain⟨hbk,hbv⟩:=hbi;have HBk:Hid (oO ps[i].bo=(decide (kl.length=0) || decide (128<kl.length))):=by rw[<-HQ.o];rfl
   by_cases hk:kl.length=0\/128<kl.length
   .have HE:Hid (dm (ps.map Pu.bo)=100):=by
     unfold Hid dm;rw[if_pos];refine List.any_eq_true.2 ⟨ps[i].bo,List.mem_map.2 ⟨ps[i],List.getElem_mem _,rfl⟩,?_⟩;rw[HBk.o];simpa using hk
    rcases hk with hk | hk
    .have hk0:(kl.length:Int)<1:=by omega
     clear hk;go_wp2_with fail;go_ret;exact⟨by rw[HE.o];rfl,HD.o.2⟩
    .have hk0:¬ (kl.length:Int)<1:=by omega
     have hk1:(128:Int)<kl.length:=by omega
     clear hk;go_wp2_with fail;go_ret;exact⟨by rw[HE.o];rfl,HD.o.2⟩
   .have hk0:¬ (kl.length:Int)<1:=by omega
    have hk1:¬ (128:Int)<kl.length:=by omega
    have HG:Hid (oO ps[i].bo=false):=by
     unfold Hid;rw[HBk.o,decide_eq_false (by omega),decide_eq_false (by omega)];rfl
    clear hk;go_wp2_with fail;go_roundw
    .refine⟨i+1,by omega,by push_cast;rfl,fun j h hj=>?_,HD.o.2⟩;by_cases e:j=i
     .subst e;exact HG.o
     .exact HD.o.1 j h (by omega)
    .simp[intOf];omega
  .have hie:i=ps.length:=by omega
   have HNo:Hid ((ps.map Pu.bo).any oO=false):=by
    unfold Hid;rw[List.any_eq_false];intro x hx;obtain⟨e,he,rfl⟩:=List.mem_map.1 hx;obtain⟨j,hj,rfl⟩:=List.getElem_of_mem he;rw[HD.o.1 j hj (by omega)];simp
   have HK:=ah HD.o.2;clear HD;have hie2:¬ (i:Int)<ps.length:=by omega
   clear hie hlt;go_wp2_with fail;go_loopw [3,5] (fun nv jv wx=> ∃ (j n:Nat),j<=ps.length/\jv = .int .i64 (j:Int)/\nv = .int .i64 (n:Int)/\Hid (n=(((ps.take j).map Pu.bo).map jF).sum/\(∀ q (h:q<ps.length),q<j->jN ps[q].bo=false)/\ao No w wx)) (fun _ jv _=>ps.length - (intOf jv).toNat)
   case atStart=>exact⟨0,0,by omega,rfl,rfl,rfl,(fun j _ h=>by omega),HK.o⟩
   case round=>
    obtain⟨j,n,hj,rfl,rfl,HD⟩:=hrel;have hnb:=HSum.o j hj;rw[<-HD.o.1] at hnb;by_cases hlt:j<ps.length
    .obtain⟨lb,lo,rfl,hq⟩:=gy (HL.o.new HD.o.2.2) (by omega);obtain⟨y0,y1,y2⟩:=hq j hlt;have hbi:=HB.o _ (List.getElem_mem hlt);have hii:(j:Int)<ps.length:=by omega
     have HNx:Hid ((((ps.take (j+1)).map Pu.bo).map jF).sum=n+(ps[j].key.2.2.length+ps[j].value.2.2.length+16)):=by
      unfold Hid;rw[List.take_add_one,List.getElem?_eq_getElem hlt,List.map_append,List.map_append,List.sum_append, <-HD.o.1];rfl
     obtain⟨q,hqe⟩: ∃ q,q=ps[j]:=⟨_,rfl⟩;have HQ:=ah hqe;rw[<-hqe] at y0 y1 y2 hbi HNx;clear hq hqe;obtain⟨⟨kA,kc,kl⟩,⟨vA,vc,vl⟩,dd⟩:=q;replace y0:_=some (Value.slice kA kl.length kc):=y0;replace y1:_=some (Value.slice vA vl.length vc):=y1;replace y2:_=some (Value.bool dd):=y2;replace hbi:kl.length<=1000000000/\vl.length<=1000000000:=hbi;obtain⟨hbk,hbv⟩:=hbi;replace HNx:Hid ((((ps.take (j+1)).map Pu.bo).map jF).sum=n+(kl.length+vl.length+16)):=HNx;have HBv:Hid (jN ps[j].bo=(decide (16384<vl.length) || (dd && decide (0<vl.length)))):=by rw[<-HQ.o];rfl
     have HE:Hid (jN ps[j].bo=true->dm (ps.map Pu.bo)=101):=ah fun h0=>by
      unfold dm;rw[HNo.o,if_neg (by simp),if_pos];exact List.any_eq_true.2 ⟨ps[j].bo,List.mem_map.2 ⟨ps[j],List.getElem_mem _,rfl⟩,h0⟩
     have w1:IntKind.i64.wrap ((n:Int)+kl.length)=(n:Int)+kl.length:=by rw[IntKind.wrap_i64];omega
     have w2:IntKind.i64.wrap ((n:Int)+kl.length+vl.length)=(n:Int)+kl.length+vl.length:=by rw[IntKind.wrap_i64];omega
     have w3:IntKind.i64.wrap ((n:Int)+kl.length+vl.length+16)=(n:Int)+kl.length+vl.length+16:=by rw[IntKind.wrap_i64];omega
     have HG0:Hid (ao No w wr.drew/\(wr.drew.cell? ⟨lb,lo+j*3,none⟩=some (.slice kA kl.length kc)/\wr.drew.cell? ⟨lb,lo+j*3+1,none⟩=some (.slice vA vl.length vc))):=ah ⟨HD.o.2.2.drew,y0,y1⟩;have HLs:Hid (jN ps[j].bo=false-> ∀ q (h:q<ps.length),q<j+1->jN ps[q].bo=false):=ah fun h0 q h hq=>by
      by_cases e:q=j
      .subst e;exact h0
      .exact HD.o.2.1 q h (by omega)
     have HK2:=ah HD.o.2.2;clear hnb HD;by_cases h1:(16384:Int)<vl.length
     .have HE1:Hid (dm (ps.map Pu.bo)=101):=ah (HE.o (by rw[HBv.o,decide_eq_true (by omega)];rfl));go_wp2_with fail;go_ret;exact⟨by rw[HE1.o];rfl,HK2.o⟩
     .cases dd with
      | true=>
       by_cases h2:(0:Int)<vl.length
       .have HE1:Hid (dm (ps.map Pu.bo)=101):=ah (HE.o (by rw[HBv.o,decide_eq_true (p:=0<vl.length) (by omega)];simp));have h3:0<vl.length:=by omega
        go_wp2_with fail;go_ret;exact⟨by rw[HE1.o];rfl,HK2.o⟩
       .have HF:Hid (jN ps[j].bo=false):=ah (by rw[HBv.o,decide_eq_false (by omega),decide_eq_false (by omega)];rfl);have h3:¬ 0<vl.length:=by omega
        go_upto_region 12 with fail;refine wp_region_held_drew (S:=fun w'=>ao No w w'/\(w'.cell? ⟨lb,lo+j*3,none⟩=some (.slice kA kl.length kc)/\w'.cell? ⟨lb,lo+j*3+1,none⟩=some (.slice vA vl.length vc))) (by kernel_rfl) HG0.o ?_;intro hS0;refine an 0 1 2 3 ?_;refine an 4 5 6 7 ?_;refine an 8 9 10 11 ?_;refine an 12 13 14 15 ?_;refine b8 16 ?_;refine wpAnyH_done (by kernel_rfl) ?_ _;have HT:=ah HG0.o.1;have HLt:=ah (HLs.o HF.o);clear HG0;go_wp2_with fail;go_roundw
        .exact⟨j+1,n+(kl.length+vl.length+16),by omega,by push_cast;rfl,by congr 1;push_cast;omega,HNx.o.symm,HLt.o,HT.o⟩
        .simp[intOf];omega
      | false=>
       have HF:Hid (jN ps[j].bo=false):=ah (by rw[HBv.o,decide_eq_false (by omega)];rfl);go_upto_region 12 with fail;refine wp_region_held_drew (S:=fun w'=>ao No w w'/\(w'.cell? ⟨lb,lo+j*3,none⟩=some (.slice kA kl.length kc)/\w'.cell? ⟨lb,lo+j*3+1,none⟩=some (.slice vA vl.length vc))) (by kernel_rfl) HG0.o ?_;intro hS0;refine an 0 1 2 3 ?_;refine an 4 5 6 7 ?_;refine an 8 9 10 11 ?_;refine an 12 13 14 15 ?_;refine b8 16 ?_;refine wpAnyH_done (by kernel_rfl) ?_ _;have HT:=ah HG0.o.1;have HLt:=ah (HLs.o HF.o);clear HG0;go_wp2_with fail;go_roundw
       .exact⟨j+1,n+(kl.length+vl.length+16),by omega,by push_cast;rfl,by congr 1;push_cast;omega,HNx.o.symm,HLt.o,HT.o⟩
       .simp[intOf];omega
    .have hje:j=ps.length:=by omega
     subst hje;have HN:Hid (n=((ps.map Pu.bo).map jF).sum):=by have:=HD.o.1;rw[List.take_length] at this;exact this
     have HNv:Hid ((ps.map Pu.bo).any jN=false):=by
      unfold Hid;rw[List.any_eq_false];intro x hx;obtain⟨e,he,rfl⟩:=List.mem_map.1 hx;obtain⟨j,hj,rfl⟩:=List.getElem_of_mem he;rw[HD.o.2.1 j hj (by omega)];simp
     have HE:Hid (dm (ps.map Pu.bo)=if 262144<n then 102 else 0):=by
      unfold Hid dm;rw[HNo.o,HNv.o, <-HN.o];rfl
     have HK:=ah HD.o.2.2;clear HN HNo HNv HD hie2 hi;by_cases hl:262144<n
     .have hl2:(262144:Int)<n:=by omega
      replace HE:Hid (dm (ps.map Pu.bo)=102):=by unfold Hid;rw[HE.o,if_pos hl]
      clear hl;go_wp2_with fail;go_ret;exact⟨by rw[HE.o];rfl,HK.o⟩
     .have hl2:¬ (262144:Int)<n:=by omega
      replace HE:Hid (dm (ps.map Pu.bo)=0):=by unfold Hid;rw[HE.o,if_neg hl]
      clear hl;go_wp2_with fail;go_ret;exact⟨by rw[HE.o];rfl,HK.o⟩
end
def Hw:List Value->List (List Kv)->SP
 | v::vs,M::Ms=>qb v M*Hw vs Ms
 | _,_=>bE
def Ew (g:Nat) (v vo vg:Value) (M:List Kv) (vs:List Value) (Ms:List (List Kv)) (gs:List Bool):SP:=Pt g 36 #[v,vo,vg]*(Row 32 1 vo vs.length vs*(Row 4 1 vg gs.length (gs.map Value.bool)*(qb v M*Hw vs Ms)))
def eL (g:Nat) (M:List Kv) (Ms:List (List Kv)) (gs:List Bool):SP:=fun h=> ∃ v vo vg vs,(vs.length=Ms.length/\gs.length=Ms.length)/\Ew g v vo vg M vs Ms gs h
section
variable {w0 w w':World} {F:SP} {g:Nat} {v vo vg:Value} {M:List Kv} {vs:List Value} {Ms:List (List Kv)} {gs:List Bool}
theorem Sat.Jf (h:Sat w0 (qb v M*F) w): ∃ A n c,v = .slice A n c:=by
 obtain⟨es,_,h1⟩:=h.mp;obtain⟨A,c,h2,_⟩:=h1.zF;exact⟨A,_,c,h2⟩
theorem Sat.Km (h:Sat w0 (eL g M Ms gs*F) w): ∃ v vo vg vs,(vs.length=Ms.length/\gs.length=Ms.length)/\Sat w0 (Ew g v vo vg M vs Ms gs*F) w:=by
 obtain⟨c,x,h1,a,k,h2,h3,⟨v,vo,vg,vs,h4,h5⟩,h8⟩:=h;exact⟨v,vo,vg,vs,h4,⟨c,x,h1,a,k,h2,h3,h5,h8⟩⟩
theorem Sat.Gv (h:Sat w0 (Ew g v vo vg M vs Ms gs*F) w) (hv:vs.length=Ms.length) (hg:gs.length=Ms.length):Sat w0 (eL g M Ms gs*F) w:=by
 obtain⟨c,x,h1,a,k,h2,h3,h5,h8⟩:=h;exact⟨c,x,h1,a,k,h2,h3,⟨v,vo,vg,vs,⟨hv,hg⟩,h5⟩,h8⟩
theorem rJ (g:Nat) (v vo vg:Value) (M:List Kv) (vs:List Value) (Ms:List (List Kv)) (gs:List Bool) (F:SP):Ew g v vo vg M vs Ms gs*F=Pt g 36 #[v,vo,vg]*(Row 32 1 vo vs.length vs*(Row 4 1 vg gs.length (gs.map Value.bool)*(qb v M*(Hw vs Ms*F)))):=by unfold Ew;ac_rfl
theorem Sat.FI (h:Sat w0 F w):Sat w0 (eL w.heap.size [] [] []*F) (w.alloc (.cells #[.slice none 0 0,.slice none 0 0,.slice none 0 0] 36)):=by
 have h1:=h.ab 36 #[.slice none 0 0,.slice none 0 0,.slice none 0 0];generalize w.alloc _=W at*
 have h2:=((h1.Ig.aM 4 1).aM 32 1);refine Sat.Gv (vs:=[]) (Ms:=[]) (gs:=[]) (v:= .slice none 0 0) (vo:= .slice none 0 0) (vg:= .slice none 0 0) ?_ rfl rfl;rw[rJ];have h3:=h2.of (show _=Pt w.heap.size 36 #[.slice none 0 0,.slice none 0 0,.slice none 0 0]*(Row 32 1 (.slice none 0 0) 0 []*(Row 4 1 (.slice none 0 0) 0 []*(qb (.slice none 0 0) []*F))) by ac_rfl);exact h3.of (by show _=_*(_*(_*(_*(bE*F))));rw[bf];rfl)
theorem r4: ∀ (cs:List cw) (M:List Kv),(aZ cs M).length<=M.length+cs.length
 | [],M=>Nat.le_refl _
 | c::cs,M=>by
  have h1:=r4 cs (dH c M);have h2:=uX c M;show (aZ cs (dH c M)).length<=_;rw[List.length_cons];omega
theorem x8 {cs:List cw} {M:List Kv} {i:Nat} (hi:i<cs.length):aZ (cs.take (i+1)) M=dH cs[i] (aZ (cs.take i) M):=by
 unfold aZ;rw[List.take_add_one,List.getElem?_eq_getElem hi,List.foldl_append];rfl
theorem yE (A:Option Addr) (c:Nat) (ps:List Pu) (h:Sat w0 (eL g M Ms gs*F) w) (hb: ∀ W,Sat w0 F W->aG W A (ps.flatMap fE)/\gP W ps) (hl:M.length+ps.length<=10000) (hz: ∀ p ∈ ps,p.key.2.2.length<=1000000/\p.value.2.2.length<=1000000):
 Calls Tryz.prog 22 #[.pointer (some ⟨g,0,none⟩),.slice A ps.length c] w fun x w'=>x = .returned (.int .i64 (dm (ps.map Pu.bo):Nat))/\Sat w0 (eL g (if dm (ps.map Pu.bo)=0 then aZ (ps.map Pu.bo) M else M) Ms gs*F) w':=by
 obtain⟨v,vo,vg,vs,⟨hv,hg⟩,h1⟩:=h.Km;have HV:=ah (And.intro hv hg);have h2:=h1.of (rJ ..);have HF:Hid (∀ W V N,Sat w0 (Pt g 36 #[V,vo,vg]*(qb V N*(Row 32 1 vo vs.length vs*(Row 4 1 vg gs.length (gs.map Value.bool)*(Hw vs Ms*F))))) W->Sat w0 (eL g N Ms gs*F) W):=ah fun W V N hW=>by
  refine Sat.Gv (v:=V) (vo:=vo) (vg:=vg) (vs:=vs) ?_ hv hg;rw[rJ];exact hW.of (by ac_rfl)
 obtain⟨G,hG⟩: ∃ G,G=Row 32 1 vo vs.length vs*(Row 4 1 vg gs.length (gs.map Value.bool)*(Hw vs Ms*F)):=⟨_,rfl⟩;have HB:Hid (∀ W,Sat w0 G W->aG W A (ps.flatMap fE)/\gP W ps):=ah fun W hW=>by
  rw[hG] at hW;exact hb W hW.right.right.right
 have HS:Hid (Sat w0 (Pt g 36 #[v,vo,vg]*(qb v M*G)) w):=ah (h2.of (by rw[hG];ac_rfl));rw[<-hG] at HF;have HZ:=ah hz;have HC:Hid (∀ W,ao No w W->Calls Tryz.prog 74 #[.slice A ps.length c] W fun x w'=>x = .returned (.int .i64 (dm (ps.map Pu.bo):Nat))/\ao No W w'):=ah fun W k=>xO A c ps W (HB.o _ (HS.o.new k).right.right).1 (by omega) (fun p hp=>⟨by have:=(hz p hp).1;omega,by have:=(hz p hp).2;omega⟩)
 clear h h1 h2 hb hz hv hg hG;obtain⟨q,hq⟩: ∃ q,q=dm (ps.map Pu.bo):=⟨_,rfl⟩;rw[<-hq] at HC ⊢;have HQ:=ah hq;clear hq;go_enter Tryz.func22, Tryz.ntmps22;by_cases hq0:q=0
 .have hqi:((q:Int) !=0)=false:=by rw[hq0];rfl
  have HQ0:=ah hq0;clear hq0;go_wp2_with (go_at_call 74;(with_reducible refine(HC.o _ (ao.refl _ _)).mono ?_);rintro x w1 ⟨rfl,k1⟩;have HS1:=ah (HS.o.new k1);clear k1);go_loopw [6] (fun iv wr=> ∃ (i:Nat),i<=ps.length/\iv = .int .i64 (i:Int)/\Hid (∃ V,Sat w0 (Pt g 36 #[V,vo,vg]*(qb V (aZ ((ps.map Pu.bo).take i) M)*G)) wr)) (fun iv _=>ps.length - (intOf iv).toNat)
  case atStart=>exact⟨0,by omega,rfl,v,HS1.o⟩
  case round=>
   obtain⟨i,hi,rfl,HD⟩:=hrel;by_cases hlt:i<ps.length
   .have hii:(i:Int)<ps.length:=by omega
    obtain⟨V,hs⟩:=HD.o;have hsr:=hs.drew;obtain⟨lb,lo,rfl,hq⟩:=gy (HB.o _ hsr.right.right).1 (by omega);have HX:Hid (∀ W,Sat w0 G W->W.cell? ⟨lb,lo+i*3,none⟩=some (aJ ps[i].key)/\W.cell? ⟨lb,lo+i*3+1,none⟩=some (aJ ps[i].value)/\W.cell? ⟨lb,lo+i*3+2,none⟩=some (.bool ps[i].dead)):=ah fun W hW=>by
     obtain⟨b',o',e,hq⟩:=gy (HB.o _ hW).1 (by omega);injection e with e
     injection e with e1 e2
     subst e1;subst e2;exact hq i hlt
    have HPi:Hid (∀ W,Sat w0 G W->Hs W ps[i]):=ah fun W hW=>(HB.o W hW).2 _ (List.getElem_mem hlt)
    have HZi:=ah (HZ.o _ (List.getElem_mem hlt));have HN:Hid (aZ ((ps.map Pu.bo).take (i+1)) M=dH ps[i].bo (aZ ((ps.map Pu.bo).take i) M)):=ah (by
     rw[x8 (by rw[List.length_map];exact hlt),List.getElem_map])
    have HLn:Hid ((aZ ((ps.map Pu.bo).take i) M).length<=10000):=ah (by
     have h1:=r4 ((ps.map Pu.bo).take i) M;rw[List.length_take,List.length_map] at h1;omega)
    generalize ps[i]=p at*
    have HSr:=ah hsr;clear hq hs hsr;go_upto_region 7 with fail;obtain⟨⟨kA,kc,kl⟩,⟨vA,vc,vl⟩,dd⟩:=p;have HY:Hid (∀ W,Sat w0 G W->W.cell? ⟨lb,lo+i*3,none⟩=some (.slice kA kl.length kc)/\W.cell? ⟨lb,lo+i*3+1,none⟩=some (.slice vA vl.length vc)/\W.cell? ⟨lb,lo+i*3+2,none⟩=some (.bool dd)):=HX;have HPut:Hid (Calls Tryz.prog 75 #[.pointer (some ⟨g,0,none⟩),.agg #[.slice kA kl.length kc,.slice vA vl.length vc,.bool dd]] wr.drew fun e w'=>e = .returned (.tuple #[])/\ ∃ V',Sat w0 (Pt g 36 #[V',vo,vg]*(qb V' (dH ⟨kl,vl,dd⟩ (aZ ((ps.map Pu.bo).take i) M))*G)) w'):=ah ((BP g 36 #[V,vo,vg] V _ ⟨(kA,kc,kl),(vA,vc,vl),dd⟩ rfl HSr.o HLn.o HPi.o HZi.o).mono (by
     rintro e w' ⟨rfl,V',hs⟩;exact⟨rfl,V',hs⟩))
    clear HX HPi HZi;refine wp_region_held_drew (S:=fun w'=>w'.cell? ⟨lb,lo+i*3,none⟩=some (.slice kA kl.length kc)/\w'.cell? ⟨lb,lo+i*3+1,none⟩=some (.slice vA vl.length vc)/\w'.cell? ⟨lb,lo+i*3+2,none⟩=some (.bool dd)) (by kernel_rfl) (HY.o _ HSr.o.right.right) ?_;intro hS0;refine an 0 1 2 3 ?_;refine ct 4 5 ?_;refine b8 6 ?_;refine bB 7 fun K hK=>?_
    go_simp;go_at_call 75;(with_reducible refine HPut.o.mono ?_);rintro x w7 ⟨rfl,V7,hs7⟩;have HS7:=ah hs7;clear hs7
    refine hK.out _ _ (HY.o _ HS7.o.right.right) (fun hS0=>?_);clear hK K;refine wpAnyH_done (by kernel_rfl) ?_ _;go_wp2_with fail;go_roundw
    .exact⟨i+1,by omega,by push_cast;rfl,V7,by rw[HN.o];exact HS7.o⟩
    .simp[intOf];omega
   .have hie:i=ps.length:=by omega
    have HT:Hid (∃ V,Sat w0 (Pt g 36 #[V,vo,vg]*(qb V (aZ (ps.map Pu.bo) M)*G)) wr):=ah (by
     have h1:=HD.o;rw[hie,List.take_of_length_le (by rw[List.length_map];exact Nat.le_refl _)] at h1;exact h1)
    have hii:¬ (i:Int)<ps.length:=by omega
    clear hlt hie;go_wp2_with fail;go_ret;refine⟨rfl,?_⟩
    try rw[if_pos HQ0.o]
    obtain⟨V,hs⟩:=HT.o;exact HF.o _ _ _ hs
 .have hqi:((q:Int) !=0)=true:=by rw[bne_iff_ne];omega
  go_wp2_with (go_at_call 74;(with_reducible refine(HC.o _ (ao.refl _ _)).mono ?_);rintro x w1 ⟨rfl,k1⟩;have HS1:=ah (HS.o.new k1);clear k1);go_ret;refine⟨rfl,?_⟩
  try rw[if_neg hq0]
  exact HF.o _ _ _ HS1.o
end
theorem F0 (k:Nat):madeCells #[.int .u8 0] k=((List.replicate k (0:UInt8)).map bv).toArray:=by
 apply Array.ext';rw[List.map_replicate];simp[madeCells,bv,Nat.mod_one,List.map_const']
theorem ch (n:Nat) (hn:n<=100000) (W:World):(Instr.makeSlice 41 (.int .i64 (n:Int)) (.int .i64 (n:Int))).run Tryz.prog W=
 .ok (.slice (some ⟨W.heap.size,0,none⟩) n n) (W.alloc (.cells (madeCells #[.int .u8 0] n) 5)):=by
 obtain⟨i0,hi,hz0,hz1,hz2⟩:=info_parts kF;have hr:=run_make (P:= Tryz.prog) W 41 5 i0 _ Tryz.underlying41 hi hz0 .i64 .i64 n n (by omega) (by omega) (by rw[hz2];omega) (by omega);have hc:(Value.int .u8 0).cells = #[.int .u8 0]:=rfl;simpa [hz1,hc] using hr
theorem mI (A B:List Kv):cF (A++B)=cF A+cF B:=by unfold cF;rw[List.map_append,List.sum_append]
theorem AJ (M:List Kv) (i:Nat):cF (M.drop i)<=cF M:=by
 have h:cF M=cF (M.take i)+cF (M.drop i):=by rw[<-mI,List.take_append_drop]
 omega
theorem DY (k:List UInt8) (M:List Kv):mJ k M<=ij k M:=by
 unfold ij;split
 .split<;>omega
 .omega
theorem Ep (c:cw) (M:List Kv):cF (dH c M)<=cF M+c.key.length+c.value.length+40:=by
 rw[Aj,mI,mI];have h1:cF M=cF (M.take (mJ c.key M))+cF (M.drop (mJ c.key M)):=by rw[<-mI,List.take_append_drop]
 have h2:cF (M.drop (ij c.key M))<=cF (M.drop (mJ c.key M)):=by
  have h3:=AJ (M.drop (mJ c.key M)) (ij c.key M - mJ c.key M);have h4:=DY c.key M;rw[List.drop_drop] at h3;rwa [show mJ c.key M+(ij c.key M - mJ c.key M)=ij c.key M by omega] at h3
 have h5:cF (if c.dead=true then [] else [(c.key,c.value)])<=c.key.length+c.value.length+40:=by
  split
  .exact Nat.zero_le _
  .exact Nat.le_refl _
 omega
theorem yj {n:Nat} {M:List Kv} {c:cw} (hn:600<=n/\n<=1111) (hc:c.key.length+c.value.length<=100000) (hb:8*(cF M+c.key.length+c.value.length+40)+2*(c.key.length+c.value.length+16)+262144<=512*n):eu n (aZ [c] M) [c]=false:=by
 have h1:=Ep c M;have h3:(aE [c]).length=4+c.key.length+c.value.length:=by
  rw[fY,List.length_append,fD];rfl
 unfold eu;rw[Bool.or_eq_false_iff,decide_eq_false_iff_not,decide_eq_false_iff_not];have h4:aZ [c] M=dH c M:=rfl;rw[h4,h3];refine⟨?_,?_⟩
 .unfold aC;omega
 .unfold ba bh aC;rw[if_pos (by omega)];omega
section
variable {w0 w w':World} {F F' A B:SP} {b d n t k a nx g:Nat} {M N:List Kv} {olds:Int->Option (List Kv)} {Ms:List (List Kv)} {gs:List Bool} {v:Value}
theorem Sat.JP (h:Sat w0 (A*B) w):Sat w0 A w:=(h.of (cu A B)).right
theorem Sat.Jg (h:Sat w0 (A*(B*F)) w):Sat w0 (A*F) w:=h.ay.right
theorem cU.keep (h:cU w0 (A*B) b d n t k a nx M olds w):cU w0 (A*bE) b d n t k a nx M olds w:=by
 have h1:=(h.of (cu A B)).drop;exact h1.of (iU A).symm
theorem GH (h:Sat w0 (Pt g 36 #[v,.slice none 0 0,.slice none 0 0]*(qb v N*F)) w):Sat w0 (eL g N [] []*F) w:=by
 have h2:=((h.aM 4 1).aM 32 1);refine Sat.Gv (vs:=[]) (Ms:=[]) (gs:=[]) (v:=v) (vo:= .slice none 0 0) (vg:= .slice none 0 0) ?_ rfl rfl;rw[rJ];have h3:=h2.of (show _=Pt g 36 #[v,.slice none 0 0,.slice none 0 0]*(Row 32 1 (.slice none 0 0) 0 []*(Row 4 1 (.slice none 0 0) 0 []*(qb v N*F))) by ac_rfl);exact h3.of (by show _=_*(_*(_*(_*(bE*F))));rw[bf];rfl)
theorem Sat.j9 (h:Sat w0 (eL g N Ms gs*F) w): ∃ LA lc vo vg es R,aY es=N/\Sat w0 (Pt g 36 #[.slice LA es.length lc,vo,vg]*(fh (.slice LA es.length lc) es*(R*F))) w/\ ∀ A w',Sat w0 (Pt g 36 #[.slice LA es.length lc,vo,vg]*(fh (.slice LA es.length lc) es*(R*A))) w'->Sat w0 (eL g N Ms gs*A) w':=by
 obtain⟨v,vo,vg,vs,⟨hv,hg⟩,h1⟩:=h.Km;have h2:=(h1.of (rJ ..)).of (show _=qb v N*(Pt g 36 #[v,vo,vg]*((Row 32 1 vo vs.length vs*(Row 4 1 vg gs.length (gs.map Value.bool)*Hw vs Ms))*F)) by ac_rfl);obtain⟨es,he,h3⟩:=h2.mp;obtain⟨LA,lc,rfl,_⟩:=h3.zF;refine⟨LA,lc,vo,vg,es,Row 32 1 vo vs.length vs*(Row 4 1 vg gs.length (gs.map Value.bool)*Hw vs Ms),he,h3.ay,fun A w' hw=>?_⟩;refine Sat.Gv (v:= .slice LA es.length lc) (vo:=vo) (vg:=vg) (vs:=vs) ?_ hv hg;rw[rJ];exact(hw.ay.IS he).of (by ac_rfl)
theorem cU.j9 (h:cU w0 (eL g N Ms gs*F) b d n t k a nx M olds w): ∃ LA lc vo vg es R,aY es=N/\cU w0 (Pt g 36 #[.slice LA es.length lc,vo,vg]*(fh (.slice LA es.length lc) es*(R*F))) b d n t k a nx M olds w/\ ∀ A w',Sat w0 (Pt g 36 #[.slice LA es.length lc,vo,vg]*(fh (.slice LA es.length lc) es*(R*A))) w'->Sat w0 (eL g N Ms gs*A) w':=by
 obtain⟨G,hG,hR⟩:=h.JY;obtain⟨LA,lc,vo,vg,es,R,he,h1,hB⟩:=(hG.of (aB _ _ _)).j9;exact⟨LA,lc,vo,vg,es,R,he,hR _ _ (h1.of (by ac_rfl)),hB⟩
theorem cU.CA {C D R:SP} (hB: ∀ A w',Sat w0 (C*(D*(R*A))) w'->Sat w0 (eL g N Ms gs*A) w') (h:cU w0 (C*(D*(R*F))) b d n t k a nx M olds w):cU w0 (eL g N Ms gs*F) b d n t k a nx M olds w:=h.map fun G hG=>(hB (F*G) _ (hG.of (by ac_rfl))).of (by ac_rfl)
theorem DO {q m:Nat} {W:World} (h:Sat w0 (Pt q 5 (madeCells #[.int .u8 0] m)*F) W):Rd W (some ⟨q,0,none⟩) (List.replicate m 0):=ka (l:=List.replicate m 0) (by rw[<-F0];exact h)
theorem Fx {LA:Option Addr} {lc:Nat} {es:List En}:yn (fh (.slice LA es.length lc) es*F) LA es:=fun w0 w hs=>⟨hs.j4,hs.tk⟩
theorem FE (p:Pu) (gl:Nat) (h:Sat w0 (eL g N Ms gs*(Ow gl (.cells #[aJ p.key,aJ p.value,.bool p.dead] 43)*F)) w) (hp: ∀ W,Sat w0 F W->Hs W p) (hl:N.length<=9000) (hz:p.key.2.2.length<=1000000/\p.value.2.2.length<=1000000):
 Calls Tryz.prog 22 #[.pointer (some ⟨g,0,none⟩),.slice (some ⟨gl,0,none⟩) 1 1] w fun x w'=>x = .returned (.int .i64 (dm [p.bo]:Nat))/\Sat w0 (eL g (if dm [p.bo]=0 then dH p.bo N else N) Ms gs*F) w':=by
 refine(yE (some ⟨gl,0,none⟩) 1 [p] h (fun W hW=>⟨?_,fun q hq=>?_⟩) (by show N.length+1<=10000;omega) (fun q hq=>?_)).mono ?_
 .have h9:=sY (xs:=fE p) hW rfl;rw[List.flatMap_cons,List.flatMap_nil,List.append_nil];exact h9
 .rw[List.mem_singleton] at hq;subst hq;exact hp W hW.right
 .rw[List.mem_singleton] at hq;subst hq;exact hz
 .rintro x w' ⟨rfl,h6⟩;exact⟨rfl,h6.Jg⟩
def JS (n:Nat) (cs:List cw) (M:List Kv) (er:Int) (M':List Kv):Prop:=
 (dm cs≠0/\er=(dm cs:Nat)/\M'=M)\/(dm cs=0/\eu n (aZ cs M) cs=true/\er=103/\M'=M)\/(dm cs=0/\eu n (aZ cs M) cs=false/\er=0/\M'=aZ cs M)
theorem FO (Ad:Option Addr) (c:Nat) (ps:List Pu) (hk:k<=10000) (ht:t+ps.length<=1024) (h:cU w0 F b d n t k 0 nx M olds w)
 (hb: ∀ W,Sat w0 F W->aG W Ad (ps.flatMap fE)/\gP W ps) (hz: ∀ p ∈ ps,p.key.2.2.length<=1000000000/\p.value.2.2.length<=1000000000):
 Calls Tryz.prog 20 #[.pointer (some ⟨b,0,none⟩),.slice Ad ps.length c] w fun x w'=> ∃ (er:Int) (M':List Kv),x = .returned (.int .i64 er)/\JS n (ps.map Pu.bo) M er M'/\cU w0 F b d n (t+ps.length) (k+1) 0 nx M' olds w':=by
 obtain⟨s,S,v,D,h1,h2,h3,h4⟩:=h;refine(wD b d s v n t k D S M olds Ad c ps h1 hk ht (by omega) h4 hb hz).mono ?_;rintro x w' (⟨e1,g1,g2⟩ | ⟨e1,e2,g1,g2⟩ | ⟨e1,e2,rfl,S',D',v',g3,g4,g5,g6,g7,g8⟩ | ⟨_,_,_,g1,_⟩)
 .exact⟨_,M,g1,.inl ⟨e1,rfl,rfl⟩,cU.mono (show cU w0 F b d n t k 0 nx M olds w' from ⟨s,S,v,D,h1,h2,h3,g2⟩) (by omega) (by omega)⟩
 .exact⟨_,M,g1,.inr (.inl ⟨e1,e2,rfl,rfl⟩),cU.mono (show cU w0 F b d n t k 0 nx M olds w' from ⟨s,S,v,D,h1,h2,h3,g2⟩) (by omega) (by omega)⟩
 .rw[List.length_map] at g3;exact⟨0,_,rfl,.inr (.inr ⟨e1,e2,rfl,rfl⟩),s,S',v',D',g3,by omega,by omega,g8⟩
 .omega
theorem CZ (p:Pu) (gl:Nat) (hk:k<=10000) (ht:t+1<=1024) (h:cU w0 (Ow gl (.cells #[aJ p.key,aJ p.value,.bool p.dead] 43)*F) b d n t k 0 nx M olds w) (hp: ∀ W,Sat w0 F W->Hs W p) (hz:p.key.2.2.length<=1000000000/\p.value.2.2.length<=1000000000):
 Calls Tryz.prog 20 #[.pointer (some ⟨b,0,none⟩),.slice (some ⟨gl,0,none⟩) 1 1] w fun x w'=> ∃ (er:Int) (M':List Kv),x = .returned (.int .i64 er)/\JS n [p.bo] M er M'/\cU w0 F b d n (t+1) (k+1) 0 nx M' olds w':=by
 refine(FO (some ⟨gl,0,none⟩) 1 [p] hk ht h (fun W hW=>⟨?_,fun q hq=>?_⟩) (fun q hq=>?_)).mono ?_
 .have h9:=sY (xs:=fE p) hW rfl;rw[List.flatMap_cons,List.flatMap_nil,List.append_nil];exact h9
 .rw[List.mem_singleton] at hq;subst hq;exact hp W hW.right
 .rw[List.mem_singleton] at hq;subst hq;exact hz
 .rintro x w' ⟨er,M',rfl,hr,h6⟩;exact⟨er,M',rfl,hr,h6.drop⟩
end
end Go.Proofs.YtmbaiglpgaoogaaGreat
