/- Joined, as they were built one by one: StRef2 StRef3 StRef4 StWhMk StRm. -/
import Derived.Test.YtmbaiglpgaoogaaGreatW02
import Derived.Test.YtmbaiglpgaoogaaGreatW13
import Derived.Test.YtmbaiglpgaoogaaGreatW19
import Derived.Test.YtmbaiglpgaoogaaGreatW33
set_option maxHeartbeats 16000000
set_option linter.unusedVariables false
set_option maxRecDepth 100000
namespace Go.Proofs.YtmbaiglpgaoogaaGreat
open Go.RowKit Z
def mG (k:List UInt8) (M:List Kv):Nat:=(M.takeWhile fun q=>decide (Lib.compareBytes q.1 k<0)).length
theorem IW (k:List UInt8) (M:List Kv):mG k M<=M.length:=by
 unfold mG;exact(List.takeWhile_sublist _).length_le
theorem vh {k:List UInt8}: ∀ {M:List Kv} {i:Nat} (hi:i<M.length),(∀ j (hj:j<M.length),j<i->Lib.compareBytes (M[j]'hj).1 k<0)->¬ Lib.compareBytes (M[i]'hi).1 k<0->mG k M=i
 | p::M,i,hi,h,hn=>by
  unfold mG;rw[List.takeWhile_cons]
  cases i with
  | zero=>
   have h1:¬ Lib.compareBytes p.1 k<0:=hn;rw[if_neg (by simpa using h1)];rfl
  | succ i=>
   have h1:Lib.compareBytes p.1 k<0:=h 0 (by simp) (by omega);rw[if_pos (by simpa using h1),List.length_cons];have h2:=vh (k:=k) (M:=M) (i:=i) (by simpa using hi) (fun j hj hji=>h (j+1) (by simpa using hj) (by omega)) hn;unfold mG at h2;rw[h2]
theorem GZ {k:List UInt8} {M:List Kv} (h: ∀ j (hj:j<M.length),Lib.compareBytes (M[j]'hj).1 k<0):mG k M=M.length:=by
 unfold mG;rw[(nA (f:=fun q:Kv=>decide (Lib.compareBytes q.1 k<0)) (L:=M) (fun x hx=>by
  obtain⟨j,hj,rfl⟩:=List.mem_iff_getElem.1 hx;simpa using h j hj)).1]
def ik (k:List UInt8) (M:List Kv):Nat:=if h:mG k M<M.length then (if (M[mG k M]'h).1=k then mG k M+1 else mG k M) else mG k M
theorem zS (p:cE) (M:List Kv):dK p M=M.take (mG p.key M)++((if p.dead=true then [] else [(p.key,p.value)])++M.drop (ik p.key M)):=by
 have h1:M.takeWhile (fun q=>decide (Lib.compareBytes q.1 p.key<0))=M.take (mG p.key M):=by
  unfold mG;have e:=List.takeWhile_append_dropWhile (p:=fun q:Kv=>decide (Lib.compareBytes q.1 p.key<0)) (l:=M);have h2:M.take (M.takeWhile fun q=>decide (Lib.compareBytes q.1 p.key<0)).length=(M.takeWhile (fun q=>decide (Lib.compareBytes q.1 p.key<0))++M.dropWhile (fun q=>decide (Lib.compareBytes q.1 p.key<0))).take (M.takeWhile fun q=>decide (Lib.compareBytes q.1 p.key<0)).length:=by rw[e]
  rw[h2,List.take_left'];rfl
 have h3:M.dropWhile (fun q=>decide (Lib.compareBytes q.1 p.key<0))=M.drop (mG p.key M):=by
  unfold mG;have e:=List.takeWhile_append_dropWhile (p:=fun q:Kv=>decide (Lib.compareBytes q.1 p.key<0)) (l:=M);have h2:M.drop (M.takeWhile fun q=>decide (Lib.compareBytes q.1 p.key<0)).length=(M.takeWhile (fun q=>decide (Lib.compareBytes q.1 p.key<0))++M.dropWhile (fun q=>decide (Lib.compareBytes q.1 p.key<0))).drop (M.takeWhile fun q=>decide (Lib.compareBytes q.1 p.key<0)).length:=by rw[e]
  rw[h2,List.drop_left'];rfl
 unfold dK;rw[h1,h3];congr 2
 unfold ik;by_cases h:mG p.key M<M.length
 .rw[dif_pos h,List.drop_eq_getElem_cons h];by_cases h4:(M[mG p.key M]).1=p.key
  .rw[if_pos h4];simp only[h4,if_true]
  .rw[if_neg h4,List.drop_eq_getElem_cons h];simp only[h4,if_false]
 .rw[dif_neg h,List.drop_of_length_le (by omega)]
section
variable {w0 w w':World} {F:SP}
theorem yq (es:List En) (k:Nat):(es.flatMap cL).drop (k*2)=(es.drop k).flatMap cL:=by
 have e:es.flatMap cL=(es.take k).flatMap cL++(es.drop k).flatMap cL:=by rw[<-List.flatMap_append,List.take_append_drop]
 by_cases hk:k<=es.length
 .rw[e,List.drop_left'];rw[dx,List.length_take,Nat.min_eq_left hk]
 .rw[List.drop_of_length_le (l:=es) (by omega),List.drop_of_length_le (by rw[dx];omega)];rfl
theorem jo {A:Option Addr} {v:Value} {es gs:List En} {g m q c y:Nat} {ty:TypeId} {cs:Array Value} {X:SP} {M':List Kv} (h:Sat w0 (Row 65 2 (.slice A (m+q) c) (m+q) (gs.flatMap cL++(es.drop y).flatMap cL)*(cd (cq gs)*(X*(Pt g ty cs*(fw v es*F))))) w) (hm:gs.length=m) (hq:es.length - y=q) (hp:aY (gs++es.drop y)=M'):
 Sat w0 (Pt g ty (cs.setIfInBounds 0 (.slice A (m+q) c))*(qB (.slice A (m+q) c) M'*F)) (w.setCell ⟨g,0,none⟩ (.slice A (m+q) c)):=by
 have h1:=h.bL.set 0 (.slice A (m+q) c);generalize w.setCell ⟨g,0,none⟩ (.slice A (m+q) c)=W at*
 have h2:=(h1.of (show _=fw v es*(X*(cd (cq gs)*(Row 65 2 (.slice A (m+q) c) (m+q) (gs.flatMap cL++(es.drop y).flatMap cL)*(Pt g ty (cs.setIfInBounds 0 (.slice A (m+q) c))*F)))) by ac_rfl)).oW.ij (sJ (fs:=es.drop y) fun e he=>List.mem_of_mem_drop he);have h3:=(h2.of (show _=fw v es*(X*(cd (cq gs)*(cd (cq (es.drop y))*(Row 65 2 (.slice A (m+q) c) (m+q) (gs.flatMap cL++(es.drop y).flatMap cL)*(Pt g ty (cs.setIfInBounds 0 (.slice A (m+q) c))*F))))) by ac_rfl)).right.right.iA;have e1:cq (gs++es.drop y)=cq gs++cq (es.drop y):=by unfold cq;rw[List.flatMap_append]
 have e2:(gs++es.drop y).length=m+q:=by rw[List.length_append,List.length_drop,hm,hq]
 rw[<-e1] at h3;have h4:Sat w0 (fw (.slice A (m+q) c) (gs++es.drop y)*(Pt g ty (cs.setIfInBounds 0 (.slice A (m+q) c))*F)) W:=by
  refine Sat.tQ (n:=m+q) ?_ e2;rw[List.flatMap_append];exact h3.of (by ac_rfl)
 exact(h4.Jw hp).ay
theorem DG:(Tryz.prog.info? 5).map (fun i=>(i.zero,i.size,i.bytes))=some (some (.int .u8 0),1,1):=by kernel_rfl
theorem BK (g:Nat) (ty:TypeId) (cs:Array Value) (v:Value) (M:List Kv) (p:Pu) (hv:cs[0]?=some v) (h:Sat w0 (Pt g ty cs*(qB v M*F)) w) (hl:M.length<=10000) (hp: ∀ W,Sat w0 F W->Js W p) (hz:p.key.2.2.length<=1000000/\p.value.2.2.length<=1000000):
 Calls Tryz.prog 75 #[.pointer (some ⟨g,0,none⟩),.agg #[aJ p.key,aJ p.value,.bool p.dead]] w fun e w'=>e = .returned (.tuple #[])/\ ∃ v',Sat w0 (Pt g ty (cs.setIfInBounds 0 v')*(qB v' (dK p.bq M)*F)) w':=by
 obtain⟨es,he,h1⟩:=h.ay.mp;obtain⟨LA,lc,rfl,hlc1,hlc2⟩:=h1.zY;obtain⟨⟨kA,kc,kl⟩,⟨vA,vc,vl⟩,dd⟩:=p;obtain⟨hz1,hz2⟩:=hz;replace hz1:kl.length<=1000000:=hz1;replace hz2:vl.length<=1000000:=hz2;have hn:es.length<=10000:=by rw[<-bX,he];exact hl
 have HPe:Hid (∀ gs:List En,aY gs=M.take (mG kl M)++(if dd=true then [] else [(kl,vl)])->aY (gs++es.drop (ik kl M))=dK ⟨kl,vl,dd⟩ M):=ah fun gs hg=>by
  have e9:aY (es.drop (ik kl M))=M.drop (ik kl M):=by rw[<-he];unfold aY;rw[List.map_drop]
  rw[js,hg,e9,zS,List.append_assoc]
 obtain⟨j0,hj,hy0,hy1,hy2⟩:=info_parts uD;obtain⟨j1,hj1,hu0,hu1,hu2⟩:=info_parts DG;have Hj:=ah hj;have Hy0:=ah hy0;have Hy1:=ah hy1;have Hy2:=ah hy2;have Hj1:=ah hj1;have Hz0:=ah hu0;have Hz1:=ah hu1;have Hz2:=ah hu2;have h2:=h1.ay.bO (b:=w.heap.size) 43 #[.slice kA kl.length kc,.slice vA vl.length vc,.bool dd] rfl;obtain⟨z,hzd⟩: ∃ z,z=mG kl M:=⟨_,rfl⟩;obtain⟨y,hyd⟩: ∃ y,y=ik kl M:=⟨_,rfl⟩;have hzn:z<=es.length:=by rw[hzd, <-bX,he];exact IW kl M
 have HZ:=ah hzd;have HY:=ah hyd;have HE:=ah he;have HPr:Hid (∀ W,Sat w0 F W->Rd W kA kl/\Rd W vA vl):=ah fun W hW=>hp W hW
 have HCs:=ah hv;have hEl: ∀ i (hi:i<es.length),(M[i]'(by rw[<-he,bX];exact hi)).1=es[i].key.2.2:=fun i hi=>by
  subst he;unfold aY;rw[List.getElem_map];rfl
 have HEl:=ah hEl;clear hj hy0 hy1 hy2 hj1 hu0 hu1 hu2 h h1 hzd hyd hp hv hEl;show Calls Tryz.prog 75 #[.pointer (some ⟨g,0,none⟩),.agg #[.slice kA kl.length kc,.slice vA vl.length vc,.bool dd]] w _;go_enter Tryz.func75, Tryz.ntmps75;go_upto_region 1 with fail;revert h2;generalize w.alloc _=W1;intro h2;generalize w.heap.size=E at*
 have HS:=ah h2;clear h2;go_upto_block 0 with fail
 go_cut [4,5] (fun ov iv wx=> ∃ (d:Nat) (B:Option Addr),ov = .slice B z d/\iv = .int .i64 (z:Int)/\Hid (Sat w0 (Row 65 2 (.slice B z d) z ((es.take z).flatMap cL)*(Pt E 43 #[.slice kA kl.length kc,.slice vA vl.length vc,.bool dd]*(Pt g ty cs*(fw (.slice LA es.length lc) es*F)))) wx))
 case first=>
  go_wp2_with fail;go_loopw [4,5] (fun ov iv wr=> ∃ (i d:Nat) (B:Option Addr),i<=es.length/\iv = .int .i64 (i:Int)/\ov = .slice B i d/\Hid ((∀ j (hj:j<es.length),j<i->Lib.compareBytes es[j].key.2.2 kl<0)/\Sat w0 (Row 65 2 (.slice B i d) i ((es.take i).flatMap cL)*(Pt E 43 #[.slice kA kl.length kc,.slice vA vl.length vc,.bool dd]*(Pt g ty cs*(fw (.slice LA es.length lc) es*F)))) wr)) (fun _ iv _=>es.length - (intOf iv).toNat)
  case atStart=>exact⟨0,0,none,by omega,rfl,rfl,(fun j hj h=>by omega),HS.o.aN 65 2⟩
  case round=>
   obtain⟨i,d,B,hi,rfl,rfl,HD⟩:=hrel;have hsr:=HD.o.2.drew;have c0:wr.drew.cell? ⟨g,0,none⟩=some (.slice LA es.length lc):=(hsr.bp.cell 0).trans HCs.o;have hEn:=hsr.right.right.right.tO;by_cases hlt:i<es.length
   .obtain⟨lb,lo,rfl,hq⟩:=nc hsr.right.right.right.kL (by omega);obtain⟨y0,y1⟩:=hq i hlt;have ra:=hEn _ (List.getElem_mem hlt);obtain⟨SA,SB,B1,e1,e2,e3,e4⟩:=F1 es[i].key.2.2 kl;have s1:=dy ra.1 es[i].key.2.1;have s2:=dy (HPr.o _ hsr.right.right.right.right).1 kc;rw[<-e1] at s1;rw[<-e2] at s2;have HB4:Hid (B1=true↔Lib.compareBytes es[i].key.2.2 kl<0):=ah (by rw[e4,il,decide_eq_true_iff]);have HTk:Hid ((es.take (i+1)).flatMap cL=(es.take i).flatMap cL++cL es[i]):=ah (by rw[List.take_add_one,List.getElem?_eq_getElem hlt,List.flatMap_append];rfl);have HMi:Hid ((M[i]'(by rw[<-he,bX];exact hlt)).1=es[i].key.2.2):=HEl.o i hlt;have HLs:Hid (∀ j (hj:j<es.length),j<i->Lib.compareBytes es[j].key.2.2 kl<0):=HD.o.1;have HLq:Hid (Lib.compareBytes es[i].key.2.2 kl<0-> ∀ j (hj:j<es.length),j<i+1->Lib.compareBytes es[j].key.2.2 kl<0):=ah fun h0 j hj hji=>by
     by_cases e:j=i
     .subst e;exact h0
     .exact HD.o.1 j hj (by omega)
    clear hq ra e1 e2 e4;generalize es[i]=q at*
    obtain⟨⟨kB,kd,kl0⟩,⟨vB,vd,vl0⟩,eq0,dd0⟩:=q;replace y0:_=some (Value.slice kB kl0.length kd):=y0;replace y1:_=some (Value.slice vB vl0.length vd):=y1;dsimp only at s1 HB4;have hii:(i:Int)<es.length:=by omega
    have E3:=ah e3;have C0:=ah c0;have Y0:=ah y0;have Y1:=ah y1;have G0:Hid (wr.drew.cell? ⟨g,0,none⟩=some (.slice (some ⟨lb,lo,none⟩) es.length lc)/\wr.drew.cell? ⟨lb,lo+i*2,none⟩=some (.slice kB kl0.length kd)/\wr.drew.cell? ⟨E,0,none⟩=some (.slice kA kl.length kc)/\(convert 41 9 (.slice kB kl0.length kd)).run Tryz.prog wr.drew = .ok (.string SA) wr.drew/\(convert 41 9 (.slice kA kl.length kc)).run Tryz.prog wr.drew = .ok (.string SB) wr.drew):=ah ⟨c0,y0,hsr.ay.cell 0,s1,s2⟩;clear c0 y0 y1 s1 s2 hEn e3;go_upto_region 3 with fail
    cases B1 with
    | true=>
     have hLs:=HLq.o (HB4.o.1 rfl);have e3:=E3.o;refine wp_region_held_drew (S:=fun w'=>w'.cell? ⟨g,0,none⟩=some (.slice (some ⟨lb,lo,none⟩) es.length lc)/\w'.cell? ⟨lb,lo+i*2,none⟩=some (.slice kB kl0.length kd)/\w'.cell? ⟨E,0,none⟩=some (.slice kA kl.length kc)/\(convert 41 9 (.slice kB kl0.length kd)).run Tryz.prog w' = .ok (.string SA) w'/\(convert 41 9 (.slice kA kl.length kc)).run Tryz.prog w' = .ok (.string SB) w') (by kernel_rfl) G0.o ?_;intro hS0;refine an 0 1 2 3 ?_;refine an 4 5 6 7 ?_;refine an 8 9 10 11 ?_;refine an 12 13 14 15 ?_;refine an 16 17 18 19 ?_;refine cw 20 21 ?_;refine wpAnyH_done (by kernel_rfl) ?_ _;obtain⟨W2,hW2⟩: ∃ W2,W2=wr.drew:=⟨_,rfl⟩;have c0:=C0.o;have y0:=Y0.o;have y1:=Y1.o;rw[<-hW2] at c0 y0 y1 hsr;rw[<-hW2];have HSa:=ah (hsr.aD (.cells #[.slice kB kl0.length kd,.slice vB vl0.length vd] 65));have HLs2:=ah hLs;clear hW2 e3 hLs hsr G0 hS0;go_wp2_with (at_builtin;refine av rfl (.tmp 28) (.tmp 36) 30 rfl 65 j0 _ 2 48 Tryz.underlying30 Hj.o Hy0.o Hy1.o Hy2.o rfl (by decide) (.slice B i d) i ((es.take i).flatMap cL) rfl w0 _ (by exact HSa.o) (some ⟨W2.heap.size,0,none⟩) 1 1 [.slice kB kl0.length kd,.slice vB vl0.length vd] rfl (by exact(aR _ _ _)) rfl (by intro u hu;simp at hu;rcases hu with rfl | rfl<;>rfl) (by unfold maxLen;omega) (by omega) ?_;intro B7 c7 w7 hs7;have HS7:=ah hs7;clear hs7);go_roundw
     .refine⟨i+1,c7,B7,by omega,by push_cast;rfl,rfl,HLs2.o,?_⟩;rw[HTk.o];exact HS7.o
     .simp[intOf];omega
    | false=>
     have HIz:Hid (i=z):=ah (by
      rw[HZ.o];exact(vh (by rw[<-he,bX];exact hlt) (fun j hj hji=>by
       have hj2:j<es.length:=by omega
       rw[HEl.o j hj2];exact HLs.o j hj2 hji) (by
       rw[HMi.o];intro h0;have:=HB4.o.2 h0
       cases this)).symm)
     have e3:=E3.o;refine wp_region_held_drew (S:=fun w'=>w'.cell? ⟨g,0,none⟩=some (.slice (some ⟨lb,lo,none⟩) es.length lc)/\w'.cell? ⟨lb,lo+i*2,none⟩=some (.slice kB kl0.length kd)/\w'.cell? ⟨E,0,none⟩=some (.slice kA kl.length kc)/\(convert 41 9 (.slice kB kl0.length kd)).run Tryz.prog w' = .ok (.string SA) w'/\(convert 41 9 (.slice kA kl.length kc)).run Tryz.prog w' = .ok (.string SB) w') (by kernel_rfl) G0.o ?_;intro hS0;refine an 0 1 2 3 ?_;refine an 4 5 6 7 ?_;refine an 8 9 10 11 ?_;refine an 12 13 14 15 ?_;refine an 16 17 18 19 ?_;refine cw 20 21 ?_;refine wpAnyH_done (by kernel_rfl) ?_ _;go_wp2_with fail;go_meet
     exact⟨d,B,by rw[<-HIz.o],by rw[<-HIz.o],by rw[<-HIz.o];exact hsr⟩
   .have hie:i=es.length:=by omega
    have HIz:Hid (i=z):=ah (by
     rw[HZ.o,GZ (fun j hj=>by
      have hj2:j<es.length:=by rw[<-bX,he];exact hj
      rw[HEl.o j hj2];exact HD.o.1 j hj2 (by omega)), <-he,bX]
     exact hie)
    have hii:¬ (i:Int)<es.length:=by omega
    have G0:=ah c0;clear c0 hEn;go_upto_region 3 with fail;refine wp_region_held_drew (S:=fun w'=>w'.cell? ⟨g,0,none⟩=some (.slice LA es.length lc)) (by kernel_rfl) G0.o ?_;intro hS0;refine an 0 1 2 3 ?_;refine an 4 5 6 7 ?_;refine cg 8 ?_;refine cg 9 ?_;refine cg 10 ?_;refine cg 11 ?_;refine cg 12 ?_;refine cg 13 ?_;refine cg 14 ?_;refine cg 15 ?_;refine cg 16 ?_;refine cg 17 ?_;refine cg 18 ?_;refine cg 19 ?_;refine cg 20 ?_;refine ca 21 ?_;refine wpAnyH_done (by kernel_rfl) ?_ _;go_wp2_with fail;go_meet
    exact⟨d,B,by rw[<-HIz.o,hie],by rw[<-HIz.o,hie],by rw[<-HIz.o];exact hsr⟩
 case rest=>
  obtain⟨d,B,rfl,rfl,HD⟩:=hcut;have hx0:Sat w0 (Row 65 2 (.slice B z d) z ((es.take z).flatMap cL)*(cd (cq (es.take z))*(Pt E 43 #[.slice kA kl.length kc,.slice vA vl.length vc,.bool dd]*(Pt g ty cs*(fw (.slice LA es.length lc) es*F))))) wc:=by
   have h1:=(HD.o.of (show _=fw (.slice LA es.length lc) es*(Row 65 2 (.slice B z d) z ((es.take z).flatMap cL)*(Pt E 43 #[.slice kA kl.length kc,.slice vA vl.length vc,.bool dd]*(Pt g ty cs*F))) by ac_rfl)).oW.ij (sJ (fs:=es.take z) fun e he=>List.mem_of_mem_take he);exact h1.of (by ac_rfl)
  obtain⟨fs,hfs⟩: ∃ fs,fs=es.take z:=⟨_,rfl⟩;rw[<-hfs] at hx0;have HFl:Hid (fs.length=z):=ah (by rw[hfs,List.length_take];omega);have HFp:Hid (aY fs=M.take z):=ah (by rw[hfs,lT,he]);have HX0:=ah hx0;clear hfs hx0 HD;refine ‹∀ (a:Act) (w:World),Code.wp _ _ _ a w->_› _ _ ?_
  apply wp_seq_k;intro _ _;go_cut [4] (fun ov wx=> ∃ (m d:Nat) (B:Option Addr) (gs:List En),ov = .slice B m d/\Hid (gs.length=m/\m<=z+1/\aY gs=M.take z++(if dd=true then [] else [(kl,vl)])/\Sat w0 (Row 65 2 (.slice B m d) m (gs.flatMap cL)*(cd (cq gs)*(Pt E 43 #[.slice kA kl.length kc,.slice vA vl.length vc,.bool dd]*(Pt g ty cs*(fw (.slice LA es.length lc) es*F))))) wx))
  case first=>
   have c2:wc.cell? ⟨E,2,none⟩=some (.bool dd):=HX0.o.bp.cell 2
   cases dd with
   | true=>
    go_wp2_with fail;go_meet
    exact⟨z,d,B,fs,rfl,HFl.o,by omega,by rw[HFp.o];simp,HX0.o⟩
   | false=>
    go_upto_region 7 with fail;clear c2;generalize wc=W at*
    obtain⟨Z,hZ⟩: ∃ Z,Z=Pt E 43 #[.slice kA kl.length kc,.slice vA vl.length vc,.bool false]*(Pt g ty cs*(fw (.slice LA es.length lc) es*F)):=⟨_,rfl⟩;obtain⟨Y,hY⟩: ∃ Y,Y=cd (cq fs)*Z:=⟨_,rfl⟩;obtain⟨X,hX⟩: ∃ X,X=Row 65 2 (.slice B z d) z (fs.flatMap cL)*Y:=⟨_,rfl⟩;have HYE:Hid (∀ v,Sat w0 Y v->v.cell? ⟨E,0,none⟩=some (.slice kA kl.length kc)/\v.cell? ⟨E,1,none⟩=some (.slice vA vl.length vc)):=ah fun v hv=>by
     rw[hY,hZ] at hv;exact⟨hv.ay.cell 0,hv.ay.cell 1⟩
    have HXE:Hid (∀ v,Sat w0 X v->v.cell? ⟨E,0,none⟩=some (.slice kA kl.length kc)/\v.cell? ⟨E,1,none⟩=some (.slice vA vl.length vc)):=ah fun v hv=>by
     rw[hX] at hv;exact HYE.o _ hv.right
    have HXR:Hid (∀ v,Sat w0 X v->Rd v kA kl/\Rd v vA vl):=ah fun v hv=>by
     rw[hX,hY,hZ] at hv;exact HPr.o _ hv.right.right.right.right.right
    have HSW:Hid (Sat w0 X W):=ah (by rw[hX,hY,hZ];exact HX0.o);refine wp_region_held_drew (S:=fun w'=>w'.cell? ⟨E,0,none⟩=some (.slice kA kl.length kc)/\w'.cell? ⟨E,1,none⟩=some (.slice vA vl.length vc)) (by kernel_rfl) (HXE.o _ HSW.o.drew) ?_;intro hS0;refine an 0 2 3 6 ?_;refine ca 7 ?_;refine bM (i:=1) (j:=5) rfl rfl (by kernel_rfl) (fun K hK=>?_) (fun K hK=>?_)
    ·
     go_simp;have hs:=((HSW.o.ab 5 #[]).dN (n:=0) (cap:=0) (size:=1) (Nat.le_refl _) (Nat.zero_le _) rfl).drew;obtain⟨v1,hv1⟩: ∃ v,v=(W.alloc (.cells #[] 5)).drew:=⟨_,rfl⟩;obtain⟨g1,hg1⟩: ∃ x,x=W.heap.size:=⟨_,rfl⟩;rw[<-hv1, <-hg1] at hs;rw[<-hv1, <-hg1];have HS1:=ah hs;clear hs hv1 hg1;refine hK.out _ _ (HXE.o _ (Sat.right HS1.o)) (fun hS0=>?_);clear hK K;refine bM (i:=4) (j:=5) rfl rfl (by kernel_rfl) (fun K hK=>?_) (fun K hK=>?_)
     ·
      refine aQ rfl (.tmp 44) (.tmp 46) 41 rfl 5 j1 _ 1 1 Tryz.underlying41 Hj1.o Hz0.o Hz1.o Hz2.o rfl (by decide) (.slice (some ⟨g1,0,none⟩) 0 0) 0 [] rfl w0 _ (by exact HS1.o) kA kl.length kc (kl.map bv) rfl (by exact(HXR.o _ HS1.o.right).1) (by simp) (by intro u hu;obtain⟨b,_,rfl⟩:=List.mem_map.1 hu;rfl) (by unfold maxLen;omega) (by omega) ?_;intro A4 c4 v4 hs;simp only[Nat.zero_add,List.nil_append] at hs ⊢;have HS4:=ah hs;clear hs;refine hK.out _ _ (HXE.o _ (Sat.right HS4.o)) (fun hS0=>?_);clear hK K
      try simp only[Act.put,et,eh,ep]
      refine bC 5 fun K hK=>?_
      go_simp;have hs:=(HS4.o.ab 5 #[]).dN (n:=0) (cap:=0) (size:=1) (Nat.le_refl _) (Nat.zero_le _) rfl;obtain⟨v5,hv5⟩: ∃ v,v=v4.alloc (.cells #[] 5):=⟨_,rfl⟩;obtain⟨g5,hg5⟩: ∃ x,x=v4.heap.size:=⟨_,rfl⟩;rw[<-hv5, <-hg5] at hs;rw[<-hv5, <-hg5];have HS5:=ah hs;clear hs hv5 hg5;refine hK.out _ _ (HXE.o _ (Sat.right (Sat.right HS5.o))) (fun hS0=>?_);clear hK K;refine bC 8 fun K hK=>?_
      refine aQ rfl (.tmp 48) (.tmp 50) 41 rfl 5 j1 _ 1 1 Tryz.underlying41 Hj1.o Hz0.o Hz1.o Hz2.o rfl (by decide) (.slice (some ⟨g5,0,none⟩) 0 0) 0 [] rfl w0 _ (by exact HS5.o) vA vl.length vc (vl.map bv) rfl (by exact(HXR.o _ HS5.o.right.right).2) (by simp) (by intro u hu;obtain⟨b,_,rfl⟩:=List.mem_map.1 hu;rfl) (by unfold maxLen;omega) (by omega) ?_;intro A8 c8 v8 hs;simp only[Nat.zero_add,List.nil_append] at hs ⊢;have HS8:=ah hs;clear hs;refine hK.out _ _ (HXE.o _ (Sat.right (Sat.right HS8.o))) (fun hS0=>?_);clear hK K
      try simp only[Act.put,et,eh,ep]
      refine ca 9 ?_;refine bC 10 fun K hK=>?_
      go_simp;have HS10:=ah ((HS8.o.ay).aD (.cells #[.slice A4 kl.length c4,.slice A8 vl.length c8] 65));refine hK.out _ _ (HXE.o _ (Sat.right (Sat.right HS10.o))) (fun hS0=>?_);clear hK K;refine bC 11 fun K hK=>?_
      have hs10:=HS10.o;rw[hX] at hs10;refine aQ rfl (.tmp 43) (.tmp 53) 30 rfl 65 j0 _ 2 48 Tryz.underlying30 Hj.o Hy0.o Hy1.o Hy2.o rfl (by decide) (.slice B z d) z (fs.flatMap cL) rfl w0 _ (by exact hs10.of (show _=Row 65 2 (.slice B z d) z (fs.flatMap cL)*(Row 5 1 (.slice A4 kl.length c4) kl.length (kl.map bv)*(Row 5 1 (.slice A8 vl.length c8) vl.length (vl.map bv)*Y)) by ac_rfl)) (some ⟨v8.heap.size,0,none⟩) 1 1 [.slice A4 kl.length c4,.slice A8 vl.length c8] rfl (by exact(aR _ _ _)) rfl (by intro u hu;simp at hu;rcases hu with rfl | rfl<;>rfl) (by unfold maxLen;omega) (by omega) ?_;intro A11 c11 w11 hs;have HS11:=ah hs;clear hs hs10;refine hK.out _ _ (HYE.o _ (Sat.right (Sat.right (Sat.right HS11.o)))) (fun hS0=>?_);clear hK K
      try simp only[Act.put,et,eh,ep]
      refine ca 12 ?_;refine wpAnyH_done (by kernel_rfl) ?_ _;go_wp2_with fail;go_meet
      have h1:=HS11.o.ay.ed;have h2:=(h1.of (show _=Row 5 1 (.slice A8 vl.length c8) vl.length (vl.map bv)*(cd [(A4,c4,kl)]*(Row 65 2 (.slice A11 (z+1) c11) (z+1) (fs.flatMap cL++[.slice A4 kl.length c4,.slice A8 vl.length c8])*Y)) by ac_rfl)).ed;rw[hY] at h2;have h3:=(h2.of (show _=cd (cq fs)*(cd [(A4,c4,kl)]*(cd [(A8,c8,vl)]*(Row 65 2 (.slice A11 (z+1) c11) (z+1) (fs.flatMap cL++[.slice A4 kl.length c4,.slice A8 vl.length c8])*Z))) by ac_rfl)).iA.iA;refine⟨z+1,c11,A11,fs++[⟨(A4,c4,kl),(A8,c8,vl),0,false⟩],rfl,?_,Nat.le_refl _,?_,?_⟩
      .rw[List.length_append,HFl.o];rfl
      .rw[js,HFp.o];rfl
      .have e1:cq (fs++[⟨(A4,c4,kl),(A8,c8,vl),0,false⟩])=cq fs++[(A4,c4,kl)]++[(A8,c8,vl)]:=by
        unfold cq;rw[List.flatMap_append,List.append_assoc];rfl
       rw[e1,List.flatMap_append];exact h3.of (by rw[hZ];show _=Row 65 2 (.slice A11 (z+1) c11) (z+1) (fs.flatMap cL++[.slice A4 kl.length c4,.slice A8 vl.length c8])*_;ac_rfl)
     ·
      go_simp;have hs:=(HS1.o.ab 5 #[]).dN (n:=0) (cap:=0) (size:=1) (Nat.le_refl _) (Nat.zero_le _) rfl;obtain⟨v5,hv5⟩: ∃ v,v=v1.alloc (.cells #[] 5):=⟨_,rfl⟩;obtain⟨g5,hg5⟩: ∃ x,x=v1.heap.size:=⟨_,rfl⟩;rw[<-hv5, <-hg5] at hs;rw[<-hv5, <-hg5];have HS5:=ah hs;clear hs hv5 hg5;refine hK.out _ _ (HXE.o _ (Sat.right (Sat.right HS5.o))) (fun hS0=>?_);clear hK K;refine bC 4 fun K hK=>?_
      refine aQ rfl (.tmp 44) (.tmp 46) 41 rfl 5 j1 _ 1 1 Tryz.underlying41 Hj1.o Hz0.o Hz1.o Hz2.o rfl (by decide) (.slice (some ⟨g1,0,none⟩) 0 0) 0 [] rfl w0 _ (by exact HS5.o.ay) kA kl.length kc (kl.map bv) rfl (by exact(HXR.o _ HS5.o.right.right).1) (by simp) (by intro u hu;obtain⟨b,_,rfl⟩:=List.mem_map.1 hu;rfl) (by unfold maxLen;omega) (by omega) ?_;intro A4 c4 v4 hs;simp only[Nat.zero_add,List.nil_append] at hs ⊢;have HS4:=ah hs;clear hs;refine hK.out _ _ (HXE.o _ (Sat.right (Sat.right HS4.o))) (fun hS0=>?_);clear hK K
      try simp only[Act.put,et,eh,ep]
      refine bC 8 fun K hK=>?_
      refine aQ rfl (.tmp 48) (.tmp 50) 41 rfl 5 j1 _ 1 1 Tryz.underlying41 Hj1.o Hz0.o Hz1.o Hz2.o rfl (by decide) (.slice (some ⟨g5,0,none⟩) 0 0) 0 [] rfl w0 _ (by exact HS4.o.ay) vA vl.length vc (vl.map bv) rfl (by exact(HXR.o _ HS4.o.right.right).2) (by simp) (by intro u hu;obtain⟨b,_,rfl⟩:=List.mem_map.1 hu;rfl) (by unfold maxLen;omega) (by omega) ?_;intro A8 c8 v8 hs;simp only[Nat.zero_add,List.nil_append] at hs ⊢;have HS8:=ah hs;clear hs;refine hK.out _ _ (HXE.o _ (Sat.right (Sat.right HS8.o))) (fun hS0=>?_);clear hK K
      try simp only[Act.put,et,eh,ep]
      refine ca 9 ?_;refine bC 10 fun K hK=>?_
      go_simp;have HS10:=ah ((HS8.o.ay).aD (.cells #[.slice A4 kl.length c4,.slice A8 vl.length c8] 65));refine hK.out _ _ (HXE.o _ (Sat.right (Sat.right HS10.o))) (fun hS0=>?_);clear hK K;refine bC 11 fun K hK=>?_
      have hs10:=HS10.o;rw[hX] at hs10;refine aQ rfl (.tmp 43) (.tmp 53) 30 rfl 65 j0 _ 2 48 Tryz.underlying30 Hj.o Hy0.o Hy1.o Hy2.o rfl (by decide) (.slice B z d) z (fs.flatMap cL) rfl w0 _ (by exact hs10.of (show _=Row 65 2 (.slice B z d) z (fs.flatMap cL)*(Row 5 1 (.slice A4 kl.length c4) kl.length (kl.map bv)*(Row 5 1 (.slice A8 vl.length c8) vl.length (vl.map bv)*Y)) by ac_rfl)) (some ⟨v8.heap.size,0,none⟩) 1 1 [.slice A4 kl.length c4,.slice A8 vl.length c8] rfl (by exact(aR _ _ _)) rfl (by intro u hu;simp at hu;rcases hu with rfl | rfl<;>rfl) (by unfold maxLen;omega) (by omega) ?_;intro A11 c11 w11 hs;have HS11:=ah hs;clear hs hs10;refine hK.out _ _ (HYE.o _ (Sat.right (Sat.right (Sat.right HS11.o)))) (fun hS0=>?_);clear hK K
      try simp only[Act.put,et,eh,ep]
      refine ca 12 ?_;refine wpAnyH_done (by kernel_rfl) ?_ _;go_wp2_with fail;go_meet
      have h1:=HS11.o.ay.ed;have h2:=(h1.of (show _=Row 5 1 (.slice A8 vl.length c8) vl.length (vl.map bv)*(cd [(A4,c4,kl)]*(Row 65 2 (.slice A11 (z+1) c11) (z+1) (fs.flatMap cL++[.slice A4 kl.length c4,.slice A8 vl.length c8])*Y)) by ac_rfl)).ed;rw[hY] at h2;have h3:=(h2.of (show _=cd (cq fs)*(cd [(A4,c4,kl)]*(cd [(A8,c8,vl)]*(Row 65 2 (.slice A11 (z+1) c11) (z+1) (fs.flatMap cL++[.slice A4 kl.length c4,.slice A8 vl.length c8])*Z))) by ac_rfl)).iA.iA;refine⟨z+1,c11,A11,fs++[⟨(A4,c4,kl),(A8,c8,vl),0,false⟩],rfl,?_,Nat.le_refl _,?_,?_⟩
      .rw[List.length_append,HFl.o];rfl
      .rw[js,HFp.o];rfl
      .have e1:cq (fs++[⟨(A4,c4,kl),(A8,c8,vl),0,false⟩])=cq fs++[(A4,c4,kl)]++[(A8,c8,vl)]:=by
        unfold cq;rw[List.flatMap_append,List.append_assoc];rfl
       rw[e1,List.flatMap_append];exact h3.of (by rw[hZ];show _=Row 65 2 (.slice A11 (z+1) c11) (z+1) (fs.flatMap cL++[.slice A4 kl.length c4,.slice A8 vl.length c8])*_;ac_rfl)
    ·
     go_simp;have hs:=((HSW.o.ab 5 #[]).dN (n:=0) (cap:=0) (size:=1) (Nat.le_refl _) (Nat.zero_le _) rfl).drew;obtain⟨v5,hv5⟩: ∃ v,v=(W.alloc (.cells #[] 5)).drew:=⟨_,rfl⟩;obtain⟨g5,hg5⟩: ∃ x,x=W.heap.size:=⟨_,rfl⟩;rw[<-hv5, <-hg5] at hs;rw[<-hv5, <-hg5];have HS5:=ah hs;clear hs hv5 hg5;refine hK.out _ _ (HXE.o _ (Sat.right HS5.o)) (fun hS0=>?_);clear hK K;refine bC 1 fun K hK=>?_
     go_simp;have hs:=(HS5.o.ab 5 #[]).dN (n:=0) (cap:=0) (size:=1) (Nat.le_refl _) (Nat.zero_le _) rfl;obtain⟨v1,hv1⟩: ∃ v,v=v5.alloc (.cells #[] 5):=⟨_,rfl⟩;obtain⟨g1,hg1⟩: ∃ x,x=v5.heap.size:=⟨_,rfl⟩;rw[<-hv1, <-hg1] at hs;rw[<-hv1, <-hg1];have HS1:=ah hs;clear hs hv1 hg1;refine hK.out _ _ (HXE.o _ (Sat.right (Sat.right HS1.o))) (fun hS0=>?_);clear hK K;refine bC 4 fun K hK=>?_
     refine aQ rfl (.tmp 44) (.tmp 46) 41 rfl 5 j1 _ 1 1 Tryz.underlying41 Hj1.o Hz0.o Hz1.o Hz2.o rfl (by decide) (.slice (some ⟨g1,0,none⟩) 0 0) 0 [] rfl w0 _ (by exact HS1.o) kA kl.length kc (kl.map bv) rfl (by exact(HXR.o _ HS1.o.right.right).1) (by simp) (by intro u hu;obtain⟨b,_,rfl⟩:=List.mem_map.1 hu;rfl) (by unfold maxLen;omega) (by omega) ?_;intro A4 c4 v4 hs;simp only[Nat.zero_add,List.nil_append] at hs ⊢;have HS4:=ah hs;clear hs;refine hK.out _ _ (HXE.o _ (Sat.right (Sat.right HS4.o))) (fun hS0=>?_);clear hK K
     try simp only[Act.put,et,eh,ep]
     refine bC 8 fun K hK=>?_
     refine aQ rfl (.tmp 48) (.tmp 50) 41 rfl 5 j1 _ 1 1 Tryz.underlying41 Hj1.o Hz0.o Hz1.o Hz2.o rfl (by decide) (.slice (some ⟨g5,0,none⟩) 0 0) 0 [] rfl w0 _ (by exact HS4.o.ay) vA vl.length vc (vl.map bv) rfl (by exact(HXR.o _ HS4.o.right.right).2) (by simp) (by intro u hu;obtain⟨b,_,rfl⟩:=List.mem_map.1 hu;rfl) (by unfold maxLen;omega) (by omega) ?_;intro A8 c8 v8 hs;simp only[Nat.zero_add,List.nil_append] at hs ⊢;have HS8:=ah hs;clear hs;refine hK.out _ _ (HXE.o _ (Sat.right (Sat.right HS8.o))) (fun hS0=>?_);clear hK K
     try simp only[Act.put,et,eh,ep]
     refine ca 9 ?_;refine bC 10 fun K hK=>?_
     go_simp;have HS10:=ah ((HS8.o.ay).aD (.cells #[.slice A4 kl.length c4,.slice A8 vl.length c8] 65));refine hK.out _ _ (HXE.o _ (Sat.right (Sat.right HS10.o))) (fun hS0=>?_);clear hK K;refine bC 11 fun K hK=>?_
     have hs10:=HS10.o;rw[hX] at hs10;refine aQ rfl (.tmp 43) (.tmp 53) 30 rfl 65 j0 _ 2 48 Tryz.underlying30 Hj.o Hy0.o Hy1.o Hy2.o rfl (by decide) (.slice B z d) z (fs.flatMap cL) rfl w0 _ (by exact hs10.of (show _=Row 65 2 (.slice B z d) z (fs.flatMap cL)*(Row 5 1 (.slice A4 kl.length c4) kl.length (kl.map bv)*(Row 5 1 (.slice A8 vl.length c8) vl.length (vl.map bv)*Y)) by ac_rfl)) (some ⟨v8.heap.size,0,none⟩) 1 1 [.slice A4 kl.length c4,.slice A8 vl.length c8] rfl (by exact(aR _ _ _)) rfl (by intro u hu;simp at hu;rcases hu with rfl | rfl<;>rfl) (by unfold maxLen;omega) (by omega) ?_;intro A11 c11 w11 hs;have HS11:=ah hs;clear hs hs10;refine hK.out _ _ (HYE.o _ (Sat.right (Sat.right (Sat.right HS11.o)))) (fun hS0=>?_);clear hK K
     try simp only[Act.put,et,eh,ep]
     refine ca 12 ?_;refine wpAnyH_done (by kernel_rfl) ?_ _;go_wp2_with fail;go_meet
     have h1:=HS11.o.ay.ed;have h2:=(h1.of (show _=Row 5 1 (.slice A8 vl.length c8) vl.length (vl.map bv)*(cd [(A4,c4,kl)]*(Row 65 2 (.slice A11 (z+1) c11) (z+1) (fs.flatMap cL++[.slice A4 kl.length c4,.slice A8 vl.length c8])*Y)) by ac_rfl)).ed;rw[hY] at h2;have h3:=(h2.of (show _=cd (cq fs)*(cd [(A4,c4,kl)]*(cd [(A8,c8,vl)]*(Row 65 2 (.slice A11 (z+1) c11) (z+1) (fs.flatMap cL++[.slice A4 kl.length c4,.slice A8 vl.length c8])*Z))) by ac_rfl)).iA.iA;refine⟨z+1,c11,A11,fs++[⟨(A4,c4,kl),(A8,c8,vl),0,false⟩],rfl,?_,Nat.le_refl _,?_,?_⟩
     .rw[List.length_append,HFl.o];rfl
     .rw[js,HFp.o];rfl
     .have e1:cq (fs++[⟨(A4,c4,kl),(A8,c8,vl),0,false⟩])=cq fs++[(A4,c4,kl)]++[(A8,c8,vl)]:=by
       unfold cq;rw[List.flatMap_append,List.append_assoc];rfl
      rw[e1,List.flatMap_append];exact h3.of (by rw[hZ];show _=Row 65 2 (.slice A11 (z+1) c11) (z+1) (fs.flatMap cL++[.slice A4 kl.length c4,.slice A8 vl.length c8])*_;ac_rfl)
  case rest=>
   obtain⟨m,d2,B2,gs,rfl,HG⟩:=hcut;refine ‹∀ (a:Act) (w:World),Code.wp _ _ _ a w->_› _ _ ?_
   apply wp_seq_k;intro _ _;have hsr:=HG.o.2.2.2.drew;have c0:wc.drew.cell? ⟨g,0,none⟩=some (.slice LA es.length lc):=(hsr.bL.cell 0).trans HCs.o;by_cases hlt:z<es.length
   .obtain⟨lb,lo,rfl,hq⟩:=nc hsr.right.right.right.right.kL (by omega);obtain⟨y0,y1⟩:=hq z hlt;have ra:=hsr.right.right.right.right.tO _ (List.getElem_mem hlt);obtain⟨SA,SB,B1,e1,e2,e3,e4⟩:=oU es[z].key.2.2 kl;have s1:=dy ra.1 es[z].key.2.1;have s2:=dy (HPr.o _ hsr.right.right.right.right.right).1 kc;rw[<-e1] at s1;rw[<-e2] at s2;have HYz:Hid (y=if B1=true then z+1 else z):=ah (by
     have hzm:z<M.length:=by rw[<-he,bX];exact hlt
     have hk:=HEl.o z hlt;have hzz:=HZ.o;rw[HY.o];unfold ik;subst hzz;rw[dif_pos hzm,hk,e4];simp only[decide_eq_true_eq])
    clear hq ra e1 e2 e4;generalize es[z]=q at*
    obtain⟨⟨kB,kd,kl0⟩,⟨vB,vd,vl0⟩,eq0,dd0⟩:=q;replace y0:_=some (Value.slice kB kl0.length kd):=y0;dsimp only at s1;have hii:(z:Int)<es.length:=by omega
    have E3:=ah e3;have G0:Hid (wc.drew.cell? ⟨g,0,none⟩=some (.slice (some ⟨lb,lo,none⟩) es.length lc)/\wc.drew.cell? ⟨lb,lo+z*2,none⟩=some (.slice kB kl0.length kd)/\wc.drew.cell? ⟨E,0,none⟩=some (.slice kA kl.length kc)/\(convert 41 9 (.slice kB kl0.length kd)).run Tryz.prog wc.drew = .ok (.string SA) wc.drew/\(convert 41 9 (.slice kA kl.length kc)).run Tryz.prog wc.drew = .ok (.string SB) wc.drew):=ah ⟨c0,y0,hsr.bp.cell 0,s1,s2⟩;clear y0 y1 s1 s2 e3;go_upto_region 8 with fail
    cases B1 with
    | true=>
     have e3:=E3.o;refine wp_region_held_drew (S:=fun w'=>w'.cell? ⟨g,0,none⟩=some (.slice (some ⟨lb,lo,none⟩) es.length lc)/\w'.cell? ⟨lb,lo+z*2,none⟩=some (.slice kB kl0.length kd)/\w'.cell? ⟨E,0,none⟩=some (.slice kA kl.length kc)/\(convert 41 9 (.slice kB kl0.length kd)).run Tryz.prog w' = .ok (.string SA) w'/\(convert 41 9 (.slice kA kl.length kc)).run Tryz.prog w' = .ok (.string SB) w') (by kernel_rfl) G0.o ?_;intro hS0;refine an 0 1 2 3 ?_;refine an 4 5 6 7 ?_;refine an 8 9 10 11 ?_;refine an 12 13 14 15 ?_;refine an 16 17 18 19 ?_;refine cw 20 21 ?_;refine wpAnyH_done (by kernel_rfl) ?_ _;go_upto_region 10 with fail;have hyz:y=z+1:=by rw[HYz.o,if_pos rfl]
     rw[show (z:Int)+1=(y:Int) by omega];have hyn:y<=es.length:=by omega
     clear hyz hlt hii E3 G0 hS0 HYz e3;obtain⟨W9,hW9⟩: ∃ W9,W9=wc.drew:=⟨_,rfl⟩;rw[<-hW9] at hsr;rw[<-hW9];have c0:W9.cell? ⟨g,0,none⟩=some (.slice (some ⟨lb,lo,none⟩) es.length lc):=(hsr.bL.cell 0).trans HCs.o;have HS9:=ah hsr;clear hW9 hsr;by_cases hly:lc=y
     .have hrd:aF W9 (some ⟨lb,lo,none⟩) ((es.drop y).flatMap cL):=by
       rw[List.drop_of_length_le (by omega)];exact aF.nil _ _
      have hmz:=HG.o.2.1;go_wp2_with (at_builtin;refine av rfl (.tmp 80) (.tmp 86) 30 rfl 65 j0 _ 2 48 Tryz.underlying30 Hj.o Hy0.o Hy1.o Hy2.o rfl (by decide) (.slice B2 m d2) m (gs.flatMap cL) rfl w0 _ (by exact HS9.o) (some ⟨lb,lo,none⟩) (es.length - y) 0 ((es.drop y).flatMap cL) rfl (by exact hrd) (by rw[dx,List.length_drop]) (gX _) (by unfold maxLen;omega) (by omega) ?_;intro B10 c10 w10 hs10;have HS10:=ah hs10;have x1:=(hs10.bL.cell 0).trans HCs.o;have f1:=hs10.bL.frozen 0;clear hs10);go_end0
      exact⟨rfl,.slice B10 (m+(es.length - y)) c10,jo HS10.o HG.o.1 rfl (by have h9:=HPe.o gs (by have h8:=HG.o.2.2.1;rw[HZ.o] at h8;exact h8);rw[<-HY.o] at h9;exact h9)⟩
     .have hrd:aF W9 (some ⟨lb,lo+y*2,none⟩) ((es.drop y).flatMap cL):=by
       have h4:=aF.drop HS9.o.right.right.right.right.kL (k:=y*2) (cap:=lc*2) (by rw[dx];omega) (by rw[dx];omega);rw[if_neg (by omega)] at h4;have e5:(es.flatMap cL).drop (y*2)=(es.drop y).flatMap cL:=yq es y;rw[e5] at h4;have e6:Option.map (fun x:Addr=>x.add (y*2)) (some ⟨lb,lo,none⟩)=some ⟨lb,lo+y*2,none⟩:=by simp[Addr.add]
       rw[e6] at h4;exact h4
      have hmz:=HG.o.2.1;go_wp2_with (at_builtin;refine av rfl (.tmp 80) (.tmp 86) 30 rfl 65 j0 _ 2 48 Tryz.underlying30 Hj.o Hy0.o Hy1.o Hy2.o rfl (by decide) (.slice B2 m d2) m (gs.flatMap cL) rfl w0 _ (by exact HS9.o) (some ⟨lb,lo+y*2,none⟩) (es.length - y) (lc - y) ((es.drop y).flatMap cL) rfl (by exact hrd) (by rw[dx,List.length_drop]) (gX _) (by unfold maxLen;omega) (by omega) ?_;intro B10 c10 w10 hs10;have HS10:=ah hs10;have x1:=(hs10.bL.cell 0).trans HCs.o;have f1:=hs10.bL.frozen 0;clear hs10);go_end0
      exact⟨rfl,.slice B10 (m+(es.length - y)) c10,jo HS10.o HG.o.1 rfl (by have h9:=HPe.o gs (by have h8:=HG.o.2.2.1;rw[HZ.o] at h8;exact h8);rw[<-HY.o] at h9;exact h9)⟩
    | false=>
     have e3:=E3.o;refine wp_region_held_drew (S:=fun w'=>w'.cell? ⟨g,0,none⟩=some (.slice (some ⟨lb,lo,none⟩) es.length lc)/\w'.cell? ⟨lb,lo+z*2,none⟩=some (.slice kB kl0.length kd)/\w'.cell? ⟨E,0,none⟩=some (.slice kA kl.length kc)/\(convert 41 9 (.slice kB kl0.length kd)).run Tryz.prog w' = .ok (.string SA) w'/\(convert 41 9 (.slice kA kl.length kc)).run Tryz.prog w' = .ok (.string SB) w') (by kernel_rfl) G0.o ?_;intro hS0;refine an 0 1 2 3 ?_;refine an 4 5 6 7 ?_;refine an 8 9 10 11 ?_;refine an 12 13 14 15 ?_;refine an 16 17 18 19 ?_;refine cw 20 21 ?_;refine wpAnyH_done (by kernel_rfl) ?_ _;go_upto_region 10 with fail;have hyz:y=z:=by rw[HYz.o,if_neg (by simp)]
     rw[<-hyz];have hyn:y<=es.length:=by omega
     clear hyz hlt hii E3 G0 hS0 HYz e3;obtain⟨W9,hW9⟩: ∃ W9,W9=wc.drew:=⟨_,rfl⟩;rw[<-hW9] at hsr;rw[<-hW9];have c0:W9.cell? ⟨g,0,none⟩=some (.slice (some ⟨lb,lo,none⟩) es.length lc):=(hsr.bL.cell 0).trans HCs.o;have HS9:=ah hsr;clear hW9 hsr;by_cases hly:lc=y
     .have hrd:aF W9 (some ⟨lb,lo,none⟩) ((es.drop y).flatMap cL):=by
       rw[List.drop_of_length_le (by omega)];exact aF.nil _ _
      have hmz:=HG.o.2.1;go_wp2_with (at_builtin;refine av rfl (.tmp 80) (.tmp 86) 30 rfl 65 j0 _ 2 48 Tryz.underlying30 Hj.o Hy0.o Hy1.o Hy2.o rfl (by decide) (.slice B2 m d2) m (gs.flatMap cL) rfl w0 _ (by exact HS9.o) (some ⟨lb,lo,none⟩) (es.length - y) 0 ((es.drop y).flatMap cL) rfl (by exact hrd) (by rw[dx,List.length_drop]) (gX _) (by unfold maxLen;omega) (by omega) ?_;intro B10 c10 w10 hs10;have HS10:=ah hs10;have x1:=(hs10.bL.cell 0).trans HCs.o;have f1:=hs10.bL.frozen 0;clear hs10);go_end0
      exact⟨rfl,.slice B10 (m+(es.length - y)) c10,jo HS10.o HG.o.1 rfl (by have h9:=HPe.o gs (by have h8:=HG.o.2.2.1;rw[HZ.o] at h8;exact h8);rw[<-HY.o] at h9;exact h9)⟩
     .have hrd:aF W9 (some ⟨lb,lo+y*2,none⟩) ((es.drop y).flatMap cL):=by
       have h4:=aF.drop HS9.o.right.right.right.right.kL (k:=y*2) (cap:=lc*2) (by rw[dx];omega) (by rw[dx];omega);rw[if_neg (by omega)] at h4;have e5:(es.flatMap cL).drop (y*2)=(es.drop y).flatMap cL:=yq es y;rw[e5] at h4;have e6:Option.map (fun x:Addr=>x.add (y*2)) (some ⟨lb,lo,none⟩)=some ⟨lb,lo+y*2,none⟩:=by simp[Addr.add]
       rw[e6] at h4;exact h4
      have hmz:=HG.o.2.1;go_wp2_with (at_builtin;refine av rfl (.tmp 80) (.tmp 86) 30 rfl 65 j0 _ 2 48 Tryz.underlying30 Hj.o Hy0.o Hy1.o Hy2.o rfl (by decide) (.slice B2 m d2) m (gs.flatMap cL) rfl w0 _ (by exact HS9.o) (some ⟨lb,lo+y*2,none⟩) (es.length - y) (lc - y) ((es.drop y).flatMap cL) rfl (by exact hrd) (by rw[dx,List.length_drop]) (gX _) (by unfold maxLen;omega) (by omega) ?_;intro B10 c10 w10 hs10;have HS10:=ah hs10;have x1:=(hs10.bL.cell 0).trans HCs.o;have f1:=hs10.bL.frozen 0;clear hs10);go_end0
      exact⟨rfl,.slice B10 (m+(es.length - y)) c10,jo HS10.o HG.o.1 rfl (by have h9:=HPe.o gs (by have h8:=HG.o.2.2.1;rw[HZ.o] at h8;exact h8);rw[<-HY.o] at h9;exact h9)⟩
   .have hii:¬ (z:Int)<es.length:=by omega
    have G0:=ah c0;have HYz:Hid (y=z):=ah (by
     rw[HY.o];have hzz:=HZ.o;unfold ik;rw[dif_neg (by rw[<-hzz, <-he,bX];omega)];exact hzz.symm)
    clear c0;go_upto_region 8 with fail;refine wp_region_held_drew (S:=fun w'=>w'.cell? ⟨g,0,none⟩=some (.slice LA es.length lc)) (by kernel_rfl) G0.o ?_;intro hS0;refine an 0 1 2 3 ?_;refine an 4 5 6 7 ?_;refine cg 8 ?_;refine cg 9 ?_;refine cg 10 ?_;refine cg 11 ?_;refine cg 12 ?_;refine cg 13 ?_;refine cg 14 ?_;refine cg 15 ?_;refine cg 16 ?_;refine cg 17 ?_;refine cg 18 ?_;refine cg 19 ?_;refine cg 20 ?_;refine ca 21 ?_;refine wpAnyH_done (by kernel_rfl) ?_ _;go_upto_region 10 with fail;have hyz:=HYz.o;have hyn:y<=es.length:=by omega
    rw[<-hyz];rcases hsr.right.right.right.right.Kp with ⟨e1,e2,e4⟩ | ⟨lb,e1⟩
    .have e3:=e2;have HE0:Hid (es.drop y=[]):=ah (List.drop_of_length_le (by omega));have hy0:y=0:=by omega
     subst e1;have c0:wc.drew.cell? ⟨g,0,none⟩=some (.slice none 0 0):=by rw[G0.o,e2,e4]
     have HS9:=ah hsr;have HLq:Hid (es.length=0):=e2;clear hyz hlt hii G0 hS0 HYz hsr e2 e3 e4 hyn;subst hy0;obtain⟨W9,hW9⟩: ∃ W9,W9=wc.drew:=⟨_,rfl⟩;rw[<-hW9] at HS9 c0;rw[<-hW9];clear hW9;have hmz:=HG.o.2.1;go_wp2_with (at_builtin;refine av rfl (.tmp 80) (.tmp 86) 30 rfl 65 j0 _ 2 48 Tryz.underlying30 Hj.o Hy0.o Hy1.o Hy2.o rfl (by decide) (.slice B2 m d2) m (gs.flatMap cL) rfl w0 _ (by exact HS9.o) none 0 0 [] rfl (by exact aF.nil _ _) rfl (by intro u hu;cases hu) (by unfold maxLen;omega) (by omega) ?_;intro B10 c10 w10 hs10;have HS10:=ah hs10;have x1:=(hs10.bL.cell 0).trans HCs.o;have f1:=hs10.bL.frozen 0;clear hs10);go_end0
     have h10:=HS10.o;have e10:(es.drop 0).flatMap cL=[]:=by rw[HE0.o];rfl
     rw[<-e10] at h10;exact⟨rfl,.slice B10 m c10,jo (q:=0) h10 HG.o.1 (by rw[HLq.o]) (by have h9:=HPe.o gs (by have h8:=HG.o.2.2.1;rw[HZ.o] at h8;exact h8);rw[<-HY.o] at h9;exact h9)⟩
    .subst e1;obtain⟨lo,hlo⟩: ∃ lo,lo=0:=⟨_,rfl⟩;have HCt:Hid (cs[0]?=some (Value.slice (some ⟨lb,lo,none⟩) es.length lc)):=ah (by rw[hlo];exact HCs.o);rw[<-hlo] at hsr G0;clear HCs;have HCs:=HCt;clear HCt;clear hyz hlt hii G0 hS0 HYz hlo;obtain⟨W9,hW9⟩: ∃ W9,W9=wc.drew:=⟨_,rfl⟩;rw[<-hW9] at hsr;rw[<-hW9];have c0:W9.cell? ⟨g,0,none⟩=some (.slice (some ⟨lb,lo,none⟩) es.length lc):=(hsr.bL.cell 0).trans HCs.o;have HS9:=ah hsr;clear hW9 hsr;by_cases hly:lc=y
     .have hrd:aF W9 (some ⟨lb,lo,none⟩) ((es.drop y).flatMap cL):=by
       rw[List.drop_of_length_le (by omega)];exact aF.nil _ _
      have hmz:=HG.o.2.1;go_wp2_with (at_builtin;refine av rfl (.tmp 80) (.tmp 86) 30 rfl 65 j0 _ 2 48 Tryz.underlying30 Hj.o Hy0.o Hy1.o Hy2.o rfl (by decide) (.slice B2 m d2) m (gs.flatMap cL) rfl w0 _ (by exact HS9.o) (some ⟨lb,lo,none⟩) (es.length - y) 0 ((es.drop y).flatMap cL) rfl (by exact hrd) (by rw[dx,List.length_drop]) (gX _) (by unfold maxLen;omega) (by omega) ?_;intro B10 c10 w10 hs10;have HS10:=ah hs10;have x1:=(hs10.bL.cell 0).trans HCs.o;have f1:=hs10.bL.frozen 0;clear hs10);go_end0
      exact⟨rfl,.slice B10 (m+(es.length - y)) c10,jo HS10.o HG.o.1 rfl (by have h9:=HPe.o gs (by have h8:=HG.o.2.2.1;rw[HZ.o] at h8;exact h8);rw[<-HY.o] at h9;exact h9)⟩
     .have hrd:aF W9 (some ⟨lb,lo+y*2,none⟩) ((es.drop y).flatMap cL):=by
       have h4:=aF.drop HS9.o.right.right.right.right.kL (k:=y*2) (cap:=lc*2) (by rw[dx];omega) (by rw[dx];omega);rw[if_neg (by omega)] at h4;have e5:(es.flatMap cL).drop (y*2)=(es.drop y).flatMap cL:=yq es y;rw[e5] at h4;have e6:Option.map (fun x:Addr=>x.add (y*2)) (some ⟨lb,lo,none⟩)=some ⟨lb,lo+y*2,none⟩:=by simp[Addr.add]
       rw[e6] at h4;exact h4
      have hmz:=HG.o.2.1;go_wp2_with (at_builtin;refine av rfl (.tmp 80) (.tmp 86) 30 rfl 65 j0 _ 2 48 Tryz.underlying30 Hj.o Hy0.o Hy1.o Hy2.o rfl (by decide) (.slice B2 m d2) m (gs.flatMap cL) rfl w0 _ (by exact HS9.o) (some ⟨lb,lo+y*2,none⟩) (es.length - y) (lc - y) ((es.drop y).flatMap cL) rfl (by exact hrd) (by rw[dx,List.length_drop]) (gX _) (by unfold maxLen;omega) (by omega) ?_;intro B10 c10 w10 hs10;have HS10:=ah hs10;have x1:=(hs10.bL.cell 0).trans HCs.o;have f1:=hs10.bL.frozen 0;clear hs10);go_end0
      exact⟨rfl,.slice B10 (m+(es.length - y)) c10,jo HS10.o HG.o.1 rfl (by have h9:=HPe.o gs (by have h8:=HG.o.2.2.1;rw[HZ.o] at h8;exact h8);rw[<-HY.o] at h9;exact h9)⟩
end
section
variable {w0 w w':World} {F:SP} {v:Value} {M:List Kv} {es:List En}
theorem xX (A:Option Addr) (c:Nat) (ps:List Pu) (w:World) (h:aF w A (ps.flatMap fI)) (hn:ps.length<=100000) (hb: ∀ p ∈ ps,p.key.2.2.length<=1000000000/\p.value.2.2.length<=1000000000):
 Calls Tryz.prog 74 #[.slice A ps.length c] w fun x w'=>x = .returned (.int .i64 (dt (ps.map Pu.bq):Nat))/\ao No w w':=by
 have HL:=ah h;have HB:=ah hb;have HSum:Hid (∀ i,i<=ps.length->(((ps.take i).map Pu.bq).map jt).sum<=300000000000000):=fun i hi=>by
  have h1:=zu 2000000016 ((ps.take i).map Pu.bq) (fun p hp=>by
   obtain⟨q,hq,rfl⟩:=List.mem_map.1 hp;have h2:=hb q (List.mem_of_mem_take hq);have h3:jt q.bq=q.key.2.2.length+q.value.2.2.length+16:=rfl;omega)
  rw[List.length_map,List.length_take] at h1;omega
 clear h hb;go_enter Tryz.func74, Tryz.ntmps74;go_wp2_with fail;go_loopw [4] (fun iv wr=> ∃ i:Nat,i<=ps.length/\iv = .int .i64 (i:Int)/\Hid ((∀ j (h:j<ps.length),j<i->re ps[j].bq=false)/\ao No w wr)) (fun iv _=>ps.length - (intOf iv).toNat)
 case atStart=>exact⟨0,by omega,rfl,(fun j _ h=>by omega),ao.refl _ _⟩
 case round=>
  obtain⟨i,hi,rfl,HD⟩:=hrel;by_cases hlt:i<ps.length
  .obtain⟨lb,lo,rfl,hq⟩:=gI (HL.o.new HD.o.2) (by omega);obtain⟨y0,_,_⟩:=hq i hlt;have hbi:=HB.o _ (List.getElem_mem hlt);have hii:(i:Int)<ps.length:=by omega
   obtain⟨q,hqe⟩: ∃ q,q=ps[i]:=⟨_,rfl⟩;have HQ:=ah hqe;rw[<-hqe] at y0 hbi;clear hq hqe;obtain⟨⟨kA,kc,kl⟩,⟨vA,vc,vl⟩,dd⟩:=q;replace y0:_=some (Value.slice kA kl.length kc):=y0;replace hbi:kl.length<=1000000000/\vl.length<=1000000000:=hbi;obtain⟨hbk,hbv⟩:=hbi;have HBk:Hid (re ps[i].bq=(decide (kl.length=0) || decide (128<kl.length))):=by rw[<-HQ.o];rfl
   by_cases hk:kl.length=0\/128<kl.length
   .have HE:Hid (dt (ps.map Pu.bq)=100):=by
     unfold Hid dt;rw[if_pos];refine List.any_eq_true.2 ⟨ps[i].bq,List.mem_map.2 ⟨ps[i],List.getElem_mem _,rfl⟩,?_⟩;rw[HBk.o];simpa using hk
    rcases hk with hk | hk
    .have hk0:(kl.length:Int)<1:=by omega
     clear hk;go_wp2_with fail;go_ret;exact⟨by rw[HE.o];rfl,HD.o.2⟩
    .have hk0:¬ (kl.length:Int)<1:=by omega
     have hk1:(128:Int)<kl.length:=by omega
     clear hk;go_wp2_with fail;go_ret;exact⟨by rw[HE.o];rfl,HD.o.2⟩
   .have hk0:¬ (kl.length:Int)<1:=by omega
    have hk1:¬ (128:Int)<kl.length:=by omega
    have HG:Hid (re ps[i].bq=false):=by
     unfold Hid;rw[HBk.o,decide_eq_false (by omega),decide_eq_false (by omega)];rfl
    clear hk;go_wp2_with fail;go_roundw
    .refine⟨i+1,by omega,by push_cast;rfl,fun j h hj=>?_,HD.o.2⟩;by_cases e:j=i
     .subst e;exact HG.o
     .exact HD.o.1 j h (by omega)
    .simp[intOf];omega
  .have hie:i=ps.length:=by omega
   have HNo:Hid ((ps.map Pu.bq).any re=false):=by
    unfold Hid;rw[List.any_eq_false];intro x hx;obtain⟨e,he,rfl⟩:=List.mem_map.1 hx;obtain⟨j,hj,rfl⟩:=List.getElem_of_mem he;rw[HD.o.1 j hj (by omega)];simp
   have HK:=ah HD.o.2;clear HD;have hie2:¬ (i:Int)<ps.length:=by omega
   clear hie hlt;go_wp2_with fail;go_loopw [3,5] (fun nv jv wx=> ∃ (j n:Nat),j<=ps.length/\jv = .int .i64 (j:Int)/\nv = .int .i64 (n:Int)/\Hid (n=(((ps.take j).map Pu.bq).map jt).sum/\(∀ q (h:q<ps.length),q<j->jC ps[q].bq=false)/\ao No w wx)) (fun _ jv _=>ps.length - (intOf jv).toNat)
   case atStart=>exact⟨0,0,by omega,rfl,rfl,rfl,(fun j _ h=>by omega),HK.o⟩
   case round=>
    obtain⟨j,n,hj,rfl,rfl,HD⟩:=hrel;have hnb:=HSum.o j hj;rw[<-HD.o.1] at hnb;by_cases hlt:j<ps.length
    .obtain⟨lb,lo,rfl,hq⟩:=gI (HL.o.new HD.o.2.2) (by omega);obtain⟨y0,y1,y2⟩:=hq j hlt;have hbi:=HB.o _ (List.getElem_mem hlt);have hii:(j:Int)<ps.length:=by omega
     have HNx:Hid ((((ps.take (j+1)).map Pu.bq).map jt).sum=n+(ps[j].key.2.2.length+ps[j].value.2.2.length+16)):=by
      unfold Hid;rw[List.take_add_one,List.getElem?_eq_getElem hlt,List.map_append,List.map_append,List.sum_append, <-HD.o.1];rfl
     obtain⟨q,hqe⟩: ∃ q,q=ps[j]:=⟨_,rfl⟩;have HQ:=ah hqe;rw[<-hqe] at y0 y1 y2 hbi HNx;clear hq hqe;obtain⟨⟨kA,kc,kl⟩,⟨vA,vc,vl⟩,dd⟩:=q;replace y0:_=some (Value.slice kA kl.length kc):=y0;replace y1:_=some (Value.slice vA vl.length vc):=y1;replace y2:_=some (Value.bool dd):=y2;replace hbi:kl.length<=1000000000/\vl.length<=1000000000:=hbi;obtain⟨hbk,hbv⟩:=hbi;replace HNx:Hid ((((ps.take (j+1)).map Pu.bq).map jt).sum=n+(kl.length+vl.length+16)):=HNx;have HBv:Hid (jC ps[j].bq=(decide (16384<vl.length) || (dd && decide (0<vl.length)))):=by rw[<-HQ.o];rfl
     have HE:Hid (jC ps[j].bq=true->dt (ps.map Pu.bq)=101):=ah fun h0=>by
      unfold dt;rw[HNo.o,if_neg (by simp),if_pos];exact List.any_eq_true.2 ⟨ps[j].bq,List.mem_map.2 ⟨ps[j],List.getElem_mem _,rfl⟩,h0⟩
     have w1:IntKind.i64.wrap ((n:Int)+kl.length)=(n:Int)+kl.length:=by rw[IntKind.wrap_i64];omega
     have w2:IntKind.i64.wrap ((n:Int)+kl.length+vl.length)=(n:Int)+kl.length+vl.length:=by rw[IntKind.wrap_i64];omega
     have w3:IntKind.i64.wrap ((n:Int)+kl.length+vl.length+16)=(n:Int)+kl.length+vl.length+16:=by rw[IntKind.wrap_i64];omega
     have HG0:Hid (ao No w wr.drew/\(wr.drew.cell? ⟨lb,lo+j*3,none⟩=some (.slice kA kl.length kc)/\wr.drew.cell? ⟨lb,lo+j*3+1,none⟩=some (.slice vA vl.length vc))):=ah ⟨HD.o.2.2.drew,y0,y1⟩;have HLs:Hid (jC ps[j].bq=false-> ∀ q (h:q<ps.length),q<j+1->jC ps[q].bq=false):=ah fun h0 q h hq=>by
      by_cases e:q=j
      .subst e;exact h0
      .exact HD.o.2.1 q h (by omega)
     have HK2:=ah HD.o.2.2;clear hnb HD;by_cases h1:(16384:Int)<vl.length
     .have HE1:Hid (dt (ps.map Pu.bq)=101):=ah (HE.o (by rw[HBv.o,decide_eq_true (by omega)];rfl));go_wp2_with fail;go_ret;exact⟨by rw[HE1.o];rfl,HK2.o⟩
     .cases dd with
      | true=>
       by_cases h2:(0:Int)<vl.length
       .have HE1:Hid (dt (ps.map Pu.bq)=101):=ah (HE.o (by rw[HBv.o,decide_eq_true (p:=0<vl.length) (by omega)];simp));have h3:0<vl.length:=by omega
        go_wp2_with fail;go_ret;exact⟨by rw[HE1.o];rfl,HK2.o⟩
       .have HF:Hid (jC ps[j].bq=false):=ah (by rw[HBv.o,decide_eq_false (by omega),decide_eq_false (by omega)];rfl);have h3:¬ 0<vl.length:=by omega
        go_upto_region 12 with fail;refine wp_region_held_drew (S:=fun w'=>ao No w w'/\(w'.cell? ⟨lb,lo+j*3,none⟩=some (.slice kA kl.length kc)/\w'.cell? ⟨lb,lo+j*3+1,none⟩=some (.slice vA vl.length vc))) (by kernel_rfl) HG0.o ?_;intro hS0;refine an 0 1 2 3 ?_;refine an 4 5 6 7 ?_;refine an 8 9 10 11 ?_;refine an 12 13 14 15 ?_;refine ca 16 ?_;refine wpAnyH_done (by kernel_rfl) ?_ _;have HT:=ah HG0.o.1;have HLt:=ah (HLs.o HF.o);clear HG0;go_wp2_with fail;go_roundw
        .exact⟨j+1,n+(kl.length+vl.length+16),by omega,by push_cast;rfl,by congr 1;push_cast;omega,HNx.o.symm,HLt.o,HT.o⟩
        .simp[intOf];omega
      | false=>
       have HF:Hid (jC ps[j].bq=false):=ah (by rw[HBv.o,decide_eq_false (by omega)];rfl);go_upto_region 12 with fail;refine wp_region_held_drew (S:=fun w'=>ao No w w'/\(w'.cell? ⟨lb,lo+j*3,none⟩=some (.slice kA kl.length kc)/\w'.cell? ⟨lb,lo+j*3+1,none⟩=some (.slice vA vl.length vc))) (by kernel_rfl) HG0.o ?_;intro hS0;refine an 0 1 2 3 ?_;refine an 4 5 6 7 ?_;refine an 8 9 10 11 ?_;refine an 12 13 14 15 ?_;refine ca 16 ?_;refine wpAnyH_done (by kernel_rfl) ?_ _;have HT:=ah HG0.o.1;have HLt:=ah (HLs.o HF.o);clear HG0;go_wp2_with fail;go_roundw
       .exact⟨j+1,n+(kl.length+vl.length+16),by omega,by push_cast;rfl,by congr 1;push_cast;omega,HNx.o.symm,HLt.o,HT.o⟩
       .simp[intOf];omega
    .have hje:j=ps.length:=by omega
     subst hje;have HN:Hid (n=((ps.map Pu.bq).map jt).sum):=by have:=HD.o.1;rw[List.take_length] at this;exact this
     have HNv:Hid ((ps.map Pu.bq).any jC=false):=by
      unfold Hid;rw[List.any_eq_false];intro x hx;obtain⟨e,he,rfl⟩:=List.mem_map.1 hx;obtain⟨j,hj,rfl⟩:=List.getElem_of_mem he;rw[HD.o.2.1 j hj (by omega)];simp
     have HE:Hid (dt (ps.map Pu.bq)=if 262144<n then 102 else 0):=by
      unfold Hid dt;rw[HNo.o,HNv.o, <-HN.o];rfl
     have HK:=ah HD.o.2.2;clear HN HNo HNv HD hie2 hi;by_cases hl:262144<n
     .have hl2:(262144:Int)<n:=by omega
      replace HE:Hid (dt (ps.map Pu.bq)=102):=by unfold Hid;rw[HE.o,if_pos hl]
      clear hl;go_wp2_with fail;go_ret;exact⟨by rw[HE.o];rfl,HK.o⟩
     .have hl2:¬ (262144:Int)<n:=by omega
      replace HE:Hid (dt (ps.map Pu.bq)=0):=by unfold Hid;rw[HE.o,if_neg hl]
      clear hl;go_wp2_with fail;go_ret;exact⟨by rw[HE.o];rfl,HK.o⟩
end
def I9:List Value->List (List Kv)->SP
 | v::vs,M::Ms=>qB v M*I9 vs Ms
 | _,_=>bF
def Dg (g:Nat) (v vo vg:Value) (M:List Kv) (vs:List Value) (Ms:List (List Kv)) (gs:List Bool):SP:=Pt g 36 #[v,vo,vg]*(Row 32 1 vo vs.length vs*(Row 4 1 vg gs.length (gs.map Value.bool)*(qB v M*I9 vs Ms)))
def eN (g:Nat) (M:List Kv) (Ms:List (List Kv)) (gs:List Bool):SP:=fun h=> ∃ v vo vg vs,(vs.length=Ms.length/\gs.length=Ms.length)/\Dg g v vo vg M vs Ms gs h
section
variable {w0 w w':World} {F:SP} {g:Nat} {v vo vg:Value} {M:List Kv} {vs:List Value} {Ms:List (List Kv)} {gs:List Bool}
theorem Sat.JX (h:Sat w0 (qB v M*F) w): ∃ A n c,v = .slice A n c:=by
 obtain⟨es,_,h1⟩:=h.mp;obtain⟨A,c,h2,_⟩:=h1.zY;exact⟨A,_,c,h2⟩
theorem Sat.La (h:Sat w0 (eN g M Ms gs*F) w): ∃ v vo vg vs,(vs.length=Ms.length/\gs.length=Ms.length)/\Sat w0 (Dg g v vo vg M vs Ms gs*F) w:=by
 obtain⟨c,x,h1,a,k,h2,h3,⟨v,vo,vg,vs,h4,h5⟩,h8⟩:=h;exact⟨v,vo,vg,vs,h4,⟨c,x,h1,a,k,h2,h3,h5,h8⟩⟩
theorem Sat.G3 (h:Sat w0 (Dg g v vo vg M vs Ms gs*F) w) (hv:vs.length=Ms.length) (hg:gs.length=Ms.length):Sat w0 (eN g M Ms gs*F) w:=by
 obtain⟨c,x,h1,a,k,h2,h3,h5,h8⟩:=h;exact⟨c,x,h1,a,k,h2,h3,⟨v,vo,vg,vs,⟨hv,hg⟩,h5⟩,h8⟩
theorem tj (g:Nat) (v vo vg:Value) (M:List Kv) (vs:List Value) (Ms:List (List Kv)) (gs:List Bool) (F:SP):Dg g v vo vg M vs Ms gs*F=Pt g 36 #[v,vo,vg]*(Row 32 1 vo vs.length vs*(Row 4 1 vg gs.length (gs.map Value.bool)*(qB v M*(I9 vs Ms*F)))):=by unfold Dg;ac_rfl
theorem Sat.Ha (h:Sat w0 F w):Sat w0 (eN w.heap.size [] [] []*F) (w.alloc (.cells #[.slice none 0 0,.slice none 0 0,.slice none 0 0] 36)):=by
 have h1:=h.ab 36 #[.slice none 0 0,.slice none 0 0,.slice none 0 0];generalize w.alloc _=W at*
 have h2:=((h1.II.aN 4 1).aN 32 1);refine Sat.G3 (vs:=[]) (Ms:=[]) (gs:=[]) (v:= .slice none 0 0) (vo:= .slice none 0 0) (vg:= .slice none 0 0) ?_ rfl rfl;rw[tj];have h3:=h2.of (show _=Pt w.heap.size 36 #[.slice none 0 0,.slice none 0 0,.slice none 0 0]*(Row 32 1 (.slice none 0 0) 0 []*(Row 4 1 (.slice none 0 0) 0 []*(qB (.slice none 0 0) []*F))) by ac_rfl);exact h3.of (by show _=_*(_*(_*(_*(bF*F))));rw[bf];rfl)
theorem rY: ∀ (cs:List cE) (M:List Kv),(aZ cs M).length<=M.length+cs.length
 | [],M=>Nat.le_refl _
 | c::cs,M=>by
  have h1:=rY cs (dK c M);have h2:=vD c M;show (aZ cs (dK c M)).length<=_;rw[List.length_cons];omega
theorem zr {cs:List cE} {M:List Kv} {i:Nat} (hi:i<cs.length):aZ (cs.take (i+1)) M=dK cs[i] (aZ (cs.take i) M):=by
 unfold aZ;rw[List.take_add_one,List.getElem?_eq_getElem hi,List.foldl_append];rfl
theorem yX (A:Option Addr) (c:Nat) (ps:List Pu) (h:Sat w0 (eN g M Ms gs*F) w) (hb: ∀ W,Sat w0 F W->aF W A (ps.flatMap fI)/\gZ W ps) (hl:M.length+ps.length<=10000) (hz: ∀ p ∈ ps,p.key.2.2.length<=1000000/\p.value.2.2.length<=1000000):
 Calls Tryz.prog 22 #[.pointer (some ⟨g,0,none⟩),.slice A ps.length c] w fun x w'=>x = .returned (.int .i64 (dt (ps.map Pu.bq):Nat))/\Sat w0 (eN g (if dt (ps.map Pu.bq)=0 then aZ (ps.map Pu.bq) M else M) Ms gs*F) w':=by
 obtain⟨v,vo,vg,vs,⟨hv,hg⟩,h1⟩:=h.La;have HV:=ah (And.intro hv hg);have h2:=h1.of (tj ..);have HF:Hid (∀ W V N,Sat w0 (Pt g 36 #[V,vo,vg]*(qB V N*(Row 32 1 vo vs.length vs*(Row 4 1 vg gs.length (gs.map Value.bool)*(I9 vs Ms*F))))) W->Sat w0 (eN g N Ms gs*F) W):=ah fun W V N hW=>by
  refine Sat.G3 (v:=V) (vo:=vo) (vg:=vg) (vs:=vs) ?_ hv hg;rw[tj];exact hW.of (by ac_rfl)
 obtain⟨G,hG⟩: ∃ G,G=Row 32 1 vo vs.length vs*(Row 4 1 vg gs.length (gs.map Value.bool)*(I9 vs Ms*F)):=⟨_,rfl⟩;have HB:Hid (∀ W,Sat w0 G W->aF W A (ps.flatMap fI)/\gZ W ps):=ah fun W hW=>by
  rw[hG] at hW;exact hb W hW.right.right.right
 have HS:Hid (Sat w0 (Pt g 36 #[v,vo,vg]*(qB v M*G)) w):=ah (h2.of (by rw[hG];ac_rfl));rw[<-hG] at HF;have HZ:=ah hz;have HC:Hid (∀ W,ao No w W->Calls Tryz.prog 74 #[.slice A ps.length c] W fun x w'=>x = .returned (.int .i64 (dt (ps.map Pu.bq):Nat))/\ao No W w'):=ah fun W k=>xX A c ps W (HB.o _ (HS.o.new k).right.right).1 (by omega) (fun p hp=>⟨by have:=(hz p hp).1;omega,by have:=(hz p hp).2;omega⟩)
 clear h h1 h2 hb hz hv hg hG;obtain⟨q,hq⟩: ∃ q,q=dt (ps.map Pu.bq):=⟨_,rfl⟩;rw[<-hq] at HC ⊢;have HQ:=ah hq;clear hq;go_enter Tryz.func22, Tryz.ntmps22;by_cases hq0:q=0
 .have hqi:((q:Int) !=0)=false:=by rw[hq0];rfl
  have HQ0:=ah hq0;clear hq0;go_wp2_with (go_at_call 74;(with_reducible refine(HC.o _ (ao.refl _ _)).mono ?_);rintro x w1 ⟨rfl,k1⟩;have HS1:=ah (HS.o.new k1);clear k1);go_loopw [6] (fun iv wr=> ∃ (i:Nat),i<=ps.length/\iv = .int .i64 (i:Int)/\Hid (∃ V,Sat w0 (Pt g 36 #[V,vo,vg]*(qB V (aZ ((ps.map Pu.bq).take i) M)*G)) wr)) (fun iv _=>ps.length - (intOf iv).toNat)
  case atStart=>exact⟨0,by omega,rfl,v,HS1.o⟩
  case round=>
   obtain⟨i,hi,rfl,HD⟩:=hrel;by_cases hlt:i<ps.length
   .have hii:(i:Int)<ps.length:=by omega
    obtain⟨V,hs⟩:=HD.o;have hsr:=hs.drew;obtain⟨lb,lo,rfl,hq⟩:=gI (HB.o _ hsr.right.right).1 (by omega);have HX:Hid (∀ W,Sat w0 G W->W.cell? ⟨lb,lo+i*3,none⟩=some (aJ ps[i].key)/\W.cell? ⟨lb,lo+i*3+1,none⟩=some (aJ ps[i].value)/\W.cell? ⟨lb,lo+i*3+2,none⟩=some (.bool ps[i].dead)):=ah fun W hW=>by
     obtain⟨b',o',e,hq⟩:=gI (HB.o _ hW).1 (by omega);injection e with e
     injection e with e1 e2
     subst e1;subst e2;exact hq i hlt
    have HPi:Hid (∀ W,Sat w0 G W->Js W ps[i]):=ah fun W hW=>(HB.o W hW).2 _ (List.getElem_mem hlt)
    have HZi:=ah (HZ.o _ (List.getElem_mem hlt));have HN:Hid (aZ ((ps.map Pu.bq).take (i+1)) M=dK ps[i].bq (aZ ((ps.map Pu.bq).take i) M)):=ah (by
     rw[zr (by rw[List.length_map];exact hlt),List.getElem_map])
    have HLn:Hid ((aZ ((ps.map Pu.bq).take i) M).length<=10000):=ah (by
     have h1:=rY ((ps.map Pu.bq).take i) M;rw[List.length_take,List.length_map] at h1;omega)
    generalize ps[i]=p at*
    have HSr:=ah hsr;clear hq hs hsr;go_upto_region 7 with fail;obtain⟨⟨kA,kc,kl⟩,⟨vA,vc,vl⟩,dd⟩:=p;have HY:Hid (∀ W,Sat w0 G W->W.cell? ⟨lb,lo+i*3,none⟩=some (.slice kA kl.length kc)/\W.cell? ⟨lb,lo+i*3+1,none⟩=some (.slice vA vl.length vc)/\W.cell? ⟨lb,lo+i*3+2,none⟩=some (.bool dd)):=HX;have HPut:Hid (Calls Tryz.prog 75 #[.pointer (some ⟨g,0,none⟩),.agg #[.slice kA kl.length kc,.slice vA vl.length vc,.bool dd]] wr.drew fun e w'=>e = .returned (.tuple #[])/\ ∃ V',Sat w0 (Pt g 36 #[V',vo,vg]*(qB V' (dK ⟨kl,vl,dd⟩ (aZ ((ps.map Pu.bq).take i) M))*G)) w'):=ah ((BK g 36 #[V,vo,vg] V _ ⟨(kA,kc,kl),(vA,vc,vl),dd⟩ rfl HSr.o HLn.o HPi.o HZi.o).mono (by
     rintro e w' ⟨rfl,V',hs⟩;exact⟨rfl,V',hs⟩))
    clear HX HPi HZi;refine wp_region_held_drew (S:=fun w'=>w'.cell? ⟨lb,lo+i*3,none⟩=some (.slice kA kl.length kc)/\w'.cell? ⟨lb,lo+i*3+1,none⟩=some (.slice vA vl.length vc)/\w'.cell? ⟨lb,lo+i*3+2,none⟩=some (.bool dd)) (by kernel_rfl) (HY.o _ HSr.o.right.right) ?_;intro hS0;refine an 0 1 2 3 ?_;refine cw 4 5 ?_;refine ca 6 ?_;refine bC 7 fun K hK=>?_
    go_simp;go_at_call 75;(with_reducible refine HPut.o.mono ?_);rintro x w7 ⟨rfl,V7,hs7⟩;have HS7:=ah hs7;clear hs7
    refine hK.out _ _ (HY.o _ HS7.o.right.right) (fun hS0=>?_);clear hK K;refine wpAnyH_done (by kernel_rfl) ?_ _;go_wp2_with fail;go_roundw
    .exact⟨i+1,by omega,by push_cast;rfl,V7,by rw[HN.o];exact HS7.o⟩
    .simp[intOf];omega
   .have hie:i=ps.length:=by omega
    have HT:Hid (∃ V,Sat w0 (Pt g 36 #[V,vo,vg]*(qB V (aZ (ps.map Pu.bq) M)*G)) wr):=ah (by
     have h1:=HD.o;rw[hie,List.take_of_length_le (by rw[List.length_map];exact Nat.le_refl _)] at h1;exact h1)
    have hii:¬ (i:Int)<ps.length:=by omega
    clear hlt hie;go_wp2_with fail;go_ret;refine⟨rfl,?_⟩
    try rw[if_pos HQ0.o]
    obtain⟨V,hs⟩:=HT.o;exact HF.o _ _ _ hs
 .have hqi:((q:Int) !=0)=true:=by rw[bne_iff_ne];omega
  go_wp2_with (go_at_call 74;(with_reducible refine(HC.o _ (ao.refl _ _)).mono ?_);rintro x w1 ⟨rfl,k1⟩;have HS1:=ah (HS.o.new k1);clear k1);go_ret;refine⟨rfl,?_⟩
  try rw[if_neg hq0]
  exact HF.o _ _ _ HS1.o
end
theorem GV (k:Nat):madeCells #[.int .u8 0] k=((List.replicate k (0:UInt8)).map bv).toArray:=by
 apply Array.ext';rw[List.map_replicate];simp[madeCells,bv,Nat.mod_one,List.map_const']
theorem ch (n:Nat) (hn:n<=100000) (W:World):(Instr.makeSlice 41 (.int .i64 (n:Int)) (.int .i64 (n:Int))).run Tryz.prog W=
 .ok (.slice (some ⟨W.heap.size,0,none⟩) n n) (W.alloc (.cells (madeCells #[.int .u8 0] n) 5)):=by
 obtain⟨i0,hi,hz0,hz1,hz2⟩:=info_parts kq;have hr:=run_make (P:= Tryz.prog) W 41 5 i0 _ Tryz.underlying41 hi hz0 .i64 .i64 n n (by omega) (by omega) (by rw[hz2];omega) (by omega);have hc:(Value.int .u8 0).cells = #[.int .u8 0]:=rfl;simpa [hz1,hc] using hr
theorem mF (A B:List Kv):cI (A++B)=cI A+cI B:=by unfold cI;rw[List.map_append,List.sum_append]
theorem Cy (M:List Kv) (i:Nat):cI (M.drop i)<=cI M:=by
 have h:cI M=cI (M.take i)+cI (M.drop i):=by rw[<-mF,List.take_append_drop]
 omega
theorem Fs (k:List UInt8) (M:List Kv):mG k M<=ik k M:=by
 unfold ik;split
 .split<;>omega
 .omega
theorem E6 (c:cE) (M:List Kv):cI (dK c M)<=cI M+c.key.length+c.value.length+40:=by
 rw[zS,mF,mF];have h1:cI M=cI (M.take (mG c.key M))+cI (M.drop (mG c.key M)):=by rw[<-mF,List.take_append_drop]
 have h2:cI (M.drop (ik c.key M))<=cI (M.drop (mG c.key M)):=by
  have h3:=Cy (M.drop (mG c.key M)) (ik c.key M - mG c.key M);have h4:=Fs c.key M;rw[List.drop_drop] at h3;rwa [show mG c.key M+(ik c.key M - mG c.key M)=ik c.key M by omega] at h3
 have h5:cI (if c.dead=true then [] else [(c.key,c.value)])<=c.key.length+c.value.length+40:=by
  split
  .exact Nat.zero_le _
  .exact Nat.le_refl _
 omega
theorem yS {n:Nat} {M:List Kv} {c:cE} (hn:600<=n/\n<=1111) (hc:c.key.length+c.value.length<=100000) (hb:8*(cI M+c.key.length+c.value.length+40)+2*(c.key.length+c.value.length+16)+262144<=512*n):ev n (aZ [c] M) [c]=false:=by
 have h1:=E6 c M;have h3:(aE [c]).length=4+c.key.length+c.value.length:=by
  rw[gj,List.length_append,fL];rfl
 unfold ev;rw[Bool.or_eq_false_iff,decide_eq_false_iff_not,decide_eq_false_iff_not];have h4:aZ [c] M=dK c M:=rfl;rw[h4,h3];refine⟨?_,?_⟩
 .unfold aC;omega
 .unfold bh bj aC;rw[if_pos (by omega)];omega
section
variable {w0 w w':World} {F F' A B:SP} {b d n t k a nx g:Nat} {M N:List Kv} {olds:Int->Option (List Kv)} {Ms:List (List Kv)} {gs:List Bool} {v:Value}
theorem Sat.Ku (h:Sat w0 (A*B) w):Sat w0 A w:=(h.of (cD A B)).right
theorem Sat.Kf (h:Sat w0 (A*(B*F)) w):Sat w0 (A*F) w:=h.ay.right
theorem cX.keep (h:cX w0 (A*B) b d n t k a nx M olds w):cX w0 (A*bF) b d n t k a nx M olds w:=by
 have h1:=(h.of (cD A B)).drop;exact h1.of (iU A).symm
theorem Gl (h:Sat w0 (Pt g 36 #[v,.slice none 0 0,.slice none 0 0]*(qB v N*F)) w):Sat w0 (eN g N [] []*F) w:=by
 have h2:=((h.aN 4 1).aN 32 1);refine Sat.G3 (vs:=[]) (Ms:=[]) (gs:=[]) (v:=v) (vo:= .slice none 0 0) (vg:= .slice none 0 0) ?_ rfl rfl;rw[tj];have h3:=h2.of (show _=Pt g 36 #[v,.slice none 0 0,.slice none 0 0]*(Row 32 1 (.slice none 0 0) 0 []*(Row 4 1 (.slice none 0 0) 0 []*(qB v N*F))) by ac_rfl);exact h3.of (by show _=_*(_*(_*(_*(bF*F))));rw[bf];rfl)
theorem Sat.kD (h:Sat w0 (eN g N Ms gs*F) w): ∃ LA lc vo vg es R,aY es=N/\Sat w0 (Pt g 36 #[.slice LA es.length lc,vo,vg]*(fw (.slice LA es.length lc) es*(R*F))) w/\ ∀ A w',Sat w0 (Pt g 36 #[.slice LA es.length lc,vo,vg]*(fw (.slice LA es.length lc) es*(R*A))) w'->Sat w0 (eN g N Ms gs*A) w':=by
 obtain⟨v,vo,vg,vs,⟨hv,hg⟩,h1⟩:=h.La;have h2:=(h1.of (tj ..)).of (show _=qB v N*(Pt g 36 #[v,vo,vg]*((Row 32 1 vo vs.length vs*(Row 4 1 vg gs.length (gs.map Value.bool)*I9 vs Ms))*F)) by ac_rfl);obtain⟨es,he,h3⟩:=h2.mp;obtain⟨LA,lc,rfl,_⟩:=h3.zY;refine⟨LA,lc,vo,vg,es,Row 32 1 vo vs.length vs*(Row 4 1 vg gs.length (gs.map Value.bool)*I9 vs Ms),he,h3.ay,fun A w' hw=>?_⟩;refine Sat.G3 (v:= .slice LA es.length lc) (vo:=vo) (vg:=vg) (vs:=vs) ?_ hv hg;rw[tj];exact(hw.ay.Jw he).of (by ac_rfl)
theorem cX.kD (h:cX w0 (eN g N Ms gs*F) b d n t k a nx M olds w): ∃ LA lc vo vg es R,aY es=N/\cX w0 (Pt g 36 #[.slice LA es.length lc,vo,vg]*(fw (.slice LA es.length lc) es*(R*F))) b d n t k a nx M olds w/\ ∀ A w',Sat w0 (Pt g 36 #[.slice LA es.length lc,vo,vg]*(fw (.slice LA es.length lc) es*(R*A))) w'->Sat w0 (eN g N Ms gs*A) w':=by
 obtain⟨G,hG,hR⟩:=h.KW;obtain⟨LA,lc,vo,vg,es,R,he,h1,hB⟩:=(hG.of (aB _ _ _)).kD;exact⟨LA,lc,vo,vg,es,R,he,hR _ _ (h1.of (by ac_rfl)),hB⟩
theorem cX.Dz {C D R:SP} (hB: ∀ A w',Sat w0 (C*(D*(R*A))) w'->Sat w0 (eN g N Ms gs*A) w') (h:cX w0 (C*(D*(R*F))) b d n t k a nx M olds w):cX w0 (eN g N Ms gs*F) b d n t k a nx M olds w:=h.map fun G hG=>(hB (F*G) _ (hG.of (by ac_rfl))).of (by ac_rfl)
theorem FE {q m:Nat} {W:World} (h:Sat w0 (Pt q 5 (madeCells #[.int .u8 0] m)*F) W):Rd W (some ⟨q,0,none⟩) (List.replicate m 0):=kI (l:=List.replicate m 0) (by rw[<-GV];exact h)
theorem Hk {LA:Option Addr} {lc:Nat} {es:List En}:yf (fw (.slice LA es.length lc) es*F) LA es:=fun w0 w hs=>⟨hs.kL,hs.tO⟩
theorem GA (p:Pu) (gl:Nat) (h:Sat w0 (eN g N Ms gs*(Ow gl (.cells #[aJ p.key,aJ p.value,.bool p.dead] 43)*F)) w) (hp: ∀ W,Sat w0 F W->Js W p) (hl:N.length<=9000) (hz:p.key.2.2.length<=1000000/\p.value.2.2.length<=1000000):
 Calls Tryz.prog 22 #[.pointer (some ⟨g,0,none⟩),.slice (some ⟨gl,0,none⟩) 1 1] w fun x w'=>x = .returned (.int .i64 (dt [p.bq]:Nat))/\Sat w0 (eN g (if dt [p.bq]=0 then dK p.bq N else N) Ms gs*F) w':=by
 refine(yX (some ⟨gl,0,none⟩) 1 [p] h (fun W hW=>⟨?_,fun q hq=>?_⟩) (by show N.length+1<=10000;omega) (fun q hq=>?_)).mono ?_
 .have h9:=uq (xs:=fI p) hW rfl;rw[List.flatMap_cons,List.flatMap_nil,List.append_nil];exact h9
 .rw[List.mem_singleton] at hq;subst hq;exact hp W hW.right
 .rw[List.mem_singleton] at hq;subst hq;exact hz
 .rintro x w' ⟨rfl,h6⟩;exact⟨rfl,h6.Kf⟩
def KT (n:Nat) (cs:List cE) (M:List Kv) (er:Int) (M':List Kv):Prop:=
 (dt cs≠0/\er=(dt cs:Nat)/\M'=M)\/(dt cs=0/\ev n (aZ cs M) cs=true/\er=103/\M'=M)\/(dt cs=0/\ev n (aZ cs M) cs=false/\er=0/\M'=aZ cs M)
theorem GC (Ad:Option Addr) (c:Nat) (ps:List Pu) (hk:k<=10000) (ht:t+ps.length<=1024) (h:cX w0 F b d n t k 0 nx M olds w)
 (hb: ∀ W,Sat w0 F W->aF W Ad (ps.flatMap fI)/\gZ W ps) (hz: ∀ p ∈ ps,p.key.2.2.length<=1000000000/\p.value.2.2.length<=1000000000):
 Calls Tryz.prog 20 #[.pointer (some ⟨b,0,none⟩),.slice Ad ps.length c] w fun x w'=> ∃ (er:Int) (M':List Kv),x = .returned (.int .i64 er)/\KT n (ps.map Pu.bq) M er M'/\cX w0 F b d n (t+ps.length) (k+1) 0 nx M' olds w':=by
 obtain⟨s,S,v,D,h1,h2,h3,h4⟩:=h;refine(wP b d s v n t k D S M olds Ad c ps h1 hk ht (by omega) h4 hb hz).mono ?_;rintro x w' (⟨e1,g1,g2⟩ | ⟨e1,e2,g1,g2⟩ | ⟨e1,e2,rfl,S',D',v',g3,g4,g5,g6,g7,g8⟩ | ⟨_,_,_,g1,_⟩)
 .exact⟨_,M,g1,.inl ⟨e1,rfl,rfl⟩,cX.mono (show cX w0 F b d n t k 0 nx M olds w' from ⟨s,S,v,D,h1,h2,h3,g2⟩) (by omega) (by omega)⟩
 .exact⟨_,M,g1,.inr (.inl ⟨e1,e2,rfl,rfl⟩),cX.mono (show cX w0 F b d n t k 0 nx M olds w' from ⟨s,S,v,D,h1,h2,h3,g2⟩) (by omega) (by omega)⟩
 .rw[List.length_map] at g3;exact⟨0,_,rfl,.inr (.inr ⟨e1,e2,rfl,rfl⟩),s,S',v',D',g3,by omega,by omega,g8⟩
 .omega
theorem DT (p:Pu) (gl:Nat) (hk:k<=10000) (ht:t+1<=1024) (h:cX w0 (Ow gl (.cells #[aJ p.key,aJ p.value,.bool p.dead] 43)*F) b d n t k 0 nx M olds w) (hp: ∀ W,Sat w0 F W->Js W p) (hz:p.key.2.2.length<=1000000000/\p.value.2.2.length<=1000000000):
 Calls Tryz.prog 20 #[.pointer (some ⟨b,0,none⟩),.slice (some ⟨gl,0,none⟩) 1 1] w fun x w'=> ∃ (er:Int) (M':List Kv),x = .returned (.int .i64 er)/\KT n [p.bq] M er M'/\cX w0 F b d n (t+1) (k+1) 0 nx M' olds w':=by
 refine(GC (some ⟨gl,0,none⟩) 1 [p] hk ht h (fun W hW=>⟨?_,fun q hq=>?_⟩) (fun q hq=>?_)).mono ?_
 .have h9:=uq (xs:=fI p) hW rfl;rw[List.flatMap_cons,List.flatMap_nil,List.append_nil];exact h9
 .rw[List.mem_singleton] at hq;subst hq;exact hp W hW.right
 .rw[List.mem_singleton] at hq;subst hq;exact hz
 .rintro x w' ⟨er,M',rfl,hr,h6⟩;exact⟨er,M',rfl,hr,h6.drop⟩
end
end Go.Proofs.YtmbaiglpgaoogaaGreat
