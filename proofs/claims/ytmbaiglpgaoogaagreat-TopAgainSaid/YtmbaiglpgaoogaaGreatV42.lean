/- Joined, as they were built one by one: StRef2. -/
import Derived.Test.YtmbaiglpgaoogaaGreatV08
import Derived.Test.YtmbaiglpgaoogaaGreatV41
set_option maxHeartbeats 16000000
namespace Go.Proofs.YtmbaiglpgaoogaaGreat
open Go.RowKit
set_option linter.unusedVariables false
set_option maxRecDepth 100000
def atK (k:List UInt8) (M:List Kv):Nat:=(M.takeWhile fun q=>decide (Lib.compareBytes q.1 k<0)).length
theorem atK_le (k:List UInt8) (M:List Kv):atK k M<=M.length:=by
 unfold atK;exact(List.takeWhile_sublist _).length_le
theorem atK_here {k:List UInt8}: ∀ {M:List Kv} {i:Nat} (hi:i<M.length),(∀ j (hj:j<M.length),j<i->Lib.compareBytes (M[j]'hj).1 k<0)->¬ Lib.compareBytes (M[i]'hi).1 k<0->atK k M=i
 | p::M,i,hi,h,hn=>by
  unfold atK;rw[List.takeWhile_cons]
  cases i with
  | zero=>
   have h1:¬ Lib.compareBytes p.1 k<0:=hn;rw[if_neg (by simpa using h1)];rfl
  | succ i=>
   have h1:Lib.compareBytes p.1 k<0:=h 0 (by simp) (by omega);rw[if_pos (by simpa using h1),List.length_cons];have h2:=atK_here (k:=k) (M:=M) (i:=i) (by simpa using hi) (fun j hj hji=>h (j+1) (by simpa using hj) (by omega)) hn;unfold atK at h2;rw[h2]
theorem atK_end {k:List UInt8} {M:List Kv} (h: ∀ j (hj:j<M.length),Lib.compareBytes (M[j]'hj).1 k<0):atK k M=M.length:=by
 unfold atK;rw[(takeW_all (f:=fun q:Kv=>decide (Lib.compareBytes q.1 k<0)) (L:=M) (fun x hx=>by
  obtain⟨j,hj,rfl⟩:=List.mem_iff_getElem.1 hx;simpa using h j hj)).1]
def dropK (k:List UInt8) (M:List Kv):Nat:=if h:atK k M<M.length then (if (M[atK k M]'h).1=k then atK k M+1 else atK k M) else atK k M
theorem putM_at (p:Chn) (M:List Kv):putM p M=M.take (atK p.key M)++((if p.dead=true then [] else [(p.key,p.value)])++M.drop (dropK p.key M)):=by
 have h1:M.takeWhile (fun q=>decide (Lib.compareBytes q.1 p.key<0))=M.take (atK p.key M):=by
  unfold atK;have e:=List.takeWhile_append_dropWhile (p:=fun q:Kv=>decide (Lib.compareBytes q.1 p.key<0)) (l:=M);have h2:M.take (M.takeWhile fun q=>decide (Lib.compareBytes q.1 p.key<0)).length=(M.takeWhile (fun q=>decide (Lib.compareBytes q.1 p.key<0))++M.dropWhile (fun q=>decide (Lib.compareBytes q.1 p.key<0))).take (M.takeWhile fun q=>decide (Lib.compareBytes q.1 p.key<0)).length:=by rw[e]
  rw[h2,List.take_left'];rfl
 have h3:M.dropWhile (fun q=>decide (Lib.compareBytes q.1 p.key<0))=M.drop (atK p.key M):=by
  unfold atK;have e:=List.takeWhile_append_dropWhile (p:=fun q:Kv=>decide (Lib.compareBytes q.1 p.key<0)) (l:=M);have h2:M.drop (M.takeWhile fun q=>decide (Lib.compareBytes q.1 p.key<0)).length=(M.takeWhile (fun q=>decide (Lib.compareBytes q.1 p.key<0))++M.dropWhile (fun q=>decide (Lib.compareBytes q.1 p.key<0))).drop (M.takeWhile fun q=>decide (Lib.compareBytes q.1 p.key<0)).length:=by rw[e]
  rw[h2,List.drop_left'];rfl
 unfold putM;rw[h1,h3];congr 2
 unfold dropK;by_cases h:atK p.key M<M.length
 .rw[dif_pos h,List.drop_eq_getElem_cons h];by_cases h4:(M[atK p.key M]).1=p.key
  .rw[if_pos h4];simp only[h4,if_true]
  .rw[if_neg h4,List.drop_eq_getElem_cons h];simp only[h4,if_false]
 .rw[dif_neg h,List.drop_of_length_le (by omega)]
section
variable {w0 w w':World} {F:SP}
theorem prs_dp (es:List En) (k:Nat):(es.flatMap prV).drop (k*2)=(es.drop k).flatMap prV:=by
 have e:es.flatMap prV=(es.take k).flatMap prV++(es.drop k).flatMap prV:=by rw[<-List.flatMap_append,List.take_append_drop]
 by_cases hk:k<=es.length
 .rw[e,List.drop_left'];rw[prs_len,List.length_take,Nat.min_eq_left hk]
 .rw[List.drop_of_length_le (l:=es) (by omega),List.drop_of_length_le (by rw[prs_len];omega)];rfl
theorem put_fin {A:Option Addr} {v:Value} {es gs:List En} {g m q c y:Nat} {ty:TypeId} {cs:Array Value} {X:SP} {M':List Kv} (h:Sat w0 (Row 65 2 (.slice A (m+q) c) (m+q) (gs.flatMap prV++(es.drop y).flatMap prV)*(RoL (slcsE gs)*(X*(Pt g ty cs*(MpC v es*F))))) w) (hm:gs.length=m) (hq:es.length - y=q) (hp:pairsE (gs++es.drop y)=M'):
  Sat w0 (Pt g ty (cs.setIfInBounds 0 (.slice A (m+q) c))*(MpP (.slice A (m+q) c) M'*F)) (w.setCell ⟨g,0,none⟩ (.slice A (m+q) c)):=by
 have h1:=h.up4.set 0 (.slice A (m+q) c);generalize w.setCell ⟨g,0,none⟩ (.slice A (m+q) c)=W at*
 have h2:=(h1.of (show _=MpC v es*(X*(RoL (slcsE gs)*(Row 65 2 (.slice A (m+q) c) (m+q) (gs.flatMap prV++(es.drop y).flatMap prV)*(Pt g ty (cs.setIfInBounds 0 (.slice A (m+q) c))*F)))) by ac_rfl)).mpc_rol.rol_sub (slcsE_sub (fs:=es.drop y) fun e he=>List.mem_of_mem_drop he);have h3:=(h2.of (show _=MpC v es*(X*(RoL (slcsE gs)*(RoL (slcsE (es.drop y))*(Row 65 2 (.slice A (m+q) c) (m+q) (gs.flatMap prV++(es.drop y).flatMap prV)*(Pt g ty (cs.setIfInBounds 0 (.slice A (m+q) c))*F))))) by ac_rfl)).right.right.rol_add;have e1:slcsE (gs++es.drop y)=slcsE gs++slcsE (es.drop y):=by unfold slcsE;rw[List.flatMap_append]
 have e2:(gs++es.drop y).length=m+q:=by rw[List.length_append,List.length_drop,hm,hq]
 rw[<-e1] at h3;have h4:Sat w0 (MpC (.slice A (m+q) c) (gs++es.drop y)*(Pt g ty (cs.setIfInBounds 0 (.slice A (m+q) c))*F)) W:=by
  refine Sat.mpc_row (n:=m+q) ?_ e2;rw[List.flatMap_append];exact h3.of (by ac_rfl)
 exact(h4.mpI hp).up2
theorem info_u8p:(Tryz.prog.info? 5).map (fun i=>(i.zero,i.size,i.bytes))=some (some (.int .u8 0),1,1):=by kernel_rfl
theorem rmput_any (g:Nat) (ty:TypeId) (cs:Array Value) (v:Value) (M:List Kv) (p:Pu) (hv:cs[0]?=some v) (h:Sat w0 (Pt g ty cs*(MpP v M*F)) w) (hl:M.length<=10000) (hp: ∀ W,Sat w0 F W->PuR W p) (hz:p.key.2.2.length<=1000000/\p.value.2.2.length<=1000000):
  Calls Tryz.prog 75 #[.pointer (some ⟨g,0,none⟩),.agg #[slv' p.key,slv' p.value,.bool p.dead]] w fun e w'=>e = .returned (.tuple #[])/\ ∃ v',Sat w0 (Pt g ty (cs.setIfInBounds 0 v')*(MpP v' (putM p.chn M)*F)) w':=by
 obtain⟨es,he,h1⟩:=h.up2.mp;obtain⟨LA,lc,rfl,hlc1,hlc2⟩:=h1.mpc_v;obtain⟨⟨kA,kc,kl⟩,⟨vA,vc,vl⟩,dd⟩:=p;obtain⟨hz1,hz2⟩:=hz;replace hz1:kl.length<=1000000:=hz1;replace hz2:vl.length<=1000000:=hz2;have hn:es.length<=10000:=by rw[<-pairs_len,he];exact hl
 have HPe:Hid (∀ gs:List En,pairsE gs=M.take (atK kl M)++(if dd=true then [] else [(kl,vl)])->pairsE (gs++es.drop (dropK kl M))=putM ⟨kl,vl,dd⟩ M):=ah fun gs hg=>by
  have e9:pairsE (es.drop (dropK kl M))=M.drop (dropK kl M):=by rw[<-he];unfold pairsE;rw[List.map_drop]
  rw[pairsE_app,hg,e9,putM_at,List.append_assoc]
 obtain⟨j0,hj,hy0,hy1,hy2⟩:=info_parts info_pr;obtain⟨j1,hj1,hu0,hu1,hu2⟩:=info_parts info_u8p;have Hj:=ah hj;have Hy0:=ah hy0;have Hy1:=ah hy1;have Hy2:=ah hy2;have Hj1:=ah hj1;have Hz0:=ah hu0;have Hz1:=ah hu1;have Hz2:=ah hu2;have h2:=h1.up2.allocAt (b:=w.heap.size) 43 #[.slice kA kl.length kc,.slice vA vl.length vc,.bool dd] rfl;obtain⟨z,hzd⟩: ∃ z,z=atK kl M:=⟨_,rfl⟩;obtain⟨y,hyd⟩: ∃ y,y=dropK kl M:=⟨_,rfl⟩;have hzn:z<=es.length:=by rw[hzd, <-pairs_len,he];exact atK_le kl M
 have HZ:=ah hzd;have HY:=ah hyd;have HE:=ah he;have HPr:Hid (∀ W,Sat w0 F W->Rd W kA kl/\Rd W vA vl):=ah fun W hW=>hp W hW
 have HCs:=ah hv;have hEl: ∀ i (hi:i<es.length),(M[i]'(by rw[<-he,pairs_len];exact hi)).1=es[i].key.2.2:=fun i hi=>by
  subst he;unfold pairsE;rw[List.getElem_map];rfl
 have HEl:=ah hEl;clear hj hy0 hy1 hy2 hj1 hu0 hu1 hu2 h h1 hzd hyd hp hv hEl;show Calls Tryz.prog 75 #[.pointer (some ⟨g,0,none⟩),.agg #[.slice kA kl.length kc,.slice vA vl.length vc,.bool dd]] w _;go_enter Tryz.func75, Tryz.ntmps75;go_upto_region 1 with fail;revert h2;generalize w.alloc _=W1;intro h2;generalize w.heap.size=E at*
 have HS:=ah h2;clear h2;go_upto_block 0 with fail
 go_cut [4,5] (fun ov iv wx=> ∃ (d:Nat) (B:Option Addr),ov = .slice B z d/\iv = .int .i64 (z:Int)/\Hid (Sat w0 (Row 65 2 (.slice B z d) z ((es.take z).flatMap prV)*(Pt E 43 #[.slice kA kl.length kc,.slice vA vl.length vc,.bool dd]*(Pt g ty cs*(MpC (.slice LA es.length lc) es*F)))) wx))
 case first=>
  go_wp2_with fail;go_loopw [4,5] (fun ov iv wr=> ∃ (i d:Nat) (B:Option Addr),i<=es.length/\iv = .int .i64 (i:Int)/\ov = .slice B i d/\Hid ((∀ j (hj:j<es.length),j<i->Lib.compareBytes es[j].key.2.2 kl<0)/\Sat w0 (Row 65 2 (.slice B i d) i ((es.take i).flatMap prV)*(Pt E 43 #[.slice kA kl.length kc,.slice vA vl.length vc,.bool dd]*(Pt g ty cs*(MpC (.slice LA es.length lc) es*F)))) wr)) (fun _ iv _=>es.length - (intOf iv).toNat)
  case atStart=>exact⟨0,0,none,by omega,rfl,rfl,(fun j hj h=>by omega),HS.o.row_nil 65 2⟩
  case round=>
   obtain⟨i,d,B,hi,rfl,rfl,HD⟩:=hrel;have hsr:=HD.o.2.drew;have c0:wr.drew.cell? ⟨g,0,none⟩=some (.slice LA es.length lc):=(hsr.up3.cell 0).trans HCs.o;have hEn:=hsr.right.right.right.mpc_ens;by_cases hlt:i<es.length
   .obtain⟨lb,lo,rfl,hq⟩:=prs_at hsr.right.right.right.mpc_rd (by omega);obtain⟨y0,y1⟩:=hq i hlt;have ra:=hEn _ (List.getElem_mem hlt);obtain⟨SA,SB,B1,e1,e2,e3,e4⟩:=str_less es[i].key.2.2 kl;have s1:=str_any ra.1 es[i].key.2.1;have s2:=str_any (HPr.o _ hsr.right.right.right.right).1 kc;rw[<-e1] at s1;rw[<-e2] at s2;have HB4:Hid (B1=true↔Lib.compareBytes es[i].key.2.2 kl<0):=ah (by rw[e4,cb_less,decide_eq_true_iff]);have HTk:Hid ((es.take (i+1)).flatMap prV=(es.take i).flatMap prV++prV es[i]):=ah (by rw[List.take_add_one,List.getElem?_eq_getElem hlt,List.flatMap_append];rfl);have HMi:Hid ((M[i]'(by rw[<-he,pairs_len];exact hlt)).1=es[i].key.2.2):=HEl.o i hlt;have HLs:Hid (∀ j (hj:j<es.length),j<i->Lib.compareBytes es[j].key.2.2 kl<0):=HD.o.1;have HLq:Hid (Lib.compareBytes es[i].key.2.2 kl<0-> ∀ j (hj:j<es.length),j<i+1->Lib.compareBytes es[j].key.2.2 kl<0):=ah fun h0 j hj hji=>by
     by_cases e:j=i
     .subst e;exact h0
     .exact HD.o.1 j hj (by omega)
    clear hq ra e1 e2 e4;generalize es[i]=q at*
    obtain⟨⟨kB,kd,kl0⟩,⟨vB,vd,vl0⟩,eq0,dd0⟩:=q;replace y0:_=some (Value.slice kB kl0.length kd):=y0;replace y1:_=some (Value.slice vB vl0.length vd):=y1;dsimp only at s1 HB4;have hii:(i:Int)<es.length:=by omega
    have E3:=ah e3;have C0:=ah c0;have Y0:=ah y0;have Y1:=ah y1;have G0:Hid (wr.drew.cell? ⟨g,0,none⟩=some (.slice (some ⟨lb,lo,none⟩) es.length lc)/\wr.drew.cell? ⟨lb,lo+i*2,none⟩=some (.slice kB kl0.length kd)/\wr.drew.cell? ⟨E,0,none⟩=some (.slice kA kl.length kc)/\(convert 41 9 (.slice kB kl0.length kd)).run Tryz.prog wr.drew = .ok (.string SA) wr.drew/\(convert 41 9 (.slice kA kl.length kc)).run Tryz.prog wr.drew = .ok (.string SB) wr.drew):=ah ⟨c0,y0,hsr.up2.cell 0,s1,s2⟩;clear c0 y0 y1 s1 s2 hEn e3;go_upto_region 3 with fail
    cases B1 with
    | true=>
     have hLs:=HLq.o (HB4.o.1 rfl);have e3:=E3.o;refine wp_region_held_drew (S:=fun w'=>w'.cell? ⟨g,0,none⟩=some (.slice (some ⟨lb,lo,none⟩) es.length lc)/\w'.cell? ⟨lb,lo+i*2,none⟩=some (.slice kB kl0.length kd)/\w'.cell? ⟨E,0,none⟩=some (.slice kA kl.length kc)/\(convert 41 9 (.slice kB kl0.length kd)).run Tryz.prog w' = .ok (.string SA) w'/\(convert 41 9 (.slice kA kl.length kc)).run Tryz.prog w' = .ok (.string SB) w') (by kernel_rfl) G0.o ?_;intro hS0;refine rtk 0 ?_;refine rtk 1 ?_;refine rtk 2 ?_;refine rtk 3 ?_;refine rtk 4 ?_;refine rtk 5 ?_;refine rtk 6 ?_;refine rtk 7 ?_;refine rtk 8 ?_;refine rtk 9 ?_;refine rtk 10 ?_;refine rtk 11 ?_;refine rtk 12 ?_;refine rtk 13 ?_;refine rtk 14 ?_;refine rtk 15 ?_;refine rtk 16 ?_;refine rtk 17 ?_;refine rtk 18 ?_;refine rtk 19 ?_;refine rtk 20 ?_;refine rtk 21 ?_;refine wpAnyH_done (by kernel_rfl) ?_ _;obtain⟨W2,hW2⟩: ∃ W2,W2=wr.drew:=⟨_,rfl⟩;have c0:=C0.o;have y0:=Y0.o;have y1:=Y1.o;rw[<-hW2] at c0 y0 y1 hsr;rw[<-hW2];have HSa:=ah (hsr.alloc' (.cells #[.slice kB kl0.length kd,.slice vB vl0.length vd] 65));have HLs2:=ah hLs;clear hW2 e3 hLs hsr G0 hS0;go_wp2_with (at_builtin;refine wpList_appS rfl (.tmp 28) (.tmp 36) 30 rfl 65 j0 _ 2 48 Tryz.underlying30 Hj.o Hy0.o Hy1.o Hy2.o rfl (by decide) (.slice B i d) i ((es.take i).flatMap prV) rfl w0 _ (by exact HSa.o) (some ⟨W2.heap.size,0,none⟩) 1 1 [.slice kB kl0.length kd,.slice vB vl0.length vd] rfl (by exact(lit_rdv _ _ _)) rfl (by intro u hu;simp at hu;rcases hu with rfl | rfl<;>rfl) (by unfold maxLen;omega) (by omega) ?_;intro B7 c7 w7 hs7;have HS7:=ah hs7;clear hs7);go_roundw
     .refine⟨i+1,c7,B7,by omega,by push_cast;rfl,rfl,HLs2.o,?_⟩;rw[HTk.o];exact HS7.o
     .simp[intOf];omega
    | false=>
     have HIz:Hid (i=z):=ah (by
      rw[HZ.o];exact(atK_here (by rw[<-he,pairs_len];exact hlt) (fun j hj hji=>by
       have hj2:j<es.length:=by omega
       rw[HEl.o j hj2];exact HLs.o j hj2 hji) (by
       rw[HMi.o];intro h0;have:=HB4.o.2 h0
       cases this)).symm)
     have e3:=E3.o;refine wp_region_held_drew (S:=fun w'=>w'.cell? ⟨g,0,none⟩=some (.slice (some ⟨lb,lo,none⟩) es.length lc)/\w'.cell? ⟨lb,lo+i*2,none⟩=some (.slice kB kl0.length kd)/\w'.cell? ⟨E,0,none⟩=some (.slice kA kl.length kc)/\(convert 41 9 (.slice kB kl0.length kd)).run Tryz.prog w' = .ok (.string SA) w'/\(convert 41 9 (.slice kA kl.length kc)).run Tryz.prog w' = .ok (.string SB) w') (by kernel_rfl) G0.o ?_;intro hS0;refine rtk 0 ?_;refine rtk 1 ?_;refine rtk 2 ?_;refine rtk 3 ?_;refine rtk 4 ?_;refine rtk 5 ?_;refine rtk 6 ?_;refine rtk 7 ?_;refine rtk 8 ?_;refine rtk 9 ?_;refine rtk 10 ?_;refine rtk 11 ?_;refine rtk 12 ?_;refine rtk 13 ?_;refine rtk 14 ?_;refine rtk 15 ?_;refine rtk 16 ?_;refine rtk 17 ?_;refine rtk 18 ?_;refine rtk 19 ?_;refine rtk 20 ?_;refine rtk 21 ?_;refine wpAnyH_done (by kernel_rfl) ?_ _;go_wp2_with fail;go_meet
     exact⟨d,B,by rw[<-HIz.o],by rw[<-HIz.o],by rw[<-HIz.o];exact hsr⟩
   .have hie:i=es.length:=by omega
    have HIz:Hid (i=z):=ah (by
     rw[HZ.o,atK_end (fun j hj=>by
      have hj2:j<es.length:=by rw[<-pairs_len,he];exact hj
      rw[HEl.o j hj2];exact HD.o.1 j hj2 (by omega)), <-he,pairs_len]
     exact hie)
    have hii:¬ (i:Int)<es.length:=by omega
    have G0:=ah c0;clear c0 hEn;go_upto_region 3 with fail;refine wp_region_held_drew (S:=fun w'=>w'.cell? ⟨g,0,none⟩=some (.slice LA es.length lc)) (by kernel_rfl) G0.o ?_;intro hS0;refine rtk 0 ?_;refine rtk 1 ?_;refine rtk 2 ?_;refine rtk 3 ?_;refine rtk 4 ?_;refine rtk 5 ?_;refine rtk 6 ?_;refine rtk 7 ?_;refine rsk 8 ?_;refine rsk 9 ?_;refine rsk 10 ?_;refine rsk 11 ?_;refine rsk 12 ?_;refine rsk 13 ?_;refine rsk 14 ?_;refine rsk 15 ?_;refine rsk 16 ?_;refine rsk 17 ?_;refine rsk 18 ?_;refine rsk 19 ?_;refine rsk 20 ?_;refine rtk 21 ?_;refine wpAnyH_done (by kernel_rfl) ?_ _;go_wp2_with fail;go_meet
    exact⟨d,B,by rw[<-HIz.o,hie],by rw[<-HIz.o,hie],by rw[<-HIz.o];exact hsr⟩
 case rest=>
  obtain⟨d,B,rfl,rfl,HD⟩:=hcut;have hx0:Sat w0 (Row 65 2 (.slice B z d) z ((es.take z).flatMap prV)*(RoL (slcsE (es.take z))*(Pt E 43 #[.slice kA kl.length kc,.slice vA vl.length vc,.bool dd]*(Pt g ty cs*(MpC (.slice LA es.length lc) es*F))))) wc:=by
   have h1:=(HD.o.of (show _=MpC (.slice LA es.length lc) es*(Row 65 2 (.slice B z d) z ((es.take z).flatMap prV)*(Pt E 43 #[.slice kA kl.length kc,.slice vA vl.length vc,.bool dd]*(Pt g ty cs*F))) by ac_rfl)).mpc_rol.rol_sub (slcsE_sub (fs:=es.take z) fun e he=>List.mem_of_mem_take he);exact h1.of (by ac_rfl)
  obtain⟨fs,hfs⟩: ∃ fs,fs=es.take z:=⟨_,rfl⟩;rw[<-hfs] at hx0;have HFl:Hid (fs.length=z):=ah (by rw[hfs,List.length_take];omega);have HFp:Hid (pairsE fs=M.take z):=ah (by rw[hfs,pairsE_pre,he]);have HX0:=ah hx0;clear hfs hx0 HD;refine ‹∀ (a:Act) (w:World),Code.wp _ _ _ a w->_› _ _ ?_
  apply wp_seq_k;intro _ _;go_cut [4] (fun ov wx=> ∃ (m d:Nat) (B:Option Addr) (gs:List En),ov = .slice B m d/\Hid (gs.length=m/\m<=z+1/\pairsE gs=M.take z++(if dd=true then [] else [(kl,vl)])/\Sat w0 (Row 65 2 (.slice B m d) m (gs.flatMap prV)*(RoL (slcsE gs)*(Pt E 43 #[.slice kA kl.length kc,.slice vA vl.length vc,.bool dd]*(Pt g ty cs*(MpC (.slice LA es.length lc) es*F))))) wx))
  case first=>
   have c2:wc.cell? ⟨E,2,none⟩=some (.bool dd):=HX0.o.up3.cell 2
   cases dd with
   | true=>
    go_wp2_with fail;go_meet
    exact⟨z,d,B,fs,rfl,HFl.o,by omega,by rw[HFp.o];simp,HX0.o⟩
   | false=>
    go_upto_region 7 with fail;clear c2;generalize wc=W at*
    obtain⟨Z,hZ⟩: ∃ Z,Z=Pt E 43 #[.slice kA kl.length kc,.slice vA vl.length vc,.bool false]*(Pt g ty cs*(MpC (.slice LA es.length lc) es*F)):=⟨_,rfl⟩;obtain⟨Y,hY⟩: ∃ Y,Y=RoL (slcsE fs)*Z:=⟨_,rfl⟩;obtain⟨X,hX⟩: ∃ X,X=Row 65 2 (.slice B z d) z (fs.flatMap prV)*Y:=⟨_,rfl⟩;have HYE:Hid (∀ v,Sat w0 Y v->v.cell? ⟨E,0,none⟩=some (.slice kA kl.length kc)/\v.cell? ⟨E,1,none⟩=some (.slice vA vl.length vc)):=ah fun v hv=>by
     rw[hY,hZ] at hv;exact⟨hv.up2.cell 0,hv.up2.cell 1⟩
    have HXE:Hid (∀ v,Sat w0 X v->v.cell? ⟨E,0,none⟩=some (.slice kA kl.length kc)/\v.cell? ⟨E,1,none⟩=some (.slice vA vl.length vc)):=ah fun v hv=>by
     rw[hX] at hv;exact HYE.o _ hv.right
    have HXR:Hid (∀ v,Sat w0 X v->Rd v kA kl/\Rd v vA vl):=ah fun v hv=>by
     rw[hX,hY,hZ] at hv;exact HPr.o _ hv.right.right.right.right.right
    have HSW:Hid (Sat w0 X W):=ah (by rw[hX,hY,hZ];exact HX0.o);refine wp_region_held_drew (S:=fun w'=>w'.cell? ⟨E,0,none⟩=some (.slice kA kl.length kc)/\w'.cell? ⟨E,1,none⟩=some (.slice vA vl.length vc)) (by kernel_rfl) (HXE.o _ HSW.o.drew) ?_;intro hS0;refine rtk 0 ?_;refine rtk 2 ?_;refine rtk 3 ?_;refine rtk 6 ?_;refine rtk 7 ?_;refine rgn_both (i:=1) (j:=5) rfl rfl (by kernel_rfl) (fun K hK=>?_) (fun K hK=>?_)
    ·
     go_simp;have hs:=((HSW.o.allocPt 5 #[]).row_pt (n:=0) (cap:=0) (size:=1) (Nat.le_refl _) (Nat.zero_le _) rfl).drew;obtain⟨v1,hv1⟩: ∃ v,v=(W.alloc (.cells #[] 5)).drew:=⟨_,rfl⟩;obtain⟨g1,hg1⟩: ∃ x,x=W.heap.size:=⟨_,rfl⟩;rw[<-hv1, <-hg1] at hs;rw[<-hv1, <-hg1];have HS1:=ah hs;clear hs hv1 hg1;refine hK.out _ _ (HXE.o _ (Sat.right HS1.o)) (fun hS0=>?_);clear hK K;refine rgn_both (i:=4) (j:=5) rfl rfl (by kernel_rfl) (fun K hK=>?_) (fun K hK=>?_)
     ·
      refine step_appS rfl (.tmp 44) (.tmp 46) 41 rfl 5 j1 _ 1 1 Tryz.underlying41 Hj1.o Hz0.o Hz1.o Hz2.o rfl (by decide) (.slice (some ⟨g1,0,none⟩) 0 0) 0 [] rfl w0 _ (by exact HS1.o) kA kl.length kc (kl.map bv) rfl (by exact(HXR.o _ HS1.o.right).1) (by simp) (by intro u hu;obtain⟨b,_,rfl⟩:=List.mem_map.1 hu;rfl) (by unfold maxLen;omega) (by omega) ?_;intro A4 c4 v4 hs;simp only[Nat.zero_add,List.nil_append] at hs ⊢;have HS4:=ah hs;clear hs;refine hK.out _ _ (HXE.o _ (Sat.right HS4.o)) (fun hS0=>?_);clear hK K
      try simp only[Act.put,List.setIfInBounds_toArray,List.set_cons_zero,List.set_cons_succ]
      refine rck 5 fun K hK=>?_
      go_simp;have hs:=(HS4.o.allocPt 5 #[]).row_pt (n:=0) (cap:=0) (size:=1) (Nat.le_refl _) (Nat.zero_le _) rfl;obtain⟨v5,hv5⟩: ∃ v,v=v4.alloc (.cells #[] 5):=⟨_,rfl⟩;obtain⟨g5,hg5⟩: ∃ x,x=v4.heap.size:=⟨_,rfl⟩;rw[<-hv5, <-hg5] at hs;rw[<-hv5, <-hg5];have HS5:=ah hs;clear hs hv5 hg5;refine hK.out _ _ (HXE.o _ (Sat.right (Sat.right HS5.o))) (fun hS0=>?_);clear hK K;refine rck 8 fun K hK=>?_
      refine step_appS rfl (.tmp 48) (.tmp 50) 41 rfl 5 j1 _ 1 1 Tryz.underlying41 Hj1.o Hz0.o Hz1.o Hz2.o rfl (by decide) (.slice (some ⟨g5,0,none⟩) 0 0) 0 [] rfl w0 _ (by exact HS5.o) vA vl.length vc (vl.map bv) rfl (by exact(HXR.o _ HS5.o.right.right).2) (by simp) (by intro u hu;obtain⟨b,_,rfl⟩:=List.mem_map.1 hu;rfl) (by unfold maxLen;omega) (by omega) ?_;intro A8 c8 v8 hs;simp only[Nat.zero_add,List.nil_append] at hs ⊢;have HS8:=ah hs;clear hs;refine hK.out _ _ (HXE.o _ (Sat.right (Sat.right HS8.o))) (fun hS0=>?_);clear hK K
      try simp only[Act.put,List.setIfInBounds_toArray,List.set_cons_zero,List.set_cons_succ]
      refine rtk 9 ?_;refine rck 10 fun K hK=>?_
      go_simp;have HS10:=ah ((HS8.o.up2).alloc' (.cells #[.slice A4 kl.length c4,.slice A8 vl.length c8] 65));refine hK.out _ _ (HXE.o _ (Sat.right (Sat.right HS10.o))) (fun hS0=>?_);clear hK K;refine rck 11 fun K hK=>?_
      have hs10:=HS10.o;rw[hX] at hs10;refine step_appS rfl (.tmp 43) (.tmp 53) 30 rfl 65 j0 _ 2 48 Tryz.underlying30 Hj.o Hy0.o Hy1.o Hy2.o rfl (by decide) (.slice B z d) z (fs.flatMap prV) rfl w0 _ (by exact hs10.of (show _=Row 65 2 (.slice B z d) z (fs.flatMap prV)*(Row 5 1 (.slice A4 kl.length c4) kl.length (kl.map bv)*(Row 5 1 (.slice A8 vl.length c8) vl.length (vl.map bv)*Y)) by ac_rfl)) (some ⟨v8.heap.size,0,none⟩) 1 1 [.slice A4 kl.length c4,.slice A8 vl.length c8] rfl (by exact(lit_rdv _ _ _)) rfl (by intro u hu;simp at hu;rcases hu with rfl | rfl<;>rfl) (by unfold maxLen;omega) (by omega) ?_;intro A11 c11 w11 hs;have HS11:=ah hs;clear hs hs10;refine hK.out _ _ (HYE.o _ (Sat.right (Sat.right (Sat.right HS11.o)))) (fun hS0=>?_);clear hK K
      try simp only[Act.put,List.setIfInBounds_toArray,List.set_cons_zero,List.set_cons_succ]
      refine rtk 12 ?_;refine wpAnyH_done (by kernel_rfl) ?_ _;go_wp2_with fail;go_meet
      have h1:=HS11.o.up2.row_rol;have h2:=(h1.of (show _=Row 5 1 (.slice A8 vl.length c8) vl.length (vl.map bv)*(RoL [(A4,c4,kl)]*(Row 65 2 (.slice A11 (z+1) c11) (z+1) (fs.flatMap prV++[.slice A4 kl.length c4,.slice A8 vl.length c8])*Y)) by ac_rfl)).row_rol;rw[hY] at h2;have h3:=(h2.of (show _=RoL (slcsE fs)*(RoL [(A4,c4,kl)]*(RoL [(A8,c8,vl)]*(Row 65 2 (.slice A11 (z+1) c11) (z+1) (fs.flatMap prV++[.slice A4 kl.length c4,.slice A8 vl.length c8])*Z))) by ac_rfl)).rol_add.rol_add;refine⟨z+1,c11,A11,fs++[⟨(A4,c4,kl),(A8,c8,vl),0,false⟩],rfl,?_,Nat.le_refl _,?_,?_⟩
      .rw[List.length_append,HFl.o];rfl
      .rw[pairsE_app,HFp.o];rfl
      .have e1:slcsE (fs++[⟨(A4,c4,kl),(A8,c8,vl),0,false⟩])=slcsE fs++[(A4,c4,kl)]++[(A8,c8,vl)]:=by
        unfold slcsE;rw[List.flatMap_append,List.append_assoc];rfl
       rw[e1,List.flatMap_append];exact h3.of (by rw[hZ];show _=Row 65 2 (.slice A11 (z+1) c11) (z+1) (fs.flatMap prV++[.slice A4 kl.length c4,.slice A8 vl.length c8])*_;ac_rfl)
     ·
      go_simp;have hs:=(HS1.o.allocPt 5 #[]).row_pt (n:=0) (cap:=0) (size:=1) (Nat.le_refl _) (Nat.zero_le _) rfl;obtain⟨v5,hv5⟩: ∃ v,v=v1.alloc (.cells #[] 5):=⟨_,rfl⟩;obtain⟨g5,hg5⟩: ∃ x,x=v1.heap.size:=⟨_,rfl⟩;rw[<-hv5, <-hg5] at hs;rw[<-hv5, <-hg5];have HS5:=ah hs;clear hs hv5 hg5;refine hK.out _ _ (HXE.o _ (Sat.right (Sat.right HS5.o))) (fun hS0=>?_);clear hK K;refine rck 4 fun K hK=>?_
      refine step_appS rfl (.tmp 44) (.tmp 46) 41 rfl 5 j1 _ 1 1 Tryz.underlying41 Hj1.o Hz0.o Hz1.o Hz2.o rfl (by decide) (.slice (some ⟨g1,0,none⟩) 0 0) 0 [] rfl w0 _ (by exact HS5.o.up2) kA kl.length kc (kl.map bv) rfl (by exact(HXR.o _ HS5.o.right.right).1) (by simp) (by intro u hu;obtain⟨b,_,rfl⟩:=List.mem_map.1 hu;rfl) (by unfold maxLen;omega) (by omega) ?_;intro A4 c4 v4 hs;simp only[Nat.zero_add,List.nil_append] at hs ⊢;have HS4:=ah hs;clear hs;refine hK.out _ _ (HXE.o _ (Sat.right (Sat.right HS4.o))) (fun hS0=>?_);clear hK K
      try simp only[Act.put,List.setIfInBounds_toArray,List.set_cons_zero,List.set_cons_succ]
      refine rck 8 fun K hK=>?_
      refine step_appS rfl (.tmp 48) (.tmp 50) 41 rfl 5 j1 _ 1 1 Tryz.underlying41 Hj1.o Hz0.o Hz1.o Hz2.o rfl (by decide) (.slice (some ⟨g5,0,none⟩) 0 0) 0 [] rfl w0 _ (by exact HS4.o.up2) vA vl.length vc (vl.map bv) rfl (by exact(HXR.o _ HS4.o.right.right).2) (by simp) (by intro u hu;obtain⟨b,_,rfl⟩:=List.mem_map.1 hu;rfl) (by unfold maxLen;omega) (by omega) ?_;intro A8 c8 v8 hs;simp only[Nat.zero_add,List.nil_append] at hs ⊢;have HS8:=ah hs;clear hs;refine hK.out _ _ (HXE.o _ (Sat.right (Sat.right HS8.o))) (fun hS0=>?_);clear hK K
      try simp only[Act.put,List.setIfInBounds_toArray,List.set_cons_zero,List.set_cons_succ]
      refine rtk 9 ?_;refine rck 10 fun K hK=>?_
      go_simp;have HS10:=ah ((HS8.o.up2).alloc' (.cells #[.slice A4 kl.length c4,.slice A8 vl.length c8] 65));refine hK.out _ _ (HXE.o _ (Sat.right (Sat.right HS10.o))) (fun hS0=>?_);clear hK K;refine rck 11 fun K hK=>?_
      have hs10:=HS10.o;rw[hX] at hs10;refine step_appS rfl (.tmp 43) (.tmp 53) 30 rfl 65 j0 _ 2 48 Tryz.underlying30 Hj.o Hy0.o Hy1.o Hy2.o rfl (by decide) (.slice B z d) z (fs.flatMap prV) rfl w0 _ (by exact hs10.of (show _=Row 65 2 (.slice B z d) z (fs.flatMap prV)*(Row 5 1 (.slice A4 kl.length c4) kl.length (kl.map bv)*(Row 5 1 (.slice A8 vl.length c8) vl.length (vl.map bv)*Y)) by ac_rfl)) (some ⟨v8.heap.size,0,none⟩) 1 1 [.slice A4 kl.length c4,.slice A8 vl.length c8] rfl (by exact(lit_rdv _ _ _)) rfl (by intro u hu;simp at hu;rcases hu with rfl | rfl<;>rfl) (by unfold maxLen;omega) (by omega) ?_;intro A11 c11 w11 hs;have HS11:=ah hs;clear hs hs10;refine hK.out _ _ (HYE.o _ (Sat.right (Sat.right (Sat.right HS11.o)))) (fun hS0=>?_);clear hK K
      try simp only[Act.put,List.setIfInBounds_toArray,List.set_cons_zero,List.set_cons_succ]
      refine rtk 12 ?_;refine wpAnyH_done (by kernel_rfl) ?_ _;go_wp2_with fail;go_meet
      have h1:=HS11.o.up2.row_rol;have h2:=(h1.of (show _=Row 5 1 (.slice A8 vl.length c8) vl.length (vl.map bv)*(RoL [(A4,c4,kl)]*(Row 65 2 (.slice A11 (z+1) c11) (z+1) (fs.flatMap prV++[.slice A4 kl.length c4,.slice A8 vl.length c8])*Y)) by ac_rfl)).row_rol;rw[hY] at h2;have h3:=(h2.of (show _=RoL (slcsE fs)*(RoL [(A4,c4,kl)]*(RoL [(A8,c8,vl)]*(Row 65 2 (.slice A11 (z+1) c11) (z+1) (fs.flatMap prV++[.slice A4 kl.length c4,.slice A8 vl.length c8])*Z))) by ac_rfl)).rol_add.rol_add;refine⟨z+1,c11,A11,fs++[⟨(A4,c4,kl),(A8,c8,vl),0,false⟩],rfl,?_,Nat.le_refl _,?_,?_⟩
      .rw[List.length_append,HFl.o];rfl
      .rw[pairsE_app,HFp.o];rfl
      .have e1:slcsE (fs++[⟨(A4,c4,kl),(A8,c8,vl),0,false⟩])=slcsE fs++[(A4,c4,kl)]++[(A8,c8,vl)]:=by
        unfold slcsE;rw[List.flatMap_append,List.append_assoc];rfl
       rw[e1,List.flatMap_append];exact h3.of (by rw[hZ];show _=Row 65 2 (.slice A11 (z+1) c11) (z+1) (fs.flatMap prV++[.slice A4 kl.length c4,.slice A8 vl.length c8])*_;ac_rfl)
    ·
     go_simp;have hs:=((HSW.o.allocPt 5 #[]).row_pt (n:=0) (cap:=0) (size:=1) (Nat.le_refl _) (Nat.zero_le _) rfl).drew;obtain⟨v5,hv5⟩: ∃ v,v=(W.alloc (.cells #[] 5)).drew:=⟨_,rfl⟩;obtain⟨g5,hg5⟩: ∃ x,x=W.heap.size:=⟨_,rfl⟩;rw[<-hv5, <-hg5] at hs;rw[<-hv5, <-hg5];have HS5:=ah hs;clear hs hv5 hg5;refine hK.out _ _ (HXE.o _ (Sat.right HS5.o)) (fun hS0=>?_);clear hK K;refine rck 1 fun K hK=>?_
     go_simp;have hs:=(HS5.o.allocPt 5 #[]).row_pt (n:=0) (cap:=0) (size:=1) (Nat.le_refl _) (Nat.zero_le _) rfl;obtain⟨v1,hv1⟩: ∃ v,v=v5.alloc (.cells #[] 5):=⟨_,rfl⟩;obtain⟨g1,hg1⟩: ∃ x,x=v5.heap.size:=⟨_,rfl⟩;rw[<-hv1, <-hg1] at hs;rw[<-hv1, <-hg1];have HS1:=ah hs;clear hs hv1 hg1;refine hK.out _ _ (HXE.o _ (Sat.right (Sat.right HS1.o))) (fun hS0=>?_);clear hK K;refine rck 4 fun K hK=>?_
     refine step_appS rfl (.tmp 44) (.tmp 46) 41 rfl 5 j1 _ 1 1 Tryz.underlying41 Hj1.o Hz0.o Hz1.o Hz2.o rfl (by decide) (.slice (some ⟨g1,0,none⟩) 0 0) 0 [] rfl w0 _ (by exact HS1.o) kA kl.length kc (kl.map bv) rfl (by exact(HXR.o _ HS1.o.right.right).1) (by simp) (by intro u hu;obtain⟨b,_,rfl⟩:=List.mem_map.1 hu;rfl) (by unfold maxLen;omega) (by omega) ?_;intro A4 c4 v4 hs;simp only[Nat.zero_add,List.nil_append] at hs ⊢;have HS4:=ah hs;clear hs;refine hK.out _ _ (HXE.o _ (Sat.right (Sat.right HS4.o))) (fun hS0=>?_);clear hK K
     try simp only[Act.put,List.setIfInBounds_toArray,List.set_cons_zero,List.set_cons_succ]
     refine rck 8 fun K hK=>?_
     refine step_appS rfl (.tmp 48) (.tmp 50) 41 rfl 5 j1 _ 1 1 Tryz.underlying41 Hj1.o Hz0.o Hz1.o Hz2.o rfl (by decide) (.slice (some ⟨g5,0,none⟩) 0 0) 0 [] rfl w0 _ (by exact HS4.o.up2) vA vl.length vc (vl.map bv) rfl (by exact(HXR.o _ HS4.o.right.right).2) (by simp) (by intro u hu;obtain⟨b,_,rfl⟩:=List.mem_map.1 hu;rfl) (by unfold maxLen;omega) (by omega) ?_;intro A8 c8 v8 hs;simp only[Nat.zero_add,List.nil_append] at hs ⊢;have HS8:=ah hs;clear hs;refine hK.out _ _ (HXE.o _ (Sat.right (Sat.right HS8.o))) (fun hS0=>?_);clear hK K
     try simp only[Act.put,List.setIfInBounds_toArray,List.set_cons_zero,List.set_cons_succ]
     refine rtk 9 ?_;refine rck 10 fun K hK=>?_
     go_simp;have HS10:=ah ((HS8.o.up2).alloc' (.cells #[.slice A4 kl.length c4,.slice A8 vl.length c8] 65));refine hK.out _ _ (HXE.o _ (Sat.right (Sat.right HS10.o))) (fun hS0=>?_);clear hK K;refine rck 11 fun K hK=>?_
     have hs10:=HS10.o;rw[hX] at hs10;refine step_appS rfl (.tmp 43) (.tmp 53) 30 rfl 65 j0 _ 2 48 Tryz.underlying30 Hj.o Hy0.o Hy1.o Hy2.o rfl (by decide) (.slice B z d) z (fs.flatMap prV) rfl w0 _ (by exact hs10.of (show _=Row 65 2 (.slice B z d) z (fs.flatMap prV)*(Row 5 1 (.slice A4 kl.length c4) kl.length (kl.map bv)*(Row 5 1 (.slice A8 vl.length c8) vl.length (vl.map bv)*Y)) by ac_rfl)) (some ⟨v8.heap.size,0,none⟩) 1 1 [.slice A4 kl.length c4,.slice A8 vl.length c8] rfl (by exact(lit_rdv _ _ _)) rfl (by intro u hu;simp at hu;rcases hu with rfl | rfl<;>rfl) (by unfold maxLen;omega) (by omega) ?_;intro A11 c11 w11 hs;have HS11:=ah hs;clear hs hs10;refine hK.out _ _ (HYE.o _ (Sat.right (Sat.right (Sat.right HS11.o)))) (fun hS0=>?_);clear hK K
     try simp only[Act.put,List.setIfInBounds_toArray,List.set_cons_zero,List.set_cons_succ]
     refine rtk 12 ?_;refine wpAnyH_done (by kernel_rfl) ?_ _;go_wp2_with fail;go_meet
     have h1:=HS11.o.up2.row_rol;have h2:=(h1.of (show _=Row 5 1 (.slice A8 vl.length c8) vl.length (vl.map bv)*(RoL [(A4,c4,kl)]*(Row 65 2 (.slice A11 (z+1) c11) (z+1) (fs.flatMap prV++[.slice A4 kl.length c4,.slice A8 vl.length c8])*Y)) by ac_rfl)).row_rol;rw[hY] at h2;have h3:=(h2.of (show _=RoL (slcsE fs)*(RoL [(A4,c4,kl)]*(RoL [(A8,c8,vl)]*(Row 65 2 (.slice A11 (z+1) c11) (z+1) (fs.flatMap prV++[.slice A4 kl.length c4,.slice A8 vl.length c8])*Z))) by ac_rfl)).rol_add.rol_add;refine⟨z+1,c11,A11,fs++[⟨(A4,c4,kl),(A8,c8,vl),0,false⟩],rfl,?_,Nat.le_refl _,?_,?_⟩
     .rw[List.length_append,HFl.o];rfl
     .rw[pairsE_app,HFp.o];rfl
     .have e1:slcsE (fs++[⟨(A4,c4,kl),(A8,c8,vl),0,false⟩])=slcsE fs++[(A4,c4,kl)]++[(A8,c8,vl)]:=by
       unfold slcsE;rw[List.flatMap_append,List.append_assoc];rfl
      rw[e1,List.flatMap_append];exact h3.of (by rw[hZ];show _=Row 65 2 (.slice A11 (z+1) c11) (z+1) (fs.flatMap prV++[.slice A4 kl.length c4,.slice A8 vl.length c8])*_;ac_rfl)
  case rest=>
   obtain⟨m,d2,B2,gs,rfl,HG⟩:=hcut;refine ‹∀ (a:Act) (w:World),Code.wp _ _ _ a w->_› _ _ ?_
   apply wp_seq_k;intro _ _;have hsr:=HG.o.2.2.2.drew;have c0:wc.drew.cell? ⟨g,0,none⟩=some (.slice LA es.length lc):=(hsr.up4.cell 0).trans HCs.o;by_cases hlt:z<es.length
   .obtain⟨lb,lo,rfl,hq⟩:=prs_at hsr.right.right.right.right.mpc_rd (by omega);obtain⟨y0,y1⟩:=hq z hlt;have ra:=hsr.right.right.right.right.mpc_ens _ (List.getElem_mem hlt);obtain⟨SA,SB,B1,e1,e2,e3,e4⟩:=str_two es[z].key.2.2 kl;have s1:=str_any ra.1 es[z].key.2.1;have s2:=str_any (HPr.o _ hsr.right.right.right.right.right).1 kc;rw[<-e1] at s1;rw[<-e2] at s2;have HYz:Hid (y=if B1=true then z+1 else z):=ah (by
     have hzm:z<M.length:=by rw[<-he,pairs_len];exact hlt
     have hk:=HEl.o z hlt;have hzz:=HZ.o;rw[HY.o];unfold dropK;subst hzz;rw[dif_pos hzm,hk,e4];simp only[decide_eq_true_eq])
    clear hq ra e1 e2 e4;generalize es[z]=q at*
    obtain⟨⟨kB,kd,kl0⟩,⟨vB,vd,vl0⟩,eq0,dd0⟩:=q;replace y0:_=some (Value.slice kB kl0.length kd):=y0;dsimp only at s1;have hii:(z:Int)<es.length:=by omega
    have E3:=ah e3;have G0:Hid (wc.drew.cell? ⟨g,0,none⟩=some (.slice (some ⟨lb,lo,none⟩) es.length lc)/\wc.drew.cell? ⟨lb,lo+z*2,none⟩=some (.slice kB kl0.length kd)/\wc.drew.cell? ⟨E,0,none⟩=some (.slice kA kl.length kc)/\(convert 41 9 (.slice kB kl0.length kd)).run Tryz.prog wc.drew = .ok (.string SA) wc.drew/\(convert 41 9 (.slice kA kl.length kc)).run Tryz.prog wc.drew = .ok (.string SB) wc.drew):=ah ⟨c0,y0,hsr.up3.cell 0,s1,s2⟩;clear y0 y1 s1 s2 e3;go_upto_region 8 with fail
    cases B1 with
    | true=>
     have e3:=E3.o;refine wp_region_held_drew (S:=fun w'=>w'.cell? ⟨g,0,none⟩=some (.slice (some ⟨lb,lo,none⟩) es.length lc)/\w'.cell? ⟨lb,lo+z*2,none⟩=some (.slice kB kl0.length kd)/\w'.cell? ⟨E,0,none⟩=some (.slice kA kl.length kc)/\(convert 41 9 (.slice kB kl0.length kd)).run Tryz.prog w' = .ok (.string SA) w'/\(convert 41 9 (.slice kA kl.length kc)).run Tryz.prog w' = .ok (.string SB) w') (by kernel_rfl) G0.o ?_;intro hS0;refine rtk 0 ?_;refine rtk 1 ?_;refine rtk 2 ?_;refine rtk 3 ?_;refine rtk 4 ?_;refine rtk 5 ?_;refine rtk 6 ?_;refine rtk 7 ?_;refine rtk 8 ?_;refine rtk 9 ?_;refine rtk 10 ?_;refine rtk 11 ?_;refine rtk 12 ?_;refine rtk 13 ?_;refine rtk 14 ?_;refine rtk 15 ?_;refine rtk 16 ?_;refine rtk 17 ?_;refine rtk 18 ?_;refine rtk 19 ?_;refine rtk 20 ?_;refine rtk 21 ?_;refine wpAnyH_done (by kernel_rfl) ?_ _;go_upto_region 10 with fail;have hyz:y=z+1:=by rw[HYz.o,if_pos rfl]
     rw[show (z:Int)+1=(y:Int) by omega];have hyn:y<=es.length:=by omega
     clear hyz hlt hii E3 G0 hS0 HYz e3;obtain⟨W9,hW9⟩: ∃ W9,W9=wc.drew:=⟨_,rfl⟩;rw[<-hW9] at hsr;rw[<-hW9];have c0:W9.cell? ⟨g,0,none⟩=some (.slice (some ⟨lb,lo,none⟩) es.length lc):=(hsr.up4.cell 0).trans HCs.o;have HS9:=ah hsr;clear hW9 hsr;by_cases hly:lc=y
     .have hrd:RdV W9 (some ⟨lb,lo,none⟩) ((es.drop y).flatMap prV):=by
       rw[List.drop_of_length_le (by omega)];exact RdV.nil _ _
      have hmz:=HG.o.2.1;go_wp2_with (at_builtin;refine wpList_appS rfl (.tmp 80) (.tmp 86) 30 rfl 65 j0 _ 2 48 Tryz.underlying30 Hj.o Hy0.o Hy1.o Hy2.o rfl (by decide) (.slice B2 m d2) m (gs.flatMap prV) rfl w0 _ (by exact HS9.o) (some ⟨lb,lo,none⟩) (es.length - y) 0 ((es.drop y).flatMap prV) rfl (by exact hrd) (by rw[prs_len,List.length_drop]) (prs_ones _) (by unfold maxLen;omega) (by omega) ?_;intro B10 c10 w10 hs10;have HS10:=ah hs10;have x1:=(hs10.up4.cell 0).trans HCs.o;have f1:=hs10.up4.frozen 0;clear hs10);go_end0
      exact⟨rfl,.slice B10 (m+(es.length - y)) c10,put_fin HS10.o HG.o.1 rfl (by have h9:=HPe.o gs (by have h8:=HG.o.2.2.1;rw[HZ.o] at h8;exact h8);rw[<-HY.o] at h9;exact h9)⟩
     .have hrd:RdV W9 (some ⟨lb,lo+y*2,none⟩) ((es.drop y).flatMap prV):=by
       have h4:=RdV.drop HS9.o.right.right.right.right.mpc_rd (k:=y*2) (cap:=lc*2) (by rw[prs_len];omega) (by rw[prs_len];omega);rw[if_neg (by omega)] at h4;have e5:(es.flatMap prV).drop (y*2)=(es.drop y).flatMap prV:=prs_dp es y;rw[e5] at h4;have e6:Option.map (fun x:Addr=>x.add (y*2)) (some ⟨lb,lo,none⟩)=some ⟨lb,lo+y*2,none⟩:=by simp[Addr.add]
       rw[e6] at h4;exact h4
      have hmz:=HG.o.2.1;go_wp2_with (at_builtin;refine wpList_appS rfl (.tmp 80) (.tmp 86) 30 rfl 65 j0 _ 2 48 Tryz.underlying30 Hj.o Hy0.o Hy1.o Hy2.o rfl (by decide) (.slice B2 m d2) m (gs.flatMap prV) rfl w0 _ (by exact HS9.o) (some ⟨lb,lo+y*2,none⟩) (es.length - y) (lc - y) ((es.drop y).flatMap prV) rfl (by exact hrd) (by rw[prs_len,List.length_drop]) (prs_ones _) (by unfold maxLen;omega) (by omega) ?_;intro B10 c10 w10 hs10;have HS10:=ah hs10;have x1:=(hs10.up4.cell 0).trans HCs.o;have f1:=hs10.up4.frozen 0;clear hs10);go_end0
      exact⟨rfl,.slice B10 (m+(es.length - y)) c10,put_fin HS10.o HG.o.1 rfl (by have h9:=HPe.o gs (by have h8:=HG.o.2.2.1;rw[HZ.o] at h8;exact h8);rw[<-HY.o] at h9;exact h9)⟩
    | false=>
     have e3:=E3.o;refine wp_region_held_drew (S:=fun w'=>w'.cell? ⟨g,0,none⟩=some (.slice (some ⟨lb,lo,none⟩) es.length lc)/\w'.cell? ⟨lb,lo+z*2,none⟩=some (.slice kB kl0.length kd)/\w'.cell? ⟨E,0,none⟩=some (.slice kA kl.length kc)/\(convert 41 9 (.slice kB kl0.length kd)).run Tryz.prog w' = .ok (.string SA) w'/\(convert 41 9 (.slice kA kl.length kc)).run Tryz.prog w' = .ok (.string SB) w') (by kernel_rfl) G0.o ?_;intro hS0;refine rtk 0 ?_;refine rtk 1 ?_;refine rtk 2 ?_;refine rtk 3 ?_;refine rtk 4 ?_;refine rtk 5 ?_;refine rtk 6 ?_;refine rtk 7 ?_;refine rtk 8 ?_;refine rtk 9 ?_;refine rtk 10 ?_;refine rtk 11 ?_;refine rtk 12 ?_;refine rtk 13 ?_;refine rtk 14 ?_;refine rtk 15 ?_;refine rtk 16 ?_;refine rtk 17 ?_;refine rtk 18 ?_;refine rtk 19 ?_;refine rtk 20 ?_;refine rtk 21 ?_;refine wpAnyH_done (by kernel_rfl) ?_ _;go_upto_region 10 with fail;have hyz:y=z:=by rw[HYz.o,if_neg (by simp)]
     rw[<-hyz];have hyn:y<=es.length:=by omega
     clear hyz hlt hii E3 G0 hS0 HYz e3;obtain⟨W9,hW9⟩: ∃ W9,W9=wc.drew:=⟨_,rfl⟩;rw[<-hW9] at hsr;rw[<-hW9];have c0:W9.cell? ⟨g,0,none⟩=some (.slice (some ⟨lb,lo,none⟩) es.length lc):=(hsr.up4.cell 0).trans HCs.o;have HS9:=ah hsr;clear hW9 hsr;by_cases hly:lc=y
     .have hrd:RdV W9 (some ⟨lb,lo,none⟩) ((es.drop y).flatMap prV):=by
       rw[List.drop_of_length_le (by omega)];exact RdV.nil _ _
      have hmz:=HG.o.2.1;go_wp2_with (at_builtin;refine wpList_appS rfl (.tmp 80) (.tmp 86) 30 rfl 65 j0 _ 2 48 Tryz.underlying30 Hj.o Hy0.o Hy1.o Hy2.o rfl (by decide) (.slice B2 m d2) m (gs.flatMap prV) rfl w0 _ (by exact HS9.o) (some ⟨lb,lo,none⟩) (es.length - y) 0 ((es.drop y).flatMap prV) rfl (by exact hrd) (by rw[prs_len,List.length_drop]) (prs_ones _) (by unfold maxLen;omega) (by omega) ?_;intro B10 c10 w10 hs10;have HS10:=ah hs10;have x1:=(hs10.up4.cell 0).trans HCs.o;have f1:=hs10.up4.frozen 0;clear hs10);go_end0
      exact⟨rfl,.slice B10 (m+(es.length - y)) c10,put_fin HS10.o HG.o.1 rfl (by have h9:=HPe.o gs (by have h8:=HG.o.2.2.1;rw[HZ.o] at h8;exact h8);rw[<-HY.o] at h9;exact h9)⟩
     .have hrd:RdV W9 (some ⟨lb,lo+y*2,none⟩) ((es.drop y).flatMap prV):=by
       have h4:=RdV.drop HS9.o.right.right.right.right.mpc_rd (k:=y*2) (cap:=lc*2) (by rw[prs_len];omega) (by rw[prs_len];omega);rw[if_neg (by omega)] at h4;have e5:(es.flatMap prV).drop (y*2)=(es.drop y).flatMap prV:=prs_dp es y;rw[e5] at h4;have e6:Option.map (fun x:Addr=>x.add (y*2)) (some ⟨lb,lo,none⟩)=some ⟨lb,lo+y*2,none⟩:=by simp[Addr.add]
       rw[e6] at h4;exact h4
      have hmz:=HG.o.2.1;go_wp2_with (at_builtin;refine wpList_appS rfl (.tmp 80) (.tmp 86) 30 rfl 65 j0 _ 2 48 Tryz.underlying30 Hj.o Hy0.o Hy1.o Hy2.o rfl (by decide) (.slice B2 m d2) m (gs.flatMap prV) rfl w0 _ (by exact HS9.o) (some ⟨lb,lo+y*2,none⟩) (es.length - y) (lc - y) ((es.drop y).flatMap prV) rfl (by exact hrd) (by rw[prs_len,List.length_drop]) (prs_ones _) (by unfold maxLen;omega) (by omega) ?_;intro B10 c10 w10 hs10;have HS10:=ah hs10;have x1:=(hs10.up4.cell 0).trans HCs.o;have f1:=hs10.up4.frozen 0;clear hs10);go_end0
      exact⟨rfl,.slice B10 (m+(es.length - y)) c10,put_fin HS10.o HG.o.1 rfl (by have h9:=HPe.o gs (by have h8:=HG.o.2.2.1;rw[HZ.o] at h8;exact h8);rw[<-HY.o] at h9;exact h9)⟩
   .have hii:¬ (z:Int)<es.length:=by omega
    have G0:=ah c0;have HYz:Hid (y=z):=ah (by
     rw[HY.o];have hzz:=HZ.o;unfold dropK;rw[dif_neg (by rw[<-hzz, <-he,pairs_len];omega)];exact hzz.symm)
    clear c0;go_upto_region 8 with fail;refine wp_region_held_drew (S:=fun w'=>w'.cell? ⟨g,0,none⟩=some (.slice LA es.length lc)) (by kernel_rfl) G0.o ?_;intro hS0;refine rtk 0 ?_;refine rtk 1 ?_;refine rtk 2 ?_;refine rtk 3 ?_;refine rtk 4 ?_;refine rtk 5 ?_;refine rtk 6 ?_;refine rtk 7 ?_;refine rsk 8 ?_;refine rsk 9 ?_;refine rsk 10 ?_;refine rsk 11 ?_;refine rsk 12 ?_;refine rsk 13 ?_;refine rsk 14 ?_;refine rsk 15 ?_;refine rsk 16 ?_;refine rsk 17 ?_;refine rsk 18 ?_;refine rsk 19 ?_;refine rsk 20 ?_;refine rtk 21 ?_;refine wpAnyH_done (by kernel_rfl) ?_ _;go_upto_region 10 with fail;have hyz:=HYz.o;have hyn:y<=es.length:=by omega
    rw[<-hyz];rcases hsr.right.right.right.right.mpc_w with ⟨e1,e2,e4⟩ | ⟨lb,e1⟩
    .have e3:=e2;have HE0:Hid (es.drop y=[]):=ah (List.drop_of_length_le (by omega));have hy0:y=0:=by omega
     subst e1;have c0:wc.drew.cell? ⟨g,0,none⟩=some (.slice none 0 0):=by rw[G0.o,e2,e4]
     have HS9:=ah hsr;have HLq:Hid (es.length=0):=e2;clear hyz hlt hii G0 hS0 HYz hsr e2 e3 e4 hyn;subst hy0;obtain⟨W9,hW9⟩: ∃ W9,W9=wc.drew:=⟨_,rfl⟩;rw[<-hW9] at HS9 c0;rw[<-hW9];clear hW9;have hmz:=HG.o.2.1;go_wp2_with (at_builtin;refine wpList_appS rfl (.tmp 80) (.tmp 86) 30 rfl 65 j0 _ 2 48 Tryz.underlying30 Hj.o Hy0.o Hy1.o Hy2.o rfl (by decide) (.slice B2 m d2) m (gs.flatMap prV) rfl w0 _ (by exact HS9.o) none 0 0 [] rfl (by exact RdV.nil _ _) rfl (by intro u hu;cases hu) (by unfold maxLen;omega) (by omega) ?_;intro B10 c10 w10 hs10;have HS10:=ah hs10;have x1:=(hs10.up4.cell 0).trans HCs.o;have f1:=hs10.up4.frozen 0;clear hs10);go_end0
     have h10:=HS10.o;have e10:(es.drop 0).flatMap prV=[]:=by rw[HE0.o];rfl
     rw[<-e10] at h10;exact⟨rfl,.slice B10 m c10,put_fin (q:=0) h10 HG.o.1 (by rw[HLq.o]) (by have h9:=HPe.o gs (by have h8:=HG.o.2.2.1;rw[HZ.o] at h8;exact h8);rw[<-HY.o] at h9;exact h9)⟩
    .subst e1;obtain⟨lo,hlo⟩: ∃ lo,lo=0:=⟨_,rfl⟩;have HCt:Hid (cs[0]?=some (Value.slice (some ⟨lb,lo,none⟩) es.length lc)):=ah (by rw[hlo];exact HCs.o);rw[<-hlo] at hsr G0;clear HCs;have HCs:=HCt;clear HCt;clear hyz hlt hii G0 hS0 HYz hlo;obtain⟨W9,hW9⟩: ∃ W9,W9=wc.drew:=⟨_,rfl⟩;rw[<-hW9] at hsr;rw[<-hW9];have c0:W9.cell? ⟨g,0,none⟩=some (.slice (some ⟨lb,lo,none⟩) es.length lc):=(hsr.up4.cell 0).trans HCs.o;have HS9:=ah hsr;clear hW9 hsr;by_cases hly:lc=y
     .have hrd:RdV W9 (some ⟨lb,lo,none⟩) ((es.drop y).flatMap prV):=by
       rw[List.drop_of_length_le (by omega)];exact RdV.nil _ _
      have hmz:=HG.o.2.1;go_wp2_with (at_builtin;refine wpList_appS rfl (.tmp 80) (.tmp 86) 30 rfl 65 j0 _ 2 48 Tryz.underlying30 Hj.o Hy0.o Hy1.o Hy2.o rfl (by decide) (.slice B2 m d2) m (gs.flatMap prV) rfl w0 _ (by exact HS9.o) (some ⟨lb,lo,none⟩) (es.length - y) 0 ((es.drop y).flatMap prV) rfl (by exact hrd) (by rw[prs_len,List.length_drop]) (prs_ones _) (by unfold maxLen;omega) (by omega) ?_;intro B10 c10 w10 hs10;have HS10:=ah hs10;have x1:=(hs10.up4.cell 0).trans HCs.o;have f1:=hs10.up4.frozen 0;clear hs10);go_end0
      exact⟨rfl,.slice B10 (m+(es.length - y)) c10,put_fin HS10.o HG.o.1 rfl (by have h9:=HPe.o gs (by have h8:=HG.o.2.2.1;rw[HZ.o] at h8;exact h8);rw[<-HY.o] at h9;exact h9)⟩
     .have hrd:RdV W9 (some ⟨lb,lo+y*2,none⟩) ((es.drop y).flatMap prV):=by
       have h4:=RdV.drop HS9.o.right.right.right.right.mpc_rd (k:=y*2) (cap:=lc*2) (by rw[prs_len];omega) (by rw[prs_len];omega);rw[if_neg (by omega)] at h4;have e5:(es.flatMap prV).drop (y*2)=(es.drop y).flatMap prV:=prs_dp es y;rw[e5] at h4;have e6:Option.map (fun x:Addr=>x.add (y*2)) (some ⟨lb,lo,none⟩)=some ⟨lb,lo+y*2,none⟩:=by simp[Addr.add]
       rw[e6] at h4;exact h4
      have hmz:=HG.o.2.1;go_wp2_with (at_builtin;refine wpList_appS rfl (.tmp 80) (.tmp 86) 30 rfl 65 j0 _ 2 48 Tryz.underlying30 Hj.o Hy0.o Hy1.o Hy2.o rfl (by decide) (.slice B2 m d2) m (gs.flatMap prV) rfl w0 _ (by exact HS9.o) (some ⟨lb,lo+y*2,none⟩) (es.length - y) (lc - y) ((es.drop y).flatMap prV) rfl (by exact hrd) (by rw[prs_len,List.length_drop]) (prs_ones _) (by unfold maxLen;omega) (by omega) ?_;intro B10 c10 w10 hs10;have HS10:=ah hs10;have x1:=(hs10.up4.cell 0).trans HCs.o;have f1:=hs10.up4.frozen 0;clear hs10);go_end0
      exact⟨rfl,.slice B10 (m+(es.length - y)) c10,put_fin HS10.o HG.o.1 rfl (by have h9:=HPe.o gs (by have h8:=HG.o.2.2.1;rw[HZ.o] at h8;exact h8);rw[<-HY.o] at h9;exact h9)⟩
end
end Go.Proofs.YtmbaiglpgaoogaaGreat
