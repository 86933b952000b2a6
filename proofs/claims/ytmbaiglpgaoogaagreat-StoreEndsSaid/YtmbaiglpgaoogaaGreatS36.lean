/- Joined, as they were built one by one: Sto26. -/
import Derived.Test.YtmbaiglpgaoogaaGreatS02
import Derived.Test.YtmbaiglpgaoogaaGreatS33
namespace Go.Proofs.YtmbaiglpgaoogaaGreat
open Go.RowKit
set_option linter.unusedVariables false
set_option maxRecDepth 100000
def pairsE (es:List En):List Kv:=es.map fun q=>pairE q.ent
theorem pairs_len (es:List En):(pairsE es).length=es.length:=by unfold pairsE;rw[List.length_map]
theorem pairsE_take {qs:List En} {i:Nat} (hi:i<qs.length):(pairsE qs).take (i+1)=(pairsE qs).take i++[(qs[i].key.2.2,qs[i].value.2.2)]:=by
 unfold pairsE;rw[List.take_add_one,List.getElem?_eq_getElem (by rw[List.length_map];exact hi),List.getElem_map];rfl
theorem pairs_ne {es fs:List En} {i:Nat} (ha:i<es.length) (hb:i<fs.length) (h:(es[i].key.2.2,es[i].value.2.2)≠(fs[i].key.2.2,fs[i].value.2.2)):pairsE es≠pairsE fs:=fun e=>by
 apply h;have h1:=congrArg (fun l=>l[i]?) e;unfold pairsE at h1;simp only[List.getElem?_map,List.getElem?_eq_getElem ha,List.getElem?_eq_getElem hb,Option.map_some,Option.some.injEq] at h1;exact h1
section
variable {w0 w:World} {F:SP}
set_option maxHeartbeats 8000000 in
theorem pairs_any (A B:Option Addr) (c d:Nat) (es fs:List En) (w:World) (h1:RdV w A (es.flatMap prV)) (r1:EnsR w es) (h2:RdV w B (fs.flatMap prV)) (r2:EnsR w fs) (hn:es.length≤1000000):
  Calls Tryz.prog 23 #[.slice A es.length c,.slice B fs.length d] w fun x w'=>x = .returned (.bool (decide (pairsE es=pairsE fs)))∧Chg No w w':=by
 have H1:=ah h1;have H2:=ah h2;have R1:=ah r1;have R2:=ah r2;clear h1 h2 r1 r2;by_cases hl:es.length=fs.length
 case neg=>
  have hD:decide (pairsE es=pairsE fs)=false:=decide_eq_false fun e=>hl (by have:=congrArg List.length e;rw[pairs_len,pairs_len] at this;exact this)
  rw[hD];have hne:((es.length:Int) !=fs.length)=true:=by rw[bne_iff_ne];omega
  clear hD hl;go_enter Tryz.func23, Tryz.ntmps23;go_wp2_with fail;go_ret;exact⟨rfl,Chg.refl _ _⟩
 case pos=>
  obtain⟨n,hN⟩: ∃ n,n=es.length:=⟨_,rfl⟩;have HNa:Hid (es.length=n):=hN.symm;have HNb:Hid (fs.length=n):=by unfold Hid;omega
  rw[←hl, ←hN];rw[←hN] at hn;clear hN hl;go_enter Tryz.func23, Tryz.ntmps23;go_wp2_with fail;go_loopw [5] (fun iv wr=> ∃ (i:Nat),i≤n∧iv = .int .i64 (i:Int)∧Hid ((pairsE es).take i=(pairsE fs).take i∧Chg No w wr)) (fun iv _=>n - (intOf iv).toNat)
  case atStart=>exact⟨0,by omega,rfl,rfl,Chg.refl _ _⟩
  case round=>
   obtain⟨i,hi,rfl,HD⟩:=hrel;by_cases hlt:i<n
   ·have hia:i<es.length:=by rw[HNa.out];exact hlt
    have hib:i<fs.length:=by rw[HNb.out];exact hlt
    obtain⟨la,oa,rfl,hqa⟩:=prs_at (H1.out.new HD.out.2) (by omega);obtain⟨lb,ob,rfl,hqb⟩:=prs_at (H2.out.new HD.out.2) (by omega);obtain⟨y0,y1⟩:=hqa i hia;obtain⟨z0,z1⟩:=hqb i hib;have ra:=R1.out _ (List.getElem_mem hia);have rb:=R2.out _ (List.getElem_mem hib);have ta:=pairsE_take hia;have tb:=pairsE_take hib;have tn:=fun h=>pairs_ne (es:=es) (fs:=fs) hia hib h
    generalize es[i]=p at*
    generalize fs[i]=q at*
    obtain⟨⟨kA,kc,kl⟩,⟨vA,vc,vl⟩,eq1,dd1⟩:=p;obtain⟨⟨kB,lc,ml⟩,⟨vB,uc,ul⟩,eq2,dd2⟩:=q;replace y0:_=some (Value.slice kA kl.length kc):=y0;replace y1:_=some (Value.slice vA vl.length vc):=y1;replace z0:_=some (Value.slice kB ml.length lc):=z0;replace z1:_=some (Value.slice vB ul.length uc):=z1;dsimp only at ta tb tn;have hk:=HD.out.2.drew;obtain⟨SA,SB,B1,e1,e2,e3,e4⟩:=str_two kl ml;obtain⟨TA,TB,C1,g1,g2,g3,g4⟩:=str_two vl ul;have s1:=str_any (ra.1.new hk) kc;have s2:=str_any (rb.1.new hk) lc;have s3:=str_any (ra.2.new hk) vc;have s4:=str_any (rb.2.new hk) uc;dsimp only at s1 s2 s3 s4;rw[←e1] at s1;rw[←e2] at s2;rw[←g1] at s3;rw[←g2] at s4;have Y0:=ah y0;have Y1:=ah y1;have Z0:=ah z0;have Z1:=ah z1;have S1:=ah s1;have S2:=ah s2;have S3:=ah s3;have S4:=ah s4;have TAk:=ah ta;have TBk:=ah tb;have TN:=ah tn;have E4:=ah e4;have G4:=ah g4;have hii:(i:Int)<n:=by omega
    clear hqa hqb ra rb ta tb tn hk e1 e2 e4 g1 g2 g4 y0 y1 z0 z1 s1 s2 s3 s4 hia hib
    cases B1
    ·go_upto_region 6 with fail;refine wp_region_held_drew (S:=fun w'=>w'.cell? ⟨la,oa+i*2,none⟩=some (.slice kA kl.length kc)∧w'.cell? ⟨la,oa+i*2+1,none⟩=some (.slice vA vl.length vc)∧w'.cell? ⟨lb,ob+i*2,none⟩=some (.slice kB ml.length lc)∧w'.cell? ⟨lb,ob+i*2+1,none⟩=some (.slice vB ul.length uc)∧(convert 41 9 (.slice kA kl.length kc)).run Tryz.prog w' = .ok (.string SA) w'∧(convert 41 9 (.slice kB ml.length lc)).run Tryz.prog w' = .ok (.string SB) w'∧(convert 41 9 (.slice vA vl.length vc)).run Tryz.prog w' = .ok (.string TA) w'∧(convert 41 9 (.slice vB ul.length uc)).run Tryz.prog w' = .ok (.string TB) w') (by kernel_rfl) ⟨(by exact Y0.out),(by exact Y1.out),(by exact Z0.out),(by exact Z1.out),S1.out,S2.out,S3.out,S4.out⟩ ?_;intro hS0;refine rtk 0 ?_;refine rtk 1 ?_;refine rtk 2 ?_;refine rtk 3 ?_;refine rtk 4 ?_;refine rtk 5 ?_;refine rtk 6 ?_;refine rtk 7 ?_;refine rtk 8 ?_;refine rtk 9 ?_;refine rtk 10 ?_;refine rtk 11 ?_;refine rtk 12 ?_;refine rtk 13 ?_;refine rsk 14 ?_;refine rsk 15 ?_;refine rsk 16 ?_;refine rsk 17 ?_;refine rsk 18 ?_;refine rsk 19 ?_;refine rsk 20 ?_;refine rsk 21 ?_;refine rsk 22 ?_;refine rsk 23 ?_;refine rsk 24 ?_;refine rsk 25 ?_;refine rsk 26 ?_;refine rtk 27 ?_;refine wpAnyH_done (by kernel_rfl) ?_ _;go_wp2_with fail;go_ret;refine⟨?_,HD.out.2.drew⟩;rw[decide_eq_false (TN.out fun e=>by injection e with e5 e6;have:=E4.out;rw[decide_eq_true e5] at this;cases this)];rfl
    ·cases C1
     ·go_upto_region 6 with fail;refine wp_region_held_drew (S:=fun w'=>w'.cell? ⟨la,oa+i*2,none⟩=some (.slice kA kl.length kc)∧w'.cell? ⟨la,oa+i*2+1,none⟩=some (.slice vA vl.length vc)∧w'.cell? ⟨lb,ob+i*2,none⟩=some (.slice kB ml.length lc)∧w'.cell? ⟨lb,ob+i*2+1,none⟩=some (.slice vB ul.length uc)∧(convert 41 9 (.slice kA kl.length kc)).run Tryz.prog w' = .ok (.string SA) w'∧(convert 41 9 (.slice kB ml.length lc)).run Tryz.prog w' = .ok (.string SB) w'∧(convert 41 9 (.slice vA vl.length vc)).run Tryz.prog w' = .ok (.string TA) w'∧(convert 41 9 (.slice vB ul.length uc)).run Tryz.prog w' = .ok (.string TB) w') (by kernel_rfl) ⟨(by exact Y0.out),(by exact Y1.out),(by exact Z0.out),(by exact Z1.out),S1.out,S2.out,S3.out,S4.out⟩ ?_;intro hS0;refine rtk 0 ?_;refine rtk 1 ?_;refine rtk 2 ?_;refine rtk 3 ?_;refine rtk 4 ?_;refine rtk 5 ?_;refine rtk 6 ?_;refine rtk 7 ?_;refine rtk 8 ?_;refine rtk 9 ?_;refine rtk 10 ?_;refine rtk 11 ?_;refine rtk 12 ?_;refine rtk 13 ?_;refine rtk 14 ?_;refine rtk 15 ?_;refine rtk 16 ?_;refine rtk 17 ?_;refine rtk 18 ?_;refine rtk 19 ?_;refine rtk 20 ?_;refine rtk 21 ?_;refine rtk 22 ?_;refine rtk 23 ?_;refine rtk 24 ?_;refine rtk 25 ?_;refine rtk 26 ?_;refine rtk 27 ?_;refine wpAnyH_done (by kernel_rfl) ?_ _;go_wp2_with fail;go_ret;refine⟨?_,HD.out.2.drew⟩;rw[decide_eq_false (TN.out fun e=>by injection e with e5 e6;have:=G4.out;rw[decide_eq_true e6] at this;cases this)];rfl
     ·go_upto_region 6 with fail;refine wp_region_held_drew (S:=fun w'=>w'.cell? ⟨la,oa+i*2,none⟩=some (.slice kA kl.length kc)∧w'.cell? ⟨la,oa+i*2+1,none⟩=some (.slice vA vl.length vc)∧w'.cell? ⟨lb,ob+i*2,none⟩=some (.slice kB ml.length lc)∧w'.cell? ⟨lb,ob+i*2+1,none⟩=some (.slice vB ul.length uc)∧(convert 41 9 (.slice kA kl.length kc)).run Tryz.prog w' = .ok (.string SA) w'∧(convert 41 9 (.slice kB ml.length lc)).run Tryz.prog w' = .ok (.string SB) w'∧(convert 41 9 (.slice vA vl.length vc)).run Tryz.prog w' = .ok (.string TA) w'∧(convert 41 9 (.slice vB ul.length uc)).run Tryz.prog w' = .ok (.string TB) w') (by kernel_rfl) ⟨(by exact Y0.out),(by exact Y1.out),(by exact Z0.out),(by exact Z1.out),S1.out,S2.out,S3.out,S4.out⟩ ?_;intro hS0;refine rtk 0 ?_;refine rtk 1 ?_;refine rtk 2 ?_;refine rtk 3 ?_;refine rtk 4 ?_;refine rtk 5 ?_;refine rtk 6 ?_;refine rtk 7 ?_;refine rtk 8 ?_;refine rtk 9 ?_;refine rtk 10 ?_;refine rtk 11 ?_;refine rtk 12 ?_;refine rtk 13 ?_;refine rtk 14 ?_;refine rtk 15 ?_;refine rtk 16 ?_;refine rtk 17 ?_;refine rtk 18 ?_;refine rtk 19 ?_;refine rtk 20 ?_;refine rtk 21 ?_;refine rtk 22 ?_;refine rtk 23 ?_;refine rtk 24 ?_;refine rtk 25 ?_;refine rtk 26 ?_;refine rtk 27 ?_;refine wpAnyH_done (by kernel_rfl) ?_ _;go_wp2_with fail;go_roundw
      ·refine⟨i+1,by omega,by push_cast;rfl,?_,HD.out.2.drew⟩;rw[TAk.out,TBk.out,HD.out.1,of_decide_eq_true E4.out.symm,of_decide_eq_true G4.out.symm]
      ·simp[intOf];omega
   ·have hie:i=n:=by omega
    subst hie;have HE:Hid (decide (pairsE es=pairsE fs)=true):=by
     have h1:=HD.out.1;rw[List.take_of_length_le (by rw[pairs_len,HNa.out];omega),List.take_of_length_le (by rw[pairs_len,HNb.out];omega)] at h1;exact decide_eq_true h1
    go_wp2_with fail;go_ret;exact⟨by rw[HE.out];rfl,HD.out.2⟩
end
end Go.Proofs.YtmbaiglpgaoogaaGreat
