/- StoreScans: the walk. -/
import Derived.Test.YtmbaiglpgaoogaaGreatS02
import Derived.Test.YtmbaiglpgaoogaaGreatS37
namespace Go.Proofs.YtmbaiglpgaoogaaGreat
open Go.RowKit
set_option linter.unusedVariables false
set_option maxRecDepth 100000
section
variable {w0 w w':World} {F F' A:SP} {b d n t k a nx:Nat} {M:List Kv} {olds:Int→Option (List Kv)}
set_option maxHeartbeats 8000000 in
theorem storeScans_walk (A:Option Addr) (c:Nat) (l:List Int) (at0 most:Int) (tidy:Bool) (w:World)
  (hl:l.length≤c∧c≤maxLen∧RdV w A (l.map fun n=> .int .i64 n)∧l.length≤17592186043904∧ ∀ n ∈ l, -9223372036854775808≤n∧n≤9223372036854775807)
  (ha: -9223372036854775808≤at0∧at0≤9223372036854775807) (hm: -9223372036854775808≤most∧most≤9223372036854775807):
  Calls Tryz.prog 8 #[.slice A l.length c,.int .i64 at0,.int .i64 most,.bool tidy] w (Asked true w):=by
 have HB:Hid (Calls Tryz.prog 25 #[.int .i64 1024] w fun e w'=> ∃ d b,e = .returned (.tuple #[.pointer (some ⟨d,0,none⟩),.pointer (some ⟨b,0,none⟩)])∧Sto w Emp b d 1024 0 1 0 1 [] (fun _=>none) w'):=begin10_any (w0:=w) (w:=w) (F:=Emp) 1024 (by omega) (Sat.start w);have HWk:Hid (∀ w2 b d,Sto w Emp b d 1024 0 1 0 1 [] (fun _=>none) w2→Calls Tryz.prog 26 #[] w2 fun e w'=>e = .returned (.bool true)∧Sto w Emp b d 1024 0 1 0 1 [] (fun _=>none) w'):=fun w2 b d h=>by
  refine(wakes10_any (w0:=w2) (F:=Emp) (Sat.start w2)).mono ?_;rintro e w' ⟨rfl,hs⟩;exact⟨rfl,h.new hs.chg⟩
 have HF:Hid (∀ w2 b d,Sto w Emp b d 1024 0 1 0 1 [] (fun _=>none) w2→Calls Tryz.prog 34 #[.pointer (some ⟨b,0,none⟩),.slice A l.length c] w2 fun x w'=>x = .returned (.bool true)∧ ∃ M',SmlM M'∧Sto w Emp b d 1024 60 61 0 1 M' (fun _=>none) w'):=fun w2 b d h=>
  fill10_any A c l (by omega) hl.2.2.2.2 (by omega) (by omega) (fun p hp=>by cases hp) h fun W hW=>hl.2.2.1.new hW.chg
 have HA:=ah ha;have HMo:=ah hm;clear hl ha;obtain⟨j0,hj,hy0,hy1,hy2⟩:=info_parts info_pr;have Hj:=ah hj;have Hy0:=ah hy0;have Hy1:=ah hy1;have Hy2:=ah hy2;clear hj hy0 hy1 hy2;go_enter Tryz.func8, Tryz.ntmps8
 cases tidy
 case' false=>
  go_upto_region 4 with (first
   | (go_at_call 25;(with_reducible refine HB.out.mono ?_);rintro e w2 ⟨d,b,rfl,hs⟩;have HS2:=ah hs;clear hs)
   | (go_at_call 26;(with_reducible refine(HWk.out _ _ _ HS2.out).mono ?_);rintro e w3 ⟨rfl,hs⟩;have HS3:=ah hs;clear hs)
   | (go_at_call 34;(with_reducible refine(HF.out _ _ _ HS3.out).mono ?_);rintro e w4 ⟨rfl,M,hM,hs⟩;have HS4:=ah hs;clear hs))
  have HS5:=ah (HS4.out.mono (Nat.le_refl _) (show 61≤70 by omega));generalize w4=w5 at*
  clear HS4
 case' true=>
  go_upto_region 4 with (first
   | (go_at_call 25;(with_reducible refine HB.out.mono ?_);rintro e w2 ⟨d,b,rfl,hs⟩;have HS2:=ah hs;clear hs)
   | (go_at_call 26;(with_reducible refine(HWk.out _ _ _ HS2.out).mono ?_);rintro e w3 ⟨rfl,hs⟩;have HS3:=ah hs;clear hs)
   | (go_at_call 34;(with_reducible refine(HF.out _ _ _ HS3.out).mono ?_);rintro e w4 ⟨rfl,M,hM,hs⟩;have HS4:=ah hs;clear hs)
   | (go_at_call 35;(with_reducible refine(stidy (by omega) (by omega) HS4.out).mono ?_);rintro e w5 ⟨rfl,hs⟩;have HS4b:=ah hs;clear hs)
   | (go_at_call 29;(with_reducible refine(num10_any _ _).mono ?_);rintro e wx ⟨rfl,rfl⟩))
  have HS5:=ah (HS4b.out.mono (Nat.le_refl _) (show 62≤70 by omega));clear HS4 HS4b
 all_goals
  clear HB HWk HF HS2 HS3;have hpr:=HS5.out.pairs;obtain⟨N,hN⟩: ∃ N,N=M.length:=⟨_,rfl⟩;have hN60:N≤60:=by omega
  have HPw:=ah hpr.1;have HN:=ah hN;clear hM hpr hN;have HSc:Hid (Calls Tryz.prog 24 #[.pointer (some ⟨b,0,none⟩),.slice none 0 0,.slice none 0 0,.int .i64 1000] w5 fun x w'=> ∃ (B:Option Addr) (c:Nat) (qs es:List En),x = .returned (.slice B N c)∧Hid (qs.length=N∧pairsE qs=M∧N≤c∧ ∃ F,TolF F B qs∧Sto w F b d 1024 60 70 0 1 M (fun _=>none) w')):=by
   refine(sscanT (none,0,[]) (none,0,[]) 1000 M (by rw[cutM_nil,List.take_of_length_le];have:=HN.out;show M.length≤1000;omega) (Rd.nil _ _) (Rd.nil _ _) (by omega) HS5.out).mono ?_;rintro x w' ⟨B,c,qs,es,rfl,h1,h2,h5,h3⟩;have h4:qs.length=N:=by rw[←pairs_len,h1,HN.out]
   rw[h4];exact⟨B,c,qs,es,rfl,h4,h1,by omega,_,told_p h2,h3⟩
  go_upto_region 5 with (go_at_call 24;(with_reducible refine HSc.out.mono ?_);rintro e w6 ⟨B1,c1,q1,es1,rfl,HQ1⟩)
  obtain⟨hq1,hp1,hc1,F1,ht1,hs⟩:=HQ1.out;have HL1:=ah hq1;have HP1:=ah hp1;have HT1:=ah ht1;have HS6:=ah hs;have HC1:=ah hc1;clear HQ1 hq1 hp1 ht1 hs HSc HS5 hc1;go_upto_region 6 with (go_at_call 33;(with_reducible refine(key10_any at0 HA.out _).mono ?_);rintro e w3 ⟨rfl,rfl⟩)
  have hs7:=HS6.out.al (.cells ((keyB at0).map bv).toArray 5);obtain⟨gk,hgk⟩: ∃ gk,gk=w6.heap.size:=⟨_,rfl⟩;obtain⟨w7,hw7⟩: ∃ w7,w7=w6.alloc (.cells ((keyB at0).map bv).toArray 5):=⟨_,rfl⟩;rw[←hgk, ←hw7] at hs7;rw[←hgk, ←hw7];have HS7:=ah hs7;clear hgk hw7 hs7;have hs8:Sto w (Row 65 2 (.slice (some ⟨w7.heap.size,0,none⟩) 0 0) 0 []*(Ow gk (.cells ((keyB at0).map bv).toArray 5)*F1)) b d 1024 60 70 0 1 M (fun _=>none) (w7.alloc (.cells #[] 65)):=HS7.out.map fun G hG=>((hG.allocPt 65 #[]).row_pt (n:=0) (cap:=0) (size:=2) (Nat.le_refl _) (Nat.zero_le _) rfl).up2
  have HS8:=ah hs8;clear hs8;have HSc2:Hid (Calls Tryz.prog 24 #[.pointer (some ⟨b,0,none⟩),.slice none 0 0,.slice (some ⟨gk,0,none⟩) 3 3,.int .i64 1000] (w7.alloc (.cells #[] 65)) fun x w'=> ∃ (B:Option Addr) (c n:Nat) (qs es:List En),x = .returned (.slice B n c)∧Hid (qs.length=n∧n≤60∧pairsE qs=cutM [] (keyB at0) M∧(∀ q ∈ qs,q ∈ es)∧Sto w (TolP B c qs es*(Row 65 2 (.slice (some ⟨w7.heap.size,0,none⟩) 0 0) 0 []*(Ow gk (.cells ((keyB at0).map bv).toArray 5)*F1))) b d 1024 60 70 0 1 M (fun _=>none) w')):=by
   have hlen:(cutM [] (keyB at0) M).length≤60:=Nat.le_trans (List.length_filter_le _ _) (by have:=HN.out;omega);refine(sscanT (none,0,[]) (some ⟨gk,0,none⟩,3,keyB at0) 1000 _ (List.take_of_length_le (by show _≤1000;exact Nat.le_trans hlen (by omega))) (Rd.nil _ _) (ow_rd (l:=keyB at0) HS8.out.sat.right) (by omega) HS8.out).mono ?_;rintro x w' ⟨B,c,qs,es,rfl,h1,h2,h5,h3⟩;exact⟨B,c,qs.length,qs,es,rfl,rfl,by rw[←pairs_len,h1];exact hlen,h1,h2,h3⟩
  have HSc3:Hid (∀ (F:SP) (W:World),Sto w (F*(Ow gk (.cells ((keyB at0).map bv).toArray 5)*F1)) b d 1024 60 70 0 1 M (fun _=>none) W→Calls Tryz.prog 24 #[.pointer (some ⟨b,0,none⟩),.slice (some ⟨gk,0,none⟩) 3 3,.slice none 0 0,.int .i64 1000] W fun x w'=> ∃ (B:Option Addr) (c n:Nat) (qs es:List En),x = .returned (.slice B n c)∧Hid (qs.length=n∧n≤60∧pairsE qs=cutM (keyB at0) [] M∧(∀ q ∈ qs,q ∈ es)∧Sto w (TolP B c qs es*(F*(Ow gk (.cells ((keyB at0).map bv).toArray 5)*F1))) b d 1024 60 70 0 1 M (fun _=>none) w')):=fun F W hW=>by
   have hlen:(cutM (keyB at0) [] M).length≤60:=Nat.le_trans (List.length_filter_le _ _) (by have:=HN.out;omega);refine(sscanT (some ⟨gk,0,none⟩,3,keyB at0) (none,0,[]) 1000 _ (List.take_of_length_le (by show _≤1000;exact Nat.le_trans hlen (by omega))) (ow_rd (l:=keyB at0) hW.sat.right) (Rd.nil _ _) (by omega) hW).mono ?_;rintro x w' ⟨B,c,qs,es,rfl,h1,h2,h5,h3⟩;exact⟨B,c,qs.length,qs,es,rfl,rfl,by rw[←pairs_len,h1];exact hlen,h1,h2,h3⟩
  go_upto_region 7 with (first
   | (go_at_call 24;(with_reducible refine HSc2.out.mono ?_);rintro e w8 ⟨B2,c2,n2,q2,es2,rfl,HQ2⟩;obtain⟨G2,hG2,hR2⟩:=HQ2.out.2.2.2.2.opn;have HG2:=ah (hG2.of (show _=Row 65 2 (.slice (some ⟨w7.heap.size,0,none⟩) 0 0) 0 []*(TolP B2 c2 q2 es2*(Ow gk (.cells ((keyB at0).map bv).toArray 5)*F1)*G2) by ac_rfl));have HR2:=ah hR2;have hn2:n2≤60:=HQ2.out.2.1;have HL2:=ah HQ2.out.1;clear hG2 hR2)
   | (at_builtin;refine wpList_appS rfl (.tmp 47) (.tmp 50) 30 rfl 65 j0 _ 2 48 Tryz.underlying30 Hj.out Hy0.out Hy1.out Hy2.out rfl (by decide) (.slice (some ⟨w7.heap.size,0,none⟩) 0 0) 0 [] rfl w _ (by exact HG2.out) B2 n2 c2 (q2.flatMap prV) rfl (by exact tolP_rd (HG2.out.right.of (show _=TolP B2 c2 q2 es2*(Ow gk (.cells ((keyB at0).map bv).toArray 5)*F1*G2) by ac_rfl))) (by rw[prs_len,HL2.out]) (prs_ones q2) (by unfold maxLen;omega) (by omega) ?_;intro B4 c4 w10 hs10;have hs11:=HR2.out (Row 65 2 (.slice B4 (0+n2) c4) (0+n2) ([]++q2.flatMap prV)*TolP B2 c2 q2 es2*(Ow gk (.cells ((keyB at0).map bv).toArray 5)*F1)) _ (hs10.of (by ac_rfl));simp only[Nat.zero_add,List.nil_append] at hs11 ⊢;have HS10:=ah hs11;clear hs10 hs11)
   | (go_at_call 24;(with_reducible refine(HSc3.out _ _ HS10.out).mono ?_);rintro e w11 ⟨B5,c5,n5,q5,es5,rfl,HQ5⟩;obtain⟨G5,hG5,hR5⟩:=HQ5.out.2.2.2.2.opn;have HG5:=ah (hG5.of (show _=Row 65 2 (.slice B4 n2 c4) n2 (q2.flatMap prV)*(TolP B5 c5 q5 es5*(TolP B2 c2 q2 es2*(Ow gk (.cells ((keyB at0).map bv).toArray 5)*F1)*G5)) by ac_rfl));have HR5:=ah hR5;have hn5:n5≤60:=HQ5.out.2.1;have HL5:=ah HQ5.out.1;clear hG5 hR5)
   | (at_builtin;refine wpList_appS rfl (.tmp 51) (.tmp 54) 30 rfl 65 j0 _ 2 48 Tryz.underlying30 Hj.out Hy0.out Hy1.out Hy2.out rfl (by decide) (.slice B4 n2 c4) n2 (q2.flatMap prV) rfl w _ (by exact HG5.out) B5 n5 c5 (q5.flatMap prV) rfl (by exact tolP_rd HG5.out.right) (by rw[prs_len,HL5.out]) (prs_ones q5) (by unfold maxLen;omega) (by omega) ?_;intro B6 c6 w12 hs12;have hs13:=HR5.out (Row 65 2 (.slice B6 (n2+n5) c6) (n2+n5) (q2.flatMap prV++q5.flatMap prV)*(TolP B5 c5 q5 es5*(TolP B2 c2 q2 es2*(Ow gk (.cells ((keyB at0).map bv).toArray 5)*F1)))) _ (hs12.of (by ac_rfl));have HS13:=ah hs13;clear hs12 hs13))
  have hNn:n2+n5=N:=by
   have h1:=congrArg List.length (cut_two (m:=keyB at0) (by unfold keyB;simp) HPw.out);rw[←HQ2.out.2.2.1, ←HQ5.out.2.2.1,List.length_append,pairs_len,pairs_len,HL2.out,HL5.out, ←HN.out] at h1;exact h1
  have HPb:Hid (pairsE (q2++q5)=M):=ah (by rw[pairsE_app,HQ2.out.2.2.1,HQ5.out.2.2.1];exact cut_two (by unfold keyB;simp) HPw.out);have hs13:=HS13.out;rw[←List.flatMap_append,hNn] at hs13;have HLb:Hid ((q2++q5).length=N):=ah (by rw[List.length_append,HL2.out,HL5.out];exact hNn);have hF: ∃ F2,TolF F2 B6 (q2++q5)∧TolF F2 B1 q1∧Sto w F2 b d 1024 60 70 0 1 M (fun _=>none) w12:=by
   refine⟨_,fun u0 u hs=>⟨hs.row_rdK,fun q hq=>?_⟩,HT1.out.left.left.left.left,hs13⟩;rcases List.mem_append.1 hq with h1 | h1
   ·exact(told_p HQ2.out.2.2.2.1 _ _ hs.right.right).2 q h1
   ·exact(told_p HQ5.out.2.2.2.1 _ _ hs.right).2 q h1
  obtain⟨F2,ht2,ht1,hs14⟩:=hF;have HT2:=ah ht2;have HT3:=ah ht1;have HS14:=ah hs14;rw[hNn];clear hs13 ht2 ht1 hs14 HS13 HQ2 HQ5 HR2 HR5 HG2 HG5 HS10 HS8 HS7 HS6 HSc2 HSc3 HT1 hNn hn2 hn5 HL2 HL5;obtain⟨m,hm0⟩: ∃ m:Nat,m=min most.toNat N:=⟨_,rfl⟩;have hmi:(m:Int)=min (max most 0) N:=by omega
  have hmN:m≤N:=by omega
  have HMn:=ah hm0;have HSc4:Hid (Calls Tryz.prog 24 #[.pointer (some ⟨b,0,none⟩),.slice none 0 0,.slice none 0 0,.int .i64 most] w12 fun x w'=> ∃ (B:Option Addr) (c:Nat) (qs es:List En),x = .returned (.slice B m c)∧Hid (qs.length=m∧pairsE qs=M.take m∧ ∃ F,TolF F B qs∧TolF F B6 (q2++q5)∧TolF F B1 q1∧Sto w F b d 1024 60 70 0 1 M (fun _=>none) w')):=by
   refine(sscanT (none,0,[]) (none,0,[]) most (M.take m) (by rw[cutM_nil,HMn.out,HN.out];show M.take most.toNat=M.take (min most.toNat M.length);rw[←List.take_take,List.take_length]) (Rd.nil _ _) (Rd.nil _ _) (by omega) HS14.out).mono ?_;rintro x w' ⟨B,c,qs,es,rfl,h1,h2,h5,h3⟩;have h4:qs.length=m:=by rw[←pairs_len,h1,List.length_take, ←HN.out];omega
   rw[h4];exact⟨B,c,qs,es,rfl,h4,h1,_,told_p h2,HT2.out.left,HT3.out.left,h3⟩
  clear hm0;go_upto_region 8 with (go_at_call 24;(with_reducible refine HSc4.out.mono ?_);rintro e w15 ⟨B7,c7,q7,es7,rfl,HQ7⟩)
  obtain⟨hq7,hp7,F3,ht7,ht2,ht1,hs15⟩:=HQ7.out;have HS15:=ah hs15;have HT7:=ah ht7;have HT1:=ah ht1;have HPr1:Hid (∀ W,Sto w F3 b d 1024 60 70 0 1 M (fun _=>none) W→Calls Tryz.prog 23 #[.slice B1 N c1,.slice B6 N c6] W fun x w'=>x = .returned (.bool true)∧Sto w F3 b d 1024 60 70 0 1 M (fun _=>none) w'):=fun W hW=>by
   have h9:=pairs_told (c:=c1) (c':=c6) ht1 ht2 (by rw[HP1.out,HPb.out]) (by rw[HL1.out];omega) hW;rw[HL1.out,HLb.out] at h9;exact h9
  have HPr2:Hid (∀ W,Sto w F3 b d 1024 60 70 0 1 M (fun _=>none) W→Calls Tryz.prog 23 #[.slice B7 m c7,.slice B1 m c1] W fun x w'=>x = .returned (.bool true)∧Sto w F3 b d 1024 60 70 0 1 M (fun _=>none) w'):=fun W hW=>by
   have h9:=pairs_told (c:=c7) (c':=c1) ht7 (ht1.pre m) (by rw[hp7,pairsE_pre,HP1.out]) (by rw[hq7];omega) hW;rw[hq7,List.length_take,HL1.out,Nat.min_eq_left hmN] at h9;exact h9
  have HCn:Hid (∀ W,Sto w F3 b d 1024 60 70 0 1 M (fun _=>none) W→Calls Tryz.prog 31 #[.pointer (some ⟨b,0,none⟩)] W fun x w'=>x = .returned (.int .i64 (N:Int))∧Sto w F3 b d 1024 60 70 0 1 M (fun _=>none) w'):=fun W hW=>by
   have h9:=scount (by omega) hW;rw[←HN.out] at h9;exact h9
  have hmc:m≤c1:=Nat.le_trans hmN HC1.out;have hmc2:(m:Int)≤c1:=by omega
  have hNN:((N:Int) !=N)=false:=by simp
  have hmm:((m:Int) !=min (max most 0) N)=false:=by rw[←hmi];simp
  clear HQ7 hq7 hp7 ht7 ht2 ht1 hs15 HSc4 HS14 HT2 HT3 hmi;go_upto_region 11 with (first
   | (go_at_call 23;(with_reducible refine(HPr1.out _ HS15.out).mono ?_);rintro e w16 ⟨rfl,hs⟩;have HS16:=ah hs;clear hs)
   | (go_at_call 31;(with_reducible refine(HCn.out _ HS16.out).mono ?_);rintro e w17 ⟨rfl,hs⟩;have HS17:=ah hs;clear hs)
   | (go_at_call 23;(with_reducible refine(HPr2.out _ HS17.out).mono ?_);rintro e w18 ⟨rfl,hs⟩;have HS18:=ah hs;clear hs))
  clear HPr1 HPr2 HCn HS15 HS16 HS17 HT7 HPb HLb hmc hmc2 hmm HMn;go_loopw [15] (fun iv wr=> ∃ (i:Nat),i≤N∧iv = .int .i64 (i:Int)∧Hid (Sto w F3 b d 1024 60 70 0 1 M (fun _=>none) wr)) (fun iv _=>70 - (intOf iv).toNat)
  case atStart=>exact⟨0,by omega,rfl,HS18.out⟩
  case round=>
   obtain⟨i,hi,rfl,HE⟩:=hrel;by_cases hlt:i<N
   ·have hii:(i:Int)<N:=by omega
    obtain⟨lb,lo,rfl,hat⟩:=HT1.out.at HE.out.sat (by rw[HL1.out];omega);have HAt:=ah hat;clear hat;rcases Nat.eq_zero_or_pos i with hi0 | hi0
    ·subst hi0;have hiq:0<q1.length:=by rw[HL1.out];exact hlt
     have hgk:=getK_of HPw.out (p:=pairE q1[0].ent) (by rw[←HP1.out];exact List.mem_map.2 ⟨_,List.getElem_mem hiq,rfl⟩);have hat: ∀ W,Sat w F3 W→W.cell? ⟨lb,lo,none⟩=some (slv' q1[0].key)∧W.cell? ⟨lb,lo+1,none⟩=some (slv' q1[0].value)∧EnR W q1[0]:=fun W hW=>by have h9:=HAt.out _ _ hW _ hiq;rwa [Nat.zero_mul,Nat.add_zero] at h9
     generalize q1[0]=p at*
     obtain⟨⟨kA,kc,kl⟩,⟨vA,vc,vl⟩,eq1,dd1⟩:=p;replace hgk:getK kl M=some vl:=hgk;have HA1:Hid (∀ W,Sat w F3 W→W.cell? ⟨lb,lo,none⟩=some (.slice kA kl.length kc)∧W.cell? ⟨lb,lo+1,none⟩=some (.slice vA vl.length vc)∧Rd W kA kl∧Rd W vA vl):=ah fun W hW=>⟨(hat W hW).1,(hat W hW).2.1,(hat W hW).2.2.1,(hat W hW).2.2.2⟩
     clear hat hiq;have y0:wr.cell? ⟨lb,lo,none⟩=some (.slice kA kl.length kc):=(HA1.out _ HE.out.sat).1;have HK:Hid (Calls Tryz.prog 32 #[.pointer (some ⟨b,0,none⟩),.slice kA kl.length kc] wr fun e w'=> ∃ A c,e = .returned (.tuple #[.slice A vl.length c,.bool true])∧Sto w (Row 5 1 (.slice A vl.length c) vl.length (vl.map bv)*F3) b d 1024 60 70 0 1 M (fun _=>none) w'):=by
      have h9:=sget (kA,kc,kl) (HA1.out _ HE.out.sat).2.2.1 (by omega) HE.out;dsimp only at h9;rw[hgk] at h9;exact h9
     clear hgk;go_upto_region 14 with (go_at_call 32;(with_reducible refine HK.out.mono ?_);rintro e w7 ⟨A7,c7,rfl,hs⟩;have HS7:=ah hs;clear hs)
     have hs7:=HS7.out.sat.drew;have HSm:Hid (∀ W,Chg No w7 W→Calls Tryz.prog 36 #[.slice A7 vl.length c7,.slice vA vl.length vc] W fun e w'=>e = .returned (.bool true)∧W=w'):=ah fun W hk=>by
      have h9:=ksame_any A7 vA c7 vc vl vl W (HS7.out.sat.row_rdK.new hk) ((HA1.out _ HS7.out.sat.right).2.2.2.new hk);rw[decide_eq_true rfl] at h9;exact h9
     clear y0 HK;have G0:Hid (w7.drew.cell? ⟨lb,lo+1,none⟩=some (.slice vA vl.length vc)):=ah (HA1.out _ hs7.right).2.1;refine wp_region_held_drew (S:=fun w'=>w'.cell? ⟨lb,lo+1,none⟩=some (.slice vA vl.length vc)) (by kernel_rfl) G0.out ?_;intro hS0;refine rtk 0 ?_;refine rtk 1 ?_;refine rtk 2 ?_;refine rtk 3 ?_;refine rtk 4 ?_;refine rtk 5 ?_;refine rtk 6 ?_;refine rtk 7 ?_;refine rtk 8 ?_;refine rck 9 fun K hK=>?_
     go_simp;go_at_call 36;(with_reducible refine(HSm.out _ (Chg.refl No _).drew).mono ?_);rintro e wx ⟨rfl,rfl⟩
     refine hK.out _ _ hS0 (fun hS0=>?_);clear hK K;refine rtk 10 ?_;refine rtk 11 ?_;refine rtk 12 ?_;refine rtk 13 ?_;refine rtk 14 ?_;refine rtk 15 ?_;refine rsk 16 ?_;refine rsk 17 ?_;refine rsk 18 ?_;refine rsk 19 ?_;refine rsk 20 ?_;refine rsk 21 ?_;refine rsk 22 ?_;refine rsk 23 ?_;refine rsk 24 ?_;refine rsk 25 ?_;refine rsk 26 ?_;refine rsk 27 ?_;refine rsk 28 ?_;refine rsk 29 ?_;refine rtk 30 ?_;refine rtk 31 ?_;refine wpAnyH_done (by kernel_rfl) ?_ _;go_wp2_with fail;go_roundw
     ·exact⟨0+1,by omega,by push_cast;rfl,(HS7.out.map fun G hG=>hG.drew).drop⟩
     ·simp[intOf]
    ·obtain⟨j,rfl⟩: ∃ j,i=j+1:=⟨i - 1,by omega⟩;have hj0:(0:Int)≤(j:Int)+1:=by omega
     have hjN:(j:Int)<N:=by omega
     have hwj:IntKind.i64.wrap (j:Int)=j:=by rw[IntKind.wrap_i64];omega
     have hiq:j+1<q1.length:=by rw[HL1.out];exact hlt
     have hgk:=getK_of HPw.out (p:=pairE q1[j+1].ent) (by rw[←HP1.out];exact List.mem_map.2 ⟨_,List.getElem_mem hiq,rfl⟩);have hat: ∀ W,Sat w F3 W→W.cell? ⟨lb,lo+(j+1)*2,none⟩=some (slv' q1[j+1].key)∧W.cell? ⟨lb,lo+(j+1)*2+1,none⟩=some (slv' q1[j+1].value)∧EnR W q1[j+1]:=fun W hW=>HAt.out _ _ hW _ hiq
     have hjq:j<q1.length:=by omega
     have hat0: ∀ W,Sat w F3 W→W.cell? ⟨lb,lo+j*2,none⟩=some (slv' q1[j].key)∧W.cell? ⟨lb,lo+j*2+1,none⟩=some (slv' q1[j].value)∧EnR W q1[j]:=fun W hW=>HAt.out _ _ hW _ hjq
     have hcm:Lib.compareBytes q1[j].key.2.2 q1[j+1].key.2.2<0:=by
      have h1:=HPw.out;rw[←HP1.out] at h1;unfold pairsE at h1;rw[List.pairwise_map] at h1;exact List.pairwise_iff_getElem.1 h1 j (j+1) hjq hiq (by omega)
     generalize q1[j]=p0 at*
     obtain⟨⟨kB,kd,kl0⟩,⟨vB,vd,vl0⟩,eq0,dd0⟩:=p0;have HA0:Hid (∀ W,Sat w F3 W→W.cell? ⟨lb,lo+j*2,none⟩=some (.slice kB kl0.length kd)∧Rd W kB kl0):=ah fun W hW=>⟨(hat0 W hW).1,(hat0 W hW).2.2.1⟩
     clear hat0 hjq;generalize q1[j+1]=p at*
     obtain⟨⟨kA,kc,kl⟩,⟨vA,vc,vl⟩,eq1,dd1⟩:=p;replace hgk:getK kl M=some vl:=hgk;have HA1:Hid (∀ W,Sat w F3 W→W.cell? ⟨lb,lo+(j+1)*2,none⟩=some (.slice kA kl.length kc)∧W.cell? ⟨lb,lo+(j+1)*2+1,none⟩=some (.slice vA vl.length vc)∧Rd W kA kl∧Rd W vA vl):=ah fun W hW=>⟨(hat W hW).1,(hat W hW).2.1,(hat W hW).2.2.1,(hat W hW).2.2.2⟩
     clear hat hiq;have y0:wr.cell? ⟨lb,lo+(j+1)*2,none⟩=some (.slice kA kl.length kc):=(HA1.out _ HE.out.sat).1;have HK:Hid (Calls Tryz.prog 32 #[.pointer (some ⟨b,0,none⟩),.slice kA kl.length kc] wr fun e w'=> ∃ A c,e = .returned (.tuple #[.slice A vl.length c,.bool true])∧Sto w (Row 5 1 (.slice A vl.length c) vl.length (vl.map bv)*F3) b d 1024 60 70 0 1 M (fun _=>none) w'):=by
      have h9:=sget (kA,kc,kl) (HA1.out _ HE.out.sat).2.2.1 (by omega) HE.out;dsimp only at h9;rw[hgk] at h9;exact h9
     clear hgk;obtain⟨SA,SB,B,e1,e2,e3,e4⟩:=str_less kl0 kl;have hB:B=true:=by rw[e4,cb_less,decide_eq_true_iff];exact hcm
     subst hB;clear hcm e4;have E1:=ah e1;have E2:=ah e2;have E3:=ah e3;clear e1 e2 e3;go_upto_region 14 with (go_at_call 32;(with_reducible refine HK.out.mono ?_);rintro e w7 ⟨A7,c7,rfl,hs⟩;have HS7:=ah hs;clear hs)
     have hs7:=HS7.out.sat.drew;have HSm:Hid (∀ W,Chg No w7 W→Calls Tryz.prog 36 #[.slice A7 vl.length c7,.slice vA vl.length vc] W fun e w'=>e = .returned (.bool true)∧W=w'):=ah fun W hk=>by
      have h9:=ksame_any A7 vA c7 vc vl vl W (HS7.out.sat.row_rdK.new hk) ((HA1.out _ HS7.out.sat.right).2.2.2.new hk);rw[decide_eq_true rfl] at h9;exact h9
     clear y0 HK;have s1:=str_any (HA0.out _ hs7.right).2 kd;have s2:=str_any (HA1.out _ hs7.right).2.2.1 kc;rw[←E1.out] at s1;rw[←E2.out] at s2;have G0:Hid (w7.drew.cell? ⟨lb,lo+(j+1)*2+1,none⟩=some (.slice vA vl.length vc)∧w7.drew.cell? ⟨lb,lo+(j+1)*2,none⟩=some (.slice kA kl.length kc)∧w7.drew.cell? ⟨lb,lo+j*2,none⟩=some (.slice kB kl0.length kd)∧(convert 41 9 (.slice kB kl0.length kd)).run Tryz.prog w7.drew = .ok (.string SA) w7.drew∧(convert 41 9 (.slice kA kl.length kc)).run Tryz.prog w7.drew = .ok (.string SB) w7.drew):=ah ⟨(HA1.out _ hs7.right).2.1,(HA1.out _ hs7.right).1,(HA0.out _ hs7.right).1,s1,s2⟩;have e3:=E3.out;clear s1 s2;refine wp_region_held_drew (S:=fun w'=>w'.cell? ⟨lb,lo+(j+1)*2+1,none⟩=some (.slice vA vl.length vc)∧w'.cell? ⟨lb,lo+(j+1)*2,none⟩=some (.slice kA kl.length kc)∧w'.cell? ⟨lb,lo+j*2,none⟩=some (.slice kB kl0.length kd)∧(convert 41 9 (.slice kB kl0.length kd)).run Tryz.prog w' = .ok (.string SA) w'∧(convert 41 9 (.slice kA kl.length kc)).run Tryz.prog w' = .ok (.string SB) w') (by kernel_rfl) G0.out ?_;intro hS0;refine rtk 0 ?_;refine rtk 1 ?_;refine rtk 2 ?_;refine rtk 3 ?_;refine rtk 4 ?_;refine rtk 5 ?_;refine rtk 6 ?_;refine rtk 7 ?_;refine rtk 8 ?_;refine rck 9 fun K hK=>?_
     go_simp;go_at_call 36;(with_reducible refine(HSm.out _ (Chg.refl No _).drew).mono ?_);rintro e wx ⟨rfl,rfl⟩
     refine hK.out _ _ hS0 (fun hS0=>?_);clear hK K;refine rtk 10 ?_;refine rtk 11 ?_;refine rtk 12 ?_;refine rtk 13 ?_;refine rtk 14 ?_;refine rtk 15 ?_;refine rtk 16 ?_;refine rtk 17 ?_;refine rtk 18 ?_;refine rtk 19 ?_;refine rtk 20 ?_;refine rtk 21 ?_;refine rtk 22 ?_;refine rtk 23 ?_;refine rtk 24 ?_;refine rtk 25 ?_;refine rtk 26 ?_;refine rtk 27 ?_;refine rtk 28 ?_;refine rtk 29 ?_;refine rtk 30 ?_;refine rtk 31 ?_;refine wpAnyH_done (by kernel_rfl) ?_ _;go_wp2_with fail;go_roundw
     ·exact⟨j+1+1,by omega,by push_cast;rfl,(HS7.out.map fun G hG=>hG.drew).drop⟩
     ·simp[intOf];omega
   ·have hie:i=N:=by omega
    subst hie;go_wp2_with fail;go_ret;exact⟨rfl,HE.out.sat.chg⟩
end
end Go.Proofs.YtmbaiglpgaoogaaGreat
