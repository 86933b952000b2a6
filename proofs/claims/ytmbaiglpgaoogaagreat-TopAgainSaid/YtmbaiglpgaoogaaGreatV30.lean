/- Joined, as they were built one by one: TabOpen. -/
import Derived.Test.YtmbaiglpgaoogaaGreatV24
import Derived.Test.YtmbaiglpgaoogaaGreatV27
set_option maxHeartbeats 16000000
namespace Go.Proofs.YtmbaiglpgaoogaaGreat
open Go.RowKit
set_option linter.unusedVariables false
set_option maxRecDepth 100000
structure OpAt (w:World) (R T:Nat) (N:Nat) (S:StP) (i:Nat) (wr:World):Prop where
 ex: ∃ A c es q s,runP (N - i) (es.map En.ent,q,s)=S/\es.length=i/\q.length<=140737488355328/\(∀ e ∈ es,e.key.2.2.length<=600/\e.value.2.2.length<=65536/\e.seq<9223372036854775808)/\
  Rdr w R (Pt T 226 #[.slice A es.length c,.pointer none]*(Row 120 4 (.slice A es.length c) es.length (es.flatMap enV)*OwnE es)) q s wr
theorem built_tup {L:List Ent} {w w':World} {x:Ending} (h:Built L w x w'): ∃ (A:Option Addr) (n c e:Nat),x = .returned (.tuple #[.slice A n c,.int .i64 (e:Int)])/\Chg No w w':=by
 rcases h with ⟨_,rfl,k⟩ | ⟨_,A,c,rfl,_,_,hs⟩
 .exact⟨none,0,0,_,rfl,k⟩
 .exact⟨A,_,c,0,rfl,hs.chg⟩
theorem buildE_len {L:List Ent} (h:buildE L=0):L.length<=65536:=by
 unfold buildE at h;split at h
 .cases h
 .split at h
  .cases h
  .rename_i h2;omega
theorem mark_beq {l:List UInt8} {S:ByteArray} (h:S=ByteArray.mk l.toArray):(S.toList==[84,68,84,49])=decide (l=markB):=by
 subst h;have:=str_beq l markB;simpa [markB] using this
theorem topen_any (A:Option Addr) (c:Nat) (b:List UInt8) (w:World) (h:Rd w A b) (hc:b.length<=c) (hm:c<=maxLen) (hbl:b.length<=140737488355328):
  Calls Tryz.prog 106 #[.slice A b.length c] w (Opened b w):=by
 obtain⟨i0,hi0,hz0,hz1,hz2⟩:=info_parts info_entry;have Hi0:=ah hi0;have Hz0:=ah hz0;have Hz1:=ah hz1;have Hz2:=ah hz2;clear hi0 hz0 hz1 hz2;have HB:=ah h;have HC:=ah hc;unfold maxLen at hm;clear h;by_cases h4:b.length<4
 .have hso:sumOk b=false:=by unfold sumOk;rw[decide_eq_false (by omega)];rfl
  have hoe:openE b=72:=by unfold openE;rw[if_pos hso]
  have hneg:(b.length:Int) - 4<0:=by omega
  have HO:=ah hoe;clear hso hoe;go_enter Tryz.func106, Tryz.ntmps106;go_upto_region 2 with fail;refine wp_region_held_drew (S:=fun _=>True) (by kernel_rfl) trivial ?_;intro hS0;refine rtk 0 ?_;refine rtk 1 ?_;refine rtk 2 ?_;refine rsk 3 ?_;refine rsk 4 ?_;refine rsk 5 ?_;refine rsk 6 ?_;refine rsk 7 ?_;refine rsk 8 ?_;refine rsk 9 ?_;refine rsk 10 ?_;refine rsk 11 ?_;refine rsk 12 ?_;refine rsk 13 ?_;refine rsk 14 ?_;refine rtk 15 ?_;refine wpAnyH_done (by kernel_rfl) ?_ _;go_wp2_with fail;go_ret2;refine .inl ⟨by rw[HO.o];decide,by rw[HO.o];rfl,(Chg.refl No w).drew⟩
 .obtain⟨m,hbm⟩: ∃ m,b.length=m+4:=⟨b.length - 4,by omega⟩;have hsub:(b.length:Int) - 4=m:=by omega
  have hsub2:((m+4:Nat):Int) - 4=m:=by omega
  have hnn:¬ (m:Int)<0:=by omega
  have hcm:¬ c=m:=by omega
  have htl:(b.take m).length=m:=by simp;omega
  have hdl:(b.drop m).length=4:=by simp;omega
  obtain⟨sm,hsm⟩: ∃ s,sumB (b.take m)=s:=⟨_,rfl⟩;have hsm0:sm<4294967296:=by rw[<-hsm];exact sumB_lt _
  have hws:IntKind.u64.wrap (sm:Int)=sm:=by rw[IntKind.wrap_u64];omega
  obtain⟨sk,hsk⟩: ∃ k,decide (putB sm 4=b.drop m)=k:=⟨_,rfl⟩;have hso:sumOk b=sk:=by unfold sumOk;rw[decide_eq_true (by omega),Bool.true_and,hbm,Nat.add_sub_cancel,hsm,hsk]
  have HSm:=ah hsm;have HSk:=ah hsk;have HSo:=ah hso;have HTl:=ah htl;have HDl:=ah hdl;have HTk:Hid (Rd w A (b.take m)):=HB.o.take m;have HDr:Hid (Rd w (A.map (·.add m)) (b.drop m)):=by have:=HB.o.drop (k:=m) (cap:=c) (by omega) hc;rwa [if_neg hcm] at this
  have hs1:(m:Int)<=b.length:=by omega
  have hmc:m<=c:=by omega
  have hmb:m<=b.length:=by omega
  have HBM:=ah hbm;clear hsm hsk hso htl hdl hbm hsub2;go_enter Tryz.func106, Tryz.ntmps106;go_upto_region 2 with fail;refine wp_region_held_drew (S:=fun _=>True) (by kernel_rfl) trivial ?_;intro hS0;refine rtk 0 ?_;refine rtk 1 ?_;refine rtk 2 ?_;refine rtk 3 ?_;refine rtk 4 ?_;refine rtk 5 ?_;refine rtk 10 ?_;refine rtk 11 ?_;refine rtk 12 ?_;refine rck 6 fun K hK=>?_
  go_simp;refine hK.out _ _ trivial (fun hS0=>?_);clear hK K;refine rck 7 fun K hK=>?_
  go_simp;go_at_call 138;refine(osum_any (some ⟨w.heap.size,0,none⟩) 1 [(A,c,b.take m)] _ ⟨by show RdV _ _ [.slice A (b.take m).length c];rw[HTl.o];exact lit_rdv w.drew #[.slice A m c] 41,fun y hy=>by rw[List.mem_singleton] at hy;subst hy;exact HTk.o.new ((Chg.refl No w).drew.alloc _)⟩ (by simp) (by simp;omega)).mono ?_;rintro x w1 ⟨rfl,rfl⟩;rw[show (txt [(A,c,b.take m)]).flatten=b.take m by simp[txt],HSm.o]
  refine hK.out _ _ trivial (fun hS0=>?_);clear hK K;refine rtk 8 ?_;refine rck 9 fun K hK=>?_
  go_simp;go_at_call 117;refine(oput_any sm 4 (by omega) (by omega) (by omega) w _ Emp ((Sat.start w).drew.alloc' _)).mono ?_;rintro x w2 ⟨A2,c2,rfl, -, -,hs2⟩;have HS2:=ah hs2;clear hs2
  refine hK.out _ _ trivial (fun hS0=>?_);clear hK K;refine rck 13 fun K hK=>?_
  go_simp;go_at_call 126;rw[show b.length - m=(b.drop m).length by simp];refine(beq_any (A2,c2,putB sm 4) (A.map (·.add m),c - m,b.drop m) w2 (RdV.of_own HS2.o.row_own) (HDr.o.new HS2.o.chg)).mono ?_;rintro x w3 ⟨rfl,rfl⟩;rw[HSk.o]
  refine hK.out _ _ trivial (fun hS0=>?_);clear hK K;refine rtk 14 ?_;refine rtk 15 ?_;refine wpAnyH_done (by kernel_rfl) ?_ _
  cases sk
  case false=>
   have hoe:openE b=72:=by unfold openE;rw[if_pos HSo.o]
   have HO:=ah hoe;clear hoe;go_wp2_with fail;go_ret2;exact .inl ⟨by rw[HO.o];decide,by rw[HO.o];rfl,HS2.o.chg⟩
  case true=>
   have hoe:openE b=if (takeP 4 b false).1≠markB then 73 else if (readP b).2.2=true\/buildE (readP b).1≠0\/buildB (readP b).1≠b then 73 else 0:=by
    unfold openE;rw[if_neg (by rw[HSo.o];simp)]
   have HOe:=ah hoe;clear hoe;obtain⟨T0,hT0⟩: ∃ T,takeP 4 b false=T:=⟨_,rfl⟩;have HT0:=ah hT0;have t0l:T0.1.length<=4:=by rw[<-hT0];exact takeP_len' _ _ _
   have t0q:T0.2.1.length<=140737488355328:=by have:=takeP_le 4 b false;rw[hT0] at this;omega
   obtain⟨SA,hSA⟩: ∃ s:ByteArray,s=ByteArray.mk T0.1.toArray:=⟨_,rfl⟩;have HSA:=ah hSA;obtain⟨mk,hmk⟩: ∃ k,decide (T0.1=markB)=k:=⟨_,rfl⟩;have hmb:(SA.toList==[84,68,84,49])=mk:=by rw[mark_beq hSA,hmk]
   have HMk:=ah hmk;clear hT0 hSA hmk;have HR0:Hid (Rdr w w3.heap.size Emp b false (w3.alloc (.cells #[.slice A b.length c,.bool false] 223))):=⟨A,c,HS2.o.right.allocPt 223 #[.slice A b.length c,.bool false],HB.o,hc,by unfold maxLen;omega⟩
   cases mk
   case false=>
    have hoe:openE b=73:=by
     rw[HOe.o,if_pos];rw[HT0.o];exact of_decide_eq_false HMk.o
    have HO:=ah hoe;clear hoe;go_wp2_with (go_at_call 139;refine(take_any 4 (by omega) w3.heap.size Emp b false w _ HR0.o hbl).mono ?_;rw[HT0.o];rintro x w4 ⟨B4,d4,rfl,hr4, -, -, -,h4⟩;have s1:=str_any hr4 d4;rw[<-HSA.o] at s1;have HR4:=ah h4;clear hr4 h4);go_ret2;obtain⟨A5,c5,hs5, -⟩:=HR4.o;exact .inl ⟨by rw[HO.o];decide,by rw[HO.o];rfl,hs5.chg⟩
   case true=>
    obtain⟨T1,hT1⟩: ∃ T,takeP 4 T0.2.1 T0.2.2=T:=⟨_,rfl⟩;obtain⟨N,hN⟩: ∃ N,getN T1.1=N:=⟨_,rfl⟩;obtain⟨S,hS⟩: ∃ S,readP b=S:=⟨_,rfl⟩;have hrun:runP N ([],T1.2)=S:=by rw[<-hS, <-hN, <-hT1, <-HT0.o];rfl
    have hN0:N<4294967296:=by rw[<-hN, <-hT1];exact takeP_cap 4 _ _ (by omega)
    have t1q:T1.2.1.length<=140737488355328:=by have:=takeP_le 4 T0.2.1 T0.2.2;rw[hT1] at this;omega
    have HW:=ah (wrap_num (by omega) hT1);rw[hN] at HW;have HT1:=ah hT1;have HNn:=ah hN;have HSs:=ah hS;have HRun:=ah hrun;have HOf:Hid (openE b=if S.2.2=true\/buildE S.1≠0\/buildB S.1≠b then 73 else 0):=by
     unfold Hid;rw[HOe.o,if_neg,HSs.o];rw[HT0.o];simpa using HMk.o
    clear hT1 hN hS hrun;go_wp2_with (first
     | (go_at_call 139;refine(take_any 4 (by omega) w3.heap.size Emp b false w _ HR0.o hbl).mono ?_;rw[HT0.o];rintro x w4 ⟨B4,d4,rfl,hr4, -, -, -,h4⟩;have s1:=str_any hr4 d4;rw[<-HSA.o] at s1;have HR4:=ah h4;clear hr4 h4)
     | (go_at_call 140;(with_reducible refine(number_any 4 4 rfl (by omega) _ Emp T0.2.1 T0.2.2 T1 N w _ HR4.o HT1.o (by rw[HNn.o];exact HW.o) t0q).mono ?_);rintro x w5 ⟨rfl,h5⟩;have HR5:=ah (h5.allocP 226 #[.slice none 0 0,.pointer none]);clear h5))
    generalize w5.heap.size=T at*
    generalize w3.heap.size=R at*
    go_loopw [8] (fun iv wr=> ∃ i:Nat,i<=N/\iv = .int .i64 i/\Hid (OpAt w R T N S i wr)) (fun iv _=>N - (intOf iv).toNat)
    case atStart=>
     obtain⟨A6,c6,hs6,hq6⟩:=HR5.o;refine⟨0,by omega,rfl,⟨none,0,[],T1.2.1,T1.2.2,HRun.o,rfl,t1q,by simp,A6,c6,?_,hq6⟩⟩;exact(hs6.row_nil 120 4).of (show _=Pt R 223 _*(Pt T 226 _*(Row 120 4 _ _ _*Emp)) by ac_rfl)
    case round=>
     obtain⟨i,hi,rfl,HD⟩:=hrel;obtain⟨A6,c6,es,q,s,hrn,hes,hq,hsm6,A7,c7,hs7,hq7⟩:=HD.o.ex;obtain⟨A6',c6',he6,hl6,hm6⟩:=hs7.up3.row_sl;injection he6 with e1 _ e3
     subst e1 e3;have r1:=hs7.cell 1;have t0:=hs7.up2.cell 0;have HS:=ah hs7;have HQ:=ah hq7;have HRn:=ah hrn;have HEs:=ah hes;have HSm6:=ah hsm6;have HRow:=ah hs7.up3.row_rdK;have HEn:Hid (EnsR wr es):=ownE_r (hs7.of (show _=OwnE es*(Pt R 223 _*(Pt T 226 _*Row 120 4 _ _ _)) by ac_rfl));have HCap:Hid (∀ e ∈ es,e.key.2.2.length<=e.key.2.1/\e.key.2.1<=maxLen):=ownE_cap (hs7.of (show _=OwnE es*(Pt R 223 _*(Pt T 226 _*Row 120 4 _ _ _)) by ac_rfl));have hle:es.length<=N:=by omega
     have HM6:=ah hm6;clear hs7 hq7 hrn hes hsm6 hm6;by_cases hgo:i<N/\s=false
     .obtain⟨hlt,rfl⟩:=hgo;have hrun2:runP (N - (i+1)) (stepP (es.map En.ent,q,false))=S:=by
       have h1:=HRn.o;rw[show N - i=(N - (i+1))+1 by omega,runP_step _ rfl] at h1;exact h1
      have HRun2:=ah hrun2;clear hrun2;have hiz:(i:Int)<N:=by omega
      by_cases h8:i % 8=0
      .have hm2:(i:Int).tmod 8=0:=by rw[Int.tmod_eq_emod_of_nonneg (by omega)];omega
       have HAh:Hid (aheadS (es.map En.ent)=[]):=by unfold Hid aheadS;rw[List.length_map,HEs.o,if_pos h8]
       clear h8;go_upto_region 15 with fail;refine wp_region_held_drew (S:=fun _=>True) (by kernel_rfl) trivial ?_;intro hS0;have HSd:=ah HS.o.drew;revert HSd;generalize wr.drew=wd;intro HSd;clear HS;have HS:Hid (Sat w (Pt R 223 #[.slice A7 q.length c7,.bool false]*(Pt T 226 #[.slice A6 es.length c6,.pointer none]*(Row 120 4 (.slice A6 es.length c6) es.length (es.flatMap enV)*OwnE es))) wd):=HSd;clear HSd;refine rtk 0 ?_;refine rtk 1 ?_;refine rtk 2 ?_;refine rtk 3 ?_;refine rtk 5 ?_;refine rtk 6 ?_;refine rgn_both (i:=4) (j:=7) rfl rfl (by kernel_rfl) (fun K hK=>?_) (fun K hK=>?_)
       ·
        have c0:=HS.o.up2.cell 0;go_simp;clear c0;refine hK.out _ _ trivial (fun hS0=>?_);clear hK K
        try simp only[Act.put,List.setIfInBounds_toArray,List.set_cons_zero,List.set_cons_succ]
        refine rck 7 fun K hK=>?_
        go_simp;have hrd:Rdr w R (Pt T 226 #[.slice A6 es.length c6,.pointer none]*(Row 120 4 (.slice A6 es.length c6) es.length (es.flatMap enV)*OwnE es)) q false wd:=⟨A7,c7,HS.o,HQ.o⟩;go_at_call 141
        (refine(rentry_any none 0 [] R _ q false w _ hrd hq (fun _ W _=>Rd.nil W none) (by simp) (by unfold maxLen;omega) (by simp)).mono ?_)
        rintro x v7 ⟨g,rfl,hge,A8,c8,hs,hq8⟩;simp only[enA];have HGe:=ah hge;have HQ8:=ah hq8;replace HS:Hid (Sat w (Pt R 223 #[.slice A8 (entP [] q false).2.1.length c8,.bool (entP [] q false).2.2]*(Pt T 226 #[.slice A6 es.length c6,.pointer none]*(Row 120 4 (.slice A6 es.length c6) es.length (es.flatMap enV)*(OwnE es*(Row 5 1 (slv' g.key) g.key.2.2.length (g.key.2.2.map bv)*Row 5 1 (slv' g.value) g.value.2.2.length (g.value.2.2.map bv)))))) v7):=hs.of (by ac_rfl);clear hs hrd hge hq8;refine hK.out _ _ trivial (fun hS0=>?_);clear hK K;refine rck 8 fun K hK=>?_
        go_simp;have hs:=HS.o.allocPt 120 #[.slice g.key.1 g.key.2.2.length g.key.2.1,.slice g.value.1 g.value.2.2.length g.value.2.1,.int .i64 g.seq,.bool g.dead];have hl:=lit_rdv v7 #[.slice g.key.1 g.key.2.2.length g.key.2.1,.slice g.value.1 g.value.2.2.length g.value.2.1,.int .i64 g.seq,.bool g.dead] 120;revert hs hl;generalize World.alloc v7 _=v8;generalize v7.heap.size=g8;intro hs hl;have HLt:=ah hl;replace HS:Hid (Sat w (Pt R 223 #[.slice A8 (entP [] q false).2.1.length c8,.bool (entP [] q false).2.2]*(Pt T 226 #[.slice A6 es.length c6,.pointer none]*(Row 120 4 (.slice A6 es.length c6) es.length (es.flatMap enV)*(OwnE es*(Row 5 1 (slv' g.key) g.key.2.2.length (g.key.2.2.map bv)*(Row 5 1 (slv' g.value) g.value.2.2.length (g.value.2.2.map bv)*Pt g8 120 #[.slice g.key.1 g.key.2.2.length g.key.2.1,.slice g.value.1 g.value.2.2.length g.value.2.1,.int .i64 g.seq,.bool g.dead])))))) v8):=hs.of (by ac_rfl);clear hs hl;refine hK.out _ _ trivial (fun hS0=>?_);clear hK K;refine rck 9 fun K hK=>?_
        refine step_appS rfl (.tmp 70) (.tmp 74) 116 rfl 120 i0 _ 4 64 Tryz.underlying116 Hi0.o Hz0.o Hz1.o Hz2.o rfl (by decide) (.slice A6 es.length c6) es.length (es.flatMap enV) rfl w _ (by exact HS.o.up3) (some ⟨g8,0,none⟩) 1 1 (enV g) rfl (by exact HLt.o) rfl (by have:=ent_ones [g];simpa using this) (by unfold maxLen;omega) (by omega) ?_;intro A9 c9 v9 hs;replace HS:Hid (Sat w (Pt R 223 #[.slice A8 (entP [] q false).2.1.length c8,.bool (entP [] q false).2.2]*(Pt T 226 #[.slice A6 es.length c6,.pointer none]*(Row 120 4 (.slice A9 (es.length+1) c9) (es.length+1) (es.flatMap enV++enV g)*(OwnE es*(Row 5 1 (slv' g.key) g.key.2.2.length (g.key.2.2.map bv)*(Row 5 1 (slv' g.value) g.value.2.2.length (g.value.2.2.map bv)*Pt g8 120 #[.slice g.key.1 g.key.2.2.length g.key.2.1,.slice g.value.1 g.value.2.2.length g.value.2.1,.int .i64 g.seq,.bool g.dead])))))) v9):=hs.of (by ac_rfl);clear hs;refine hK.out _ _ trivial (fun hS0=>?_);clear hK K
        try simp only[Act.put,List.setIfInBounds_toArray,List.set_cons_zero,List.set_cons_succ]
        refine rtk 10 ?_;refine rtk 11 ?_;refine rck 12 fun K hK=>?_
        have hs:=HS.o.up2.set 0 (.slice A9 (es.length+1) c9);have f0:=HS.o.up2.frozen 0;have c0:=HS.o.up2.cell 0;go_simp;clear f0 c0;revert hs;generalize World.setCell v9 _ _=v12;intro hs;replace HS:Hid (Sat w (Pt R 223 #[.slice A8 (entP [] q false).2.1.length c8,.bool (entP [] q false).2.2]*(Pt T 226 #[.slice A9 (es.length+1) c9,.pointer none]*(Row 120 4 (.slice A9 (es.length+1) c9) (es.length+1) (es.flatMap enV++enV g)*(OwnE es*(Row 5 1 (slv' g.key) g.key.2.2.length (g.key.2.2.map bv)*(Row 5 1 (slv' g.value) g.value.2.2.length (g.value.2.2.map bv)*Pt g8 120 #[.slice g.key.1 g.key.2.2.length g.key.2.1,.slice g.value.1 g.value.2.2.length g.value.2.1,.int .i64 g.seq,.bool g.dead])))))) v12):=hs.of (by ac_rfl);clear hs;refine hK.out _ _ trivial (fun hS0=>?_);clear hK K
        try simp only[Act.put,List.setIfInBounds_toArray,List.set_cons_zero,List.set_cons_succ]
        refine wpAnyH_done (by kernel_rfl) ?_ _;go_wp2_with fail;go_roundw
        .have hsm:=entP_small [] q false;rw[<-HGe.o] at hsm;refine⟨i+1,by omega,by push_cast;rfl,⟨A9,c9,es++[g],(entP [] q false).2.1,(entP [] q false).2.2,?_,by rw[List.length_append,HEs.o];rfl,Nat.le_trans (entP_len _ _ _) hq,?_,A8,c8,?_,HQ8.o⟩⟩
         .have h9:=HRun2.o;unfold stepP at h9;simp only[HAh.o] at h9;rw[List.map_append,List.map_singleton,HGe.o];exact h9
         .intro e he;rcases List.mem_append.1 he with he | he
          .exact HSm6.o e he
          .rw[List.mem_singleton.1 he];exact hsm
         .rw[ownE_snoc,List.flatMap_append,List.length_append];have h9:=HS.o.of (show _=Pt g8 120 _*(Pt R 223 _*(Pt T 226 _*(Row 120 4 _ _ _*(Row 5 1 (slv' g.key) _ _*(Row 5 1 (slv' g.value) _ _*OwnE es))))) by ac_rfl);have h10:=h9.right;simpa using h10
        .simp[intOf];omega
       ·
        go_simp;have hrd:Rdr w R (Pt T 226 #[.slice A6 es.length c6,.pointer none]*(Row 120 4 (.slice A6 es.length c6) es.length (es.flatMap enV)*OwnE es)) q false wd:=⟨A7,c7,HS.o,HQ.o⟩;go_at_call 141
        (refine(rentry_any none 0 [] R _ q false w _ hrd hq (fun _ W _=>Rd.nil W none) (by simp) (by unfold maxLen;omega) (by simp)).mono ?_)
        rintro x v7 ⟨g,rfl,hge,A8,c8,hs,hq8⟩;simp only[enA];have HGe:=ah hge;have HQ8:=ah hq8;replace HS:Hid (Sat w (Pt R 223 #[.slice A8 (entP [] q false).2.1.length c8,.bool (entP [] q false).2.2]*(Pt T 226 #[.slice A6 es.length c6,.pointer none]*(Row 120 4 (.slice A6 es.length c6) es.length (es.flatMap enV)*(OwnE es*(Row 5 1 (slv' g.key) g.key.2.2.length (g.key.2.2.map bv)*Row 5 1 (slv' g.value) g.value.2.2.length (g.value.2.2.map bv)))))) v7):=hs.of (by ac_rfl);clear hs hrd hge hq8;refine hK.out _ _ trivial (fun hS0=>?_);clear hK K;refine rgn_both (i:=4) (j:=8) rfl rfl (by kernel_rfl) (fun K hK=>?_) (fun K hK=>?_)
        ·
         have c0:=HS.o.up2.cell 0;go_simp;clear c0;refine hK.out _ _ trivial (fun hS0=>?_);clear hK K
         try simp only[Act.put,List.setIfInBounds_toArray,List.set_cons_zero,List.set_cons_succ]
         refine rck 8 fun K hK=>?_
         go_simp;have hs:=HS.o.allocPt 120 #[.slice g.key.1 g.key.2.2.length g.key.2.1,.slice g.value.1 g.value.2.2.length g.value.2.1,.int .i64 g.seq,.bool g.dead];have hl:=lit_rdv v7 #[.slice g.key.1 g.key.2.2.length g.key.2.1,.slice g.value.1 g.value.2.2.length g.value.2.1,.int .i64 g.seq,.bool g.dead] 120;revert hs hl;generalize World.alloc v7 _=v8;generalize v7.heap.size=g8;intro hs hl;have HLt:=ah hl;replace HS:Hid (Sat w (Pt R 223 #[.slice A8 (entP [] q false).2.1.length c8,.bool (entP [] q false).2.2]*(Pt T 226 #[.slice A6 es.length c6,.pointer none]*(Row 120 4 (.slice A6 es.length c6) es.length (es.flatMap enV)*(OwnE es*(Row 5 1 (slv' g.key) g.key.2.2.length (g.key.2.2.map bv)*(Row 5 1 (slv' g.value) g.value.2.2.length (g.value.2.2.map bv)*Pt g8 120 #[.slice g.key.1 g.key.2.2.length g.key.2.1,.slice g.value.1 g.value.2.2.length g.value.2.1,.int .i64 g.seq,.bool g.dead])))))) v8):=hs.of (by ac_rfl);clear hs hl;refine hK.out _ _ trivial (fun hS0=>?_);clear hK K;refine rck 9 fun K hK=>?_
         refine step_appS rfl (.tmp 70) (.tmp 74) 116 rfl 120 i0 _ 4 64 Tryz.underlying116 Hi0.o Hz0.o Hz1.o Hz2.o rfl (by decide) (.slice A6 es.length c6) es.length (es.flatMap enV) rfl w _ (by exact HS.o.up3) (some ⟨g8,0,none⟩) 1 1 (enV g) rfl (by exact HLt.o) rfl (by have:=ent_ones [g];simpa using this) (by unfold maxLen;omega) (by omega) ?_;intro A9 c9 v9 hs;replace HS:Hid (Sat w (Pt R 223 #[.slice A8 (entP [] q false).2.1.length c8,.bool (entP [] q false).2.2]*(Pt T 226 #[.slice A6 es.length c6,.pointer none]*(Row 120 4 (.slice A9 (es.length+1) c9) (es.length+1) (es.flatMap enV++enV g)*(OwnE es*(Row 5 1 (slv' g.key) g.key.2.2.length (g.key.2.2.map bv)*(Row 5 1 (slv' g.value) g.value.2.2.length (g.value.2.2.map bv)*Pt g8 120 #[.slice g.key.1 g.key.2.2.length g.key.2.1,.slice g.value.1 g.value.2.2.length g.value.2.1,.int .i64 g.seq,.bool g.dead])))))) v9):=hs.of (by ac_rfl);clear hs;refine hK.out _ _ trivial (fun hS0=>?_);clear hK K
         try simp only[Act.put,List.setIfInBounds_toArray,List.set_cons_zero,List.set_cons_succ]
         refine rtk 10 ?_;refine rtk 11 ?_;refine rck 12 fun K hK=>?_
         have hs:=HS.o.up2.set 0 (.slice A9 (es.length+1) c9);have f0:=HS.o.up2.frozen 0;have c0:=HS.o.up2.cell 0;go_simp;clear f0 c0;revert hs;generalize World.setCell v9 _ _=v12;intro hs;replace HS:Hid (Sat w (Pt R 223 #[.slice A8 (entP [] q false).2.1.length c8,.bool (entP [] q false).2.2]*(Pt T 226 #[.slice A9 (es.length+1) c9,.pointer none]*(Row 120 4 (.slice A9 (es.length+1) c9) (es.length+1) (es.flatMap enV++enV g)*(OwnE es*(Row 5 1 (slv' g.key) g.key.2.2.length (g.key.2.2.map bv)*(Row 5 1 (slv' g.value) g.value.2.2.length (g.value.2.2.map bv)*Pt g8 120 #[.slice g.key.1 g.key.2.2.length g.key.2.1,.slice g.value.1 g.value.2.2.length g.value.2.1,.int .i64 g.seq,.bool g.dead])))))) v12):=hs.of (by ac_rfl);clear hs;refine hK.out _ _ trivial (fun hS0=>?_);clear hK K
         try simp only[Act.put,List.setIfInBounds_toArray,List.set_cons_zero,List.set_cons_succ]
         refine wpAnyH_done (by kernel_rfl) ?_ _;go_wp2_with fail;go_roundw
         .have hsm:=entP_small [] q false;rw[<-HGe.o] at hsm;refine⟨i+1,by omega,by push_cast;rfl,⟨A9,c9,es++[g],(entP [] q false).2.1,(entP [] q false).2.2,?_,by rw[List.length_append,HEs.o];rfl,Nat.le_trans (entP_len _ _ _) hq,?_,A8,c8,?_,HQ8.o⟩⟩
          .have h9:=HRun2.o;unfold stepP at h9;simp only[HAh.o] at h9;rw[List.map_append,List.map_singleton,HGe.o];exact h9
          .intro e he;rcases List.mem_append.1 he with he | he
           .exact HSm6.o e he
           .rw[List.mem_singleton.1 he];exact hsm
          .rw[ownE_snoc,List.flatMap_append,List.length_append];have h9:=HS.o.of (show _=Pt g8 120 _*(Pt R 223 _*(Pt T 226 _*(Row 120 4 _ _ _*(Row 5 1 (slv' g.key) _ _*(Row 5 1 (slv' g.value) _ _*OwnE es))))) by ac_rfl);have h10:=h9.right;simpa using h10
         .simp[intOf];omega
        ·
         go_simp;have hs:=HS.o.allocPt 120 #[.slice g.key.1 g.key.2.2.length g.key.2.1,.slice g.value.1 g.value.2.2.length g.value.2.1,.int .i64 g.seq,.bool g.dead];have hl:=lit_rdv v7 #[.slice g.key.1 g.key.2.2.length g.key.2.1,.slice g.value.1 g.value.2.2.length g.value.2.1,.int .i64 g.seq,.bool g.dead] 120;revert hs hl;generalize World.alloc v7 _=v8;generalize v7.heap.size=g8;intro hs hl;have HLt:=ah hl;replace HS:Hid (Sat w (Pt R 223 #[.slice A8 (entP [] q false).2.1.length c8,.bool (entP [] q false).2.2]*(Pt T 226 #[.slice A6 es.length c6,.pointer none]*(Row 120 4 (.slice A6 es.length c6) es.length (es.flatMap enV)*(OwnE es*(Row 5 1 (slv' g.key) g.key.2.2.length (g.key.2.2.map bv)*(Row 5 1 (slv' g.value) g.value.2.2.length (g.value.2.2.map bv)*Pt g8 120 #[.slice g.key.1 g.key.2.2.length g.key.2.1,.slice g.value.1 g.value.2.2.length g.value.2.1,.int .i64 g.seq,.bool g.dead])))))) v8):=hs.of (by ac_rfl);clear hs hl;refine hK.out _ _ trivial (fun hS0=>?_);clear hK K;refine rck 4 fun K hK=>?_
         have c0:=HS.o.up2.cell 0;go_simp;clear c0;refine hK.out _ _ trivial (fun hS0=>?_);clear hK K
         try simp only[Act.put,List.setIfInBounds_toArray,List.set_cons_zero,List.set_cons_succ]
         refine rck 9 fun K hK=>?_
         refine step_appS rfl (.tmp 70) (.tmp 74) 116 rfl 120 i0 _ 4 64 Tryz.underlying116 Hi0.o Hz0.o Hz1.o Hz2.o rfl (by decide) (.slice A6 es.length c6) es.length (es.flatMap enV) rfl w _ (by exact HS.o.up3) (some ⟨g8,0,none⟩) 1 1 (enV g) rfl (by exact HLt.o) rfl (by have:=ent_ones [g];simpa using this) (by unfold maxLen;omega) (by omega) ?_;intro A9 c9 v9 hs;replace HS:Hid (Sat w (Pt R 223 #[.slice A8 (entP [] q false).2.1.length c8,.bool (entP [] q false).2.2]*(Pt T 226 #[.slice A6 es.length c6,.pointer none]*(Row 120 4 (.slice A9 (es.length+1) c9) (es.length+1) (es.flatMap enV++enV g)*(OwnE es*(Row 5 1 (slv' g.key) g.key.2.2.length (g.key.2.2.map bv)*(Row 5 1 (slv' g.value) g.value.2.2.length (g.value.2.2.map bv)*Pt g8 120 #[.slice g.key.1 g.key.2.2.length g.key.2.1,.slice g.value.1 g.value.2.2.length g.value.2.1,.int .i64 g.seq,.bool g.dead])))))) v9):=hs.of (by ac_rfl);clear hs;refine hK.out _ _ trivial (fun hS0=>?_);clear hK K
         try simp only[Act.put,List.setIfInBounds_toArray,List.set_cons_zero,List.set_cons_succ]
         refine rtk 10 ?_;refine rtk 11 ?_;refine rck 12 fun K hK=>?_
         have hs:=HS.o.up2.set 0 (.slice A9 (es.length+1) c9);have f0:=HS.o.up2.frozen 0;have c0:=HS.o.up2.cell 0;go_simp;clear f0 c0;revert hs;generalize World.setCell v9 _ _=v12;intro hs;replace HS:Hid (Sat w (Pt R 223 #[.slice A8 (entP [] q false).2.1.length c8,.bool (entP [] q false).2.2]*(Pt T 226 #[.slice A9 (es.length+1) c9,.pointer none]*(Row 120 4 (.slice A9 (es.length+1) c9) (es.length+1) (es.flatMap enV++enV g)*(OwnE es*(Row 5 1 (slv' g.key) g.key.2.2.length (g.key.2.2.map bv)*(Row 5 1 (slv' g.value) g.value.2.2.length (g.value.2.2.map bv)*Pt g8 120 #[.slice g.key.1 g.key.2.2.length g.key.2.1,.slice g.value.1 g.value.2.2.length g.value.2.1,.int .i64 g.seq,.bool g.dead])))))) v12):=hs.of (by ac_rfl);clear hs;refine hK.out _ _ trivial (fun hS0=>?_);clear hK K
         try simp only[Act.put,List.setIfInBounds_toArray,List.set_cons_zero,List.set_cons_succ]
         refine wpAnyH_done (by kernel_rfl) ?_ _;go_wp2_with fail;go_roundw
         .have hsm:=entP_small [] q false;rw[<-HGe.o] at hsm;refine⟨i+1,by omega,by push_cast;rfl,⟨A9,c9,es++[g],(entP [] q false).2.1,(entP [] q false).2.2,?_,by rw[List.length_append,HEs.o];rfl,Nat.le_trans (entP_len _ _ _) hq,?_,A8,c8,?_,HQ8.o⟩⟩
          .have h9:=HRun2.o;unfold stepP at h9;simp only[HAh.o] at h9;rw[List.map_append,List.map_singleton,HGe.o];exact h9
          .intro e he;rcases List.mem_append.1 he with he | he
           .exact HSm6.o e he
           .rw[List.mem_singleton.1 he];exact hsm
          .rw[ownE_snoc,List.flatMap_append,List.length_append];have h9:=HS.o.of (show _=Pt g8 120 _*(Pt R 223 _*(Pt T 226 _*(Row 120 4 _ _ _*(Row 5 1 (slv' g.key) _ _*(Row 5 1 (slv' g.value) _ _*OwnE es))))) by ac_rfl);have h10:=h9.right;simpa using h10
         .simp[intOf];omega
      .obtain⟨p,hp⟩: ∃ p,i=p+1:=⟨i - 1,by cases i with | zero=>simp at h8 | succ n=>omega⟩;have hpl:p<es.length:=by have:=HEs.o;omega
       obtain⟨mm,hm1,hm2⟩: ∃ mm:Nat,(i:Int).tmod 8=(mm:Int)/\0<mm:=⟨i % 8,by rw[Int.tmod_eq_emod_of_nonneg (by omega)];omega,by omega⟩;have hmi:(0:Int)<(mm:Int):=by omega
       have hii:(i:Int) - 1=(p:Int):=by omega
       have hwp:IntKind.i64.wrap (p:Int)=(p:Int):=by rw[IntKind.wrap_i64];omega
       have hpi:(p:Int)<es.length:=by omega
       obtain⟨lb,lo,rfl,hq4⟩:=ents_at HRow.o (by omega);obtain⟨y0,_,_,_⟩:=hq4 p hpl;unfold slv' at y0;have HAh:Hid (aheadS (es.map En.ent)=es[p].key.2.2):=by
        unfold Hid aheadS;rw[List.length_map,HEs.o,if_neg h8,hp,Nat.add_sub_cancel,List.getElem?_map,List.getElem?_eq_getElem hpl];rfl
       have HHal:Hid (∀ (X:SP) (W:World),Sat w (X*(Pt T 226 #[.slice (some ⟨lb,lo,none⟩) es.length c6,.pointer none]*(Row 120 4 (.slice (some ⟨lb,lo,none⟩) es.length c6) es.length (es.flatMap enV)*OwnE es))) W->Rd W es[p].key.1 es[p].key.2.2):=fun X W hW=>
        ((ownE_r (hW.of (show _=OwnE es*(X*(Pt T 226 _*Row 120 4 _ _ _)) by ac_rfl))) _ (List.getElem_mem hpl)).1
       have HCp:=ah (HCap.o _ (List.getElem_mem hpl));have HSp:=ah (HSm6.o _ (List.getElem_mem hpl)).1;have HPp:=ah hp;clear h8 hp hm2 hq4;go_upto_region 15 with fail;refine wp_region_held_drew (S:=fun _=>True) (by kernel_rfl) trivial ?_;intro hS0;have HSd:=ah HS.o.drew;revert HSd;generalize wr.drew=wd;intro HSd;clear HS;have HS:Hid (Sat w (Pt R 223 #[.slice A7 q.length c7,.bool false]*(Pt T 226 #[.slice (some ⟨lb,lo,none⟩) es.length c6,.pointer none]*(Row 120 4 (.slice (some ⟨lb,lo,none⟩) es.length c6) es.length (es.flatMap enV)*OwnE es))) wd):=HSd;clear HSd;refine rtk 0 ?_;refine rtk 1 ?_;refine rtk 2 ?_;refine rtk 3 ?_;refine rtk 5 ?_;refine rtk 6 ?_;refine rgn_both (i:=4) (j:=7) rfl rfl (by kernel_rfl) (fun K hK=>?_) (fun K hK=>?_)
       ·
        have c0:=HS.o.up2.cell 0;go_simp;clear c0;refine hK.out _ _ trivial (fun hS0=>?_);clear hK K
        try simp only[Act.put,List.setIfInBounds_toArray,List.set_cons_zero,List.set_cons_succ]
        refine rck 7 fun K hK=>?_
        go_simp;have hrd:Rdr w R (Pt T 226 #[.slice (some ⟨lb,lo,none⟩) es.length c6,.pointer none]*(Row 120 4 (.slice (some ⟨lb,lo,none⟩) es.length c6) es.length (es.flatMap enV)*OwnE es)) q false wd:=⟨A7,c7,HS.o,HQ.o⟩;go_at_call 141
        (refine(rentry_any es[p].key.1 es[p].key.2.1 es[p].key.2.2 R _ q false w _ hrd hq HHal.o HCp.o.1 HCp.o.2 (by have:=HSp.o;omega)).mono ?_)
        rintro x v7 ⟨g,rfl,hge,A8,c8,hs,hq8⟩;simp only[enA];have HGe:=ah hge;have HQ8:=ah hq8;replace HS:Hid (Sat w (Pt R 223 #[.slice A8 (entP es[p].key.2.2 q false).2.1.length c8,.bool (entP es[p].key.2.2 q false).2.2]*(Pt T 226 #[.slice (some ⟨lb,lo,none⟩) es.length c6,.pointer none]*(Row 120 4 (.slice (some ⟨lb,lo,none⟩) es.length c6) es.length (es.flatMap enV)*(OwnE es*(Row 5 1 (slv' g.key) g.key.2.2.length (g.key.2.2.map bv)*Row 5 1 (slv' g.value) g.value.2.2.length (g.value.2.2.map bv)))))) v7):=hs.of (by ac_rfl);clear hs hrd hge hq8;refine hK.out _ _ trivial (fun hS0=>?_);clear hK K;refine rck 8 fun K hK=>?_
        go_simp;have hs:=HS.o.allocPt 120 #[.slice g.key.1 g.key.2.2.length g.key.2.1,.slice g.value.1 g.value.2.2.length g.value.2.1,.int .i64 g.seq,.bool g.dead];have hl:=lit_rdv v7 #[.slice g.key.1 g.key.2.2.length g.key.2.1,.slice g.value.1 g.value.2.2.length g.value.2.1,.int .i64 g.seq,.bool g.dead] 120;revert hs hl;generalize World.alloc v7 _=v8;generalize v7.heap.size=g8;intro hs hl;have HLt:=ah hl;replace HS:Hid (Sat w (Pt R 223 #[.slice A8 (entP es[p].key.2.2 q false).2.1.length c8,.bool (entP es[p].key.2.2 q false).2.2]*(Pt T 226 #[.slice (some ⟨lb,lo,none⟩) es.length c6,.pointer none]*(Row 120 4 (.slice (some ⟨lb,lo,none⟩) es.length c6) es.length (es.flatMap enV)*(OwnE es*(Row 5 1 (slv' g.key) g.key.2.2.length (g.key.2.2.map bv)*(Row 5 1 (slv' g.value) g.value.2.2.length (g.value.2.2.map bv)*Pt g8 120 #[.slice g.key.1 g.key.2.2.length g.key.2.1,.slice g.value.1 g.value.2.2.length g.value.2.1,.int .i64 g.seq,.bool g.dead])))))) v8):=hs.of (by ac_rfl);clear hs hl;refine hK.out _ _ trivial (fun hS0=>?_);clear hK K;refine rck 9 fun K hK=>?_
        refine step_appS rfl (.tmp 70) (.tmp 74) 116 rfl 120 i0 _ 4 64 Tryz.underlying116 Hi0.o Hz0.o Hz1.o Hz2.o rfl (by decide) (.slice (some ⟨lb,lo,none⟩) es.length c6) es.length (es.flatMap enV) rfl w _ (by exact HS.o.up3) (some ⟨g8,0,none⟩) 1 1 (enV g) rfl (by exact HLt.o) rfl (by have:=ent_ones [g];simpa using this) (by unfold maxLen;omega) (by omega) ?_;intro A9 c9 v9 hs;replace HS:Hid (Sat w (Pt R 223 #[.slice A8 (entP es[p].key.2.2 q false).2.1.length c8,.bool (entP es[p].key.2.2 q false).2.2]*(Pt T 226 #[.slice (some ⟨lb,lo,none⟩) es.length c6,.pointer none]*(Row 120 4 (.slice A9 (es.length+1) c9) (es.length+1) (es.flatMap enV++enV g)*(OwnE es*(Row 5 1 (slv' g.key) g.key.2.2.length (g.key.2.2.map bv)*(Row 5 1 (slv' g.value) g.value.2.2.length (g.value.2.2.map bv)*Pt g8 120 #[.slice g.key.1 g.key.2.2.length g.key.2.1,.slice g.value.1 g.value.2.2.length g.value.2.1,.int .i64 g.seq,.bool g.dead])))))) v9):=hs.of (by ac_rfl);clear hs;refine hK.out _ _ trivial (fun hS0=>?_);clear hK K
        try simp only[Act.put,List.setIfInBounds_toArray,List.set_cons_zero,List.set_cons_succ]
        refine rtk 10 ?_;refine rtk 11 ?_;refine rck 12 fun K hK=>?_
        have hs:=HS.o.up2.set 0 (.slice A9 (es.length+1) c9);have f0:=HS.o.up2.frozen 0;have c0:=HS.o.up2.cell 0;go_simp;clear f0 c0;revert hs;generalize World.setCell v9 _ _=v12;intro hs;replace HS:Hid (Sat w (Pt R 223 #[.slice A8 (entP es[p].key.2.2 q false).2.1.length c8,.bool (entP es[p].key.2.2 q false).2.2]*(Pt T 226 #[.slice A9 (es.length+1) c9,.pointer none]*(Row 120 4 (.slice A9 (es.length+1) c9) (es.length+1) (es.flatMap enV++enV g)*(OwnE es*(Row 5 1 (slv' g.key) g.key.2.2.length (g.key.2.2.map bv)*(Row 5 1 (slv' g.value) g.value.2.2.length (g.value.2.2.map bv)*Pt g8 120 #[.slice g.key.1 g.key.2.2.length g.key.2.1,.slice g.value.1 g.value.2.2.length g.value.2.1,.int .i64 g.seq,.bool g.dead])))))) v12):=hs.of (by ac_rfl);clear hs;refine hK.out _ _ trivial (fun hS0=>?_);clear hK K
        try simp only[Act.put,List.setIfInBounds_toArray,List.set_cons_zero,List.set_cons_succ]
        refine wpAnyH_done (by kernel_rfl) ?_ _;go_wp2_with fail;go_roundw
        .have hsm:=entP_small es[p].key.2.2 q false;rw[<-HGe.o] at hsm;refine⟨i+1,by omega,by push_cast;rfl,⟨A9,c9,es++[g],(entP es[p].key.2.2 q false).2.1,(entP es[p].key.2.2 q false).2.2,?_,by rw[List.length_append,HEs.o];rfl,Nat.le_trans (entP_len _ _ _) hq,?_,A8,c8,?_,HQ8.o⟩⟩
         .have h9:=HRun2.o;unfold stepP at h9;simp only[HAh.o] at h9;rw[List.map_append,List.map_singleton,HGe.o];exact h9
         .intro e he;rcases List.mem_append.1 he with he | he
          .exact HSm6.o e he
          .rw[List.mem_singleton.1 he];exact hsm
         .rw[ownE_snoc,List.flatMap_append,List.length_append];have h9:=HS.o.of (show _=Pt g8 120 _*(Pt R 223 _*(Pt T 226 _*(Row 120 4 _ _ _*(Row 5 1 (slv' g.key) _ _*(Row 5 1 (slv' g.value) _ _*OwnE es))))) by ac_rfl);have h10:=h9.right;simpa using h10
        .simp[intOf];omega
       ·
        go_simp;have hrd:Rdr w R (Pt T 226 #[.slice (some ⟨lb,lo,none⟩) es.length c6,.pointer none]*(Row 120 4 (.slice (some ⟨lb,lo,none⟩) es.length c6) es.length (es.flatMap enV)*OwnE es)) q false wd:=⟨A7,c7,HS.o,HQ.o⟩;go_at_call 141
        (refine(rentry_any es[p].key.1 es[p].key.2.1 es[p].key.2.2 R _ q false w _ hrd hq HHal.o HCp.o.1 HCp.o.2 (by have:=HSp.o;omega)).mono ?_)
        rintro x v7 ⟨g,rfl,hge,A8,c8,hs,hq8⟩;simp only[enA];have HGe:=ah hge;have HQ8:=ah hq8;replace HS:Hid (Sat w (Pt R 223 #[.slice A8 (entP es[p].key.2.2 q false).2.1.length c8,.bool (entP es[p].key.2.2 q false).2.2]*(Pt T 226 #[.slice (some ⟨lb,lo,none⟩) es.length c6,.pointer none]*(Row 120 4 (.slice (some ⟨lb,lo,none⟩) es.length c6) es.length (es.flatMap enV)*(OwnE es*(Row 5 1 (slv' g.key) g.key.2.2.length (g.key.2.2.map bv)*Row 5 1 (slv' g.value) g.value.2.2.length (g.value.2.2.map bv)))))) v7):=hs.of (by ac_rfl);clear hs hrd hge hq8;refine hK.out _ _ trivial (fun hS0=>?_);clear hK K;refine rgn_both (i:=4) (j:=8) rfl rfl (by kernel_rfl) (fun K hK=>?_) (fun K hK=>?_)
        ·
         have c0:=HS.o.up2.cell 0;go_simp;clear c0;refine hK.out _ _ trivial (fun hS0=>?_);clear hK K
         try simp only[Act.put,List.setIfInBounds_toArray,List.set_cons_zero,List.set_cons_succ]
         refine rck 8 fun K hK=>?_
         go_simp;have hs:=HS.o.allocPt 120 #[.slice g.key.1 g.key.2.2.length g.key.2.1,.slice g.value.1 g.value.2.2.length g.value.2.1,.int .i64 g.seq,.bool g.dead];have hl:=lit_rdv v7 #[.slice g.key.1 g.key.2.2.length g.key.2.1,.slice g.value.1 g.value.2.2.length g.value.2.1,.int .i64 g.seq,.bool g.dead] 120;revert hs hl;generalize World.alloc v7 _=v8;generalize v7.heap.size=g8;intro hs hl;have HLt:=ah hl;replace HS:Hid (Sat w (Pt R 223 #[.slice A8 (entP es[p].key.2.2 q false).2.1.length c8,.bool (entP es[p].key.2.2 q false).2.2]*(Pt T 226 #[.slice (some ⟨lb,lo,none⟩) es.length c6,.pointer none]*(Row 120 4 (.slice (some ⟨lb,lo,none⟩) es.length c6) es.length (es.flatMap enV)*(OwnE es*(Row 5 1 (slv' g.key) g.key.2.2.length (g.key.2.2.map bv)*(Row 5 1 (slv' g.value) g.value.2.2.length (g.value.2.2.map bv)*Pt g8 120 #[.slice g.key.1 g.key.2.2.length g.key.2.1,.slice g.value.1 g.value.2.2.length g.value.2.1,.int .i64 g.seq,.bool g.dead])))))) v8):=hs.of (by ac_rfl);clear hs hl;refine hK.out _ _ trivial (fun hS0=>?_);clear hK K;refine rck 9 fun K hK=>?_
         refine step_appS rfl (.tmp 70) (.tmp 74) 116 rfl 120 i0 _ 4 64 Tryz.underlying116 Hi0.o Hz0.o Hz1.o Hz2.o rfl (by decide) (.slice (some ⟨lb,lo,none⟩) es.length c6) es.length (es.flatMap enV) rfl w _ (by exact HS.o.up3) (some ⟨g8,0,none⟩) 1 1 (enV g) rfl (by exact HLt.o) rfl (by have:=ent_ones [g];simpa using this) (by unfold maxLen;omega) (by omega) ?_;intro A9 c9 v9 hs;replace HS:Hid (Sat w (Pt R 223 #[.slice A8 (entP es[p].key.2.2 q false).2.1.length c8,.bool (entP es[p].key.2.2 q false).2.2]*(Pt T 226 #[.slice (some ⟨lb,lo,none⟩) es.length c6,.pointer none]*(Row 120 4 (.slice A9 (es.length+1) c9) (es.length+1) (es.flatMap enV++enV g)*(OwnE es*(Row 5 1 (slv' g.key) g.key.2.2.length (g.key.2.2.map bv)*(Row 5 1 (slv' g.value) g.value.2.2.length (g.value.2.2.map bv)*Pt g8 120 #[.slice g.key.1 g.key.2.2.length g.key.2.1,.slice g.value.1 g.value.2.2.length g.value.2.1,.int .i64 g.seq,.bool g.dead])))))) v9):=hs.of (by ac_rfl);clear hs;refine hK.out _ _ trivial (fun hS0=>?_);clear hK K
         try simp only[Act.put,List.setIfInBounds_toArray,List.set_cons_zero,List.set_cons_succ]
         refine rtk 10 ?_;refine rtk 11 ?_;refine rck 12 fun K hK=>?_
         have hs:=HS.o.up2.set 0 (.slice A9 (es.length+1) c9);have f0:=HS.o.up2.frozen 0;have c0:=HS.o.up2.cell 0;go_simp;clear f0 c0;revert hs;generalize World.setCell v9 _ _=v12;intro hs;replace HS:Hid (Sat w (Pt R 223 #[.slice A8 (entP es[p].key.2.2 q false).2.1.length c8,.bool (entP es[p].key.2.2 q false).2.2]*(Pt T 226 #[.slice A9 (es.length+1) c9,.pointer none]*(Row 120 4 (.slice A9 (es.length+1) c9) (es.length+1) (es.flatMap enV++enV g)*(OwnE es*(Row 5 1 (slv' g.key) g.key.2.2.length (g.key.2.2.map bv)*(Row 5 1 (slv' g.value) g.value.2.2.length (g.value.2.2.map bv)*Pt g8 120 #[.slice g.key.1 g.key.2.2.length g.key.2.1,.slice g.value.1 g.value.2.2.length g.value.2.1,.int .i64 g.seq,.bool g.dead])))))) v12):=hs.of (by ac_rfl);clear hs;refine hK.out _ _ trivial (fun hS0=>?_);clear hK K
         try simp only[Act.put,List.setIfInBounds_toArray,List.set_cons_zero,List.set_cons_succ]
         refine wpAnyH_done (by kernel_rfl) ?_ _;go_wp2_with fail;go_roundw
         .have hsm:=entP_small es[p].key.2.2 q false;rw[<-HGe.o] at hsm;refine⟨i+1,by omega,by push_cast;rfl,⟨A9,c9,es++[g],(entP es[p].key.2.2 q false).2.1,(entP es[p].key.2.2 q false).2.2,?_,by rw[List.length_append,HEs.o];rfl,Nat.le_trans (entP_len _ _ _) hq,?_,A8,c8,?_,HQ8.o⟩⟩
          .have h9:=HRun2.o;unfold stepP at h9;simp only[HAh.o] at h9;rw[List.map_append,List.map_singleton,HGe.o];exact h9
          .intro e he;rcases List.mem_append.1 he with he | he
           .exact HSm6.o e he
           .rw[List.mem_singleton.1 he];exact hsm
          .rw[ownE_snoc,List.flatMap_append,List.length_append];have h9:=HS.o.of (show _=Pt g8 120 _*(Pt R 223 _*(Pt T 226 _*(Row 120 4 _ _ _*(Row 5 1 (slv' g.key) _ _*(Row 5 1 (slv' g.value) _ _*OwnE es))))) by ac_rfl);have h10:=h9.right;simpa using h10
         .simp[intOf];omega
        ·
         go_simp;have hs:=HS.o.allocPt 120 #[.slice g.key.1 g.key.2.2.length g.key.2.1,.slice g.value.1 g.value.2.2.length g.value.2.1,.int .i64 g.seq,.bool g.dead];have hl:=lit_rdv v7 #[.slice g.key.1 g.key.2.2.length g.key.2.1,.slice g.value.1 g.value.2.2.length g.value.2.1,.int .i64 g.seq,.bool g.dead] 120;revert hs hl;generalize World.alloc v7 _=v8;generalize v7.heap.size=g8;intro hs hl;have HLt:=ah hl;replace HS:Hid (Sat w (Pt R 223 #[.slice A8 (entP es[p].key.2.2 q false).2.1.length c8,.bool (entP es[p].key.2.2 q false).2.2]*(Pt T 226 #[.slice (some ⟨lb,lo,none⟩) es.length c6,.pointer none]*(Row 120 4 (.slice (some ⟨lb,lo,none⟩) es.length c6) es.length (es.flatMap enV)*(OwnE es*(Row 5 1 (slv' g.key) g.key.2.2.length (g.key.2.2.map bv)*(Row 5 1 (slv' g.value) g.value.2.2.length (g.value.2.2.map bv)*Pt g8 120 #[.slice g.key.1 g.key.2.2.length g.key.2.1,.slice g.value.1 g.value.2.2.length g.value.2.1,.int .i64 g.seq,.bool g.dead])))))) v8):=hs.of (by ac_rfl);clear hs hl;refine hK.out _ _ trivial (fun hS0=>?_);clear hK K;refine rck 4 fun K hK=>?_
         have c0:=HS.o.up2.cell 0;go_simp;clear c0;refine hK.out _ _ trivial (fun hS0=>?_);clear hK K
         try simp only[Act.put,List.setIfInBounds_toArray,List.set_cons_zero,List.set_cons_succ]
         refine rck 9 fun K hK=>?_
         refine step_appS rfl (.tmp 70) (.tmp 74) 116 rfl 120 i0 _ 4 64 Tryz.underlying116 Hi0.o Hz0.o Hz1.o Hz2.o rfl (by decide) (.slice (some ⟨lb,lo,none⟩) es.length c6) es.length (es.flatMap enV) rfl w _ (by exact HS.o.up3) (some ⟨g8,0,none⟩) 1 1 (enV g) rfl (by exact HLt.o) rfl (by have:=ent_ones [g];simpa using this) (by unfold maxLen;omega) (by omega) ?_;intro A9 c9 v9 hs;replace HS:Hid (Sat w (Pt R 223 #[.slice A8 (entP es[p].key.2.2 q false).2.1.length c8,.bool (entP es[p].key.2.2 q false).2.2]*(Pt T 226 #[.slice (some ⟨lb,lo,none⟩) es.length c6,.pointer none]*(Row 120 4 (.slice A9 (es.length+1) c9) (es.length+1) (es.flatMap enV++enV g)*(OwnE es*(Row 5 1 (slv' g.key) g.key.2.2.length (g.key.2.2.map bv)*(Row 5 1 (slv' g.value) g.value.2.2.length (g.value.2.2.map bv)*Pt g8 120 #[.slice g.key.1 g.key.2.2.length g.key.2.1,.slice g.value.1 g.value.2.2.length g.value.2.1,.int .i64 g.seq,.bool g.dead])))))) v9):=hs.of (by ac_rfl);clear hs;refine hK.out _ _ trivial (fun hS0=>?_);clear hK K
         try simp only[Act.put,List.setIfInBounds_toArray,List.set_cons_zero,List.set_cons_succ]
         refine rtk 10 ?_;refine rtk 11 ?_;refine rck 12 fun K hK=>?_
         have hs:=HS.o.up2.set 0 (.slice A9 (es.length+1) c9);have f0:=HS.o.up2.frozen 0;have c0:=HS.o.up2.cell 0;go_simp;clear f0 c0;revert hs;generalize World.setCell v9 _ _=v12;intro hs;replace HS:Hid (Sat w (Pt R 223 #[.slice A8 (entP es[p].key.2.2 q false).2.1.length c8,.bool (entP es[p].key.2.2 q false).2.2]*(Pt T 226 #[.slice A9 (es.length+1) c9,.pointer none]*(Row 120 4 (.slice A9 (es.length+1) c9) (es.length+1) (es.flatMap enV++enV g)*(OwnE es*(Row 5 1 (slv' g.key) g.key.2.2.length (g.key.2.2.map bv)*(Row 5 1 (slv' g.value) g.value.2.2.length (g.value.2.2.map bv)*Pt g8 120 #[.slice g.key.1 g.key.2.2.length g.key.2.1,.slice g.value.1 g.value.2.2.length g.value.2.1,.int .i64 g.seq,.bool g.dead])))))) v12):=hs.of (by ac_rfl);clear hs;refine hK.out _ _ trivial (fun hS0=>?_);clear hK K
         try simp only[Act.put,List.setIfInBounds_toArray,List.set_cons_zero,List.set_cons_succ]
         refine wpAnyH_done (by kernel_rfl) ?_ _;go_wp2_with fail;go_roundw
         .have hsm:=entP_small es[p].key.2.2 q false;rw[<-HGe.o] at hsm;refine⟨i+1,by omega,by push_cast;rfl,⟨A9,c9,es++[g],(entP es[p].key.2.2 q false).2.1,(entP es[p].key.2.2 q false).2.2,?_,by rw[List.length_append,HEs.o];rfl,Nat.le_trans (entP_len _ _ _) hq,?_,A8,c8,?_,HQ8.o⟩⟩
          .have h9:=HRun2.o;unfold stepP at h9;simp only[HAh.o] at h9;rw[List.map_append,List.map_singleton,HGe.o];exact h9
          .intro e he;rcases List.mem_append.1 he with he | he
           .exact HSm6.o e he
           .rw[List.mem_singleton.1 he];exact hsm
          .rw[ownE_snoc,List.flatMap_append,List.length_append];have h9:=HS.o.of (show _=Pt g8 120 _*(Pt R 223 _*(Pt T 226 _*(Row 120 4 _ _ _*(Row 5 1 (slv' g.key) _ _*(Row 5 1 (slv' g.value) _ _*OwnE es))))) by ac_rfl);have h10:=h9.right;simpa using h10
         .simp[intOf];omega
     .have HFin:Hid (S=(es.map En.ent,q,s)):=by
       have h1:=HRn.o;by_cases hlt:i<N
       .have hst:s=true:=by
         cases s with
         | true=>rfl
         | false=>exact absurd ⟨hlt,rfl⟩ hgo
        rw[runP_short _ (by exact hst)] at h1;exact h1.symm
       .rw[show N - i=0 by omega] at h1;exact h1.symm
      clear HRn;have hwi:i<N/\s=true\/i=N:=by
       by_cases hlt:i<N
       .cases s with
        | true=>exact .inl ⟨hlt,rfl⟩
        | false=>exact absurd ⟨hlt,rfl⟩ hgo
       .exact .inr (by omega)
      obtain⟨D,hD⟩: ∃ D,buildE (es.map En.ent)=D:=⟨_,rfl⟩;have HDe:=ah hD;have HBu:Hid (Calls Tryz.prog 142 #[.slice A6 es.length c6] wr (Built (es.map En.ent) wr)):=build_any A6 c6 es wr HRow.o HEn.o hl6 HM6.o (fun e he=>⟨by have:=(HSm6.o e he).1;omega,by have:=(HSm6.o e he).2.1;omega,(HCap.o e he).1,(HCap.o e he).2⟩) (fun e he=>(HSm6.o e he).2.2);clear hD hgo;rcases hwi with ⟨hlt,rfl⟩ | hEq
      ·
       have HO:Hid (openE b=73):=by unfold Hid;rw[HOf.o,if_pos];rw[HFin.o];exact .inl rfl
       go_wp2_with fail;refine HBu.o.mono ?_;intro x w8 hb8;obtain⟨A8,n8,c8,e8,rfl,k8⟩:=built_tup hb8;have hs8:=HS.o.new k8;have q1:=hs8.cell 1;have HC8:=ah hs8.chg;clear hb8 hs8 k8;go_wp2_with fail;go_ret2;exact .inl ⟨by rw[HO.o];decide,by rw[HO.o];rfl,HC8.o⟩
      .cases s
       case true=>
        have HO:Hid (openE b=73):=by unfold Hid;rw[HOf.o,if_pos];rw[HFin.o];exact .inl rfl
        go_wp2_with fail;refine HBu.o.mono ?_;intro x w8 hb8;obtain⟨A8,n8,c8,e8,rfl,k8⟩:=built_tup hb8;have hs8:=HS.o.new k8;have q1:=hs8.cell 1;have HC8:=ah hs8.chg;clear hb8 hs8 k8;go_wp2_with fail;go_ret2;exact .inl ⟨by rw[HO.o];decide,by rw[HO.o];rfl,HC8.o⟩
       case false=>
        by_cases hne:D=0
        .subst hne;have h65:es.length<=65536:=by have:=buildE_len HDe.o;simpa using this
         obtain⟨kk,hkk⟩: ∃ k,decide (buildB (es.map En.ent)=b)=k:=⟨_,rfl⟩;have HKk:=ah hkk;clear hkk
         cases kk
         case false=>
          go_wp2_with fail;refine HBu.o.mono ?_;rintro x w8 (⟨h0,_⟩ | ⟨_,A8,c8,rfl,hl8,hm8,hs8⟩)
          .exact absurd HDe.o h0
          have hs9:=HS.o.new hs8.chg;have q1:=hs9.cell 1;have q2:=hs9.up2.cell 0;have q3:=hs9.up2.cell 1;have q4:=hs9.up2.frozen 1;have HR8:Hid (Rd w8 A8 (buildB (es.map En.ent))):=RdV.of_own hs8.row_own;have HK8:=ah hs8.chg;have HS9:=ah hs9;clear hs8 hs9;have HO:Hid (openE b=73):=by unfold Hid;rw[HOf.o,if_pos];rw[HFin.o];exact .inr (.inr (of_decide_eq_false HKk.o))
          go_wp2_with (go_at_call 126;refine(beq_any (A8,c8,buildB (es.map En.ent)) (A,c,b) w8 HR8.o (HB.o.new HS9.o.chg)).mono ?_;rintro x w9 ⟨rfl,rfl⟩;rw[HKk.o]);go_ret2;exact .inl ⟨by rw[HO.o];decide,by rw[HO.o];rfl,HS9.o.chg⟩
         case true=>
          go_wp2_with fail;refine HBu.o.mono ?_;rintro x w8 (⟨h0,_⟩ | ⟨_,A8,c8,rfl,hl8,hm8,hs8⟩)
          .exact absurd HDe.o h0
          have hs9:=HS.o.new hs8.chg;have q1:=hs9.cell 1;have q2:=hs9.up2.cell 0;have q3:=hs9.up2.cell 1;have q4:=hs9.up2.frozen 1;have HR8:Hid (Rd w8 A8 (buildB (es.map En.ent))):=RdV.of_own hs8.row_own;have HK8:=ah hs8.chg;have HS9:=ah hs9;clear hs8 hs9;have HO:Hid (openE b=0):=by unfold Hid;rw[HOf.o,if_neg];rw[HFin.o];rintro (h1 | h1 | h1);cases h1;exact h1 HDe.o;exact h1 (of_decide_eq_true HKk.o)
          go_wp2_with (first
           | (go_at_call 126;refine(beq_any (A8,c8,buildB (es.map En.ent)) (A,c,b) w8 HR8.o (HB.o.new HS9.o.chg)).mono ?_;rintro x w9 ⟨rfl,rfl⟩;rw[HKk.o])
           | (go_at_call 143;refine(filtered_any A6 c6 es _ (HRow.o.new HK8.o) (fun e he=>⟨(HEn.o e he).1.new HK8.o,(HEn.o e he).2.new HK8.o⟩) hl6 HM6.o h65 (fun e he=>by have:=(HSm6.o e he).1;omega)).mono ?_;rintro x w10 ⟨g,hh,n,rfl,hF,hg,hh1,k10,hn1,hn2⟩;have hs10:=HS9.o.new k10;have z3:=hs10.up2.cell 1;have z4:=hs10.up2.frozen 1;have HF:=ah hF;have HG:=ah (And.intro hg hh1);have HNn:=ah (And.intro hn1 hn2);have HS10:=ah hs10;clear hF hg hh1 k10 hn1 hn2 hs10))
          go_ret2;have h11:=HS10.o.up2.set 1 (.pointer (some ⟨g,0,none⟩));have hT1:=HS9.o.up2.lt;have hG:=HG.o;refine .inr ⟨HO.o,T,es,rfl,by rw[HSs.o,HFin.o],?_,HS10.o.up2.base,h11.chg⟩;refine⟨⟨A6,c6,g,hh,n,h11.cell 0,h11.cell 1,h11.up3.row_rdK,hl6,HM6.o,HF.o.chg (Chg.setCell (p:=⟨T,1,none⟩) (Chg.refl (One T) _) (fun _=>(show One T T from rfl)) _) (fun e=>?_) (fun e=>?_),HNn.o.1,HNn.o.2⟩,?_,HCap.o,HDe.o⟩
          .have e:g=T:=e;omega
          .have e:hh=T:=e;omega
          .exact ownE_r (h11.of (show _=OwnE es*(Pt R 223 _*(Pt T 226 _*Row 120 4 _ _ _)) by ac_rfl))
        .have HO:Hid (openE b=73):=by unfold Hid;rw[HOf.o,if_pos];rw[HFin.o];exact .inr (.inl (by rw[HDe.o];exact hne))
         have hne2:¬ (D:Int)=0:=by omega
         go_wp2_with fail;refine HBu.o.mono ?_;rintro x w8 (⟨_,rfl,k8⟩ | ⟨h0,_⟩)
         .rw[HDe.o];have hs8:=HS.o.new k8;have q1:=hs8.cell 1;have HC8:=ah hs8.chg;clear hs8 k8;go_wp2_with fail;go_ret2;exact .inl ⟨by rw[HO.o];decide,by rw[HO.o];rfl,HC8.o⟩
         .exact absurd (HDe.o ▸ h0) hne
end Go.Proofs.YtmbaiglpgaoogaaGreat
