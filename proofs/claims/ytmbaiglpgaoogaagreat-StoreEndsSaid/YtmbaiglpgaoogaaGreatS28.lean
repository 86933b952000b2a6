/- Joined, as they were built one by one: TabGet2 TabRange Sto7 Sto9 Sto11 MemLevL Sto13. -/
import Derived.Test.YtmbaiglpgaoogaaGreatS02
import Derived.Test.YtmbaiglpgaoogaaGreatS24
import Derived.Test.YtmbaiglpgaoogaaGreatS27
namespace Go.Proofs.YtmbaiglpgaoogaaGreat
open Go.RowKit
set_option linter.unusedVariables false
set_option maxRecDepth 100000
theorem TabR.small {w:World} {T:Nat} {es:List En} (h:TabR w T es): ∀ e ∈ es,e.key.2.2.length≤128∧e.value.2.2.length≤16384:=by
 intro e he;have h1:=h.ok;unfold buildE at h1;split at h1
 ·cases h1
 ·split at h1
  ·cases h1
  ·rename_i h2
   cases hm:mayE e.ent with
   | true=>have h3:=mayE_iff.1 hm;exact⟨h3.1,h3.2.1⟩
   | false=>exact absurd (.inr (List.any_eq_true.2 ⟨e.ent,List.mem_map_of_mem he,by rw[hm];rfl⟩)) h2
theorem info_entryT:(Tryz.prog.info? 120).map (fun i=>(i.zero,i.size,i.bytes))=some (some (.agg #[.slice none 0 0,.slice none 0 0,.int .i64 0,.bool false]),4,64):=by kernel_rfl
structure Rst (w:World) (tl:List UInt8) (l:List Ent) (qs:List En) (i:Nat) (fs:List En) (A:Option Addr) (c:Nat) (wr:World):Prop where
 told:l=fs.map En.ent++((qs.drop i).map En.ent).takeWhile (inB tl)
 len:fs.length=i
 sat:Sat w (Row 120 4 (.slice A fs.length c) fs.length (fs.flatMap enV)*OwnE fs) wr
set_option maxHeartbeats 4000000 in
theorem trange_any (F T:Slc) (Tb:Nat) (es:List En) (w:World) (hf:Rd w F.1 F.2.2) (ht:Rd w T.1 T.2.2) (h:TabR w Tb es):
  Calls Tryz.prog 107 #[.pointer (some ⟨Tb,0,none⟩),.slice F.1 F.2.2.length F.2.1,.slice T.1 T.2.2.length T.2.1] w (ToldE w (rngT F.2.2 T.2.2 (es.map En.ent))):=by
 obtain⟨fp,fc,fl⟩:=F;obtain⟨tp,tc,tl⟩:=T;have HTb:=ah h;have HF:Hid (Rd w fp fl):=hf;have HT:Hid (Rd w tp tl):=ht;obtain⟨A,c,g,hh,n,a1,_,a3,a4,a5,_⟩:=h.box;have HA1:=ah a1;obtain⟨L,hL⟩: ∃ L,L=es.map En.ent:=⟨_,rfl⟩;have HL:=ah hL;obtain⟨k,hkk⟩: ∃ k,k=atN (fromE fl) L:=⟨_,rfl⟩;have hkl:k≤es.length:=by rw[hkk];refine Nat.le_trans (at_le _ _) ?_;rw[hL];simp
 have HKK:=ah hkk;have HSm:=ah h.small;have HFew:=h.few;have HRd:=ah h.rd;have HB0:Hid (RdV w (if c=k then A else Option.map (fun x=>x.add (k*4)) A) ((es.drop k).flatMap enV)):=by
  by_cases hck:c=k
  ·rw[List.drop_of_length_le (by omega)];exact RdV.nil _ _
  ·have h1:=RdV.drop a3 (k:=k*4) (cap:=c*4) (by rw[ents_len];omega) (by rw[ents_len];omega);rw[←ents_dp,if_neg (by omega)] at h1;rw[if_neg hck];exact h1
 rw[←hL];show Calls _ _ #[_,.slice fp fl.length fc,.slice tp tl.length tc] w (ToldE w (rngT fl tl L));obtain⟨i0,hi0,hz0,hz1,hz2⟩:=info_parts info_entryT;clear hf ht h a1 a3 hL hkk;go_enter Tryz.func107, Tryz.ntmps107;go_upto_region 2 with fail;refine wp_region_held_drew (S:=fun w'=>w'.cell? ⟨Tb,0,none⟩=some (.slice A es.length c)) (by kernel_rfl) HA1.out ?_;intro hS0;refine rtk 0 ?_;refine rtk 1 ?_;refine rtk 2 ?_;refine rtk 3 ?_;refine rtk 4 ?_;refine rtk 5 ?_;refine rtk 6 ?_;refine rtk 10 ?_;refine rck 7 fun K hK=>?_
 go_simp;go_at_call 144;refine(from_any Tb es ⟨(fp,fc,fl),(none,0,[]),9223372036854775807,false⟩ _ (HTb.out.new (Chg.refl No w).drew) ⟨HF.out.new (Chg.refl No w).drew,Rd.nil _ _⟩).mono ?_;rintro x w1 ⟨rfl,k1⟩;rw[show (⟨(fp,fc,fl),(none,0,[]),9223372036854775807,false⟩:En).ent=fromE fl from rfl, ←HL.out, ←HKK.out];have HK:=ah ((Chg.refl No w).drew.tr k1);clear k1
 refine hK.out _ _ (HK.out.cell HA1.out id) (fun hS0=>?_);clear hK K;refine rtk 8 ?_;refine rtk 9 ?_;refine wpAnyH_done (by kernel_rfl) ?_ _;obtain⟨B,hB⟩: ∃ B,(if c=k then A else Option.map (fun x=>x.add (k*4)) A)=B:=⟨_,rfl⟩;rw[hB] at HB0 ⊢;clear hB;obtain⟨m,hm⟩: ∃ m,es.length - k=m:=⟨_,rfl⟩;obtain⟨d,hd⟩: ∃ d,c - k=d:=⟨_,rfl⟩;rw[hm,hd];have hmd:m≤d:=by omega
 obtain⟨qs,hqs⟩: ∃ qs,es.drop k=qs:=⟨_,rfl⟩;have HQl:Hid (qs.length=m):=by unfold Hid;rw[←hqs,List.length_drop];exact hm
 have HQm:Hid (∀ e ∈ qs,e ∈ es):=fun e he=>by rw[←hqs] at he;exact List.mem_of_mem_drop he
 have HTd:Hid (rngT fl tl L=(qs.map En.ent).takeWhile (inB tl)):=by unfold Hid rngT;rw[←HKK.out,HL.out, ←List.map_drop,hqs]
 have hm6:m≤65536:=by omega
 rw[hqs] at HB0;clear hm hd hqs hkl;by_cases h0:tl=[]
 case' pos=>
  have HZ:=ah h0;rw[show tl.length=0 by rw[h0];rfl];have h1:True:=trivial;clear h0
 case' neg=>
  have HZ:=ah h0;have h1:¬ tl.length=0:=by simpa using h0
  clear h0
 all_goals
  clear hS0;go_wp2_with fail;go_loopw [7,20] (fun out iv wr=> ∃ (i:Nat) (fs:List En) (A2:Option Addr) (c2:Nat),i≤m∧iv = .int .i64 i∧out = .slice A2 fs.length c2∧Hid (Rst w tl (rngT fl tl L) qs i fs A2 c2 wr)) (fun _ iv _=>m - (intOf iv).toNat)
  case atStart=>exact⟨0,[],none,0,by omega,rfl,rfl,HTd.out,rfl,(((Sat.start w).new HK.out).row_nil _ 4).of (by rfl)⟩
  case round=>
   obtain⟨i,fs,A2,c2,hi,rfl,rfl,HD⟩:=hrel;by_cases hlt:i<m
   ·have hil:i<qs.length:=by rw[HQl.out];exact hlt
    obtain⟨lb,lo,rfl,hq⟩:=ents_at HB0.out (by omega);obtain⟨y0,y1,y2,y3⟩:=hq i hil;unfold slv' at y0 y1;have z0:=HD.out.sat.chg.cell y0 id;have z1:=HD.out.sat.chg.cell y1 id;have z2:=HD.out.sat.chg.cell y2 id;have z3:=HD.out.sat.chg.cell y3 id;have HR:=ah (HRd.out _ (HQm.out _ (List.getElem_mem hil)));have hsm:=HSm.out _ (HQm.out _ (List.getElem_mem hil));have hk2:qs[i].key.2.2.length≤140737488355328:=by omega
    have hv3:qs[i].value.2.2.length≤140737488355328:=by omega
    have hlen:fs.length≤65536:=by have h1:=HD.out.len;omega
    have HTl:Hid (rngT fl tl L=fs.map En.ent++if inB tl qs[i].ent then qs[i].ent::((qs.drop (i+1)).map En.ent).takeWhile (inB tl) else []):=by
     have h2:=HD.out.told;rw[List.drop_eq_getElem_cons hil,List.map_cons,List.takeWhile_cons] at h2;exact h2
    have hin:inB tl qs[i].ent=(decide (tl=[]) || decide (Lib.compareBytes qs[i].key.2.2 tl<0)):=rfl;have HIn:=ah hin;clear hq y0 y1 y2 y3 hsm hin;go_wp2_with (first
     | (go_at_call 145;refine(cmpB_any qs[i].key (tp,tc,tl) _ (HR.out.1.new (HD.out.sat.chg.alloc _)) (HT.out.new (HD.out.sat.chg.alloc _))).mono ?_;rintro x wx ⟨rfl,rfl⟩)
     | (go_at_call 146;refine(tcopied_any qs[i] w _ _ (HD.out.sat.alloc' _) ⟨HR.out.1.new (HD.out.sat.chg.alloc _),HR.out.2.new (HD.out.sat.chg.alloc _)⟩ hk2 hv3).mono ?_;rintro x w6 ⟨⟨A3,c3,B3,d3,rfl,hs6⟩,k6⟩;have HS6:=ah hs6;clear hs6 k6;simp only[enA])
     | (at_builtin;refine wpList_appS rfl (.tmp 34) (.tmp 37) 116 rfl 120 i0 _ 4 64 Tryz.underlying116 hi0 hz0 hz1 hz2 rfl (by decide) (.slice A2 fs.length c2) fs.length (fs.flatMap enV) rfl w _ (by exact(HS6.out.alloc' _).up3) (some ⟨w6.heap.size,0,none⟩) 1 1 [.slice A3 qs[i].key.2.2.length c3,.slice B3 qs[i].value.2.2.length d3,.int .i64 qs[i].seq,.bool qs[i].dead] rfl (lit_rdv _ _ _) rfl (by intro u hu;simp at hu;rcases hu with rfl | rfl | rfl | rfl<;>rfl) (by unfold maxLen;omega) (by omega) ?_;intro A4 c4 w7 hs7;have HS7:=ah hs7;clear hs7))
    all_goals first
     | (go_ret
        have hB:inB tl qs[i].ent=false:=by
         have h2:=HZ.out;rw[HIn.out];simp[h2];omega
        refine⟨fs,A2,c2,rfl,?_,HD.out.sat.alloc' _⟩;rw[HTl.out,hB];simp)
     | (go_roundw
        ·have hB:inB tl qs[i].ent=true:=by
          rw[HIn.out];have h2:=HZ.out;simp[h2]
          all_goals omega
         refine⟨i+1,fs++[⟨(A3,c3,qs[i].key.2.2),(B3,d3,qs[i].value.2.2),qs[i].seq,qs[i].dead⟩],A4,c4,by omega,by push_cast;rfl,by rw[List.length_append];rfl,?_,?_,?_⟩
         ·rw[HTl.out,hB,if_pos rfl,List.map_append,List.append_assoc];rfl
         ·rw[List.length_append,HD.out.len];rfl
         ·refine HS7.out.of ?_;rw[ownE_snoc,List.flatMap_append,List.length_append];rfl
        ·simp[intOf];omega)
   ·have HTl:Hid (rngT fl tl L=fs.map En.ent):=by
     have h2:=HD.out.told;rw[List.drop_of_length_le (by rw[HQl.out];omega)] at h2;unfold Hid;simpa using h2
    go_wp2_with fail;go_ret;exact⟨fs,A2,c2,rfl,HTl.out.symm,HD.out.sat⟩
def prV (e:En):List Value:=[slv' e.key,slv' e.value]
theorem info_pr:(Tryz.prog.info? 65).map (fun i=>(i.zero,i.size,i.bytes))=some (some (.agg #[.slice none 0 0,.slice none 0 0]),2,48):=by kernel_rfl
def PairsT (w:World) (l:List Ent) (x:Ending) (w':World):Prop:= ∃ (es qs:List En) (B:Option Addr) (d:Nat),x = .returned (.slice B qs.length d)∧(∀ q ∈ qs,q ∈ es)∧qs.map En.ent=l∧
 Sat w (Row 65 2 (.slice B qs.length d) qs.length (qs.flatMap prV)*OwnE es) w'
theorem scan_cons (s:Int) (c:Option (List UInt8)) {L:List Ent} {i:Nat} (hi:i<L.length):scanE s c (L.drop i)=if s<L[i].seq∨c=some L[i].key then scanE s c (L.drop (i+1)) else (if L[i].dead=true then scanE s (some L[i].key) (L.drop (i+1)) else L[i]::scanE s (some L[i].key) (L.drop (i+1))):=by
 rw[List.drop_eq_getElem_cons hi];rfl
set_option maxHeartbeats 8000000 in
theorem scan_any (s most:Int) (b:Nat) (f t:Slc) (L:List Ent) (w:World) (hf:Calls Tryz.prog 125 #[.pointer (some ⟨b,0,none⟩),.slice f.1 f.2.2.length f.2.1,.slice t.1 t.2.2.length t.2.1] (w.alloc (.cells #[.int .i64 s] 135)) (ToldE (w.alloc (.cells #[.int .i64 s] 135)) L)) (hn:L.length≤1000000):
  Calls Tryz.prog 77 #[.agg #[.int .i64 s],.pointer (some ⟨b,0,none⟩),.slice f.1 f.2.2.length f.2.1,.slice t.1 t.2.2.length t.2.1,.int .i64 most] w (PairsT w ((scanE s none L).take most.toNat)):=by
 obtain⟨j0,hj,hy0,hy1,hy2⟩:=info_parts info_pr;have Hj:=ah hj;have Hy0:=ah hy0;have Hy1:=ah hy1;have Hy2:=ah hy2;have HF:=ah hf;have HS0:=ah ((Sat.start w).allocPt 135 #[.int .i64 s]);obtain⟨w1,hw1⟩: ∃ w1,w1=w.alloc (.cells #[.int .i64 s] 135):=⟨_,rfl⟩;rw[←hw1] at HF HS0;have HW:=ah hw1;clear hf hj hy0 hy1 hy2 hw1;go_enter Tryz.func77, Tryz.ntmps77;go_upto_region 4 with fail;rw[←HW.out];obtain⟨vb,hvb⟩: ∃ vb,vb=w.heap.size:=⟨_,rfl⟩;rw[←hvb] at HS0;rw[←hvb];clear hvb;go_wp2_with (go_at_call 125;(with_reducible refine HF.out.mono ?_);rintro e w2 ⟨es,A,c,rfl,hes,hs⟩);have HS2:=ah (HS0.out.join hs (owned_star (owned_row _ _ _ _ _) (owned_ownES _)));have HES:=ah hes;have hln:es.length≤1000000:=by have:=congrArg List.length hes;rw[List.length_map] at this;omega
 clear hes hs;have HS3:Hid (Sat w (Row 65 2 (.slice none 0 0) 0 []*(Row 120 4 (.slice A es.length c) es.length (es.flatMap enV)*(OwnE es*(Pt vb 135 #[.int .i64 s]*Emp)))) w2):=(HS2.out.of (star_assoc _ _ _)).row_nil 65 2;go_loopw [11,12,13,21] (fun ov kv bgv iv wr=> ∃ (i k d:Nat) (B:Option Addr) (K:Slc) (bg:Bool) (qs:List En),i≤es.length∧k≤i∧iv = .int .i64 (i:Int)∧ov = .slice B k d∧kv = .slice K.1 K.2.2.length K.2.1∧bgv = .bool bg∧Hid (k=qs.length∧(∀ q ∈ qs,q ∈ es)∧qs.map En.ent++scanE s (if bg=true then some K.2.2 else none) (L.drop i)=scanE s none L∧k≤most.toNat∧(K=(none,0,[])∨ ∃ e ∈ es,K=e.key)∧
  Sat w (Row 65 2 (.slice B k d) k (qs.flatMap prV)*(Row 120 4 (.slice A es.length c) es.length (es.flatMap enV)*(OwnE es*(Pt vb 135 #[.int .i64 s]*Emp)))) wr)) (fun _ _ _ iv _=>es.length - (intOf iv).toNat)
 case atStart=>exact⟨0,0,0,none,(none,0,[]),false,[],by omega,by omega,rfl,rfl,rfl,rfl,rfl,(fun q hq=>by cases hq),rfl,Nat.zero_le _,.inl rfl,HS3.out⟩
 case round=>
  obtain⟨i,k,d,B,K,bg,qs,hi,hki,rfl,rfl,rfl,rfl,HD⟩:=hrel;by_cases hlt:i<es.length
  ·have hs0:=HD.out.2.2.2.2.2;have hown:=ownE_r (hs0.up3);obtain⟨lb,lo,rfl,hq⟩:=ents_at (hs0.up2.row_rdK) (by omega);obtain⟨y0,y1,y2,y3⟩:=hq i hlt;have HRi:=ah (hown _ (List.getElem_mem hlt));have HKr:Hid (Rd wr K.1 K.2.2):=by
    rcases HD.out.2.2.2.2.1 with h1 | ⟨e,he,h1⟩
    ·rw[h1];exact fun hx=>absurd rfl hx
    ·rw[h1];exact(hown e he).1
   have hPm:=ah (List.getElem_mem hlt);have HSc:Hid (scanE s (if bg=true then some K.2.2 else none) (L.drop i)=if s<es[i].seq∨(if bg=true then some K.2.2 else none)=some es[i].key.2.2 then scanE s (if bg=true then some K.2.2 else none) (L.drop (i+1)) else (if es[i].dead=true then scanE s (some es[i].key.2.2) (L.drop (i+1)) else es[i].ent::scanE s (some es[i].key.2.2) (L.drop (i+1)))):=by
    have hl:i<L.length:=by rw[←HES.out,List.length_map];exact hlt
    have h9:=scan_cons s (if bg=true then some K.2.2 else none) hl;have h8:L[i]=es[i].ent:=by simp only[←HES.out,List.getElem_map]
    rw[h8] at h9;exact h9
   have hii:(i:Int)<es.length:=by omega
   clear hq hown hs0;generalize es[i]=x at*
   obtain⟨⟨kA,kc,kl⟩,⟨vA,vc,vl⟩,sq,dd⟩:=x;replace y0:_=some (Value.slice kA kl.length kc):=y0;replace y1:_=some (Value.slice vA vl.length vc):=y1;replace y2:_=some (Value.int .i64 sq):=y2;replace y3:_=some (Value.bool dd):=y3;have hv0:=HD.out.2.2.2.2.2.up4.cell 0;go_upto_region 7 with fail;have hs2:=HD.out.2.2.2.2.2.allocPt 120 #[.slice kA kl.length kc,.slice vA vl.length vc,.int .i64 sq,.bool dd];obtain⟨W4,hW4⟩: ∃ W4,W4=wr.alloc (.cells #[.slice kA kl.length kc,.slice vA vl.length vc,.int .i64 sq,.bool dd] 120):=⟨_,rfl⟩;rw[←hW4] at hs2;rw[←hW4];obtain⟨bx,hbx⟩: ∃ bx,bx=wr.heap.size:=⟨_,rfl⟩;rw[←hbx] at hs2;rw[←hbx];have HK4:Hid (Rd W4 K.1 K.2.2∧Rd W4 kA kl):=by rw[hW4];exact⟨HKr.out.alloc _,RdV.alloc HRi.out.1 _⟩
   clear hW4 hbx y0 y1 y2 y3 hv0;have x0:=hs2.cell 0;have x1:=hs2.cell 1;have x2:=hs2.cell 2;have x3:=hs2.cell 3;have v0:=hs2.up5.cell 0;have HS4:=ah hs2;clear hs2;by_cases hsq:s<sq
   ·have HN:Hid (scanE s (if bg=true then some K.2.2 else none) (L.drop i)=scanE s (if bg=true then some K.2.2 else none) (L.drop (i+1))):=by unfold Hid;rw[HSc.out,if_pos (.inl hsq)]
    go_wp2_with fail;go_roundw
    ·exact⟨i+1,k,d,B,K,bg,qs,by omega,by omega,by push_cast;rfl,rfl,rfl,rfl,HD.out.1,HD.out.2.1,by rw[←HN.out];exact HD.out.2.2.1,HD.out.2.2.2.1,HD.out.2.2.2.2.1,HS4.out.right⟩
    ·simp[intOf];omega
   ·cases bg
    ·have HGo:Hid (scanE s (if false=true then some K.2.2 else none) (L.drop i)=if dd=true then scanE s (some kl) (L.drop (i+1)) else (⟨kl,vl,sq,dd⟩:Ent)::scanE s (some kl) (L.drop (i+1))):=by
      unfold Hid;rw[HSc.out,if_neg]
      ·rfl
      ·rintro (h1 | h1)
       ·exact hsq h1
       ·cases h1
     by_cases hm:most≤k
     ·have HQ:Hid (qs.map En.ent=(scanE s none L).take most.toNat):=by
       have h1:=HD.out.2.2.1;have h2:=HD.out.2.2.2.1;have h3:=HD.out.1;have h4:most.toNat=(qs.map En.ent).length:=by rw[List.length_map];omega
       unfold Hid;rw[←h1,h4,List.take_left]
      go_wp2_with fail;go_ret;have hk:=HD.out.1;subst hk;exact⟨es,qs,_,_,rfl,HD.out.2.1,HQ.out,by
       have h1:=HS4.out.right.drop2;exact(h1.of (by ac_rfl:_=(Pt vb 135 #[.int .i64 s])*(Row 65 2 (.slice B qs.length d) qs.length (qs.flatMap prV)*(OwnE es*Emp)))).right.of (by rw[star_comm (OwnE es) Emp,emp_star])⟩
     ·have hm2:¬ (most:Int)≤(k:Int):=hm
      cases dd
      ·have HS5:=ah ((HS4.out.alloc' (.cells #[.slice kA kl.length kc,.slice vA vl.length vc] 65)).up2);go_wp2_with (at_builtin;refine wpList_appS rfl (.tmp 48) (.tmp 54) 30 rfl 65 j0 _ 2 48 Tryz.underlying30 Hj.out Hy0.out Hy1.out Hy2.out rfl (by decide) (.slice B k d) k (qs.flatMap prV) rfl w _ (by exact HS5.out) (some ⟨W4.heap.size,0,none⟩) 1 1 [.slice kA kl.length kc,.slice vA vl.length vc] rfl (by exact(lit_rdv _ _ _)) rfl (by intro u hu;simp at hu;rcases hu with rfl | rfl<;>rfl) (by unfold maxLen;omega) (by omega) ?_;intro B5 d5 w5 hs5;have HS6:=ah hs5;clear hs5);go_roundw
       ·refine⟨i+1,k+1,d5,B5,(kA,kc,kl),true,qs++[⟨(kA,kc,kl),(vA,vc,vl),sq,false⟩],by omega,by omega,by push_cast;rfl,rfl,rfl,rfl,by rw[List.length_append, ←HD.out.1];rfl,fun q hq=>?_,?_,by omega,.inr ⟨_,hPm.out,rfl⟩,?_⟩
        ·rcases List.mem_append.1 hq with h1 | h1
         ·exact HD.out.2.1 q h1
         ·rw[List.mem_singleton.1 h1];exact hPm.out
        ·have h1:=HD.out.2.2.1;rw[HGo.out] at h1;rw[List.map_append,List.append_assoc];exact h1
        ·rw[List.flatMap_append];exact HS6.out.drop2
       ·simp[intOf];omega
      ·go_wp2_with fail;go_roundw
       ·exact⟨i+1,k,d,B,(kA,kc,kl),true,qs,by omega,by omega,by push_cast;rfl,rfl,rfl,rfl,HD.out.1,HD.out.2.1,by have h1:=HD.out.2.2.1;rw[HGo.out] at h1;exact h1,HD.out.2.2.2.1,.inr ⟨_,hPm.out,rfl⟩,HS4.out.right⟩
       ·simp[intOf];omega
    ·by_cases he:kl=K.2.2
     ·have HBq:Hid (Calls Tryz.prog 126 #[.slice kA kl.length kc,.slice K.1 K.2.2.length K.2.1] W4 fun e w'=>e = .returned (.bool true)∧W4=w'):=by
       have h1:=beq_any (kA,kc,kl) K W4 HK4.out.2 HK4.out.1;rw[decide_eq_true he] at h1;exact h1.mono fun e w' ⟨a,b⟩=>⟨a,b.symm⟩
      have HN:Hid (scanE s (if true=true then some K.2.2 else none) (L.drop i)=scanE s (if true=true then some K.2.2 else none) (L.drop (i+1))):=by
       unfold Hid;rw[HSc.out,if_pos];exact .inr (by rw[if_pos rfl];exact congrArg some he.symm)
      clear he;go_wp2_with (go_at_call 126;(with_reducible refine HBq.out.mono ?_);rintro e wx ⟨rfl,rfl⟩);go_roundw
      ·exact⟨i+1,k,d,B,K,true,qs,by omega,by omega,by push_cast;rfl,rfl,rfl,rfl,HD.out.1,HD.out.2.1,by have h1:=HD.out.2.2.1;rw[HN.out] at h1;exact h1,HD.out.2.2.2.1,HD.out.2.2.2.2.1,HS4.out.right⟩
      ·simp[intOf];omega
     ·have HBq:Hid (Calls Tryz.prog 126 #[.slice kA kl.length kc,.slice K.1 K.2.2.length K.2.1] W4 fun e w'=>e = .returned (.bool false)∧W4=w'):=by
       have h1:=beq_any (kA,kc,kl) K W4 HK4.out.2 HK4.out.1;rw[decide_eq_false he] at h1;exact h1.mono fun e w' ⟨a,b⟩=>⟨a,b.symm⟩
      have HGo:Hid (scanE s (if true=true then some K.2.2 else none) (L.drop i)=if dd=true then scanE s (some kl) (L.drop (i+1)) else (⟨kl,vl,sq,dd⟩:Ent)::scanE s (some kl) (L.drop (i+1))):=by
       unfold Hid;rw[HSc.out,if_neg]
       ·rfl
       ·rintro (h1 | h1)
        ·exact hsq h1
        ·rw[if_pos rfl] at h1;injection h1 with h1;exact he h1.symm
      clear he;by_cases hm:most≤k
      ·have HQ:Hid (qs.map En.ent=(scanE s none L).take most.toNat):=by
        have h1:=HD.out.2.2.1;have h2:=HD.out.2.2.2.1;have h3:=HD.out.1;have h4:most.toNat=(qs.map En.ent).length:=by rw[List.length_map];omega
        unfold Hid;rw[←h1,h4,List.take_left]
       go_wp2_with (go_at_call 126;(with_reducible refine HBq.out.mono ?_);rintro e wx ⟨rfl,rfl⟩);go_ret;have hk:=HD.out.1;subst hk;exact⟨es,qs,_,_,rfl,HD.out.2.1,HQ.out,by
        have h1:=HS4.out.right.drop2;exact(h1.of (by ac_rfl:_=(Pt vb 135 #[.int .i64 s])*(Row 65 2 (.slice B qs.length d) qs.length (qs.flatMap prV)*(OwnE es*Emp)))).right.of (by rw[star_comm (OwnE es) Emp,emp_star])⟩
      ·have hm2:¬ (most:Int)≤(k:Int):=hm
       cases dd
       ·have HS5:=ah ((HS4.out.alloc' (.cells #[.slice kA kl.length kc,.slice vA vl.length vc] 65)).up2);go_wp2_with (first | (go_at_call 126;(with_reducible refine HBq.out.mono ?_);rintro e wx ⟨rfl,rfl⟩) | (at_builtin;refine wpList_appS rfl (.tmp 48) (.tmp 54) 30 rfl 65 j0 _ 2 48 Tryz.underlying30 Hj.out Hy0.out Hy1.out Hy2.out rfl (by decide) (.slice B k d) k (qs.flatMap prV) rfl w _ (by exact HS5.out) (some ⟨W4.heap.size,0,none⟩) 1 1 [.slice kA kl.length kc,.slice vA vl.length vc] rfl (by exact(lit_rdv _ _ _)) rfl (by intro u hu;simp at hu;rcases hu with rfl | rfl<;>rfl) (by unfold maxLen;omega) (by omega) ?_;intro B5 d5 w5 hs5;have HS6:=ah hs5;clear hs5));go_roundw
        ·refine⟨i+1,k+1,d5,B5,(kA,kc,kl),true,qs++[⟨(kA,kc,kl),(vA,vc,vl),sq,false⟩],by omega,by omega,by push_cast;rfl,rfl,rfl,rfl,by rw[List.length_append, ←HD.out.1];rfl,fun q hq=>?_,?_,by omega,.inr ⟨_,hPm.out,rfl⟩,?_⟩
         ·rcases List.mem_append.1 hq with h1 | h1
          ·exact HD.out.2.1 q h1
          ·rw[List.mem_singleton.1 h1];exact hPm.out
         ·have h1:=HD.out.2.2.1;rw[HGo.out] at h1;rw[List.map_append,List.append_assoc];exact h1
         ·rw[List.flatMap_append];exact HS6.out.drop2
        ·simp[intOf];omega
       ·go_wp2_with (go_at_call 126;(with_reducible refine HBq.out.mono ?_);rintro e wx ⟨rfl,rfl⟩);go_roundw
        ·exact⟨i+1,k,d,B,(kA,kc,kl),true,qs,by omega,by omega,by push_cast;rfl,rfl,rfl,rfl,HD.out.1,HD.out.2.1,by have h1:=HD.out.2.2.1;rw[HGo.out] at h1;exact h1,HD.out.2.2.2.1,.inr ⟨_,hPm.out,rfl⟩,HS4.out.right⟩
        ·simp[intOf];omega
  ·have hie:i=es.length:=by omega
   subst hie;have HQ:Hid (qs.map En.ent=(scanE s none L).take most.toNat):=by
    have h1:=HD.out.2.2.1;rw[List.drop_eq_nil_of_le (by rw[←HES.out,List.length_map];omega)] at h1;have h2:scanE s (if bg=true then some K.2.2 else none) []=[]:=by cases bg<;>rfl
    rw[h2,List.append_nil] at h1;unfold Hid;rw[←h1,List.take_of_length_le (by rw[List.length_map, ←HD.out.1];exact HD.out.2.2.2.1)]
   go_wp2_with fail;go_ret;have hk:=HD.out.1;subst hk;exact⟨es,qs,_,_,rfl,HD.out.2.1,HQ.out,by
    have h1:=HD.out.2.2.2.2.2.drop2;exact(h1.of (by ac_rfl:_=(Pt vb 135 #[.int .i64 s])*(Row 65 2 (.slice B qs.length d) qs.length (qs.flatMap prV)*(OwnE es*Emp)))).right.of (by rw[star_comm (OwnE es) Emp,emp_star])⟩
section
variable {w0 w:World} {F:SP}
def GotV (w0:World) (F:SP) (q:Option (List UInt8)) (x:Ending) (w':World):Prop:= ∃ A c,x = .returned (.tuple #[.slice A (q.getD []).length c,.bool q.isSome])∧Sat w0 (Row 5 1 (.slice A (q.getD []).length c) (q.getD []).length ((q.getD []).map bv)*F) w'
set_option maxHeartbeats 1000000 in
theorem vget_any (tb hr:Nat) (ns:List Nd) (n:Nat) (s:Int) (K:Slc) (hk:Rd w K.1 K.2.2) (h:Sat w0 (SkipT tb hr ns*F) w) (ht:TabG ns n) (hn:n≤100000):
  Calls Tryz.prog 78 #[.agg #[.int .i64 s],.pointer (some ⟨tb,0,none⟩),.slice K.1 K.2.2.length K.2.1] w (GotV w0 (SkipT tb hr ns*F) (alE K.2.2 s (entsN ns))):=by
 have hs1:=h.allocPt 135 #[.int .i64 s];have hG:=get_any K s tb hr ns (w.alloc (.cells #[.int .i64 s] 135)) (hk.alloc _) (hs1.right.view ht.ok) ht.ok (ht.small hn);rw[show getE K.2.2 s ns=lkE K.2.2 s (entsN ns) by rw[get_list];exact getL_lk (entsN_pw ht.ok)] at hG;unfold alE;obtain⟨q,hq⟩: ∃ q,q=lkE K.2.2 s (entsN ns):=⟨_,rfl⟩;rw[←hq] at hG ⊢;have HG:=ah hG;have HS1:=ah hs1;have hv0:=hs1.cell 0;clear hG hs1 hk ht hq h;obtain⟨W1,hW1⟩: ∃ W1,W1=w.alloc (.cells #[.int .i64 s] 135):=⟨_,rfl⟩;rw[←hW1] at HG HS1 hv0;have HW:=ah hW1;clear hW1;go_enter Tryz.func78, Tryz.ntmps78;go_upto_region 1 with fail;rw[←HW.out];obtain⟨vb,hvb⟩: ∃ vb,vb=w.heap.size:=⟨_,rfl⟩;rw[←hvb] at HS1 hv0;rw[←hvb];clear hvb HW;go_upto_region 2 with (go_at_call 127;(with_reducible refine HG.out.mono ?_);rintro e w2 ⟨⟨⟨gA,gc,gk⟩,⟨hA,hcc,hv⟩,gs,gd⟩,rfl,hg,hs2⟩;unfold enA;dsimp only;have HGe:=ah hg;have HS2:=ah (HS1.out.right.join hs2 (owned_ownES _));clear hg hs2)
 cases q with
 | none=>
  simp only[Option.isSome_none];have HS3:=ah (HS2.out.alloc' (.cells #[.slice gA gk.length gc,.slice hA hv.length hcc,.int .i64 gs,.bool gd] 120));clear HS2;go_wp2_with fail;go_ret2;exact⟨none,0,rfl,HS3.out.right.row_nil 5 1⟩
 | some e=>
  have he:(⟨gk,hv,gs,gd⟩:Ent)=e:=HGe.out;simp only[Option.isSome_some];subst he;have hs3:=HS2.out.allocPt 120 #[.slice gA gk.length gc,.slice hA hv.length hcc,.int .i64 gs,.bool gd];have x1:=hs3.cell 1;have x3:=hs3.cell 3;have HS3:=ah hs3;clear hs3 HGe
  cases gd
  ·go_wp2_with fail;go_ret2;refine⟨hA,hcc,rfl,?_⟩;have h1:=HS3.out.right;exact(h1.of (by show (Row _ _ _ _ _*(Row 5 1 (.slice hA hv.length hcc) hv.length (hv.map bv)*Emp))*_=Row 5 1 (.slice gA gk.length gc) gk.length (gk.map bv)*(Row 5 1 (.slice hA hv.length hcc) hv.length (hv.map bv)*(SkipT tb hr ns*F));rw[star_assoc,star_assoc,emp_star];rfl)).right
  ·go_wp2_with fail;go_ret2;exact⟨none,0,rfl,HS3.out.right.right.row_nil 5 1⟩
end
theorem now_any (b:Nat) (q:Int) (w:World) (hc:w.cell? ⟨b,4,none⟩=some (.int .i64 q)):Calls Tryz.prog 76 #[.pointer (some ⟨b,0,none⟩)] w fun x w'=>x = .returned (.agg #[.int .i64 q])∧Chg No w w':=by
 have hs:=(Sat.start w).allocPt 135 #[.int .i64 0];have hc2:=hs.chg.cell hc id;have HS2:=ah ((Sat.start w).allocPt 135 #[.int .i64 q]);have f0:=hs.frozen 0;clear hs hc;go_enter Tryz.func76, Tryz.ntmps76;go_wp2_with fail;refine bodyPost_ret (results_cell_row (p:=2) (by kernel_rfl) _ _ w.heap.size 135 _ (0,0) _ rfl HS2.out.at Tryz.underlying135 rfl (by kernel_rfl)) rfl ?_;exact⟨rfl,HS2.out.chg⟩
def ToldK (w0:World) (F:SP) (l:List Kv) (x:Ending) (w':World):Prop:= ∃ (es qs:List En) (B:Option Addr) (c:Nat),x = .returned (.slice B qs.length c)∧(∀ q ∈ qs,q ∈ es)∧qs.map (fun q=>pairE q.ent)=l∧
 Sat w0 (Row 65 2 (.slice B qs.length c) qs.length (qs.flatMap prV)*(OwnE es*F)) w'
section
variable {w0 w:World} {F:SP}
set_option maxHeartbeats 2000000 in
theorem get_st (b d s:Nat) (v:Sd) (K:Slc) (hk:Rd w K.1 K.2.2) (h:Sat w0 (DbP b d s v*F) w) (hL:v.L.length≤90000):
  Calls Tryz.prog 32 #[.pointer (some ⟨b,0,none⟩),.slice K.1 K.2.2.length K.2.1] w (GotV w0 (DbP b d s v*F) (alE K.2.2 v.seq v.L)):=by
 obtain⟨lg,L,sq,sn,few,nx⟩:=v;obtain⟨tb,hr,mb,ns,⟨ht,he⟩,hs0⟩:=h.db;dsimp only at hL ht he;have hs:=hs0.of (db_d ..);dsimp only at hs;have c3:w.cell? ⟨b,3,none⟩=some (.pointer (some ⟨tb,0,none⟩)):=hs.cell 3;have HNow:Hid (∀ W,Chg No w W→Calls Tryz.prog 76 #[.pointer (some ⟨b,0,none⟩)] W fun x w'=>x = .returned (.agg #[.int .i64 (sq:Int)])∧Chg No W w'):=fun W k=>now_any b sq W (k.cell (hs.cell 4) id)
 have HGet:Hid (∀ W,Chg No w W→Calls Tryz.prog 78 #[.agg #[.int .i64 (sq:Int)],.pointer (some ⟨tb,0,none⟩),.slice K.1 K.2.2.length K.2.1] W (GotV w0 (SkipT tb hr ns*(Pt b 113 (dbC d s lg tb sq mb nx false)*(MapP Tryz.prog 3 mb few (snV sn)*F))) (alE K.2.2 sq (entsN ns)))):=fun W k=>vget_any tb hr ns L.length sq K (hk.new k) (hs.up2.new k) ht (by omega)
 have C3:=ah c3;have HE:=ah he;have HT:=ah ht;have HDrew:Hid (Chg No w w.drew):=(Chg.refl No w).drew;rw[he] at HGet;clear h hs0 hs hk ht he;show Calls _ _ _ _ (GotV w0 (DbP b d s ⟨lg,L,sq,sn,few,nx⟩*F) (alE K.2.2 sq L));generalize alE K.2.2 sq L=q at*
 go_enter Tryz.func32, Tryz.ntmps32;go_upto_region 1 with fail;refine wp_region_held_drew (S:=fun w'=>w'.cell? ⟨b,3,none⟩=some (.pointer (some ⟨tb,0,none⟩))) (by kernel_rfl) (by exact c3) ?_;intro hS0;refine rtk 0 ?_;refine rtk 2 ?_;refine rtk 3 ?_;refine rtk 4 ?_;refine rtk 5 ?_;refine rtk 6 ?_;refine rck 1 fun K hK=>?_
 go_simp;go_at_call 76;(with_reducible refine(HNow.out _ HDrew.out).mono ?_);rintro e w2 ⟨rfl,k2⟩;have HK2:=ah (HDrew.out.tr k2);clear k2
 refine hK.out _ _ (HK2.out.cell C3.out id) (fun hS0=>?_);clear hK K;refine rck 7 fun K hK=>?_
 go_simp;go_at_call 78;(with_reducible refine(HGet.out _ HK2.out).mono ?_);rintro e w3 ⟨A,c,rfl,hs3⟩;have HS3:=ah hs3;clear hs3
 refine hK.out _ _ (HS3.out.up3.cell 3) (fun hS0=>?_);clear hK K;refine rtk 8 ?_;refine rtk 9 ?_;refine rtk 10 ?_;refine rtk 11 ?_;refine wpAnyH_done (by kernel_rfl) ?_ _;go_wp2_with fail;go_ret2;refine⟨A,c,rfl,?_⟩;have h1:=HS3.out.of (show _=Pt b 113 (dbC d s lg tb sq mb nx false)*(SkipT tb hr ns*(MapP Tryz.prog 3 mb few (snV sn)*(Row 5 1 (.slice A (q.getD []).length c) (q.getD []).length ((q.getD []).map bv)*F))) by ac_rfl);exact(Sat.dbI (v:=⟨lg,L,sq,sn,few,nx⟩) HT.out HE.out (by rw[db_d];exact h1)).up2
theorem vscan_any {tb hr:Nat} {ns:List Nd} {L:List Ent} (h:Sat w0 (SkipT tb hr ns*F) w) (ht:TabG ns L.length) (he:entsN ns=L) (hL:L.length≤90000) (q most:Int) (f t:Slc) (hf:Rd w f.1 f.2.2) (ht':Rd w t.1 t.2.2) {W:World} (k:Chg No w W):
  Calls Tryz.prog 77 #[.agg #[.int .i64 q],.pointer (some ⟨tb,0,none⟩),.slice f.1 f.2.2.length f.2.1,.slice t.1 t.2.2.length t.2.1,.int .i64 most] W (PairsT W ((scanE q none (rngL f.2.2 t.2.2 L)).take most.toNat)):=by
 have kA:Chg No w (W.alloc (.cells #[.int .i64 q] 135)):=k.alloc _;have h1:=range_any f.1 f.2.1 f.2.2 t.1 t.2.1 t.2.2 tb hr ns _ (hf.new kA) (ht'.new kA) ((h.new kA).view ht.ok) ht.ok (ht.small (by omega));rw[rangeG_rng ht,he] at h1;exact scan_any q most tb f t _ W h1 (by have:(rngL f.2.2 t.2.2 L).length≤L.length:=List.length_filter_le _ _;omega)
set_option maxHeartbeats 2000000 in
theorem scan_st (b d s:Nat) (v:Sd) (f t:Slc) (most:Int) (hf:Rd w f.1 f.2.2) (ht':Rd w t.1 t.2.2) (h:Sat w0 (DbP b d s v*F) w) (hL:v.L.length≤90000):
  Calls Tryz.prog 24 #[.pointer (some ⟨b,0,none⟩),.slice f.1 f.2.2.length f.2.1,.slice t.1 t.2.2.length t.2.1,.int .i64 most] w (ToldK w0 (DbP b d s v*F) ((cutM f.2.2 t.2.2 (viewE v.seq v.L)).take most.toNat)):=by
 obtain⟨lg,L,sq,sn,few,nx⟩:=v;obtain⟨tb,hr,mb,ns,⟨ht,he⟩,hs0⟩:=h.db;dsimp only at hL ht he;have hs:=hs0.of (db_d ..);dsimp only at hs;have c3:w.cell? ⟨b,3,none⟩=some (.pointer (some ⟨tb,0,none⟩)):=hs.cell 3;have hpw:L.Pairwise LTE:=he ▸ entsN_pw ht.ok;have HNow:Hid (∀ W,Chg No w W→Calls Tryz.prog 76 #[.pointer (some ⟨b,0,none⟩)] W fun x w'=>x = .returned (.agg #[.int .i64 (sq:Int)])∧Chg No W w'):=fun W k=>now_any b sq W (k.cell (hs.cell 4) id)
 have HSc:Hid (∀ W,Chg No w W→Calls Tryz.prog 77 #[.agg #[.int .i64 (sq:Int)],.pointer (some ⟨tb,0,none⟩),.slice f.1 f.2.2.length f.2.1,.slice t.1 t.2.2.length t.2.1,.int .i64 most] W (PairsT W ((scanE sq none (rngL f.2.2 t.2.2 L)).take most.toNat))):=fun W k=>vscan_any hs.up2 ht he hL sq most f t hf ht' k
 have C3:=ah c3;have HE:=ah he;have HT:=ah ht;have HS:=ah hs;have HPw:=ah hpw;have HDrew:Hid (Chg No w w.drew):=(Chg.refl No w).drew;clear h hs0 hs hf ht' ht he hpw;go_enter Tryz.func24, Tryz.ntmps24;go_upto_region 1 with fail;refine wp_region_held_drew (S:=fun w'=>w'.cell? ⟨b,3,none⟩=some (.pointer (some ⟨tb,0,none⟩))) (by kernel_rfl) (by exact c3) ?_;intro hS0;refine rtk 0 ?_;refine rtk 2 ?_;refine rtk 3 ?_;refine rtk 4 ?_;refine rtk 5 ?_;refine rtk 6 ?_;refine rtk 7 ?_;refine rtk 8 ?_;refine rck 1 fun K hK=>?_
 go_simp;go_at_call 76;(with_reducible refine(HNow.out _ HDrew.out).mono ?_);rintro e w2 ⟨rfl,k2⟩;have HK2:=ah (HDrew.out.tr k2);clear k2
 refine hK.out _ _ (HK2.out.cell C3.out id) (fun hS0=>?_);clear hK K;refine rck 9 fun K hK=>?_
 go_simp;go_at_call 77;(with_reducible refine(HSc.out _ HK2.out).mono ?_);rintro e w3 ⟨es,qs,B,c,rfl,hin,hqs,hs3⟩;have HIn:=ah hin;have HQs:=ah hqs;have HS3:=ah ((HS.out.new HK2.out).join hs3 (owned_star (owned_row _ _ _ _ _) (owned_ownES _)));clear hin hqs hs3
 refine hK.out _ _ (HS3.out.up2.cell 3) (fun hS0=>?_);clear hK K;refine rtk 10 ?_;refine wpAnyH_done (by kernel_rfl) ?_ _;go_wp2_with fail;go_ret;refine⟨es,qs,B,c,rfl,HIn.out,?_,?_⟩
 ·have h2:=congrArg (List.map pairE) HQs.out;rw[List.map_map] at h2;rw[show (fun q:En=>pairE q.ent)=pairE ∘ En.ent from rfl,h2,List.map_take];show (viewE sq (rngL f.2.2 t.2.2 L)).take _=_;rw[view_cut HPw.out]
 ·have h1:=HS3.out.of (show _=Pt b 113 (dbC d s lg tb sq mb nx false)*(SkipT tb hr ns*(MapP Tryz.prog 3 mb few (snV sn)*(Row 65 2 (.slice B qs.length c) qs.length (qs.flatMap prV)*(OwnE es*F)))) by ac_rfl);exact(Sat.dbI (v:=⟨lg,L,sq,sn,few,nx⟩) HT.out HE.out (by rw[db_d];exact h1)).of (by ac_rfl)
set_option maxHeartbeats 1000000 in
theorem count_st (b d s:Nat) (v:Sd) (h:Sat w0 (DbP b d s v*F) w) (hL:v.L.length≤90000):
  Calls Tryz.prog 31 #[.pointer (some ⟨b,0,none⟩)] w fun x w'=>x = .returned (.int .i64 ((viewE v.seq v.L).length:Nat))∧Sat w0 (DbP b d s v*F) w':=by
 have hsc:=scan_st (w0:=w0) (F:=F) b d s v (none,0,[]) (none,0,[]) 4611686018427387904 (Rd.nil _ _) (Rd.nil _ _) h hL;rw[cut_all] at hsc;have hvl:(viewE v.seq v.L).length≤v.L.length:=by
  unfold viewE;rw[List.length_map];exact(scan_sub _ _ _).length_le
 rw[List.take_of_length_le (by show _≤4611686018427387904;omega)] at hsc;have HSc:Hid (Calls Tryz.prog 24 #[.pointer (some ⟨b,0,none⟩),.slice none 0 0,.slice none 0 0,.int .i64 4611686018427387904] w (ToldK w0 (DbP b d s v*F) (viewE v.seq v.L))):=hsc;generalize viewE v.seq v.L=l at*
 clear h hsc;go_enter Tryz.func31, Tryz.ntmps31;go_wp2_with (go_at_call 24;(with_reducible refine HSc.out.mono ?_);rintro e w2 ⟨es,qs,B,c,rfl,hin,hqs,hs2⟩;have HQs:=ah hqs;have HS2:=ah hs2;clear hin hqs hs2);go_ret;refine⟨?_,HS2.out.right.right⟩;rw[←HQs.out,List.length_map];rfl
theorem off_st (b d s:Nat) (v:Sd) (h:Sat w0 (DbP b d s v*F) w):Calls Tryz.prog 70 #[.pointer (some ⟨b,0,none⟩)] w fun x w'=>x = .returned (.int .i64 21)∧Sat w0 F w':=by
 obtain⟨tb,hr,mb,ns,_,hs0⟩:=h.db;have hs:=hs0.of (db_d ..);have f7:=hs.frozen 7;have c7:=hs.cell 7;have HS:=ah (hs.set 7 (.bool true));clear h hs0 hs;go_enter Tryz.func70, Tryz.ntmps70;go_wp2_with fail;go_ret;exact⟨rfl,HS.out.right.right.right⟩
theorem snV_upd (f:Int→Option Nat) (i:Int) (q:Nat):upd (snV f) i (.agg #[.int .i64 (q:Int)])=snV (fun j=>if j=i then some q else f j):=by
 funext j
 unfold upd snV;dsimp only;split<;>rfl
theorem snV_del (f:Int→Option Nat) (i:Int):delI (snV f) i=snV (fun j=>if j=i then none else f j):=by
 funext j
 unfold delI snV;dsimp only;split<;>rfl
theorem zero_view (w:World):(zeroValue 135).run Tryz.prog w = .ok (.agg #[.int .i64 0]) w:=by kernel_rfl
theorem snap_look {mb n:Nat} {f:Int→Option Nat} {G:SP} (h:Sat w0 (MapP Tryz.prog 3 mb n (snV f)*G) w) (i:Int) (hi: -9223372036854775808≤i∧i≤9223372036854775807):
  (Instr.lookup 111 (.map (some mb)) (.int .i64 i) true).run Tryz.prog w = .ok (.tuple #[.agg #[.int .i64 (((f i).getD 0:Nat):Int)],.bool (f i).isSome]) w:=by
 rw[h.map_look (t:= 111) Tryz.underlying3 Tryz.underlying111 (zero_view w) i hi];unfold snV
 cases f i<;>rfl
set_option maxHeartbeats 2000000 in
theorem drop_st (b d s:Nat) (v:Sd) (i:Int) (hi: -9223372036854775808≤i∧i≤9223372036854775807) (h:Sat w0 (DbP b d s v*F) w):
  Calls Tryz.prog 43 #[.pointer (some ⟨b,0,none⟩),.int .i64 i] w fun x w'=>x = .returned (.int .i64 (if (v.snaps i).isSome=true then 0 else 104))∧Sat w0 (DbP b d s { v with snaps:=fun j=>if j=i then none else v.snaps j }*F) w':=by
 obtain⟨lg,L,sq,sn,few,nx⟩:=v;obtain⟨tb,hr,mb,ns,⟨ht,he⟩,hs0⟩:=h.db;dsimp only at ht he;have hs:=hs0.of (db_d ..);dsimp only at hs;have c5:w.cell? ⟨b,5,none⟩=some (.map (some mb)):=hs.cell 5;have hlk:=snap_look hs.up3 i hi;have HT:=ah ht;have HE:=ah he
 cases hsn:sn i with
 | none=>
  rw[hsn] at hlk;have hsn2:(fun j=>if j=i then none else sn j)=sn:=by
   funext j
   by_cases e:j=i
   ·rw[if_pos e,e,hsn]
   ·rw[if_neg e]
  have HS:=ah (hs.alloc' (.cells #[.int .i64 0] 135));clear h hs0 hs ht he;replace hlk:(Instr.lookup 111 (.map (some mb)) (.int .i64 i) true).run Tryz.prog w = .ok (.tuple #[.agg #[.int .i64 0],.bool false]) w:=hlk;show Calls _ _ _ _ fun x w'=>x = .returned (.int .i64 (if (sn i).isSome=true then 0 else 104))∧Sat w0 (DbP b d s ⟨lg,L,sq,fun j=>if j=i then none else sn j,few,nx⟩*F) w'
  rw[hsn2,hsn];have HSn:=ah hsn;clear hsn hsn2;go_enter Tryz.func43, Tryz.ntmps43;go_wp2_with fail;go_ret;exact⟨rfl,Sat.dbI (v:=⟨lg,L,sq,sn,few,nx⟩) HT.out HE.out (by rw[db_d];exact HS.out)⟩
 | some q=>
  rw[hsn] at hlk;replace hlk:(Instr.lookup 111 (.map (some mb)) (.int .i64 i) true).run Tryz.prog w = .ok (.tuple #[.agg #[.int .i64 (q:Int)],.bool true]) w:=hlk;have hs1:=hs.allocPt 135 #[.int .i64 (q:Int)];obtain⟨w2,hrun,hs2,_⟩:=hs1.up4.map_drop (t:= 111) Tryz.underlying3 Tryz.underlying111 i hi 0;rw[snV_del] at hs2;have c5':(w.alloc (.cells #[.int .i64 (q:Int)] 135)).cell? ⟨b,5,none⟩=some (.map (some mb)):=hs1.up2.cell 5;have HS:=ah hs2;clear h hs0 hs ht he hs1 hs2;show Calls _ _ _ _ fun x w'=>x = .returned (.int .i64 (if (sn i).isSome=true then 0 else 104))∧Sat w0 (DbP b d s ⟨lg,L,sq,fun j=>if j=i then none else sn j,few,nx⟩*F) w'
  rw[hsn];clear hsn;go_enter Tryz.func43, Tryz.ntmps43;go_wp2_with fail;go_ret;refine⟨rfl,Sat.dbI (tb:=tb) (hr:=hr) (mb:=mb) (ns:=ns) (v:=⟨lg,L,sq,fun j=>if j=i then none else sn j,few,nx⟩) HT.out HE.out ?_⟩;rw[db_d];exact(HS.out.of (show _=Pt w.heap.size 135 #[.int .i64 (q:Int)]*(Pt b 113 (dbC d s lg tb sq mb nx false)*(SkipT tb hr ns*(MapP Tryz.prog 3 mb few (snV (fun j=>if j=i then none else sn j))*F))) by ac_rfl)).right
end
set_option maxHeartbeats 1000000 in
theorem level_any (i:Int) (b hr:Nat) (ns:List Nd) (w:World) (hv:View w b hr ns) (hok:NOk ns) (hsm:Small ns):
  Calls Tryz.prog 122 #[.pointer (some ⟨b,0,none⟩),.int .i64 i] w (ToldE w (levE i ns)):=by
 have HV:=ah hv;have HO:=ah hok;have HS:=ah hsm;have q0:=hv.head;clear hv hok hsm;by_cases h:0≤i∧i<8
 ·obtain⟨h0,h8⟩:=h;have HL:Hid (levE i ns=witE [] i.toNat ns):=by unfold Hid levE;rw[if_pos ⟨h0,h8⟩]
  obtain⟨j,rfl⟩: ∃ j:Nat,i=j:=⟨i.toNat,by omega⟩;have hj:j<8:=by omega
  have q1:=HV.out.links j hj;have h1:¬ (j:Int)<0:=by omega
  have h2:¬ (8:Int)≤j:=by omega
  have h3:(j:Int)<8:=by omega
  obtain⟨PP,hPP⟩: ∃ PP,ptrN (nxt noT ns j) = .pointer PP:=⟨_,rfl⟩;rw[hPP] at q1;have HP:=ah hPP;clear hPP;go_enter Tryz.func122, Tryz.ntmps122;go_wp2_with (go_at_call 154;rw[←HP.out];refine(within_any none 0 [] b hr ns [] ns j w (Rd.nil _ _) HV.out HO.out HS.out rfl hj).mono ?_;rintro x w1 ⟨es,A,c,rfl,he,hs⟩;have HE:=ah he;have HS1:=ah hs;clear he hs);go_ret;rw[HL.out];exact⟨es,A,c,rfl,HE.out,HS1.out⟩
 ·have HL:Hid (levE i ns=[]):=by unfold Hid levE;rw[if_neg h]
  have h1:i<0∨(0≤i∧8≤i):=by omega
  rw[HL.out];clear h;rcases h1 with h1 | ⟨h1,h2⟩
  ·go_enter Tryz.func122, Tryz.ntmps122;go_wp2_with fail;go_ret;exact told_none w
  ·have h3:¬ i<0:=by omega
   go_enter Tryz.func122, Tryz.ntmps122;go_wp2_with fail;go_ret;exact told_none w
section
variable {w0 w:World} {F:SP}
set_option maxHeartbeats 2000000 in
theorem snap_st (b d s:Nat) (v:Sd) (h:Sat w0 (DbP b d s v*F) w) (hx:v.next≤1000000000) (hf:v.few≤1000000):
  Calls Tryz.prog 41 #[.pointer (some ⟨b,0,none⟩)] w fun x w'=>x = .returned (.int .i64 (v.next:Nat))∧Sat w0 (DbP b d s { v with snaps:=fun j=>if j=((v.next:Nat):Int) then some v.seq else v.snaps j,few:=v.few+1,next:=v.next+1 }*F) w':=by
 obtain⟨lg,L,sq,sn,few,nx⟩:=v;obtain⟨tb,hr,mb,ns,⟨ht,he⟩,hs0⟩:=h.db;dsimp only at ht he hx hf;have hs:=hs0.of (db_d ..);dsimp only at hs;have c5:w.cell? ⟨b,5,none⟩=some (.map (some mb)):=hs.cell 5;have c6:w.cell? ⟨b,6,none⟩=some (.int .i64 (nx:Int)):=hs.cell 6;have HNow:Hid (∀ W,Chg No w W→Calls Tryz.prog 76 #[.pointer (some ⟨b,0,none⟩)] W fun x w'=>x = .returned (.agg #[.int .i64 (sq:Int)])∧Chg No W w'):=fun W k=>now_any b sq W (k.cell (hs.cell 4) id)
 have HT:=ah ht;have HE:=ah he;have HS:=ah hs;have C5:=ah c5;have C6:=ah c6;have HDrew:Hid (Chg No w w.drew):=(Chg.refl No w).drew;have HMs:Hid (∀ W,Chg No w W→ ∃ w3,(Instr.mapUpdate 111 (.map (some mb)) (.int .i64 (nx:Int)) (.agg #[.int .i64 (sq:Int)])).run Tryz.prog W = .ok () w3∧Sat w0 (Pt b 113 (dbC d s lg tb sq mb nx false)*(SkipT tb hr ns*(MapP Tryz.prog 3 mb (few+1) (snV (fun j=>if j=((nx:Nat):Int) then some sq else sn j))*F))) w3):=fun W k=>by
  obtain⟨w3,hrun,hs3,_⟩:=((HS.out.new k).up3).map_store (t:= 111) Tryz.underlying3 Tryz.underlying111 (nx:Int) (by omega) (.agg #[.int .i64 (sq:Int)]) (by unfold maxLen;omega);rw[snV_upd] at hs3;exact⟨w3,hrun,hs3.dn3⟩
 clear h hs0 hs ht he;go_enter Tryz.func41, Tryz.ntmps41;go_upto_region 1 with fail;refine wp_region_held_drew (S:=fun w'=>w'.cell? ⟨b,5,none⟩=some (.map (some mb))∧w'.cell? ⟨b,6,none⟩=some (.int .i64 (nx:Int))) (by kernel_rfl) ⟨(by exact c5),(by exact c6)⟩ ?_;intro hS0;refine rtk 0 ?_;refine rtk 1 ?_;refine rtk 2 ?_;refine rtk 3 ?_;refine rtk 4 ?_;refine rtk 5 ?_;refine rtk 6 ?_;refine rtk 7 ?_;refine rtk 8 ?_;refine rck 9 fun K hK=>?_
 go_simp;go_at_call 76;(with_reducible refine(HNow.out _ HDrew.out).mono ?_);rintro e w2 ⟨rfl,k2⟩;have HK2:=ah (HDrew.out.tr k2);clear k2
 refine hK.out _ _ ⟨HK2.out.cell C5.out id,HK2.out.cell C6.out id⟩ (fun hS0=>?_);clear hK K;refine rck 10 fun K hK=>?_
 go_simp;obtain⟨w3,hrun,hs3⟩:=HMs.out _ HK2.out;have HS3:=ah hs3;clear hs3;simp only[hrun,Result.andThen_ok];clear hrun;refine hK.out _ _ ⟨HS3.out.cell 5,HS3.out.cell 6⟩ (fun hS0=>?_);clear hK K;refine wpAnyH_done (by kernel_rfl) ?_ _;have c6':=HS3.out.cell 6;have f6':=HS3.out.frozen 6;have HS4:=ah (HS3.out.set 6 (.int .i64 ((nx:Int)+1)));have c6'':(w3.setCell ⟨b,6,none⟩ (.int .i64 ((nx:Int)+1))).cell? ⟨b,6,none⟩=some (.int .i64 ((nx:Int)+1)):=HS4.out.cell 6;clear c5 c6;go_wp2_with fail;go_ret;refine⟨by first | rfl | (rw[show (nx:Int)+1 - 1=nx by omega];rfl),Sat.dbI (tb:=tb) (hr:=hr) (mb:=mb) (ns:=ns) (v:=⟨lg,L,sq,fun j=>if j=((nx:Nat):Int) then some sq else sn j,few+1,nx+1⟩) HT.out HE.out ?_⟩;rw[db_d];dsimp only;rw[show ((nx+1:Nat):Int)=(nx:Int)+1 by omega];exact HS4.out
set_option maxHeartbeats 2000000 in
theorem getAt_st (b d s:Nat) (v:Sd) (i:Int) (K:Slc) (hi: -9223372036854775808≤i∧i≤9223372036854775807) (hk:Rd w K.1 K.2.2) (h:Sat w0 (DbP b d s v*F) w) (hL:v.L.length≤90000) (q:Option (List UInt8)) (er:Int) (hq:(v.snaps i=none∧q=none∧er=104)∨ ∃ sq,v.snaps i=some sq∧q=alE K.2.2 sq v.L∧er=0):
  Calls Tryz.prog 42 #[.pointer (some ⟨b,0,none⟩),.int .i64 i,.slice K.1 K.2.2.length K.2.1] w fun x w'=> ∃ A c,x = .returned (.tuple #[.slice A (q.getD []).length c,.bool q.isSome,.int .i64 er])∧Sat w0 (Row 5 1 (.slice A (q.getD []).length c) (q.getD []).length ((q.getD []).map bv)*(DbP b d s v*F)) w':=by
 obtain⟨lg,L,sq,sn,few,nx⟩:=v;obtain⟨tb,hr,mb,ns,⟨ht,he⟩,hs0⟩:=h.db;dsimp only at ht he hL hq;have hs:=hs0.of (db_d ..);dsimp only at hs;have c5:w.cell? ⟨b,5,none⟩=some (.map (some mb)):=hs.cell 5;have hlk:=snap_look hs.up3 i hi;have HT:=ah ht;have HE:=ah he;rcases hq with ⟨h1,rfl,rfl⟩ | ⟨sx,h1,h2,rfl⟩
 ·rw[h1] at hlk;replace hlk:(Instr.lookup 111 (.map (some mb)) (.int .i64 i) true).run Tryz.prog w = .ok (.tuple #[.agg #[.int .i64 0],.bool false]) w:=hlk;have HS:=ah (hs.alloc' (.cells #[.int .i64 0] 135));clear h hs0 hs ht he h1 hk;go_enter Tryz.func42, Tryz.ntmps42;go_wp2_with fail;go_ret3
  exact⟨none,0,rfl,(Sat.dbI (v:=⟨lg,L,sq,sn,few,nx⟩) HT.out HE.out (by rw[db_d];exact HS.out)).row_nil 5 1⟩
 ·rw[h1] at hlk;replace hlk:(Instr.lookup 111 (.map (some mb)) (.int .i64 i) true).run Tryz.prog w = .ok (.tuple #[.agg #[.int .i64 (sx:Int)],.bool true]) w:=hlk;have hs1:=hs.allocPt 135 #[.int .i64 (sx:Int)];obtain⟨W1,hW1⟩: ∃ W1,W1=w.alloc (.cells #[.int .i64 (sx:Int)] 135):=⟨_,rfl⟩;rw[←hW1] at hs1;obtain⟨vb,hvb⟩: ∃ vb,vb=w.heap.size:=⟨_,rfl⟩;rw[←hvb] at hs1;have HW:=ah hW1;have HVb:=ah hvb;have x0:W1.cell? ⟨vb,0,none⟩=some (.int .i64 (sx:Int)):=hs1.cell 0;have c3:W1.cell? ⟨b,3,none⟩=some (.pointer (some ⟨tb,0,none⟩)):=hs1.up2.cell 3;have HGet:Hid (∀ W,Chg No W1 W→Calls Tryz.prog 78 #[.agg #[.int .i64 (sx:Int)],.pointer (some ⟨tb,0,none⟩),.slice K.1 K.2.2.length K.2.1] W (GotV w0 (SkipT tb hr ns*(Pt vb 135 #[.int .i64 (sx:Int)]*(Pt b 113 (dbC d s lg tb sq mb nx false)*(MapP Tryz.prog 3 mb few (snV sn)*F)))) q)):=fun W k=>by
   have h9:=vget_any tb hr ns L.length sx K ((show Rd W1 K.1 K.2.2 by rw[hW1];exact hk.alloc _).new k) ((hs1.new k).up3) ht (by omega);rw[he, ←h2] at h9;exact h9
  have HDrew:Hid (Chg No W1 W1.drew):=(Chg.refl No W1).drew;clear h hs0 hs ht he h1 h2 hk hs1 hW1 hvb;go_enter Tryz.func42, Tryz.ntmps42;go_upto_region 4 with fail;rw[←HW.out, ←HVb.out];clear hlk c5 HW HVb;refine wp_region_held_drew (S:=fun w'=>w'.cell? ⟨b,3,none⟩=some (.pointer (some ⟨tb,0,none⟩))∧w'.cell? ⟨vb,0,none⟩=some (.int .i64 (sx:Int))) (by kernel_rfl) ⟨(by exact c3),(by exact x0)⟩ ?_;intro hS0;refine rtk 0 ?_;refine rtk 1 ?_;refine rtk 2 ?_;refine rtk 3 ?_;refine rtk 4 ?_;refine rtk 5 ?_;refine rck 6 fun K hK=>?_
  go_simp;go_at_call 78;(with_reducible refine(HGet.out _ HDrew.out).mono ?_);rintro e w3 ⟨A,c,rfl,hs3⟩;have HS3:=ah hs3;clear hs3
  refine hK.out _ _ ⟨HS3.out.up4.cell 3,HS3.out.up3.cell 0⟩ (fun hS0=>?_);clear hK K;refine rtk 7 ?_;refine rtk 8 ?_;refine rtk 9 ?_;refine rtk 10 ?_;refine rtk 11 ?_;refine wpAnyH_done (by kernel_rfl) ?_ _;go_wp2_with fail;go_ret3
  refine⟨A,c,rfl,?_⟩;have h1:=HS3.out.of (show _=Pt vb 135 #[.int .i64 (sx:Int)]*(Pt b 113 (dbC d s lg tb sq mb nx false)*(SkipT tb hr ns*(MapP Tryz.prog 3 mb few (snV sn)*(Row 5 1 (.slice A (q.getD []).length c) (q.getD []).length ((q.getD []).map bv)*F)))) by ac_rfl);exact(Sat.dbI (v:=⟨lg,L,sq,sn,few,nx⟩) HT.out HE.out (by rw[db_d];exact h1.right)).up2
set_option maxHeartbeats 2000000 in
theorem scanAt_st (b d s:Nat) (v:Sd) (i:Int) (f t:Slc) (most:Int) (hi: -9223372036854775808≤i∧i≤9223372036854775807) (hf:Rd w f.1 f.2.2) (ht':Rd w t.1 t.2.2) (h:Sat w0 (DbP b d s v*F) w) (hL:v.L.length≤90000) (l:List Kv) (er:Int)
  (hq:(v.snaps i=none∧l=[]∧er=104)∨ ∃ sq,v.snaps i=some sq∧l=(cutM f.2.2 t.2.2 (viewE sq v.L)).take most.toNat∧er=0):
  Calls Tryz.prog 45 #[.pointer (some ⟨b,0,none⟩),.int .i64 i,.slice f.1 f.2.2.length f.2.1,.slice t.1 t.2.2.length t.2.1,.int .i64 most] w fun x w'=> ∃ (es qs:List En) (B:Option Addr) (c:Nat),x = .returned (.tuple #[.slice B qs.length c,.int .i64 er])∧(∀ q ∈ qs,q ∈ es)∧qs.map (fun q=>pairE q.ent)=l∧
   Sat w0 (Row 65 2 (.slice B qs.length c) qs.length (qs.flatMap prV)*(OwnE es*(DbP b d s v*F))) w':=by
 obtain⟨lg,L,sq,sn,few,nx⟩:=v;obtain⟨tb,hr,mb,ns,⟨ht,he⟩,hs0⟩:=h.db;dsimp only at ht he hL hq;have hs:=hs0.of (db_d ..);dsimp only at hs;have c5:w.cell? ⟨b,5,none⟩=some (.map (some mb)):=hs.cell 5;have hlk:=snap_look hs.up3 i hi;have hpw:L.Pairwise LTE:=he ▸ entsN_pw ht.ok;have HT:=ah ht;have HE:=ah he;rcases hq with ⟨h1,rfl,rfl⟩ | ⟨sx,h1,h2,rfl⟩
 ·rw[h1] at hlk;replace hlk:(Instr.lookup 111 (.map (some mb)) (.int .i64 i) true).run Tryz.prog w = .ok (.tuple #[.agg #[.int .i64 0],.bool false]) w:=hlk;have HS:=ah (hs.alloc' (.cells #[.int .i64 0] 135));clear h hs0 hs ht he h1 hf ht' hpw;go_enter Tryz.func45, Tryz.ntmps45;go_wp2_with fail;go_ret2;refine⟨[],[],none,0,rfl,by simp,rfl,?_⟩;have h1:=(Sat.dbI (v:=⟨lg,L,sq,sn,few,nx⟩) HT.out HE.out (by rw[db_d];exact HS.out)).row_nil 65 2;exact h1.of (show _=Row 65 2 (.slice none 0 0) 0 []*(Emp*_) by rw[emp_star])
 ·rw[h1] at hlk;replace hlk:(Instr.lookup 111 (.map (some mb)) (.int .i64 i) true).run Tryz.prog w = .ok (.tuple #[.agg #[.int .i64 (sx:Int)],.bool true]) w:=hlk;have hs1:=hs.allocPt 135 #[.int .i64 (sx:Int)];obtain⟨W1,hW1⟩: ∃ W1,W1=w.alloc (.cells #[.int .i64 (sx:Int)] 135):=⟨_,rfl⟩;rw[←hW1] at hs1;obtain⟨vb,hvb⟩: ∃ vb,vb=w.heap.size:=⟨_,rfl⟩;rw[←hvb] at hs1;have HW:=ah hW1;have HVb:=ah hvb;have x0:W1.cell? ⟨vb,0,none⟩=some (.int .i64 (sx:Int)):=hs1.cell 0;have c3:W1.cell? ⟨b,3,none⟩=some (.pointer (some ⟨tb,0,none⟩)):=hs1.up2.cell 3;have hf1:Rd W1 f.1 f.2.2:=by rw[hW1];exact hf.alloc _
  have ht1:Rd W1 t.1 t.2.2:=by rw[hW1];exact ht'.alloc _
  have HSc:Hid (∀ W,Chg No W1 W→Calls Tryz.prog 77 #[.agg #[.int .i64 (sx:Int)],.pointer (some ⟨tb,0,none⟩),.slice f.1 f.2.2.length f.2.1,.slice t.1 t.2.2.length t.2.1,.int .i64 most] W (PairsT W ((scanE sx none (rngL f.2.2 t.2.2 L)).take most.toNat))):=fun W k=>vscan_any hs1.up3 ht he hL sx most f t hf1 ht1 k
  have HDrew:Hid (Chg No W1 W1.drew):=(Chg.refl No W1).drew;have HS1:=ah hs1;have HL:=ah h2;have HPw:=ah hpw;clear h hs0 hs ht he h1 h2 hf ht' hs1 hW1 hvb hf1 ht1 hpw;go_enter Tryz.func45, Tryz.ntmps45;go_upto_region 4 with fail;rw[←HW.out, ←HVb.out];clear hlk c5 HW HVb;refine wp_region_held_drew (S:=fun w'=>w'.cell? ⟨b,3,none⟩=some (.pointer (some ⟨tb,0,none⟩))∧w'.cell? ⟨vb,0,none⟩=some (.int .i64 (sx:Int))) (by kernel_rfl) ⟨(by exact c3),(by exact x0)⟩ ?_;intro hS0;refine rtk 0 ?_;refine rtk 1 ?_;refine rtk 2 ?_;refine rtk 3 ?_;refine rtk 4 ?_;refine rtk 5 ?_;refine rtk 6 ?_;refine rtk 7 ?_;refine rck 8 fun K hK=>?_
  go_simp;go_at_call 77;(with_reducible refine(HSc.out _ HDrew.out).mono ?_);rintro e w3 ⟨es,qs,B,c,rfl,hin,hqs,hs3⟩;have HIn:=ah hin;have HQs:=ah hqs;have HS3:=ah ((HS1.out.new HDrew.out).join hs3 (owned_star (owned_row _ _ _ _ _) (owned_ownES _)));clear hin hqs hs3
  refine hK.out _ _ ⟨HS3.out.up3.cell 3,HS3.out.up2.cell 0⟩ (fun hS0=>?_);clear hK K;refine rtk 9 ?_;refine rtk 10 ?_;refine wpAnyH_done (by kernel_rfl) ?_ _;go_wp2_with fail;go_ret2;refine⟨es,qs,B,c,rfl,HIn.out,?_,?_⟩
  ·have h2:=congrArg (List.map pairE) HQs.out;rw[List.map_map] at h2;rw[show (fun q:En=>pairE q.ent)=pairE ∘ En.ent from rfl,h2,List.map_take,HL.out];show (viewE sx (rngL f.2.2 t.2.2 L)).take _=_;rw[view_cut HPw.out]
  ·have h1:=HS3.out.of (show _=Pt vb 135 #[.int .i64 (sx:Int)]*(Pt b 113 (dbC d s lg tb sq mb nx false)*(SkipT tb hr ns*(MapP Tryz.prog 3 mb few (snV sn)*(Row 65 2 (.slice B qs.length c) qs.length (qs.flatMap prV)*(OwnE es*F))))) by ac_rfl);exact(Sat.dbI (v:=⟨lg,L,sq,sn,few,nx⟩) HT.out HE.out (by rw[db_d];exact h1.right)).of (by ac_rfl)
end
end Go.Proofs.YtmbaiglpgaoogaaGreat
