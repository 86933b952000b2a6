/- Joined, as they were built one by one: Sto5 Sto6 StpA StpB StpC. -/
import Derived.Test.YtmbaiglpgaoogaaGreatV17
import Derived.Test.YtmbaiglpgaoogaaGreatV18
import Derived.Test.YtmbaiglpgaoogaaGreatV24
import Derived.Test.YtmbaiglpgaoogaaGreatV27
import Derived.Test.YtmbaiglpgaoogaaGreatV28
import Derived.Test.YtmbaiglpgaoogaaGreatV33
set_option maxHeartbeats 16000000
namespace Go.Proofs.YtmbaiglpgaoogaaGreat
open Go.RowKit
set_option linter.unusedVariables false
set_option maxRecDepth 100000
def badK (p:Chn):Bool:=decide (p.key.length=0) || decide (128<p.key.length)
def badV (p:Chn):Bool:=decide (16384<p.value.length) || (p.dead && decide (0<p.value.length))
def sizC (p:Chn):Nat:=p.key.length+p.value.length+16
def chkB (cs:List Chn):Nat:=if cs.any badK=true then 100 else if cs.any badV=true then 101 else if 262144<(cs.map sizC).sum then 102 else 0
theorem siz_le (K:Nat): ∀ (l:List Chn),(∀ p ∈ l,sizC p<=K)->(l.map sizC).sum<=l.length*K
 | [],_=>by simp
 | p::l,h=>by
  have h1:=siz_le K l fun q hq=>h q (List.mem_cons_of_mem _ hq)
  have h2:=h p List.mem_cons_self;rw[List.map_cons,List.sum_cons,List.length_cons,Nat.add_mul];omega
theorem badv_any (p:Pu) (w:World) (hv:p.value.2.2.length<=140737488355328):
  Calls Tryz.prog 115 #[.agg #[.slice p.key.1 p.key.2.2.length p.key.2.1,.slice p.value.1 p.value.2.2.length p.value.2.1,.bool p.dead]] w fun x w'=>x = .returned (.bool (badV p.chn))/\Chg No w w':=by
 have hs:=(Sat.start w).allocPt 43 #[.slice p.key.1 p.key.2.2.length p.key.2.1,.slice p.value.1 p.value.2.2.length p.value.2.1,.bool p.dead];have c0:=hs.cell 0;have c1:=hs.cell 1;have c2:=hs.cell 2;have HS:=ah hs;have HB:Hid (badV p.chn=(decide (16384<p.value.2.2.length) || (p.dead && decide (0<p.value.2.2.length)))):=rfl;rw[HB.o];clear hs HB;obtain⟨⟨kA,kc,kl⟩,⟨vA,vc,vl⟩,dd⟩:=p;replace hv:vl.length<=140737488355328:=hv;show Calls Tryz.prog 115 #[.agg #[.slice kA kl.length kc,.slice vA vl.length vc,.bool dd]] w fun x w'=>x = .returned (.bool (decide (16384<vl.length) || (dd && decide (0<vl.length))))/\Chg No w w'
 replace c0:_=some (Value.slice kA kl.length kc):=c0;replace c1:_=some (Value.slice vA vl.length vc):=c1;replace c2:_=some (Value.bool dd):=c2;have HC:=ah HS.o.chg;by_cases h1:16384<vl.length
 .have h2:(16384:Int)<vl.length:=by omega
  rw[decide_eq_true h1,Bool.true_or];clear h1 HS;go_enter Tryz.func115, Tryz.ntmps115;go_wp2_with fail;go_ret;exact⟨rfl,HC.o⟩
 .have h2:¬ (16384:Int)<vl.length:=by omega
  rw[decide_eq_false h1,Bool.false_or];clear h1 HS
  cases dd
  .rw[Bool.false_and];go_enter Tryz.func115, Tryz.ntmps115;go_wp2_with fail;go_ret;exact⟨rfl,HC.o⟩
  .rw[Bool.true_and];go_enter Tryz.func115, Tryz.ntmps115;go_wp2_with fail;go_ret;exact⟨rfl,HC.o⟩
theorem sindex_any (A:Option Addr) (c:Nat) (ps:List Pu) (w:World) (h:RdV w A (ps.flatMap puC)) (hn:ps.length<=1000000) (hv: ∀ p ∈ ps,p.value.2.2.length<=140737488355328):
  Calls Tryz.prog 149 #[.slice A ps.length c,.func (.func 115) #[] #[]] w fun x w'=>(∃ r:Int,x = .returned (.int .i64 r)/\decide (0<=r)=(ps.map Pu.chn).any badV)/\Chg No w w':=by
 have HL:=ah h;have HV:=ah hv;clear h hv;go_enter Tryz.func149, Tryz.ntmps149;go_wp2_with fail;go_loopw [8] (fun iv wr=> ∃ i:Nat,i<=ps.length/\iv = .int .i64 i/\Hid ((∀ j (h:j<ps.length),j<i->badV ps[j].chn=false)/\Chg No w wr)) (fun iv _=>ps.length - (intOf iv).toNat)
 case atStart=>exact⟨0,by omega,rfl,fun j _ h=>by omega,Chg.refl _ _⟩
 case round=>
  obtain⟨i,hi,rfl,HD⟩:=hrel;by_cases hlt:i<ps.length
  .obtain⟨lb,lo,rfl,hq⟩:=pus_at HL.o (by omega);obtain⟨z0,z1,z2⟩:=hq i hlt;have a0:=HD.o.2.cell z0 id;have a1:=HD.o.2.cell z1 id;have a2:=HD.o.2.cell z2 id;unfold slv' at a0 a1;have hs:=HV.o _ (List.getElem_mem hlt);clear z0 z1 z2 hq;obtain⟨B,hB⟩: ∃ B,badV ps[i].chn=B:=⟨_,rfl⟩;have HB:=ah hB;clear hB
   cases B
   .go_wp2_with (go_at_call 115;refine(badv_any ps[i] _ hs).mono ?_;rintro x w1 ⟨rfl,k1⟩;rw[HB.o];have HK:=ah (HD.o.2.tr k1);clear k1);go_roundw
    .refine⟨i+1,by omega,by push_cast;rfl,fun j h hj=>?_,HK.o⟩;by_cases e:j=i
     .subst e;exact HB.o
     .exact HD.o.1 j h (by omega)
    .simp[intOf];omega
   .go_wp2_with (go_at_call 115;refine(badv_any ps[i] _ hs).mono ?_;rintro x w1 ⟨rfl,k1⟩;rw[HB.o];have HK:=ah (HD.o.2.tr k1);clear k1);go_ret;refine⟨⟨i,rfl,?_⟩,HK.o⟩;rw[decide_eq_true (by omega)];exact(List.any_eq_true.2 ⟨ps[i].chn,List.mem_map.2 ⟨ps[i],List.getElem_mem _,rfl⟩,HB.o⟩).symm
  .go_wp2_with fail;go_ret;refine⟨⟨-1,rfl,?_⟩,HD.o.2⟩;rw[decide_eq_false (by omega)];symm;rw[List.any_eq_false];intro x hx;obtain⟨e,he,rfl⟩:=List.mem_map.1 hx;obtain⟨j,hj,rfl⟩:=List.getElem_of_mem he;rw[HD.o.1 j hj (by omega)];simp
theorem scontains_any (A:Option Addr) (c:Nat) (ps:List Pu) (w:World) (h:RdV w A (ps.flatMap puC)) (hn:ps.length<=1000000) (hv: ∀ p ∈ ps,p.value.2.2.length<=140737488355328):
  Calls Tryz.prog 114 #[.slice A ps.length c,.func (.func 115) #[] #[]] w fun x w'=>x = .returned (.bool ((ps.map Pu.chn).any badV))/\Chg No w w':=by
 have HC:=ah (sindex_any A c ps w h hn hv);clear h hv;go_enter Tryz.func114, Tryz.ntmps114;go_wp2_with (go_at_call 149;(with_reducible refine HC.o.mono ?_);rintro x w1 ⟨⟨r,rfl,hr⟩,k1⟩;have HR:=ah hr;have HK:=ah k1;clear hr k1);go_ret;refine⟨?_,HK.o⟩;rw[<-HR.o];rfl
theorem check_any (A:Option Addr) (c:Nat) (ps:List Pu) (w:World) (h:RdV w A (ps.flatMap puC)) (hn:ps.length<=100000) (hb: ∀ p ∈ ps,p.key.2.2.length<=1000000000/\p.value.2.2.length<=1000000000):
  Calls Tryz.prog 68 #[.slice A ps.length c] w fun x w'=>x = .returned (.int .i64 (chkB (ps.map Pu.chn):Nat))/\Chg No w w':=by
 have HL:=ah h;have HB:=ah hb;have HCo:=ah fun (W:World) (k:Chg No w W)=>scontains_any A c ps W (h.new k) (by omega) (fun p hp=>by have:=(hb p hp).2;omega)
 have HSum:Hid (∀ i,i<=ps.length->(((ps.take i).map Pu.chn).map sizC).sum<=300000000000000):=fun i hi=>by
  have h1:=siz_le 2000000016 ((ps.take i).map Pu.chn) (fun p hp=>by
   obtain⟨q,hq,rfl⟩:=List.mem_map.1 hp;have h2:=hb q (List.mem_of_mem_take hq);have h3:sizC q.chn=q.key.2.2.length+q.value.2.2.length+16:=rfl;omega)
  rw[List.length_map,List.length_take] at h1;omega
 clear h hb;go_enter Tryz.func68, Tryz.ntmps68;go_wp2_with fail;go_loopw [3,8] (fun nv iv wr=> ∃ (i n:Nat),i<=ps.length/\iv = .int .i64 (i:Int)/\nv = .int .i64 (n:Int)/\Hid (n=(((ps.take i).map Pu.chn).map sizC).sum/\(∀ j (h:j<ps.length),j<i->badK ps[j].chn=false)/\Chg No w wr)) (fun _ iv _=>ps.length - (intOf iv).toNat)
 case atStart=>exact⟨0,0,by omega,rfl,rfl,rfl,(fun j _ h=>by omega),Chg.refl _ _⟩
 case round=>
  obtain⟨i,n,hi,rfl,rfl,HD⟩:=hrel;have hnb:=HSum.o i hi;rw[<-HD.o.1] at hnb;by_cases hlt:i<ps.length
  .obtain⟨lb,lo,rfl,hq⟩:=pus_at (HL.o.new HD.o.2.2) (by omega);obtain⟨y0,y1,y2⟩:=hq i hlt;have hbi:=HB.o _ (List.getElem_mem hlt);have hii:(i:Int)<ps.length:=by omega
   have HNx:Hid ((((ps.take (i+1)).map Pu.chn).map sizC).sum=n+(ps[i].key.2.2.length+ps[i].value.2.2.length+16)):=by
    unfold Hid;rw[List.take_add_one,List.getElem?_eq_getElem hlt,List.map_append,List.map_append,List.sum_append, <-HD.o.1];rfl
   obtain⟨q,hqe⟩: ∃ q,q=ps[i]:=⟨_,rfl⟩;have HQ:=ah hqe;rw[<-hqe] at y0 y1 y2 hbi HNx;clear hq hqe;obtain⟨⟨kA,kc,kl⟩,⟨vA,vc,vl⟩,dd⟩:=q;replace y0:_=some (Value.slice kA kl.length kc):=y0;replace y1:_=some (Value.slice vA vl.length vc):=y1;replace y2:_=some (Value.bool dd):=y2;replace hbi:kl.length<=1000000000/\vl.length<=1000000000:=hbi;obtain⟨hbk,hbv⟩:=hbi;replace HNx:Hid ((((ps.take (i+1)).map Pu.chn).map sizC).sum=n+(kl.length+vl.length+16)):=HNx;have HBk:Hid (badK ps[i].chn=(decide (kl.length=0) || decide (128<kl.length))):=by rw[<-HQ.o];rfl
   have HCh:Hid (Chg No w (wr.alloc (.cells #[.slice kA kl.length kc,.slice vA vl.length vc,.bool dd] 43))):=HD.o.2.2.alloc _;by_cases hk:kl.length=0\/128<kl.length
   .have HE:Hid (chkB (ps.map Pu.chn)=100):=by
     unfold Hid chkB;rw[if_pos];refine List.any_eq_true.2 ⟨ps[i].chn,List.mem_map.2 ⟨ps[i],List.getElem_mem _,rfl⟩,?_⟩;rw[HBk.o];simpa using hk
    rcases hk with hk | hk
    .have hk0:((kl.length:Int)==0)=true:=by rw[hk];rfl
     clear hk;go_wp2_with fail;go_ret;exact⟨by rw[HE.o];rfl,HCh.o⟩
    .have hk0:((kl.length:Int)==0)=false:=by rw[beq_eq_false_iff_ne];omega
     have hk1:(128:Int)<kl.length:=by omega
     clear hk;go_wp2_with fail;go_ret;exact⟨by rw[HE.o];rfl,HCh.o⟩
   .have hk0:((kl.length:Int)==0)=false:=by rw[beq_eq_false_iff_ne];omega
    have hk1:¬ (128:Int)<kl.length:=by omega
    have HG:Hid (badK ps[i].chn=false):=by
     unfold Hid;rw[HBk.o,decide_eq_false (by omega),decide_eq_false (by omega)];rfl
    clear hk;go_wp2_with fail;go_roundw
    .refine⟨i+1,n+(kl.length+vl.length+16),by omega,by push_cast;rfl,by push_cast;rfl,HNx.o.symm,fun j h hj=>?_,HCh.o⟩;by_cases e:j=i
     .subst e;exact HG.o
     .exact HD.o.2.1 j h (by omega)
    .simp[intOf];omega
  .have hie:i=ps.length:=by omega
   subst hie;have HN:Hid (n=((ps.map Pu.chn).map sizC).sum):=by have:=HD.o.1;rw[List.take_length] at this;exact this
   have HNo:Hid ((ps.map Pu.chn).any badK=false):=by
    unfold Hid;rw[List.any_eq_false];intro x hx;obtain⟨e,he,rfl⟩:=List.mem_map.1 hx;obtain⟨j,hj,rfl⟩:=List.getElem_of_mem he;rw[HD.o.2.1 j hj (by omega)];simp
   have HE:Hid (chkB (ps.map Pu.chn)=if (ps.map Pu.chn).any badV=true then 101 else if 262144<n then 102 else 0):=by
    unfold Hid chkB;rw[HNo.o, <-HN.o];rfl
   have HK:=ah HD.o.2.2;generalize hv:(ps.map Pu.chn).any badV=V at HCo HE;clear hv HN HNo HD
   cases V
   .by_cases hl:262144<n
    .have hl2:(262144:Int)<n:=by omega
     replace HE:Hid (chkB (ps.map Pu.chn)=102):=by unfold Hid;rw[HE.o,if_neg (by simp),if_pos hl]
     clear hl;go_wp2_with (go_at_call 114;(with_reducible refine(HCo.o _ HK.o).mono ?_);rintro x w1 ⟨rfl,k1⟩;have HK2:=ah (HK.o.tr k1);clear k1);go_ret;exact⟨by rw[HE.o];rfl,HK2.o⟩
    .have hl2:¬ (262144:Int)<n:=by omega
     replace HE:Hid (chkB (ps.map Pu.chn)=0):=by unfold Hid;rw[HE.o,if_neg (by simp),if_neg hl]
     clear hl;go_wp2_with (go_at_call 114;(with_reducible refine(HCo.o _ HK.o).mono ?_);rintro x w1 ⟨rfl,k1⟩;have HK2:=ah (HK.o.tr k1);clear k1);go_ret;exact⟨by rw[HE.o];rfl,HK2.o⟩
   .replace HE:Hid (chkB (ps.map Pu.chn)=101):=by unfold Hid;rw[HE.o,if_pos rfl]
    go_wp2_with (go_at_call 114;(with_reducible refine(HCo.o _ HK.o).mono ?_);rintro x w1 ⟨rfl,k1⟩;have HK2:=ah (HK.o.tr k1);clear k1);go_ret;exact⟨by rw[HE.o];rfl,HK2.o⟩
def newN (ns:List Nat):Nat:=ns.foldl (fun m n=>if n % 2=1 then max m n else m) 0
theorem newN_snoc (ns:List Nat) (n:Nat):newN (ns++[n])=if n % 2=1 then max (newN ns) n else newN ns:=by
 unfold newN;rw[List.foldl_append];rfl
theorem lie3_at {w:World} {A:Option Addr} {ls:List (Nat × Nat × Nat)} (h:RdV w A (ls.flatMap lieV)) {i:Nat} (hi:i<ls.length): ∃ b o,A=some ⟨b,o,none⟩/\
  w.cell? ⟨b,o+i*3,none⟩=some (.int .i64 (ls[i].1:Int))/\w.cell? ⟨b,o+i*3+1,none⟩=some (.int .i64 (ls[i].2.1:Int))/\w.cell? ⟨b,o+i*3+2,none⟩=some (.int .i64 (ls[i].2.2:Int)):=by
 obtain⟨b,o,e,hc⟩:=RdV.elem (f:=lieV) (k:=3) (fun _=>rfl) (by decide) h hi;refine⟨b,o,e,by simpa [lieV] using hc 0 (by decide),?_,?_⟩
 .have:=hc 1 (by decide);rw[<-Nat.add_assoc] at this;simpa [lieV] using this
 .have:=hc 2 (by decide);rw[<-Nat.add_assoc] at this;simpa [lieV] using this
section
variable {w0 w:World} {F:SP} {s d:Nat} {D:Dk} {S:Spc} {sf:Nat->Nat} {lim:Nat}
theorem newest_sp (hf:Calls Tryz.prog 67 #[.pointer (some ⟨s,0,none⟩)] w fun e w'=> ∃ u,e = .returned u/\Sat w0 (Row 128 3 u S.files.length ((S.files.map lieOf).flatMap lieV)*F) w') (hn: ∀ f ∈ S.files,f.num<=2147483647) (hl:S.files.length<=1000):
  Calls Tryz.prog 57 #[.pointer (some ⟨s,0,none⟩)] w fun e w'=>e = .returned (.int .i64 (newN (S.files.map (·.num)):Nat))/\Sat w0 F w':=by
 have HF:=ah hf;have HN:=ah hn;obtain⟨ls,hls⟩: ∃ ls,ls=S.files.map lieOf:=⟨_,rfl⟩;have HLs:=ah hls;have hll:ls.length=S.files.length:=by rw[hls,List.length_map]
 have HNm:Hid (S.files.map (·.num)=ls.map (·.1)):=by unfold Hid;rw[hls,List.map_map];rfl
 have HB:Hid (∀ x ∈ ls,x.1<=2147483647):=fun x hx=>by
  rw[hls] at hx;obtain⟨f,hf,rfl⟩:=List.mem_map.1 hx;exact hn f hf
 rw[<-hls, <-hll] at HF;rw[HNm.o];rw[<-hll] at hl;clear hf hn hls hll HLs HN HNm;go_enter Tryz.func57, Tryz.ntmps57;go_wp2_with (go_at_call 67;(with_reducible refine HF.o.mono ?_);rintro e w1 ⟨u,rfl,hs⟩;obtain⟨A,c,rfl,hle,hmx⟩:=hs.row_sl;have HS:=ah hs;clear hs hle hmx);have HRow:=ah (HS.o.row_rdvX);have HS1:=ah HS.o.right;go_loopw [3,9] (fun mv iv wr=> ∃ i m:Nat,i<=ls.length/\iv = .int .i64 (i:Int)/\mv = .int .i64 (m:Int)/\m<=2147483647/\Hid (m=newN ((ls.take i).map (·.1))/\Chg No w1 wr)) (fun _ iv _=>ls.length - (intOf iv).toNat)
 case atStart=>exact⟨0,0,by omega,rfl,rfl,by omega,rfl,Chg.refl _ _⟩
 case round=>
  obtain⟨i,m,hi,rfl,rfl,hm,HD⟩:=hrel;by_cases hlt:i<ls.length
  .obtain⟨lb,lo,rfl,y0,y1,y2⟩:=lie3_at (HRow.o.new HD.o.2) hlt;have hb:=HB.o _ (List.getElem_mem hlt);have HNx:Hid (newN ((ls.take (i+1)).map (·.1))=if ls[i].1 % 2=1 then max m ls[i].1 else m):=by
    unfold Hid;rw[List.take_add_one,List.getElem?_eq_getElem hlt,List.map_append];show newN (_++[ls[i].1])=_;rw[newN_snoc, <-HD.o.1]
   have hii:(i:Int)<ls.length:=by omega
   generalize ls[i]=x at*
   obtain⟨n,x1,x2⟩:=x;replace y0:_=some (Value.int .i64 (n:Int)):=y0;replace y1:_=some (Value.int .i64 (x1:Int)):=y1;replace y2:_=some (Value.int .i64 (x2:Int)):=y2;replace hb:n<=2147483647:=hb;replace HNx:Hid (newN ((ls.take (i+1)).map (·.1))=if n % 2=1 then max m n else m):=HNx;have HC:=ah (HD.o.2.alloc (.cells #[.int .i64 (n:Int),.int .i64 (x1:Int),.int .i64 (x2:Int)] 128));by_cases h1:n % 2=1
   .have HNx2:Hid (newN ((ls.take (i+1)).map (·.1))=max m n):=by unfold Hid;rw[HNx.o,if_pos h1]
    have hb1:((n:Int) % 2==1)=true:=by rw[beq_iff_eq];omega
    have hb2:((n:Int).tmod 2==1)=true:=by rw[Int.tmod_eq_emod_of_nonneg (by omega)];exact hb1
    have hmx:max (m:Int) n=((max m n:Nat):Int):=by omega
    clear h1;go_wp2_with fail;go_roundw
    .exact⟨i+1,max m n,by omega,by push_cast;rfl,by first | rfl | rw[hmx] | (congr 1),by omega,HNx2.o.symm,HC.o⟩
    .simp[intOf];omega
   .have HNx2:Hid (newN ((ls.take (i+1)).map (·.1))=m):=by unfold Hid;rw[HNx.o,if_neg h1]
    have hb1:((n:Int) % 2==1)=false:=by rw[beq_eq_false_iff_ne];omega
    have hb2:((n:Int).tmod 2==1)=false:=by rw[Int.tmod_eq_emod_of_nonneg (by omega)];exact hb1
    clear h1;go_wp2_with fail;go_roundw
    .exact⟨i+1,m,by omega,by push_cast;rfl,rfl,by omega,HNx2.o.symm,HC.o⟩
    .simp[intOf];omega
  .have hie:i=ls.length:=by omega
   subst hie;have HN:Hid (m=newN (ls.map (·.1))):=by have:=HD.o.1;rw[List.take_length] at this;exact this
   go_wp2_with fail;go_ret;exact⟨by rw[<-HN.o];rfl,HS1.o.new HD.o.2⟩
end
def sizM (M:List Kv):Nat:=(M.map fun p=>p.1.length+p.2.length+40).sum
def packB:List Ent->List UInt8
 | []=>[]
 | e::L=>putB (buildB (e::L)).length 4++buildB (e::L)
def cutsF:Nat->List UInt8->List (List UInt8)
 | 0,_=>[]
 | n+1,b=>if b.length=0 then [] else b.take 480::cutsF n (b.drop 480)
def cutsB (b:List UInt8):List (List UInt8):=cutsF b.length b
theorem cutsF_flat: ∀ (n:Nat) (b:List UInt8),b.length<=n->(cutsF n b).flatten=b
 | 0,b,h=>by rw[List.eq_nil_of_length_eq_zero (by omega:b.length=0)];rfl
 | n+1,b,h=>by
  unfold cutsF;split
  .rename_i h1;rw[List.eq_nil_of_length_eq_zero h1];rfl
  .rw[List.flatten_cons,cutsF_flat n _ (by rw[List.length_drop];omega),List.take_append_drop]
theorem cutsF_len: ∀ (n:Nat) (b:List UInt8),b.length<=n->(cutsF n b).length=(b.length+479) / 480
 | 0,b,h=>by rw[show b.length=0 by omega];rfl
 | n+1,b,h=>by
  unfold cutsF;split
  .rename_i h1;rw[h1];rfl
  .rw[List.length_cons,cutsF_len n _ (by rw[List.length_drop];omega),List.length_drop];omega
theorem cutsF_each: ∀ (n:Nat) (b:List UInt8), ∀ p ∈ cutsF n b,p.length<=480
 | 0,b,p,h=>by cases h
 | n+1,b,p,h=>by
  unfold cutsF at h;split at h
  .cases h
  .rcases List.mem_cons.1 h with rfl | h
   .rw[List.length_take];omega
   .exact cutsF_each n _ p h
theorem cutsF_any: ∀ (n m:Nat) (b:List UInt8),b.length<=n->b.length<=m->cutsF n b=cutsF m b
 | 0,m,b,h,_=>by
  have h0:b.length=0:=by omega
  cases m with
  | zero=>rfl
  | succ m=>unfold cutsF;rw[if_pos h0]
 | n+1,0,b,_,h=>by
  have h0:b.length=0:=by omega
  unfold cutsF;rw[if_pos h0]
 | n+1,m+1,b,h1,h2=>by
  unfold cutsF;split
  .rfl
  .rw[cutsF_any n m _ (by rw[List.length_drop];omega) (by rw[List.length_drop];omega)]
theorem cuts_flat (b:List UInt8):(cutsB b).flatten=b:=cutsF_flat _ b (Nat.le_refl _)
theorem cuts_len (b:List UInt8):(cutsB b).length=(b.length+479) / 480:=cutsF_len _ b (Nat.le_refl _)
theorem cuts_each {b p:List UInt8} (h:p ∈ cutsB b):p.length<=480:=cutsF_each _ b p h
theorem cuts_step {b:List UInt8} (h:b.length≠0):cutsB b=b.take 480::cutsB (b.drop 480):=by
 unfold cutsB;obtain⟨n,hn⟩: ∃ n,b.length=n+1:=⟨b.length - 1,by omega⟩;rw[hn];have e:cutsF (n+1) b=b.take 480::cutsF n (b.drop 480):=by
  show (if b.length=0 then [] else b.take 480::cutsF n (b.drop 480))=_;rw[if_neg h]
 rw[e,cutsF_any n _ _ (by rw[List.length_drop];omega) (Nat.le_refl _)]
def sumE (L:List Ent):Nat:=(L.map fun e=>e.key.length+e.value.length).sum
theorem sumE_snoc (L:List Ent) (e:Ent):sumE (L++[e])=sumE L+(e.key.length+e.value.length):=by
 unfold sumE;rw[List.map_append,List.sum_append];rfl
theorem entB_le (al:List UInt8) (e:Ent):(entB al e).length<=13+(e.key.length+e.value.length):=by
 unfold entB;simp[putB_len];omega
theorem bodyB_le (L:List Ent): ∀ k,k<=L.length->(bodyB L k).length<=8+sumE (L.take k)+13*k
 | 0,_=>by simp[bodyB,markB,putB_len]
 | k+1,h=>by
  have h1:=bodyB_le L k (by omega);have h2:(entAt L k).length<=13+(L[k].key.length+L[k].value.length):=by
   unfold entAt;rw[List.getElem?_eq_getElem (by omega)];exact entB_le _ _
  rw[bodyB_succ,List.length_append,List.take_add_one,List.getElem?_eq_getElem (by omega),show (some L[k]).toList=[L[k]] from rfl,sumE_snoc];omega
theorem idxB_le (L:List Ent) (h: ∀ e ∈ L,e.key.length<=128/\e.value.length<=16384): ∀ k,(idxB L k).length<=4+133*((k+7) / 8)
 | 0=>by simp[idxB,putB_len]
 | k+1=>by
  have h1:=idxB_le L h k;rw[idxB_succ,List.length_append];by_cases h8:k % 8=0
  .have h2:=idxAt_len L k h;have h3:(k+1+7) / 8=(k+7) / 8+1:=by omega
   rw[h3];omega
  .have h2:(idxAt L k).length=0:=by unfold idxAt;rw[if_neg h8];rfl
   have h3:(k+7) / 8<=(k+1+7) / 8:=by omega
   omega
theorem buildB_le (L:List Ent) (h: ∀ e ∈ L,e.key.length<=128/\e.value.length<=16384):(buildB L).length<=sumE L+32*L.length+200:=by
 have h1:=bodyB_le L L.length (Nat.le_refl _);have h2:=idxB_le L h L.length;have h3:=bitsB_len L;have h4:=unlike_len L L.length;have h5:nbytes (unlike L L.length).length 10<=(10*L.length+71) / 8:=by
  unfold nbytes;omega
 rw[List.take_length] at h1;unfold buildB allB;simp only[List.length_append,putB_len];omega
theorem sizM_ents (L:List Ent):sizM (L.map pairE)=sumE L+40*L.length:=by
 induction L with
 | nil=>rfl
 | cons e L ih=>
  unfold sizM sumE at*
  rw[List.map_cons,List.map_cons,List.sum_cons,List.map_cons,List.sum_cons,ih,List.length_cons];show e.key.length+e.value.length+40+_=_;omega
theorem packB_le (L:List Ent) (h: ∀ e ∈ L,e.key.length<=128/\e.value.length<=16384):(packB L).length<=204+sizM (L.map pairE):=by
 cases L with
 | nil=>exact Nat.zero_le _
 | cons e L=>
  have h1:=buildB_le (e::L) h;rw[sizM_ents];unfold packB;rw[List.length_append,putB_len];omega
structure EntOk (e:Ent):Prop where
 key:1<=e.key.length/\e.key.length<=128
 val:e.value.length<=16384
 dead:e.dead=true->e.value.length=0
 seq:0<=e.seq/\e.seq<=1000000000
structure ImgOk (E:List Ent):Prop where
 sort:E.Pairwise fun a b=>Lib.compareBytes a.key b.key<0
 each: ∀ e ∈ E,EntOk e/\e.dead=false
theorem img_nil:ImgOk []:=⟨List.Pairwise.nil,fun e h=>by cases h⟩
theorem ImgOk.lte {E:List Ent} (h:ImgOk E):E.Pairwise LTE:=h.sort.imp fun h=>lte_iff.2 (.inl h)
theorem ImgOk.build {E:List Ent} (h:ImgOk E) (hn:E.length<=65536):buildE E=0:=by
 unfold buildE;rw[sortedB_of h.lte,if_neg (by simp),if_neg];rintro (h1 | h1)
 .omega
 .obtain⟨e,he,h2⟩:=List.any_eq_true.1 h1;have h3:=(h.each e he).1;have h4:mayE e=true:=mayE_iff.2 ⟨h3.key.2,h3.val,h3.dead,h3.seq.1⟩;rw[h4] at h2
  cases h2
theorem ImgOk.seq {E:List Ent} (h:ImgOk E): ∀ e ∈ E,e.seq<9223372036854775808:=fun e he=>by have:=(h.each e he).1.seq;omega
theorem ImgOk.pairs {E:List Ent} (h:ImgOk E):(E.map pairE).Pairwise kLT:=by rw[List.pairwise_map];exact h.sort
theorem live_get (s:Int) (k:List UInt8): ∀ {K:List Ent},(K.map pairE).Pairwise kLT->(∀ x ∈ K,x.dead=false)->(∀ x ∈ K,x.seq<=s)->alE k s K=getK k (K.map pairE)
 | [],_,_,_=>rfl
 | e::K,hp,hl,hm=>by
  show _=(if e.key=k then some e.value else getK k (K.map pairE));rw[List.map_cons,List.pairwise_cons] at hp;have ih2:=live_get s k hp.2 (fun x hx=>hl x (List.mem_cons_of_mem _ hx)) (fun x hx=>hm x (List.mem_cons_of_mem _ hx));by_cases hk:e.key=k
  .rw[if_pos hk,al_yes ⟨hk,hm e List.mem_cons_self⟩];unfold livE;rw[if_neg (by rw[hl e List.mem_cons_self];simp)]
  .rw[if_neg hk,al_no (fun h=>hk h.1),ih2]
structure MemIs (L:List Ent) (q:Nat) (M:List Kv) (t:Nat):Prop where
 sort:L.Pairwise LTE
 each: ∀ x ∈ L,EntOk x
 top: ∀ x ∈ L,x.seq<=q
 len:L.length<=t
 pairs:M.Pairwise kLT
 tells: ∀ k,alE k q L=getK k M
theorem MemIs.view {L:List Ent} {q t:Nat} {M:List Kv} (h:MemIs L q M t):viewE q L=M:=view_is h.sort h.pairs h.tells
theorem ImgOk.mem {E:List Ent} {q:Nat} (h:ImgOk E) (hq: ∀ x ∈ E,x.seq<=q):MemIs E q (E.map pairE) E.length:=
 ⟨h.lte,fun x hx=>(h.each x hx).1,hq,Nat.le_refl _,h.pairs,fun k=>live_get _ k h.pairs (fun x hx=>(h.each x hx).2) hq⟩
structure ChgOk (p:Chn):Prop where
 key:1<=p.key.length/\p.key.length<=128
 val:p.value.length<=16384
 dead:p.dead=true->p.value.length=0
theorem ChgOk.chn {p:Chn} (h:ChgOk p):ChnOk p:=⟨h.key.1,h.key.2,h.val⟩
structure BatOk (cs:List Chn):Prop where
 each: ∀ p ∈ cs,ChgOk p
 sum:(cs.map sizC).sum<=262144
theorem chk_zero {cs:List Chn}:chkB cs=0↔BatOk cs:=by
 have hK:cs.any badK=false↔ ∀ p ∈ cs,1<=p.key.length/\p.key.length<=128:=by
  rw[List.any_eq_false];refine forall_congr' fun p=>forall_congr' fun hp=>?_
  unfold badK;simp only[Bool.or_eq_true,decide_eq_true_eq];omega
 have hV:cs.any badV=false↔ ∀ p ∈ cs,p.value.length<=16384/\(p.dead=true->p.value.length=0):=by
  rw[List.any_eq_false];refine forall_congr' fun p=>forall_congr' fun hp=>?_
  unfold badV;simp only[Bool.or_eq_true,decide_eq_true_eq,Bool.and_eq_true,not_or,not_and];refine and_congr (by omega) (forall_congr' fun _=>by omega)
 unfold chkB;constructor
 .intro h;split at h
  .omega
  .rename_i h1;split at h
   .omega
   .rename_i h2;split at h
    .omega
    .rename_i h3;have h1':=hK.1 (by simpa using h1);have h2':=hV.1 (by simpa using h2);exact⟨fun p hp=>⟨h1' p hp,(h2' p hp).1,(h2' p hp).2⟩,by omega⟩
 .rintro ⟨h1,h2⟩;rw[hK.2 fun p hp=>(h1 p hp).key,hV.2 fun p hp=>⟨(h1 p hp).val,(h1 p hp).dead⟩];simp only[Bool.false_eq_true,if_false];rw[if_neg (by omega)]
theorem laiB_le {cs:List Chn} (h:BatOk cs):(laiB cs).length<=262144:=by
 have: ∀ l:List Chn,(laiB l).length<=(l.map sizC).sum:=fun l=>by
  induction l with
  | nil=>exact Nat.le_refl _
  | cons p l ih=>
   rw[laiB_cons,List.length_append,lai1_len,List.map_cons,List.sum_cons];have:sizC p=p.key.length+p.value.length+16:=rfl;omega
 exact Nat.le_trans (this cs) h.sum
theorem lastB_sub: ∀ cs:List Chn,(lastB cs).Sublist cs
 | []=>List.Sublist.refl _
 | p::cs=>by
  unfold lastB;split
  .exact(lastB_sub cs).cons _
  .exact(lastB_sub cs).cons_cons _
theorem insE_len (e:Ent) (L:List Ent):(insE e L).length=L.length+1:=by
 obtain⟨A,B,h1,h2,_⟩:=insE_parts e L;rw[h2,h1,List.length_append,List.length_append,List.length_cons];omega
theorem insL_len (n:Int): ∀ (ps:List Chn) (L:List Ent),(insL n ps L).length=L.length+ps.length
 | [],L=>rfl
 | p::ps,L=>by
  show (insL n ps (insE (entC n p) L)).length=_;rw[insL_len n ps,insE_len,List.length_cons];omega
theorem insE_pw {e:Ent} {L:List Ent} (h:L.Pairwise LTE) (hn: ∀ x ∈ L,¬ same1 x e):(insE e L).Pairwise LTE:=by
 have e0:=List.takeWhile_append_dropWhile (p:=fun x=>lessE x e) (l:=L);have h1:=h;rw[<-e0] at h1;obtain⟨p1,p2,p3⟩:=List.pairwise_append.1 h1;have hA: ∀ x ∈ L.takeWhile (fun x=>lessE x e),LTE x e:=fun x hx=>takeW_mem (f:=fun x=>lessE x e) hx
 have hB: ∀ x ∈ L.dropWhile (fun x=>lessE x e),LTE e x:=by
  intro x hx
  cases hd:L.dropWhile (fun x=>lessE x e) with
  | nil=>rw[hd] at hx;cases hx
  | cons y T=>
   have hy:lessE y e=false:=by
    have:=List.head_dropWhile_not (p:=fun x=>lessE x e) (l:=L) (by rw[hd];simp);simp only[hd,List.head_cons] at this;exact this
   have hyL:y ∈ L:=(List.dropWhile_sublist (fun x=>lessE x e)).mem (by rw[hd];exact List.mem_cons_self);have hey:LTE e y:=by
    rcases lte_tri y e with h2 | h2 | h2
    .have h3:lessE y e=true:=h2;rw[hy] at h3;cases h3
    .exact h2
    .exact absurd h2 (hn y hyL)
   rw[hd] at hx p2;rcases List.mem_cons.1 hx with rfl | hx
   .exact hey
   .exact lte_trans hey ((List.pairwise_cons.1 p2).1 x hx)
 unfold insE;refine List.pairwise_append.2 ⟨p1,List.pairwise_cons.2 ⟨hB,p2⟩,fun a ha b hb=>?_⟩;rcases List.mem_cons.1 hb with rfl | hb
 .exact hA a ha
 .exact p3 a ha b hb
theorem insL_pw {n:Int}: ∀ {ps:List Chn} {L:List Ent},(ps.Pairwise fun a b=>a.key≠b.key)->L.Pairwise LTE->(∀ p ∈ ps, ∀ x ∈ L,x.key=p.key->x.seq<n)->(insL n ps L).Pairwise LTE
 | [],L,_,h,_=>h
 | p::ps,L,hp,h,hl=>by
  obtain⟨h1,h2⟩:=List.pairwise_cons.1 hp;refine insL_pw (L:=insE (entC n p) L) h2 (insE_pw h fun x hx hs=>?_) fun q hq x hx hk=>?_
  .have h3:=hl p List.mem_cons_self x hx hs.1;have h4:x.seq=n:=hs.2;omega
  .rcases insE_mem.1 hx with rfl | hx
   .exact absurd hk (h1 q hq)
   .exact hl q (List.mem_cons_of_mem _ hq) x hx hk
def doneE (q:Nat) (cs:List Chn) (L:List Ent):List Ent:=insL ((q+1:Nat):Int) (lastB cs) L
theorem MemIs.done {L:List Ent} {q t:Nat} {M:List Kv} (h:MemIs L q M t) {cs:List Chn} (hc: ∀ p ∈ cs,ChgOk p) (hq:q+1<=1000000000):MemIs (doneE q cs L) (q+1) (putsM cs M) (t+cs.length):=by
 have hlt: ∀ x ∈ L,x.seq<((q+1:Nat):Int):=fun x hx=>by have:=h.top x hx;omega
 have hm: ∀ x ∈ doneE q cs L,x ∈ L\/ ∃ p ∈ cs,x=entC ((q+1:Nat):Int) p:=fun x hx=>by
  rcases insL_mem.1 hx with h1 | ⟨p,hp,h1⟩
  .exact .inl h1
  .exact .inr ⟨p,lastB_mem hp,h1⟩
 refine⟨insL_pw (lastB_once cs) h.sort (fun p _ x hx _=>hlt x hx),fun x hx=>?_,fun x hx=>?_,?_,putsM_sorted cs h.pairs,fun k=>?_⟩
 .rcases hm x hx with h1 | ⟨p,hp,rfl⟩
  .exact h.each x h1
  .have h2:=hc p hp;exact⟨h2.key,h2.val,h2.dead,by show 0<=((q+1:Nat):Int)/\((q+1:Nat):Int)<=_;omega⟩
 .rcases hm x hx with h1 | ⟨p,hp,rfl⟩
  .have:=h.top x h1;omega
  .exact Int.le_refl _
 .unfold doneE;rw[insL_len];have h1:=h.len;have h2:=(lastB_sub cs).length_le;omega
 .refine done_now (Int.le_refl _) hlt h.pairs (fun k=>?_) k;rw[<-h.tells k];exact al_above (fun x hx=>by have:=h.top x hx;omega) h.top k
theorem MemIs.then {L:List Ent} {q t:Nat} {M:List Kv} (h:MemIs L q M t) (cs:List Chn) {s:Int} (hs:s<=q) (k:List UInt8):alE k s (doneE q cs L)=alE k s L:=
 done_then (by omega) (fun x hx=>by have:=h.top x hx;omega) k
def tidyE (ss:List Int) (L:List Ent):List Ent:=if 2*(thinE true ss L).length+16<L.length then thinE true ss L else L
theorem MemIs.thin {L:List Ent} {q t:Nat} {M:List Kv} (h:MemIs L q M t) (ss:List Int):MemIs (thinE true ss L) q M t:=by
 have hs:=thin_in true ss L;exact⟨thin_sorted h.sort,fun x hx=>h.each x (hs.mem hx),fun x hx=>h.top x (hs.mem hx),Nat.le_trans hs.length_le h.len,h.pairs,fun k=>by rw[thin_al h.sort (.inr h.top),h.tells]⟩
theorem MemIs.tidy {L:List Ent} {q t:Nat} {M:List Kv} (h:MemIs L q M t) (ss:List Int):MemIs (tidyE ss L) q M t:=by
 unfold tidyE;split
 .exact h.thin ss
 .exact h
theorem MemIs.kept {L:List Ent} {q t:Nat} {M:List Kv} (h:MemIs L q M t) {ss:List Int} {s:Int} (hs:s ∈ ss) (k:List UInt8):alE k s (tidyE ss L)=alE k s L:=by
 unfold tidyE;split
 .exact thin_al h.sort (.inl hs)
 .rfl
def nowE (L:List Ent):List Ent:=thinE true [] L
theorem MemIs.img {L:List Ent} {q t:Nat} {M:List Kv} (h:MemIs L q M t):ImgOk (nowE L)/\(nowE L).map pairE=M/\(nowE L).length<=t/\ ∀ x ∈ nowE L,x.seq<=q:=by
 have hs:=thin_in true [] L;refine⟨⟨thin_keys _ L (Nat.le_refl _) h.sort,fun e he=>⟨h.each e (hs.mem he),thin_live _ L (Nat.le_refl _) e he⟩⟩,?_,Nat.le_trans hs.length_le h.len,fun x hx=>h.top x (hs.mem hx)⟩;rw[<-h.view];exact thin_view h.sort h.top
def mapD (E:List Ent) (bs:List (List Chn)):List Kv:=bs.foldl (fun M cs=>putsM cs M) (E.map pairE)
theorem mapD_snoc (E:List Ent) (bs:List (List Chn)) (cs:List Chn):mapD E (bs++[cs])=putsM cs (mapD E bs):=by unfold mapD;rw[List.foldl_append];rfl
section
variable {D:Dk} {S:Spc} {sf:Nat->Nat} {lim n m k:Nat} {f:Fl} {p:List UInt8}
theorem find_grow1 (k:Nat) (p:List UInt8) {x:Int} (h:S.find x=some f) (hk:f.num=k):(S.grow k p).find x=some { f with frames:=f.frames++[p] }:=by
 rw[grow_is,find_growL,h];simp[hk]
theorem apps_offG {x:Int}: ∀ (ps:List (List UInt8)) {S:Spc} {D:Dk} {f:Fl},Good D S sf lim->S.find x=some f->(∀ p ∈ ps,p.length<=480)->f.frames.length+ps.length<=f.blocks->1<=D.armed->D.armed<=ps.length->
  ∃ S' D' Dv j,Spc.appsL x ps S D=(S',D',21)/\D'.off=true/\Good Dv (S.growL f.num (ps.take j)) sf lim/\(∀ keep torn bytes,D'.crash keep torn bytes=Dv.crash keep torn bytes)/\(∀ m,Cnt D m->Cnt D' (m+ps.length))/\D'.cells.length=D.cells.length
 | [],S,D,f,hg,hf,hp,hl,h1,ha=>by
  simp at ha;omega
 | p::ps,S,D,f,hg,hf,hp,hl,h1,ha=>by
  rw[List.length_cons] at hl ha;have h:=append_cases hg x p
  cases h with
  | none h1 e=>rw[hf] at h1;cases h1
  | long f' h1 h2 e=>have:=hp p List.mem_cons_self;omega
  | full f' h1 h2 h3 e=>
   rw[hf] at h1;injection h1 with h1
   subst h1;omega
  | off f' h1 h2 h3 h4 e=>
   obtain⟨hm,_⟩:=find_mem h1;have hg2:=good_append hg hm (p:=p) (by omega) (by omega);rw[hf] at h1;injection h1 with h1
   subst h1;exact⟨_,_,D.wr (f.first+f.frames.length) (frameB f.birth f.life p),1,by rw[appsL_cons,e];exact if_neg (by simp),took_off h4,hg2,fun keep torn bytes=>took_crash _ _ _ _ _ _,fun m hm=>hm.took.mono (by rw[List.length_cons];omega),rfl⟩
  | ok f' h1 h2 h3 h4 e g=>
   rw[hf] at h1;injection h1 with h1
   subst h1;rw[e] at g;have e2:Spc.appsL x (p::ps) S D=Spc.appsL x ps (S.grow f.num p) (D.wr (f.first+f.frames.length) (frameB f.birth f.life p)):=by
    rw[appsL_cons,e];exact if_pos rfl
   obtain⟨S',D',Dv,j,i1,i2,i3,i4,i5,i6⟩:=apps_offG ps g (find_grow1 f.num p hf rfl) (fun q hq=>hp q (List.mem_cons_of_mem _ hq)) (by simp only[List.length_append,List.length_singleton];omega) (by rw[wr_armed];omega) (by rw[wr_armed];omega);refine⟨S',D',Dv,j+1,e2.trans i1,i2,?_,i4,fun m hm=>(i5 _ hm.wr).mono (by rw[List.length_cons];omega),i6⟩;rw[List.take_succ_cons];rw[growL_grow] at i3;exact i3
inductive AppsR (S:Spc) (D:Dk) (sf:Nat->Nat) (lim:Nat) (f:Fl) (ps:List (List UInt8)) (r:Spc × Dk × Int):Prop where
 | ok (D':Dk) (e:r=(S.growL f.num ps,D',0)) (g:Good D' (S.growL f.num ps) sf lim) (c: ∀ m,Cnt D m->Cnt D' (m+ps.length)) (l:D'.cells.length=D.cells.length) (a:D'.armed<=D.armed)
 | off (ha:D.armed≠0) (S':Spc) (D' Dv:Dk) (j:Nat) (e:r=(S',D',21)) (o:D'.off=true) (g:Good Dv (S.growL f.num (ps.take j)) sf lim) (cr: ∀ keep torn bytes,D'.crash keep torn bytes=Dv.crash keep torn bytes) (c: ∀ m,Cnt D m->Cnt D' (m+ps.length)) (l:D'.cells.length=D.cells.length)
theorem apps_cases (hg:Good D S sf lim) {x:Int} (hf:S.find x=some f) {ps:List (List UInt8)} (hp: ∀ p ∈ ps,p.length<=480) (hl:f.frames.length+ps.length<=f.blocks):AppsR S D sf lim f ps (Spc.appsL x ps S D):=by
 by_cases ha:D.armed=0\/ps.length<D.armed
 .obtain⟨D',e,g,c,l,a⟩:=apps_yes ps hg hf hp hl ha;exact .ok D' e g c l (by omega)
 .obtain⟨S',D',Dv,j,e,o,g,cr,c,l⟩:=apps_offG ps hg hf hp hl (by omega) (by omega);exact .off (by omega) S' D' Dv j e o g cr c l
theorem wapp_cases (hg:Good D S sf lim) {x:Int} (hf:S.find x=some f) {b:List UInt8} (hb:b.length<=262144) (hl:f.frames.length+needN b.length<=f.blocks):AppsR S D sf lim f (split b) (S.wapp x b D):=by
 have h1:=split_len b;have e:S.wapp x b D=Spc.appsL x (split b) S D:=by
  unfold Spc.wapp;rw[hf];simp only;rw[if_neg (by omega),if_neg (by omega)]
 rw[e];exact apps_cases hg hf (fun p hp=>split_each hp) (by omega)
end
def posA (n:Nat) (lo:Bool):Nat:=if lo=true then 2 else 2+imgN n+logN n
abbrev Xf:=Option (Nat × Nat × List (List UInt8))
def xfs (n i:Nat) (lo:Bool):Xf->List Fl
 | none=>[]
 | some x=>[⟨i+2,posA n (!lo),imgN n,x.1,x.2.1,x.2.2⟩]
def stS (slot turn n i:Nat) (lo:Bool) (a b:Nat × Nat) (IF LF:List (List UInt8)) (x:Xf):Spc:=⟨slot,turn,⟨i,posA n lo,imgN n,a.1,a.2,IF⟩::⟨i+1,posA n lo+imgN n,logN n,b.1,b.2,LF⟩::xfs n i lo x⟩
section
variable {slot turn n i:Nat} {lo:Bool} {a b:Nat × Nat} {IF LF:List (List UInt8)} {x:Xf}
theorem st_image:(stS slot turn n i lo a b IF LF x).find (i:Nat)=some ⟨i,posA n lo,imgN n,a.1,a.2,IF⟩:=by
 unfold Spc.find stS;rw[List.find?_cons];simp
theorem st_log:(stS slot turn n i lo a b IF LF x).find ((i:Int)+1)=some ⟨i+1,posA n lo+imgN n,logN n,b.1,b.2,LF⟩:=by
 unfold Spc.find stS;rw[List.find?_cons,List.find?_cons];have h1:(((i:Nat):Int)==(i:Int)+1)=false:=by rw[beq_eq_false_iff_ne];omega
 have h2:(((i+1:Nat):Int)==(i:Int)+1)=true:=by rw[beq_iff_eq];omega
 simp only[h1,h2]
theorem st_third {y:Nat × Nat × List (List UInt8)}:(stS slot turn n i lo a b IF LF (some y)).find ((i:Int)+2)=some ⟨i+2,posA n (!lo),imgN n,y.1,y.2.1,y.2.2⟩:=by
 unfold Spc.find stS xfs;rw[List.find?_cons,List.find?_cons,List.find?_cons];have h1:(((i:Nat):Int)==(i:Int)+2)=false:=by rw[beq_eq_false_iff_ne];omega
 have h2:(((i+1:Nat):Int)==(i:Int)+2)=false:=by rw[beq_eq_false_iff_ne];omega
 have h3:(((i+2:Nat):Int)==(i:Int)+2)=true:=by rw[beq_iff_eq];omega
 simp only[h1,h2,h3]
theorem st_find_no (z:Int) (h1:z≠i) (h2:z≠(i:Int)+1) (h3:x.isSome=true->z≠(i:Int)+2):(stS slot turn n i lo a b IF LF x).find z=none:=by
 unfold Spc.find stS;rw[List.find?_cons,List.find?_cons];have e1:(((i:Nat):Int)==z)=false:=by rw[beq_eq_false_iff_ne];omega
 have e2:(((i+1:Nat):Int)==z)=false:=by rw[beq_eq_false_iff_ne];omega
 simp only[e1,e2]
 cases x with
 | none=>rfl
 | some y=>
  have e3:(((i+2:Nat):Int)==z)=false:=by rw[beq_eq_false_iff_ne];have:=h3 rfl;omega
  unfold xfs;rw[List.find?_cons];simp only[e3];rfl
theorem st_grow_log (ps:List (List UInt8)):(stS slot turn n i lo a b IF LF x).growL (i+1) ps=stS slot turn n i lo a b IF (LF++ps) x:=by
 unfold Spc.growL stS
 cases x with
 | none=>simp[xfs]
 | some y=>simp[xfs]
theorem st_grow_third (y:Nat × Nat × List (List UInt8)) (ps:List (List UInt8)):(stS slot turn n i lo a b IF LF (some y)).growL (i+2) ps=stS slot turn n i lo a b IF LF (some (y.1,y.2.1,y.2.2++ps)):=by
 unfold Spc.growL stS;simp[xfs]
theorem st_few (slot turn n i:Nat) (lo:Bool) (a b:Nat × Nat) (IF LF:List (List UInt8)) (x:Xf):(stS slot turn n i lo a b IF LF x).files.length<=3:=by
 unfold stS
 cases x<;>simp[xfs]
theorem may_third (hi:2<=i/\i<=2147483000) (hI:1<=imgN n):(stS slot turn n i lo a b IF LF none).may [⟨(i:Int)+2,0,imgN n⟩] []=true:=by
 have hf:=st_find_no (slot:=slot) (turn:=turn) (n:=n) (i:=i) (lo:=lo) (a:=a) (b:=b) (IF:=IF) (LF:=LF) (x:=none) ((i:Int)+2) (by omega) (by omega) (by simp);unfold Spc.may;rw[Bool.and_eq_true];refine⟨rfl,mayAdd_iff [_] [] |>.2 ⟨fun y hy=>?_,by simp⟩⟩;rw[List.mem_singleton.1 hy];exact⟨⟨by dsimp only;omega,by dsimp only;omega,by dsimp only;omega⟩,by simp,.inl (by dsimp only;rw[hf];rfl)⟩
theorem may_swap (hi:2<=i/\i<=2147483000) (hI:1<=logN n):(stS slot turn n i lo a b IF LF x).may [⟨(i:Int)+3,0,logN n⟩] [(i:Int),(i:Int)+1]=true:=by
 have hf:=st_find_no (slot:=slot) (turn:=turn) (n:=n) (i:=i) (lo:=lo) (a:=a) (b:=b) (IF:=IF) (LF:=LF) (x:=x) ((i:Int)+3) (by omega) (by omega) (fun _=>by omega);unfold Spc.may;rw[Bool.and_eq_true];refine⟨mayDrop_iff [_,_] [] |>.2 ⟨fun z hz=>⟨?_,by simp⟩,?_⟩,mayAdd_iff [_] [] |>.2 ⟨fun y hy=>?_,by simp⟩⟩
 .rcases List.mem_cons.1 hz with rfl | hz
  .rw[st_image];rfl
  .rw[List.mem_singleton.1 hz,st_log];rfl
 .simp;omega
 .rw[List.mem_singleton.1 hy];exact⟨⟨by dsimp only;omega,by dsimp only;omega,by dsimp only;omega⟩,by simp,.inl (by dsimp only;rw[hf];rfl)⟩
theorem may_back (y:Nat × Nat × List (List UInt8)):(stS slot turn n i lo a b IF LF (some y)).may [] [(i:Int)+2]=true:=by
 unfold Spc.may;rw[Bool.and_eq_true];refine⟨mayDrop_iff [_] [] |>.2 ⟨fun z hz=>⟨?_,by simp⟩,by simp⟩,rfl⟩;rw[List.mem_singleton.1 hz,st_third];rfl
theorem sortF2 {p q r s:Nat} (h:p<=r):sortF [(p,q),(r,s)]=[(p,q),(r,s)]:=by
 unfold sortF;simp[insF,h]
theorem sortF3 {p q r s t u:Nat} (h1:p<=r) (h2:r<=t):sortF [(p,q),(r,s),(t,u)]=[(p,q),(r,s),(t,u)]:=by
 unfold sortF;simp[insF,h1,h2]
theorem sortF3' {p q r s t u:Nat} (h1:p<=r) (h2:t<p):sortF [(p,q),(r,s),(t,u)]=[(t,u),(p,q),(r,s)]:=by
 unfold sortF;have h3:¬ r<=t:=by omega
 have h4:¬ p<=t:=by omega
 simp[insF,h1,h3,h4]
theorem add_third (hfit:2+2*imgN n+2*logN n<=n) (hI:1<=imgN n) (hL:1<=logN n):
  addX n (turn+1) [⟨(i:Int)+2,0,imgN n⟩] (stS slot turn n i lo a b IF LF none).lie ((stS slot turn n i lo a b IF LF none).files.filter fun f=> !([]:List Int).contains (f.num:Int))=some (stS slot turn n i lo a b IF LF (some (turn+1,1,[]))).files:=by
 have hF:(stS slot turn n i lo a b IF LF none).files.filter (fun f=> !([]:List Int).contains (f.num:Int))=(stS slot turn n i lo a b IF LF none).files:=by
  rw[List.filter_eq_self];simp
 have hlie:(stS slot turn n i lo a b IF LF none).lie=[(posA n lo,imgN n),(posA n lo+imgN n,logN n)]:=rfl;have hpl:placeX n ((imgN n:Nat):Int) 2 (sortF [(posA n lo,imgN n),(posA n lo+imgN n,logN n)])=(posA n (!lo),true):=by
  rw[sortF2 (by omega)]
  cases lo with
  | true=>
   show placeX n _ 2 [(2,imgN n),(2+imgN n,logN n)]=(2+imgN n+logN n,true);unfold placeX;rw[if_neg (by simp only[];omega)];unfold placeX;rw[if_neg (by simp only[];omega)];unfold placeX;rw[decide_eq_true (by simp only[];omega)]
  | false=>
   show placeX n _ 2 [(2+imgN n+logN n,imgN n),(2+imgN n+logN n+imgN n,logN n)]=(2,true);unfold placeX;rw[if_pos (by simp only[];omega)]
 rw[hF,hlie,addX_yes hpl];unfold addX;show some ((stS slot turn n i lo a b IF LF none).files++_)=_;have e:((i:Int)+2).toNat=i+2:=by omega
 simp only[e,Int.toNat_natCast];rfl
theorem add_swap (hfit:2+2*imgN n+2*logN n<=n) (hI:1<=imgN n) (hL:1<=logN n) (y:Nat × Nat × List (List UInt8)):
  addX n (turn+1) [⟨(i:Int)+3,0,logN n⟩] (stS slot turn n i lo a b IF LF (some y)).lie ((stS slot turn n i lo a b IF LF (some y)).files.filter fun f=> !([(i:Int),(i:Int)+1]:List Int).contains (f.num:Int))=some (stS slot turn n (i+2) (!lo) (y.1,y.2.1) (turn+1,1) y.2.2 [] none).files:=by
 have hF:(stS slot turn n i lo a b IF LF (some y)).files.filter (fun f=> !([(i:Int),(i:Int)+1]:List Int).contains (f.num:Int))=[⟨i+2,posA n (!lo),imgN n,y.1,y.2.1,y.2.2⟩]:=by
  unfold stS xfs;have h1:([(i:Int),(i:Int)+1]:List Int).contains ((i:Nat):Int)=true:=by simp
  have h2:([(i:Int),(i:Int)+1]:List Int).contains ((i+1:Nat):Int)=true:=by simp
  have h3:([(i:Int),(i:Int)+1]:List Int).contains ((i+2:Nat):Int)=false:=by
   rw[Bool.eq_false_iff];intro h;rw[List.contains_iff_mem] at h;rcases List.mem_cons.1 h with h | h
   .omega
   .have:=List.mem_singleton.1 h;omega
  rw[List.filter_cons,List.filter_cons,List.filter_cons];simp only[h1,h2,h3];rfl
 have hlie:(stS slot turn n i lo a b IF LF (some y)).lie=[(posA n lo,imgN n),(posA n lo+imgN n,logN n),(posA n (!lo),imgN n)]:=rfl;have hpl:placeX n ((logN n:Nat):Int) 2 (sortF [(posA n lo,imgN n),(posA n lo+imgN n,logN n),(posA n (!lo),imgN n)])=(posA n (!lo)+imgN n,true):=by
  cases lo with
  | true=>
   show placeX n _ 2 (sortF [(2,imgN n),(2+imgN n,logN n),(2+imgN n+logN n,imgN n)])=(2+imgN n+logN n+imgN n,true);rw[sortF3 (by omega) (by omega)];unfold placeX;rw[if_neg (by simp only[];omega)];unfold placeX;rw[if_neg (by simp only[];omega)];unfold placeX;rw[if_neg (by simp only[];omega)];unfold placeX;rw[decide_eq_true (by simp only[];omega)]
  | false=>
   show placeX n _ 2 (sortF [(2+imgN n+logN n,imgN n),(2+imgN n+logN n+imgN n,logN n),(2,imgN n)])=(2+imgN n,true);rw[sortF3' (by omega) (by omega)];unfold placeX;rw[if_neg (by simp only[];omega)];unfold placeX;rw[if_pos (by simp only[];omega)]
 rw[hF,hlie,addX_yes hpl];unfold addX;have e:((i:Int)+3).toNat=i+3:=by omega
 simp only[e,Int.toNat_natCast];rfl
theorem add_back (y:Nat × Nat × List (List UInt8)):
  addX n (turn+1) [] (stS slot turn n i lo a b IF LF (some y)).lie ((stS slot turn n i lo a b IF LF (some y)).files.filter fun f=> !([(i:Int)+2]:List Int).contains (f.num:Int))=some (stS slot turn n i lo a b IF LF none).files:=by
 unfold addX;congr 1
 unfold stS xfs;have h1:([(i:Int)+2]:List Int).contains ((i:Nat):Int)=false:=by
  rw[Bool.eq_false_iff];intro h;rw[List.contains_iff_mem] at h;have:=List.mem_singleton.1 h;omega
 have h2:([(i:Int)+2]:List Int).contains ((i+1:Nat):Int)=false:=by
  rw[Bool.eq_false_iff];intro h;rw[List.contains_iff_mem] at h;have:=List.mem_singleton.1 h;omega
 have h3:([(i:Int)+2]:List Int).contains ((i+2:Nat):Int)=true:=by simp
 rw[List.filter_cons,List.filter_cons,List.filter_cons];simp only[h1,h2,h3];rfl
theorem sortN2 {f g:Fl} (h:f.num<=g.num):sortN [f,g]=[f,g]:=by
 unfold sortN;simp[insN,h]
theorem sortN3 {f g k:Fl} (h:f.num<=g.num) (h2:g.num<=k.num):sortN [f,g,k]=[f,g,k]:=by
 unfold sortN;simp[insN,h,h2]
theorem st_sort:sortN (stS slot turn n i lo a b IF LF x).files=(stS slot turn n i lo a b IF LF x).files:=by
 cases x with
 | none=>exact sortN2 (Nat.le_succ i)
 | some y=>exact sortN3 (Nat.le_succ i) (Nat.le_succ (i+1))
end
structure Con (n t q:Nat) (E:List Ent) (bs:List (List Chn)):Prop where
 img:ImgOk E
 bats: ∀ cs ∈ bs,BatOk cs
 few:E.length+(bs.map List.length).sum<=t
 siz:sizM (mapD E bs)+400<=imgN n*480
 seqs: ∀ x ∈ E,x.seq+bs.length<=q
 bl:bs.length<=q
theorem Con.mono {n t q t' q':Nat} {E:List Ent} {bs:List (List Chn)} (h:Con n t q E bs) (ht:t<=t') (hq:q<=q'):Con n t' q' E bs:=
 ⟨h.img,h.bats,Nat.le_trans h.few ht,h.siz,fun x hx=>by have:=h.seqs x hx;omega,Nat.le_trans h.bl hq⟩
theorem Con.frames {n t q:Nat} {E:List Ent} {bs:List (List Chn)} (h:sizM (E.map pairE)+400<=imgN n*480) (hi:ImgOk E):(cutsB (packB E)).length<=imgN n:=by
 have h1:=packB_le E fun e he=>⟨(hi.each e he).1.key.2,(hi.each e he).1.val⟩
 rw[cuts_len];omega
structure Dsx (n:Nat) (D:Dk) (slot turn:Nat) (lo:Bool) (a b:Nat × Nat) (LF:List (List UInt8)) (y:Xf) (sf:Nat->Nat) (lim i:Nat) (E:List Ent) (bs:List (List Chn)) (safe:Nat):Prop where
 good:Good D (stS slot turn n i lo a b (cutsB (packB E)) LF y) sf lim
 len:D.cells.length=n
 big:64<=n
 num:2<=i/\i % 2=0
 tel:Tel LF (bs.map laiB)
 cra:Cra LF (bs.map laiB) safe (sf (i+1))
 safeI:(cutsB (packB E)).length<=sf i
 safe:safe<=bs.length
def Dsk (n:Nat) (D:Dk) (S:Spc) (sf:Nat->Nat) (lim i:Nat) (E:List Ent) (bs:List (List Chn)) (safe:Nat) (x:Bool):Prop:=
 ∃ slot turn lo a b LF y,S=stS slot turn n i lo a b (cutsB (packB E)) LF y/\y.isSome=x/\Dsx n D slot turn lo a b LF y sf lim i E bs safe
section
variable {n:Nat} {D D':Dk} {slot turn:Nat} {lo:Bool} {a b:Nat × Nat} {LF:List (List UInt8)} {y:Xf} {sf:Nat->Nat} {lim i:Nat} {E E':List Ent} {bs:List (List Chn)} {safe:Nat} {S:Spc} {cs:List Chn} {x:Bool}
theorem Dsx.dsk (h:Dsx n D slot turn lo a b LF y sf lim i E bs safe):Dsk n D (stS slot turn n i lo a b (cutsB (packB E)) LF y) sf lim i E bs safe y.isSome:=⟨slot,turn,lo,a,b,LF,y,rfl,rfl,h⟩
theorem Dsx.most (h:Dsx n D slot turn lo a b LF y sf lim i E bs safe):n<=65536:=by have:=h.good.fils.most;rw[h.len] at this;exact this
theorem Dsx.fit (h:Dsx n D slot turn lo a b LF y sf lim i E bs safe):2+2*imgN n+2*logN n<=n/\1<=logN n/\1<=imgN n:=by
 have h1:=sizes_fit h.big;have h2:=img_le h.most;omega
theorem Dsx.limUp (h:Dsx n D slot turn lo a b LF y sf lim i E bs safe) {l:Nat} (h1:lim<=l) (h2:l<=1000000000):Dsx n D slot turn lo a b LF y sf l i E bs safe:=
 ⟨good_lim h.good h1 h2,h.len,h.big,h.num,h.tel,h.cra,h.safeI,h.safe⟩
theorem lenAt_image:lenAt (stS slot turn n i lo a b (cutsB (packB E)) LF y).files i=(cutsB (packB E)).length:=by
 unfold lenAt stS;simp
theorem lenAt_log {IF:List (List UInt8)}:lenAt (stS slot turn n i lo a b IF LF y).files (i+1)=LF.length:=by
 unfold lenAt stS;rw[List.find?_cons,List.find?_cons];have h1:(i==i+1)=false:=by rw[beq_eq_false_iff_ne];omega
 have h2:(i+1==i+1)=true:=by simp
 simp only[h1,h2]
theorem lenAt_third {IF:List (List UInt8)} {z:Nat × Nat × List (List UInt8)}:lenAt (stS slot turn n i lo a b IF LF (some z)).files (i+2)=z.2.2.length:=by
 unfold lenAt stS xfs;rw[List.find?_cons,List.find?_cons,List.find?_cons];have h1:(i==i+2)=false:=by rw[beq_eq_false_iff_ne];omega
 have h2:(i+1==i+2)=false:=by rw[beq_eq_false_iff_ne];omega
 have h3:(i+2==i+2)=true:=by simp
 simp only[h1,h2,h3]
theorem st_fewer {IF:List (List UInt8)} {gs:List Fl} (h:Fewer sf (stS slot turn n i lo a b IF LF y).files gs): ∃ a' b' m m' y',gs=(stS slot turn n i lo a' b' (IF.take m) (LF.take m') y').files/\sf i<=m/\m<=IF.length/\sf (i+1)<=m'/\m'<=LF.length/\y'.isSome=y.isSome:=by
 cases y with
 | none=>
  match gs,h with
  | [f',g'],⟨⟨a1,a2,a3,a4,m,a5,a6,a7⟩,⟨b1,b2,b3,b4,m',b5,b6,b7⟩,_⟩=>
   obtain⟨fn,ff,fb,fi,fl,fr⟩:=f';obtain⟨gn,gf,gb,gi,gl,gr⟩:=g';simp only at a1 a2 a3 a4 a7 b1 b2 b3 b4 b7;subst a1;subst a2;subst a3;subst a4;subst a7;subst b1;subst b2;subst b3;subst b4;subst b7;exact⟨(a.1,fl),(b.1,gl),m,m',none,rfl,a5,a6,b5,b6,rfl⟩
 | some z=>
  match gs,h with
  | [f',g',k'],⟨⟨a1,a2,a3,a4,m,a5,a6,a7⟩,⟨b1,b2,b3,b4,m',b5,b6,b7⟩,⟨c1,c2,c3,c4,m2,c5,c6,c7⟩,_⟩=>
   obtain⟨fn,ff,fb,fi,fl,fr⟩:=f';obtain⟨gn,gf,gb,gi,gl,gr⟩:=g';obtain⟨kn,kf,kb,ki,kl,kr⟩:=k';simp only at a1 a2 a3 a4 a7 b1 b2 b3 b4 b7 c1 c2 c3 c4 c7;subst a1;subst a2;subst a3;subst a4;subst a7;subst b1;subst b2;subst b3;subst b4;subst b7;subst c1;subst c2;subst c3;subst c4;subst c7;exact⟨(a.1,fl),(b.1,gl),m,m',some (z.1,kl,z.2.2.take m2),rfl,a5,a6,b5,b6,rfl⟩
theorem found_st {V:Dk} {sl tu:Nat} {fs':List Fl} {l:Nat} (hlen:V.cells.length=n) (hbig:64<=n) (hnum:2<=i/\i % 2=0) (cra:Cra LF (bs.map laiB) safe (sf (i+1))) (safeI:(cutsB (packB E)).length<=sf i)
  (hf:Fewer sf (stS sl tu n i lo a b (cutsB (packB E)) LF y).files fs') (hg:Good V ⟨sl,tu,fs'⟩ (lenAt fs') l):
  ∃ m,safe<=m/\m<=bs.length/\ ∃ sf',Dsk n V ⟨sl,tu,fs'⟩ sf' l i E (bs.take m) m y.isSome:=by
 obtain⟨a',b',m,m',y',rfl,h1,h2,h3,h4,h5⟩:=st_fewer hf;have hm:(cutsB (packB E)).take m=cutsB (packB E):=List.take_of_length_le (by omega);rw[hm] at hg ⊢;obtain⟨r,r1,r2,r3⟩:=cra m' h3 h4;rw[List.length_map] at r2;rw[<-List.map_take] at r3;have hl:(bs.take r).length=r:=by rw[List.length_take];omega
 refine⟨r,r1,r2,_,sl,tu,lo,a',b',LF.take m',y',rfl,h5,hg,hlen,hbig,hnum,r3,?_,?_,by rw[hl];exact Nat.le_refl _⟩
 .have h6:=Cra.all r3;rw[List.length_map,hl] at h6;rw[lenAt_log (IF:=cutsB (packB E))];exact h6
 .rw[lenAt_image];exact Nat.le_refl _
theorem Dsx.again (h:Dsx n D slot turn lo a b LF y sf lim i E bs safe) (hlim:lim+1<=1000000000):
  ∃ S',openX D=(some S',0)/\Dsk n D S' sf (lim+1) i E bs safe y.isSome:=by
 obtain⟨gs,e1,e2,e3⟩:=found_again h.good hlim;obtain⟨a',b',m,m',y',rfl,h1,h2,h3,h4,h5⟩:=st_fewer e2;rw[lenAt_image] at h1;rw[lenAt_log (IF:=cutsB (packB E))] at h3;have hm:(cutsB (packB E)).take m=cutsB (packB E):=List.take_of_length_le (by omega);have hm':LF.take m'=LF:=List.take_of_length_le (by omega);rw[hm,hm'] at e1 e3;exact⟨_,e1,slot,turn,lo,a',b',LF,y',rfl,h5,e3,h.len,h.big,h.num,h.tel,h.cra,h.safeI,h.safe⟩
theorem Dsx.sync (h:Dsx n D slot turn lo a b LF y sf lim i E bs safe):D.flush.2=0/\Dsx n D.flush.1 slot turn lo a b LF y (lenAt (stS slot turn n i lo a b (cutsB (packB E)) LF y).files) lim i E bs bs.length:=by
 have ho:=h.good.fils.off;refine⟨by rw[flush_on D ho],good_flush h.good,(came_flush h.good.fils.wf ho).len.trans h.len,h.big,h.num,h.tel,?_,?_,Nat.le_refl _⟩
 .have h6:=Cra.all h.tel;rw[List.length_map] at h6;rw[lenAt_log (IF:=cutsB (packB E))];exact h6
 .rw[lenAt_image];exact Nat.le_refl _
def CrOut (n:Nat) (D:Dk) (lim i:Nat) (E:List Ent) (bs:List (List Chn)) (safe:Nat):Prop:= ∀ keep torn bytes,
 ∃ S',openX (D.crash keep torn bytes)=(some S',0)/\ ∃ m,safe<=m/\m<=bs.length/\ ∃ sf' x,Dsk n (D.crash keep torn bytes) S' sf' lim i E (bs.take m) m x
inductive PutR (n:Nat) (D:Dk) (slot turn:Nat) (lo:Bool) (a b:Nat × Nat) (LF:List (List UInt8)) (sf:Nat->Nat) (lim i:Nat) (E:List Ent) (bs:List (List Chn)) (safe:Nat) (cs:List Chn) (r:Spc × Dk × Int):Prop where
 | no (h:logN n<LF.length+needN (laiB cs).length) (e:r=(stS slot turn n i lo a b (cutsB (packB E)) LF none,D,41))
 | ok (D':Dk) (e:r=(stS slot turn n i lo a b (cutsB (packB E)) (LF++split (laiB cs)) none,D',0)) (h:Dsx n D' slot turn lo a b (LF++split (laiB cs)) none sf lim i E (bs++[cs]) safe) (c: ∀ m,Cnt D m->Cnt D' (m+548)) (r:D'.armed<=D.armed)
 | off (ha:D.armed≠0) (S':Spc) (D':Dk) (e:r=(S',D',21)) (o:D'.off=true) (h:CrOut n D' (lim+1) i E (bs++[cs]) safe) (c: ∀ m,Cnt D m->Cnt D' (m+548)) (l:D'.cells.length=n)
theorem Dsx.put (h:Dsx n D slot turn lo a b LF none sf lim i E bs safe) (hlim:lim+1<=1000000000) (hc:BatOk cs):PutR n D slot turn lo a b LF sf lim i E bs safe cs ((stS slot turn n i lo a b (cutsB (packB E)) LF none).wapp ((i:Int)+1) (laiB cs) D):=by
 have hb:=laiB_le hc;have hsp:=split_len (laiB cs);have hnd:=needN_le (laiB cs).length;by_cases hr:logN n<LF.length+needN (laiB cs).length
 .exact .no hr (wapp_no st_log hb hr)
 .have hmp:(bs++[cs]).map laiB=bs.map laiB++[laiB cs]:=by simp
  have hcr:Cra (LF++split (laiB cs)) ((bs++[cs]).map laiB) safe (sf (i+1)):=by
   rw[hmp];exact h.cra.put h.tel (by rw[List.length_map];exact h.safe) hb
  have hs:safe<=(bs++[cs]).length:=by rw[List.length_append];have:=h.safe;omega
  have ha:=wapp_cases (b:=laiB cs) h.good st_log hb (show LF.length+needN (laiB cs).length<=logN n by omega)
  cases ha with
  | ok D' e g c l r=>
   have e2:=st_grow_log (slot:=slot) (turn:=turn) (n:=n) (i:=i) (lo:=lo) (a:=a) (b:=b) (IF:=cutsB (packB E)) (LF:=LF) (x:=none) (split (laiB cs));simp only at e g;rw[e2] at e g;refine .ok D' e ⟨g,l.trans h.len,h.big,h.num,?_,hcr,h.safeI,hs⟩ (fun m hm=>(c m hm).mono (by omega)) r;rw[hmp];exact h.tel.put hb
  | off ha S' D' Dv j e o g cr c l=>
   have e2:=st_grow_log (slot:=slot) (turn:=turn) (n:=n) (i:=i) (lo:=lo) (a:=a) (b:=b) (IF:=cutsB (packB E)) (LF:=LF) (x:=none) ((split (laiB cs)).take j);simp only at g;rw[e2] at g;refine .off ha S' D' e o (fun keep torn bytes=>?_) (fun m hm=>(c m hm).mono (by omega)) (l.trans h.len);obtain⟨gs,f1,f2,f3⟩:=found_crash g hlim (came_crash (keep:=keep) (torn:=torn) (bytes:=bytes) g.fils.wf);obtain⟨m,m1,m2,sf',m3⟩:=found_st (bs:=bs++[cs]) (safe:=safe) (by rw[<-cr,crash_len,l];exact h.len) h.big h.num (Cra.sub (j:=j) hcr) h.safeI f2 f3;exact⟨_,by rw[cr];exact f1,m,m1,m2,sf',_,by rw[cr];exact m3⟩
end
end Go.Proofs.YtmbaiglpgaoogaaGreat
