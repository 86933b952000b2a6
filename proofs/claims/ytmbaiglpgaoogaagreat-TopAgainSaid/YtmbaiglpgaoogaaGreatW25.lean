/- Joined, as they were built one by one: WalApp ExtC WalRead WalLaw SpSwitch. -/
import Derived.Test.YtmbaiglpgaoogaaGreatW02
import Derived.Test.YtmbaiglpgaoogaaGreatW04
import Derived.Test.YtmbaiglpgaoogaaGreatW11
import Derived.Test.YtmbaiglpgaoogaaGreatW12
set_option maxHeartbeats 16000000
set_option linter.unusedVariables false
set_option maxRecDepth 100000
namespace Go.Proofs.YtmbaiglpgaoogaaGreat
open Go.RowKit Z
def aK.cF (n:Int):List (List UInt8)->aK->Dk->aK × Dk × Int
 | [],S,D=>(S,D,0)
 | p::ps,S,D=>if (S.append n p D).2.2=0 then aK.cF n ps (S.append n p D).1 (S.append n p D).2.1 else S.append n p D
def aK.gz (S:aK) (n:Int) (b:List UInt8) (D:Dk):aK × Dk × Int:=
 match S.find n with
 | none=>(S,D,34)
 | some f=>if 262144<b.length then (S,D,40) else if (f.blocks:Int) - f.aa.length<bh b.length then (S,D,41) else aK.cF n (split b) S D
theorem eZ (n:Int) (p:List UInt8) (ps:List (List UInt8)) (S:aK) (D:Dk):aK.cF n (p::ps) S D=if (S.append n p D).2.2=0 then aK.cF n ps (S.append n p D).1 (S.append n p D).2.1 else S.append n p D:=rfl
theorem iW (b:List UInt8):(split b).length=bh b.length:=by unfold split;simp
theorem pI {b p:List UInt8} (h:p ∈ split b):p.length<=480:=by
 unfold split at h;obtain⟨i,_,rfl⟩:=List.mem_map.1 h;unfold frame;rw[List.length_cons,nK];omega
theorem ve (k:Nat) (w:World) (h:k<=9223372036854775807):Calls Tryz.prog 116 #[.int .i64 (k:Int)] w fun e w'=>e = .returned (.int .i64 (bh k:Int))/\w=w':=by
 have:=qj (k:Int) w (by omega);have e:kJ (k:Int)=(bh k:Int):=by rw[kJ,if_pos (by omega),Int.toNat_natCast]
 rwa [e] at this
theorem I5 {rs:bY} {ps:List (List UInt8)} (h:bK rs=ps) (i:Nat) (hi:i<rs.length):ps.drop i=rs[i].2.2::ps.drop (i+1):=by
 subst h;rw[List.drop_eq_getElem_cons (by unfold bK;simpa using hi)];congr 1
 unfold bK;simp
theorem aF.IG {w:World} {A:Option Addr} {rs:bY} (h:aF w A (rs.map aI)) {k:Nat} (hk:k<rs.length): ∃ b o,A=some ⟨b,o,none⟩/\w.cell? ⟨b,o+k,none⟩=some (aI rs[k]):=by
 obtain⟨b,o,e,hc⟩:=h (by intro e;have:=congrArg List.length e;simp at this;rw[this] at hk;simp at hk);refine⟨b,o,e,?_⟩;have:=hc k (by simpa using hk);rw[this];simp
theorem Sat.AL {w0 w:World} {A B C F:SP} (h:Sat w0 (A*(B*(C*F))) w):Sat w0 (A*(B*F)) w:=(h.bp.right)
section
variable {w0 w:World} {F:SP} {s d n m:Nat} {D D':Dk} {S S':aK} {sf:Nat->Nat} {lim:Nat} {f:Fl} {p:List UInt8}
theorem qJ (hg:Good D S sf lim) (n:Int) (p:List UInt8) (hc:dq D m) (ha:D.armed<=9223372036854775807) (h0:(S.append n p D).2.2=0):
 Good (S.append n p D).2.1 (S.append n p D).1 sf lim/\dq (S.append n p D).2.1 (m+1)/\(S.append n p D).2.1.armed<=9223372036854775807:=by
 have h:=jr hg n p
 cases h with
 | none h1 e=>rw[e] at h0;simp at h0
 | E9 f' h1 h2 e=>rw[e] at h0;simp at h0
 | full f' h1 h2 h3 e=>rw[e] at h0;simp at h0
 | off f' h1 h2 h3 h4 e=>rw[e] at h0;simp at h0
 | ok f' h1 h2 h3 h4 e g=>
  obtain⟨D',e',g',c',_,a'⟩:=Fj hg h4 h1 h2 h3;rw[e'];exact⟨g',c' _ hc,by rw[a'];omega⟩
end
section
variable {w0 w:World} {F:SP} {s d n m:Nat} {D:Dk} {S:aK} {sf:Nat->Nat} {lim:Nat} {b:List UInt8}
theorem Af (n:Int) (A:Option Addr) (c:Nat) (hg:Good D S sf lim) (hc:dq D m) (hm:m<=999999000) (ha:D.armed<=9223372036854775807) (h:Sat w0 (ag s d S*(af d D*F)) w) (hp: ∀ W,Sat w0 F W->Rd W A b) (hbc:b.length<=c) (hcm:c<=9223372036854775807):
 Calls Tryz.prog 72 #[.pointer (some ⟨s,0,none⟩),.int .i64 n,.slice A b.length c] w fun e w'=>e = .returned (.int .i64 (S.gz n b D).2.2)/\Sat w0 (ag s d (S.gz n b D).1*(af d (S.gz n b D).2.1*F)) w':=by
 have HS:=ah h;have hbl:b.length<=9223372036854775807:=by omega
 obtain⟨L,hL⟩: ∃ L,L=b.length:=⟨_,rfl⟩
 cases hf:S.find n with
 | none=>
  have e1:S.gz n b D=(S,D,34):=by unfold aK.gz;rw[hf]
  rw[e1];have HR:=ah (yH (n:=n) hg h hf);clear hg h e1 hL;go_enter Tryz.func72, Tryz.ntmps72;go_wp2_with (go_at_call 118;(with_reducible refine HR.o.mono ?_);rintro e w1 ⟨rfl,rfl⟩);go_ret;exact⟨rfl,HS.o⟩
 | some f=>
  have HR:=ah (Gh (n:=n) hg h hf);by_cases h1:262144<b.length
  .have e1:S.gz n b D=(S,D,40):=by unfold aK.gz;rw[hf];simp only;rw[if_pos h1]
   rw[e1];rw[<-hL] at*
   have h1':(262144:Int)<L:=by omega
   clear hg h e1 hL;go_enter Tryz.func72, Tryz.ntmps72;go_wp2_with (go_at_call 118;(with_reducible refine HR.o.mono ?_);rintro e w1 ⟨rfl,hs⟩;have HS1:=ah hs;clear hs);go_ret;exact⟨rfl,HS1.o⟩
  .have HN:=fun W=>ve b.length W hbl
   by_cases h2:(f.blocks:Int) - f.aa.length<bh b.length
   .have e1:S.gz n b D=(S,D,41):=by unfold aK.gz;rw[hf];simp only;rw[if_neg h1,if_pos h2]
    rw[e1];generalize bh b.length=k at*
    generalize (f.blocks:Int) - f.aa.length=r at*
    rw[<-hL] at*
    have h1':¬ (262144:Int)<L:=by omega
    have HN:=ah HN;clear hg h e1 hL;go_enter Tryz.func72, Tryz.ntmps72;go_wp2_with (first
     | (go_at_call 118;(with_reducible refine HR.o.mono ?_);rintro e w1 ⟨rfl,hs⟩;have HS1:=ah hs;clear hs)
     | (go_at_call 116;(with_reducible refine(HN.o _).mono ?_);rintro e wx ⟨rfl,rfl⟩))
    go_ret;exact⟨rfl,HS1.o⟩
   .have e1:S.gz n b D=aK.cF n (split b) S D:=by unfold aK.gz;rw[hf];simp only;rw[if_neg h1,if_neg h2]
    rw[e1];have HSp:Hid (∀ W,Sat w0 F W->Calls Tryz.prog 119 #[.slice A b.length c] W (qK b W)):=fun W hW=>BW A c b W (hp W hW) hbc hcm (by omega)
    have hN548:=pa b.length;have HLn:=ah (iW b);have HEach:Hid (∀ p ∈ split b,p.length<=480):=fun p hp=>pI hp
    unfold qK at HSp;generalize hsp:split b=ps at*
    generalize bh b.length=k at*
    generalize hr0:(f.blocks:Int) - f.aa.length=r at*
    rw[<-hL] at*
    have h1':¬ (262144:Int)<L:=by omega
    have HN:=ah HN;have HG:=ah hg;have HC:=ah hc;have HA:=ah ha;have h2':¬ (r:Int)<k:=h2;clear hg h e1 hL hsp hr0 hc ha h1 h2 hf hbl hbc hcm hp;go_enter Tryz.func72, Tryz.ntmps72;go_upto_region 8 with (first
     | (go_at_call 118;(with_reducible refine HR.o.mono ?_);rintro e w1 ⟨rfl,hs⟩;have HS1:=ah hs;clear hs)
     | (go_at_call 116;(with_reducible refine(HN.o _).mono ?_);rintro e wx ⟨rfl,rfl⟩))
    have HSpl:=ah (HSp.o _ HS1.o.right.right);go_upto_region 9 with (go_at_call 119;(with_reducible refine HSpl.o.mono ?_);rintro e w2 ⟨v,rs,rfl,ht,ho,hk⟩;have HS2:=ah (HS1.o.Iy hk ho);have HT:=ah ht;clear ht ho hk;obtain⟨A2,c2,rfl,_⟩:=HS2.o.bm)
    have HLr:Hid (rs.length=k):=by unfold Hid;rw[<-HLn.o, <-HT.o];unfold bK;simp
    have HXk:=ah (I5 HT.o);obtain⟨N,hN⟩: ∃ N,N=rs.length:=⟨_,rfl⟩;have HNr:Hid (N=rs.length/\N=ps.length):=⟨hN,by rw[hN,HLr.o,HLn.o]⟩;have hNk:N<=548:=by rw[hN,HLr.o];exact hN548
    rw[<-hN] at HS2 ⊢;clear hN HN HR HSp HSpl HS1 HS hN548;go_loopw [35] (fun iv wr=> ∃ (i:Nat) (S':aK) (D':Dk),i<=N/\iv = .int .i64 (i:Int)/\Hid (Good D' S' sf lim/\dq D' (m+i)/\D'.armed<=9223372036854775807/\aK.cF n ps S D=aK.cF n (ps.drop i) S' D'/\Sat w0 (ag s d S'*(af d D'*(Row 41 1 (.slice A2 N c2) N (rs.map aI)*(iF rs*F)))) wr)) (fun iv _=>N - (intOf iv).toNat)
    case atStart=>exact⟨0,S,D,by omega,rfl,HG.o,HC.o,HA.o,rfl,HS2.o.of (by ac_rfl)⟩
    case round=>
     obtain⟨i,S',D',hi,rfl,HD⟩:=hrel;by_cases hlt:i<N
     .have hk2:(i:Int)<N:=by omega
      have hkm:i+1<=N:=hlt;have hir:i<rs.length:=by rw[<-HNr.o.1];exact hlt
      obtain⟨b5,o5,rfl,q0⟩:=HD.o.2.2.2.2.bp.gD.IG hir;have hpe:(ps.drop i)=rs[i].2.2::ps.drop (i+1):=HXk.o i hir;have hpl:rs[i].2.2.length<=480:=HEach.o _ (List.mem_of_mem_drop (i:=i) (by rw[hpe];exact List.mem_cons_self));have hrd: ∀ W,Sat w0 (Row 41 1 (.slice (some ⟨b5,o5,none⟩) N c2) N (rs.map aI)*(iF rs*F)) W->Rd W rs[i].1 rs[i].2.2:=fun W hW=>AR hW.right (List.getElem_mem hir)
      obtain⟨A3,c3,p,hx⟩: ∃ A3 c3 p,rs[i]=(A3,c3,p):=⟨_,_,_,rfl⟩;rw[hx] at q0 hpe hpl hrd;dsimp only at hpe hpl hrd;unfold aI at q0;dsimp only at q0;obtain⟨S2,D2,r2,he⟩: ∃ S2 D2 r2,S'.append n p D'=(S2,D2,r2):=⟨_,_,_,rfl⟩;have hAp:=EX n A3 c3 p.length HD.o.1 HD.o.2.1 (by omega) HD.o.2.2.1 HD.o.2.2.2.2 hrd rfl he;have hst:aK.cF n ps S D=if r2=0 then aK.cF n (ps.drop (i+1)) S2 D2 else (S2,D2,r2):=by
       rw[HD.o.2.2.2.1,hpe,eZ,he]
      have hnx:=fun h0=>qJ HD.o.1 n p HD.o.2.1 HD.o.2.2.1 (by rw[he];exact h0)
      rw[he] at hnx;have HAp:=ah hAp;have HSt:=ah hst;have HNx:=ah hnx;clear hAp hst hnx hpe hrd hx he;generalize p.length=pl at*
      by_cases hr2:r2=0
      .subst hr2;have HN0:=ah (HNx.o rfl);have HS0:Hid (aK.cF n ps S D=aK.cF n (ps.drop (i+1)) S2 D2):=by unfold Hid;rw[HSt.o,if_pos rfl]
       clear HNx HSt;go_wp2_with (go_at_call 120;(with_reducible refine HAp.o.mono ?_);rintro e w4 ⟨rfl,hs⟩;have HS4:=ah hs;clear hs);go_roundw
       .exact⟨i+1,S2,D2,hkm,by push_cast;rfl,HN0.o.1,HN0.o.2.1,HN0.o.2.2,HS0.o,HS4.o⟩
       .simp[intOf];omega
      .have hr3:(r2 !=0)=true:=by rw[bne_iff_ne];exact hr2
       have HE:Hid (aK.cF n ps S D=(S2,D2,r2)):=by unfold Hid;rw[HSt.o,if_neg hr2]
       go_wp2_with (go_at_call 120;(with_reducible refine HAp.o.mono ?_);rintro e w4 ⟨rfl,hs⟩;have HS4:=ah hs;clear hs);go_ret;rw[HE.o];exact⟨rfl,HS4.o.AL.AL⟩
     .have hk2:¬ (i:Int)<N:=by omega
      have HE:Hid (aK.cF n ps S D=(S',D',0)):=by
       unfold Hid;rw[HD.o.2.2.2.1,List.drop_of_length_le (by have:=HNr.o.2;omega)];rfl
      go_wp2_with fail;go_ret;rw[HE.o];exact⟨rfl,HD.o.2.2.2.2.AL.AL⟩
end
section
variable {w0 w:World} {F:SP} {s d slot turn:Nat} {v:Value} {ps:List (Nat × Fl)} {D:Dk}
theorem xq (n:Int) (h:Sat w0 (aP s d slot turn v ps*F) w) (hl:ps.length<=1000000) {i:Nat} (hi:i<ps.length) (he:eP ps n=i) (hf:ps[i].2.aa.length<=65536) (hsm: ∀ p ∈ ps[i].2.aa,p.length<=480):
 Calls Tryz.prog 59 #[.pointer (some ⟨s,0,none⟩),.int .i64 n] w fun e w'=> ∃ u ts,e = .returned (.tuple #[u,.int .i64 0])/\bK ts=ps[i].2.aa/\(∀ x ∈ ts,x.2.2.length<=x.2.1/\x.2.1<=maxLen)/\Sat w0 (Row 41 1 u ts.length (ts.map aI)*(cd ts*(aP s d slot turn v ps*F))) w':=by
 obtain⟨i0,hi0',hz0',hz1',hz2'⟩:=info_parts AF;have hi0:=ah hi0';have hz0:=ah hz0';have hz1:=ah hz1';have hz2:=ah hz2';have HF:=eb n h hl;rw[he,List.getElem?_eq_getElem hi] at HF;have HF:=ah HF;obtain⟨v5,ks,hks,hfl⟩:=(h.of (fE hi)).fl;obtain⟨A,c,rfl,hu1,hu2⟩:=hfl.ay.bm;have g5:w.cell? ⟨ps[i].1,5,none⟩=some (.slice A ks.length c):=hfl.cell 5;have HS:=ah hfl;have hkl:ks.length=ps[i].2.aa.length:=by rw[<-hks,bK,List.length_map]
 have HKs:=ah hks;have HSm:Hid (∀ k ∈ ks,k.2.2.length<=480):=fun k hk=>hsm k.2.2 (by rw[<-hks];exact List.mem_map_of_mem hk)
 have hk16:ks.length<=65536:=by omega
 clear h hks he hkl hf hsm hi0' hz0' hz1' hz2' hfl;obtain⟨G,hG⟩: ∃ G,G=Pt s 153 #[aS d,.int .i64 (slot:Int),.int .u64 (turn:Int),v]*(Row 155 1 v ps.length (ps.map fun x=>aS x.1)*(aW (ps.eraseIdx i)*F)):=⟨_,rfl⟩;rw[<-hG] at HS;have HG:=ah hG;clear hG;go_enter Tryz.func59, Tryz.ntmps59;go_wp2_with (go_at_call 103;(with_reducible refine HF.o.mono ?_);rintro x wx ⟨rfl,rfl⟩;unfold mY aS;dsimp only);go_loopw [7,9,20] (fun ov _ iv wr=> ∃ (k:Nat) (C:Option Addr) (cc:Nat) (ts:bY),k<=ks.length/\ov = .slice C k cc/\iv = .int .i64 (k:Int)/\Hid ((∀ x ∈ ts,x.2.2.length<=x.2.1/\x.2.1<=maxLen)/\ts.length=k/\bK ts=bK (ks.take k)/\Sat w0 (Row 41 1 (.slice C k cc) k (ts.map aI)*(cd ts*(Pt ps[i].1 163 (nR ps[i].2 (.slice A ks.length c))*(Row 41 1 (.slice A ks.length c) ks.length (ks.map aI)*(cd ks*G))))) wr)) (fun _ _ iv _=>ks.length - (intOf iv).toNat)
 case atStart=>exact⟨0,none,0,[],by omega,rfl,rfl,by simp,rfl,rfl,(HS.o.mj [] (by simp)).aN _ 1⟩
 case round=>
  obtain⟨k,C,cc,ts,hk,rfl,rfl,HD⟩:=hrel;by_cases hlt:k<ks.length
  .have hrd:rm wr A ks:=⟨aF.bG HD.o.2.2.2.bL.aO,fun x hx=>HD.o.2.2.2.fN.F4 hx⟩;obtain⟨⟨b,o,rfl,hc⟩,hx⟩:=hrd.get hlt;have hk2:(k:Int)<ks.length:=by omega
   have hxl:=HSm.o ks[k] (List.getElem_mem hlt);have HT:Hid (bK (ks.take (k+1))=bK (ks.take k)++[ks[k].2.2]):=by
    unfold Hid bK;rw[List.take_succ_eq_append_getElem hlt,List.map_append];rfl
   have HCl:=ah (ez ks[k].1 ks[k].2.1 ks[k].2.2 wr hx (by omega));clear hx hrd;generalize ks[k]=x at*
   go_wp2_with (first
    | (go_at_call 104;(with_reducible refine HCl.o.mono ?_);rintro e w2 ⟨v2,rfl,h2,_,k2⟩;have hs:=HD.o.2.2.2.dP k2 h2;obtain⟨A2,c2,hv2,hcp⟩:=hs.bm;subst hv2;have HCp:=ah hcp;clear hcp;have HS2:=ah (hs.ed (l:=x.2.2));clear hs h2 k2)
    | (at_builtin;refine av rfl (.tmp 24) (.tmp 27) 87 rfl 41 i0 _ 1 24 Tryz.underlying87 hi0.o hz0.o hz1.o hz2.o rfl (by decide) (.slice C k cc) k (ts.map aI) rfl w0 _ (by exact(HS2.o.aD _).ay) (some ⟨w2.heap.size,0,none⟩) 1 1 [aI (A2,c2,x.2.2)] rfl (aR _ _ _) rfl (jd _) (by unfold maxLen;omega) (by omega) ?_;intro A3 c3 w3 hs3;have HS3:=ah hs3;clear hs3))
   go_roundw
   .refine⟨k+1,A3,c3,ts++[(A2,c2,x.2.2)],by omega,rfl,by push_cast;rfl,?_,?_,?_,?_⟩
    .intro y hy;rcases List.mem_append.1 hy with h9 | h9
     .exact HD.o.1 y h9
     .rw[List.mem_singleton.1 h9];exact HCp.o
    .rw[List.length_append,HD.o.2.1];rfl
    .rw[HT.o, <-HD.o.2.2.1,bK,List.map_append];rfl
    .rw[List.map_append];exact HS3.o.of (by rw[<-ir,List.map_singleton];ac_rfl)
   .simp[intOf];omega
  .obtain rfl:k=ks.length:=by omega
   have hk2:¬ ((ks.length:Nat):Int)<ks.length:=by omega
   go_wp2_with fail;go_ret2;refine⟨_,rfl,ts,?_,(fun a b c hm=>HD.o.1 _ hm),?_⟩
   .rw[HD.o.2.2.1,List.take_length];exact HKs.o
   .rw[HD.o.2.1];have h9:=Sat.ID HKs.o (HD.o.2.2.2.of (show _=Pt ps[i].1 163 (nR ps[i].2 (.slice A ks.length c))*(Row 41 1 (.slice A ks.length c) ks.length (ks.map aI)*(cd ks*(Row 41 1 (.slice C ks.length cc) ks.length (ts.map aI)*(cd ts*G)))) by ac_rfl));refine h9.of ?_;rw[HG.o,fE hi]
    ac_rfl
end
section
variable {w0 w:World} {F:SP} {s d:Nat} {D:Dk} {v:Value} {ps:List (Nat × Fl)} {S:aK} {sf:Nat->Nat} {lim:Nat} {f:Fl}
theorem qH {n:Int} (hg:Good D S sf lim) (h:Sat w0 (ag s d S*(af d D*F)) w) (hf:S.find n=some f):
 Calls Tryz.prog 59 #[.pointer (some ⟨s,0,none⟩),.int .i64 n] w fun e w'=> ∃ u ts,e = .returned (.tuple #[u,.int .i64 0])/\bK ts=f.aa/\(∀ x ∈ ts,x.2.2.length<=x.2.1/\x.2.1<=maxLen)/\Sat w0 (Row 41 1 u ts.length (ts.map aI)*(cd ts*(ag s d S*(af d D*F)))) w':=by
 obtain⟨v,ps,hps,hs⟩:=h.space;obtain⟨i,hi,he,rfl⟩:=oR hps hf;obtain⟨k1,k2,k3,k4,k5⟩:=hg.file (gO hf).1;refine(xq n hs (by have:=bP hps hg;omega) hi he (by omega) k3).mono ?_;rintro e w' ⟨u,ts,h1,h2,hcp,h3⟩;refine⟨u,ts,h1,h2,hcp,?_⟩;have h4:=Sat.ek hps (h3.of (show _=aP s d S.slot S.turn v ps*(Row 41 1 u ts.length (ts.map aI)*(cd ts*(af d D*F))) by ac_rfl));exact h4.of (by ac_rfl)
end
theorem wC: ∀ {l:List (List UInt8)},(∀ p ∈ l,p.length<=480)->l.flatten.length<=l.length*480
 | [],_=>by simp
 | p::l,h=>by
  have h1:=h p List.mem_cons_self;have h2:=wC (l:=l) fun q hq=>h q (List.mem_cons_of_mem _ hq)
  rw[List.flatten_cons,List.length_append,List.length_cons];omega
section
variable {w0 w:World} {F:SP} {s d n m:Nat} {D:Dk} {S:aK} {sf:Nat->Nat} {lim:Nat} {f:Fl}
theorem Gu {n:Int} (hg:Good D S sf lim) (h:Sat w0 (ag s d S*(af d D*F)) w) (hf:S.find n=some f):
 Calls Tryz.prog 64 #[.pointer (some ⟨s,0,none⟩),.int .i64 n] w fun e w'=> ∃ u rs,e = .returned (.tuple #[u,.int .i64 0])/\bK rs=whole f.aa/\Sat w0 (Row 41 1 u rs.length (rs.map aI)*(iF rs*(ag s d S*(af d D*F)))) w':=by
 have HF:=ah (qH (n:=n) hg h hf);obtain⟨k1,k2,k3,k4,k5⟩:=hg.file (gO hf).1;have hfl:=wC k3;have HW:Hid (∀ (A:Option Addr) (c:Nat) (ts:bY) W,bK ts=f.aa->(∀ x ∈ ts,x.2.2.length<=x.2.1/\x.2.1<=maxLen)->rm W A ts->Calls Tryz.prog 111 #[.slice A ts.length c] W (fun e w'=> ∃ v rs,e = .returned v/\bK rs=whole f.aa/\eT W.heap.size w' v rs/\ao No W w')):=fun A c ts W ht hcp hr=>by
  have hl:ts.length=f.aa.length:=by rw[<-ht];unfold bK;simp
  have h9:=Ce A c ts W hr hcp (by rw[ht];omega) (by omega);rw[ht] at h9;exact h9
 clear hg h hf k1 k2 k3 k4 k5 hfl;go_enter Tryz.func64, Tryz.ntmps64;go_wp2_with (first
  | (go_at_call 59;(with_reducible refine HF.o.mono ?_);rintro e w1 ⟨u,ts,rfl,ht,hcp,hs⟩;obtain⟨A,c,rfl,_⟩:=hs.bm;have HS1:=ah hs;have HWc:=ah (HW.o A c ts w1 ht hcp ⟨hs.gD,fun x hx=>hs.ay.F4 hx⟩);clear hs ht hcp)
  | (go_at_call 111;(with_reducible refine HWc.o.mono ?_);rintro e w2 ⟨v,rs,rfl,ht,ho,hk⟩;have HS2:=ah (HS1.o.Iy hk ho);have HT:=ah ht;clear ht ho hk))
 go_ret2;exact⟨_,rs,rfl,HT.o,HS2.o.bp.right.bp.right⟩
end
def aK.eQ (S:aK) (k:Nat) (ps:List (List UInt8)):aK:={ S with files:=S.files.map fun g=>if g.num=k then { g with aa:=g.aa++ps } else g }
theorem sA (S:aK) (k:Nat):S.eQ k []=S:=by
 unfold aK.eQ;have h:(fun g:Fl=>if g.num=k then { g with aa:=g.aa++[] } else g)=id:=by
  funext g
  split
  .rw[List.append_nil];rfl
  .rfl
 rw[h,List.map_id]
theorem qw (S:aK) (k:Nat) (p:List UInt8) (ps:List (List UInt8)):(S.grow k p).eQ k ps=S.eQ k (p::ps):=by
 unfold aK.eQ aK.grow;simp only[List.map_map];congr 1
 apply List.map_congr_left;intro g _;simp only[Function.comp];by_cases h:g.num=k
 .simp[h]
 .simp[h]
section
variable {D D':Dk} {S S':aK} {sf:Nat->Nat} {lim m k:Nat} {f:Fl} {p:List UInt8} {ps:List (List UInt8)}
theorem pf (n:Int):(S.eQ k ps).find n=(S.find n).map fun g=>if g.num=k then { g with aa:=g.aa++ps } else g:=by
 unfold aK.eQ aK.find;simp only;rw[List.find?_map];congr 2
 funext g
 simp only[Function.comp];split<;>rfl
theorem zG (S:aK) (k:Nat) (p:List UInt8):S.grow k p=S.eQ k [p]:=rfl
theorem wF {n:Int}: ∀ (ps:List (List UInt8)) {S:aK} {D:Dk} {f:Fl},Good D S sf lim->S.find n=some f->(∀ p ∈ ps,p.length<=480)->f.aa.length+ps.length<=f.blocks->(D.armed=0\/ps.length<D.armed)->
 ∃ D',aK.cF n ps S D=(S.eQ f.num ps,D',0)/\Good D' (S.eQ f.num ps) sf lim/\(∀ m,dq D m->dq D' (m+ps.length))/\D'.cells.length=D.cells.length/\D'.armed=D.armed - ps.length
 | [],S,D,f,hg,hf,hp,hl,ha=>⟨D,by rw[sA];rfl,by rw[sA];exact hg,fun m h=>h,rfl,rfl⟩
 | p::ps,S,D,f,hg,hf,hp,hl,ha=>by
  rw[List.length_cons] at hl ha;obtain⟨D1,e1,g1,c1,l1,a1⟩:=Fj hg (n:=n) (p:=p) (by omega) hf (hp p List.mem_cons_self) (by omega);have h2:(S.grow f.num p).find n=some { f with aa:=f.aa++[p] }:=by
   rw[zG,pf,hf];simp
  obtain⟨D2,e2,g2,c2,l2,a2⟩:=wF ps g1 h2 (fun q hq=>hp q (List.mem_cons_of_mem _ hq)) (by simp only[List.length_append,List.length_singleton];omega) (by omega);simp only at e2 g2;rw[qw] at e2 g2;refine⟨D2,?_,g2,fun m h=>?_,l2.trans l1,by rw[a2,a1,List.length_cons];omega⟩
  .rw[eZ,e1];exact(if_pos rfl).trans e2
  .have:=c2 _ (c1 m h);rw[List.length_cons];exact this.mono (by omega)
theorem Gz {n:Int} {b:List UInt8} (hf:S.find n=some f) (hb:b.length<=262144) (hl:f.blocks<f.aa.length+bh b.length):S.gz n b D=(S,D,41):=by
 unfold aK.gz;rw[hf];simp only;rw[if_neg (by omega),if_pos (by omega)]
end
section
variable {D:Dk} {sf:Nat->Nat} {lim:Nat}
theorem mU {S:aK} {m:Nat} (hg:Good D S sf lim) (h:lim<=m) (hm:m<=1000000000):Good D S sf m:=
 ⟨⟨hg.fils.off,hg.fils.wf,hg.fils.two,hg.fils.aG,hg.fils.ok,⟨Nat.le_trans hg.fils.cap.1 h,hm⟩,fun f hf=>⟨Nat.le_trans (hg.fils.each f hf).1 h,(hg.fils.each f hf).2⟩,hg.fils.births⟩,hg.heads⟩
end
end Go.Proofs.YtmbaiglpgaoogaaGreat
