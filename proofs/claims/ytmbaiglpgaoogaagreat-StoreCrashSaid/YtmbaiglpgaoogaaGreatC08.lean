/- Joined, as they were built one by one: Ext12 Ext13 Ext14 ExtR BlkTwin RgM BlkNew BookS BookB. -/
import Derived.Maps.RangeWalk
import Derived.Deep.CutBlock
import Derived.Test.YtmbaiglpgaoogaaGreatC01
import Derived.Test.YtmbaiglpgaoogaaGreatC02
import Derived.Test.YtmbaiglpgaoogaaGreatC03
import Derived.Test.YtmbaiglpgaoogaaGreatC04
import Derived.Test.YtmbaiglpgaoogaaGreatC06
import Derived.Test.YtmbaiglpgaoogaaGreatC07
set_option maxHeartbeats 16000000
set_option linter.unusedVariables false
set_option maxRecDepth 100000
namespace Go.Proofs.YtmbaiglpgaoogaaGreat
open Go.RowKit Z
section
variable {w0 w:World} {F:SP} {d q:Nat} {D:Dk} {f:Fl}
theorem xg (D:Dk) (birth first:Nat): ∀ k,(bp D birth first k).last<18446744073709551616/\(bp D birth first k).aD<18446744073709551616
 | 0=>⟨by show 0<_;omega,by show 0<_;omega⟩
 | k+1=>by
  obtain⟨h1,h2⟩:=xg D birth first k
  have h3:gF (D.read ((first+k:Nat):Int)).1<18446744073709551616:=me _ (by simp;omega);rw[gK];unfold eK;split
  .exact⟨h1,h2⟩
  .split
   .exact⟨h1,h2⟩
   .split
    .exact⟨h1,Nat.max_lt.2 ⟨h2,h3⟩⟩
    .exact⟨h3,Nat.max_lt.2 ⟨h2,h3⟩⟩
theorem xH (D:Dk) (birth first:Nat): ∀ k,(bp D birth first k).aa.length<=k
 | 0=>Nat.le_refl _
 | k+1=>by
  have h:=xH D birth first k
  rw[gK];unfold eK;split
  .show (bp D birth first k).aa.length<=_;omega
  .split
   .show (bp D birth first k).aa.length<=_;omega
   .split
    .show (bp D birth first k).aa.length<=_;omega
    .show (_++[_]).length<=_;rw[List.length_append];show _+1<=_;omega
def IW (q d:Nat) (f:Fl) (D:Dk) (v:Value) (ks:bP):SP:=Pt q 163 (pO f v)*(Row 41 1 v ks.length (ks.map aE)*(ca ks*ae d D))
theorem nq {v:Value} {ks:bP}:IW q d f D v ks*F=Pt q 163 (pO f v)*(Row 41 1 v ks.length (ks.map aE)*(ca ks*(ae d D*F))):=by unfold IW;ac_rfl
theorem F2 (h:Sat w0 (ni q f*(ae d D*F)) w) (hfr:f.aa=[]) (ho:D.off=false) (hn:f.first+f.blocks<=D.cells.length) (hN:D.cells.length<=65536) (hb:f.birth<18446744073709551616):
 Calls Tryz.prog 92 #[.pointer (some ⟨q,0,none⟩),.pointer (some ⟨d,0,none⟩)] w fun e w'=>e = .returned (.int .i64 0)/\Sat w0 (ni q (Fl.load D f)*(ae d D*F)) w':=by
 obtain⟨i0,hi0',hz0',hz1',hz2'⟩:=info_parts BS;have hi0:=ah hi0';have hz0:=ah hz0';have hz1:=ah hz1';have hz2:=ah hz2';obtain⟨v5,ks0,hks0,hfl⟩:=h.fl;rw[hfr] at hks0;obtain rfl:ks0=[]:=by
  cases ks0 with
  | nil=>rfl
  | cons x l=>simp[bT] at hks0
 obtain⟨B0,bc0,rfl,hu1,hu2⟩:=hfl.av.aT;have HS:=ah (hfl.of nq.symm);have y2:w.cell? ⟨q,2,none⟩=some (.int .i64 (f.blocks:Int)):=hfl.cell 2;have HO:=ah ho;have HN:=ah hN;have Hn:=ah hn;have HB:=ah hb;have HE:Hid (∀ m frs,Fl.load D f={ f with life:=m,aa:=frs }->True):=fun _ _ _=>trivial
 have HLd:Hid (∀ st:MJ,bp D f.birth f.first f.blocks=st->Fl.load D f={ f with life:=(st.aD+1) % 18446744073709551616,aa:=st.aa }):=fun st h9=>by
  unfold Fl.load;rw[h9,hfr];rfl
 have hbl16:f.blocks<=65536:=by omega
 clear h hfl hks0 hi0' hz0' hz1' hz2' ho hn hN hb hfr HE hu1 hu2;go_enter Tryz.func92, Tryz.ntmps92;go_wp2_with fail;go_loopw [5,6,7,17] (fun ov lv mv iv wr=> ∃ (k:Nat) (st:MJ) (C:Option Addr) (cc:Nat) (ks:bP),k<=f.blocks/\ov = .bool st.over/\lv = .int .u64 (st.last:Int)/\mv = .int .u64 (st.aD:Int)/\iv = .int .i64 (k:Int)/\Hid (st=bp D f.birth f.first k/\bT ks=st.aa/\Sat w0 (IW q d f D (.slice C ks.length cc) ks*F) wr)) (fun _ _ _ iv _=>f.blocks - (intOf iv).toNat)
 case atStart=>exact⟨0,⟨false,0,0,[]⟩,B0,bc0,[],by omega,rfl,rfl,rfl,rfl,rfl,rfl,HS.o⟩
 case round=>
  obtain⟨k,st,C,cc,ks,hk,rfl,rfl,rfl,rfl,HD⟩:=hrel;obtain⟨over,last,aD,frs⟩:=st;dsimp only;have hsm:=xg D f.birth f.first k;have hct:=xH D f.birth f.first k;rw[<-HD.o.1] at hsm hct;obtain⟨hs1,hs2⟩:=hsm;dsimp only at hs1 hs2 hct;have hkl:ks.length=frs.length:=by have:=congrArg List.length HD.o.2.1;rw[bT,List.length_map] at this;exact this
  have hks16:ks.length<=65536:=by omega
  clear hkl;have HKs:Hid (bT ks=frs):=HD.o.2.1;by_cases hlt:k<f.blocks
  .have hk2:(k:Int)<f.blocks:=by omega
   have hm:k+1<=f.blocks:=hlt;have y1:wr.cell? ⟨q,1,none⟩=some (.int .i64 (f.first:Int)):=(HD.o.2.2.of nq).cell 1;obtain⟨J,hJ⟩: ∃ J,J=f.first+k:=⟨_,rfl⟩;have hJn:(f.first:Int)+(k:Int)=(J:Int):=by omega
   have hJs:J<D.cells.length:=by have:=Hn.o;omega
   have hJ16:J<65536:=by have:=HN.o;omega
   have hwJ:IntKind.i64.wrap (J:Int)=J:=by rw[IntKind.wrap_i64];omega
   have HSt:Hid (bp D f.birth f.first (k+1)=eK f.birth (D.read (J:Int)) ⟨over,last,aD,frs⟩):=by unfold Hid;rw[gK, <-HD.o.1,hJ]
   obtain⟨r,hr⟩: ∃ r,r=D.read (J:Int):=⟨_,rfl⟩;have hcode:r.2=0\/r.2=24:=by rw[hr];exact qE D J HO.o ⟨by omega,by omega⟩
   have HL:Hid (r.2=0->r.1.length=512):=fun h9=>by rw[hr] at h9 ⊢;exact((HD.o.2.2.of nq).bW).yg J h9 HO.o ⟨by omega,by omega⟩
   have HRd:=ah (rk d D J w0 wr _ (HD.o.2.2.of nq).bW);unfold Hk at HRd;rw[<-hr] at HSt HRd;clear hr hlt hJ hJs hct;have hb16:=hbl16;generalize hbirth:f.birth=birth at*
   obtain⟨b,e⟩:=r;rcases hcode with h9 | h9
   .obtain rfl:e=0:=h9;have hl:b.length=512:=HL.o rfl;have HRd2:Hid (Calls Tryz.prog 128 #[.pointer (some ⟨d,0,none⟩),.int .i64 (J:Int)] wr fun e w'=> ∃ g o c,e = .returned (.tuple #[.slice (some ⟨g,o,none⟩) 512 c,.int .i64 0])/\512<=c/\c<=9223372036854775807/\Sat w0 (Rb (some ⟨g,o,none⟩) b*(IW q d f D (.slice C ks.length cc) ks*F)) w'):=HRd.o.mono fun e w' ⟨v,he,hs⟩=>by
     dsimp only at hs;rw[hl] at hs;obtain⟨A,c,rfl,hc1,hc2⟩:=hs.aT;obtain⟨g,o,rfl,_⟩:=hs.uW.rd (by intro e;rw[List.map_eq_nil_iff] at e;rw[e] at hl;simp at hl);refine⟨g,o,c,he,hc1,by unfold maxLen at hc2;omega,hs.uW.of ?_⟩;unfold IW;ac_rfl
    obtain⟨z1,hz1⟩: ∃ z,bI (b.take 8)=z:=⟨_,rfl⟩;obtain⟨z2,hz2⟩: ∃ z,bI ((b.drop 16).take 2)=z:=⟨_,rfl⟩;obtain⟨z3,hz3⟩: ∃ z,bI ((b.drop 8).take 8)=z:=⟨_,rfl⟩;have q1:8=(b.take 8).length:=by rw[List.length_take];omega
    have q2:2=((b.drop 16).take 2).length:=by rw[List.length_take,List.length_drop];omega
    have q3:8=((b.drop 8).take 8).length:=by rw[List.length_take,List.length_drop];omega
    have HGd:Hid (fy birth b=decide (z1=birth/\z2<=480)):=by unfold Hid fy;rw[hz1,hz2]
    have HLf:Hid (gF b=z3):=hz3;have z3s:z3<18446744073709551616:=by rw[<-hz3];exact me _ (by omega)
    have HBd:Hid (iu b=(b.drop 18).take z2):=by unfold Hid iu;rw[hz2]
    have HQ:Hid (∀ (W:World) (g o c j:Nat),0<j->j<=18->512<=c->Rd W (some ⟨g,o,none⟩) b->Rd W (some ⟨g,o+j,none⟩) (b.drop j)):=fun W g o c j hj hj2 hc hW=>by
     have h9:=Rd.drop (k:=j) (cap:=c) hW (by omega) (by omega);rw[if_neg (by omega),Option.map_some,Addr.add_lit] at h9;exact h9
    have HG1:=ah fun (W:World) (g o c:Nat) (hW:Rd W (some ⟨g,o,none⟩) b)=>iW (some ⟨g,o,none⟩) c (b.take 8) 8 q1 z1 hz1 W (hW.take 8) (by omega)
    have HG2:=ah fun (W:World) (g o c:Nat) (hc:512<=c) (hW:Rd W (some ⟨g,o,none⟩) b)=>iW (some ⟨g,o+16,none⟩) (c - 16) ((b.drop 16).take 2) 2 q2 z2 hz2 W ((HQ.o W g o c 16 (by omega) (by omega) hc hW).take 2) (by omega)
    have HG3:=ah fun (W:World) (g o c:Nat) (hc:512<=c) (hW:Rd W (some ⟨g,o,none⟩) b)=>iW (some ⟨g,o+8,none⟩) (c - 8) ((b.drop 8).take 8) 8 q3 z3 hz3 W ((HQ.o W g o c 8 (by omega) (by omega) hc hW).take 8) (by omega)
    have hlB:=ah hl;have z2s:z2<65536:=by
     rw[<-hz2];exact Nat.lt_of_lt_of_le (iO _) (by rw[<-q2];decide)
    clear HL HRd hz1 hz2 hz3 q1 q2 q3 hl;go_upto_region 9 with (go_at_call 128;(with_reducible refine HRd2.o.mono ?_);rintro e w2 ⟨g,o,c,rfl,hc1,hc2,hs⟩;have HS2:=ah hs;clear hs)
    have y3:w2.drew.cell? ⟨q,3,none⟩=some (.int .u64 (birth:Int)):=by rw[<-hbirth];exact(HS2.o.drew.right.of nq).cell 3
    have m1:(8:Int)<=c:=by omega
    have m2:(18:Int)<=c:=by omega
    have m3:(16:Int)<=c:=by omega
    have m4:¬ c=8:=by omega
    have m5:¬ c=16:=by omega
    have m6:¬ c=18:=by omega
    have HR2:=ah HS2.o.drew.rd;have HS3:=ah HS2.o.drew;clear HRd2;by_cases h1:z1=birth
    .subst h1;have hne:((z1:Int) !=(z1:Int))=false:=by simp
     by_cases h2:z2<=480
     .have h2':¬ (480:Int)<z2:=by omega
      have HGo:Hid (fy z1 b=true):=by unfold Hid;rw[HGd.o];exact decide_eq_true ⟨rfl,h2⟩
      have HS4:Hid (bp D z1 f.first (k+1)=if over=true\/z3<last then ⟨true,last,max aD z3,frs⟩ else ⟨false,z3,max aD z3,frs++[iu b]⟩):=by
       unfold Hid;rw[HSt.o];unfold eK;rw[if_neg (by simp),if_neg (by rw[HGo.o];simp),HLf.o]
      clear HSt HGd HLf;refine wp_region_held_drew (S:=fun w'=>w'.cell? ⟨q,3,none⟩=some (.int .u64 (z1:Int))) (by kernel_rfl) y3 ?_;intro hS0;refine an 0 1 2 3 ?_;refine an 4 6 7 8 ?_;refine cH 9 ?_;refine bR 5 fun K hK=>?_
      go_simp;go_at_call 105;(with_reducible refine(HG1.o _ g o c HR2.o).mono ?_);rintro y wx ⟨rfl,rfl⟩
      refine hK.out _ _ y3 (fun hS0=>?_);clear hK K;refine an 10 11 12 13 ?_;refine cH 14 ?_;refine bR 15 fun K hK=>?_
      go_simp;go_at_call 105;(with_reducible refine(HG2.o _ g o c hc1 HR2.o).mono ?_);rintro y wx ⟨rfl,rfl⟩
      refine hK.out _ _ y3 (fun hS0=>?_);clear hK K;refine cm 16 17 ?_;refine wpAnyH_done (by kernel_rfl) ?_ _;go_upto_region 12 with (go_at_call 105;(with_reducible refine(HG3.o _ g o c hc1 HR2.o).mono ?_);rintro y wx ⟨rfl,rfl⟩)
      by_cases hmx:(aD:Int)<z3
      .have HM:Hid (max aD z3=z3):=by unfold Hid;exact Nat.max_eq_right (by omega)
       cases over with
       | true=>
        have HF:Hid (bp D z1 f.first (k+1)=⟨true,last,z3,frs⟩):=by unfold Hid;rw[HS4.o,if_pos (.inl rfl),HM.o]
        go_wp2_with fail;go_roundw
        .refine⟨k+1,⟨true,last,z3,frs⟩,C,cc,ks,hm,rfl,rfl,rfl,by push_cast;rfl,HF.o.symm,HKs.o,HS3.o.right⟩
        .simp[intOf];omega
       | false=>
        by_cases hz:(z3:Int)<last
        ·
         have HF:Hid (bp D z1 f.first (k+1)=⟨true,last,z3,frs⟩):=by unfold Hid;rw[HS4.o,if_pos (.inr (by omega)),HM.o]
         go_wp2_with fail;go_roundw
         .refine⟨k+1,⟨true,last,z3,frs⟩,C,cc,ks,hm,rfl,rfl,rfl,by push_cast;rfl,HF.o.symm,HKs.o,HS3.o.right⟩
         .simp[intOf];omega
        ·
         have HF:Hid (bp D z1 f.first (k+1)=⟨false,z3,z3,frs++[iu b]⟩):=by unfold Hid;rw[HS4.o,if_neg (by rintro (h9 | h9);cases h9;omega),HM.o]
         go_upto_region 16 with fail;have hs5:=HS3.o.drew;have y5:w2.drew.drew.cell? ⟨q,5,none⟩=some (.slice C ks.length cc):=(hs5.right.of nq).cell 5;have y6: ∀ o,(w2.alloc o).cell? ⟨q,5,none⟩=some (.slice C ks.length cc):=fun o=>((HS2.o.aC o).right.of nq).cell 5
         have HS5:=ah hs5;obtain⟨e18,he18⟩: ∃ e,e=18+z2:=⟨_,rfl⟩;have v2:IntKind.i64.wrap (z2:Int)=z2:=by rw[IntKind.wrap_i64];omega
         have v3:(18:Int)+(z2:Int)=(e18:Int):=by omega
         have v4:IntKind.i64.wrap (e18:Int)=e18:=by rw[IntKind.wrap_i64];omega
         have m7:(e18:Int)<=c:=by omega
         have m8:(18:Int)<=e18:=by omega
         have HZ:Hid (e18 - 18=z2):=by unfold Hid;omega
         obtain⟨L,hL⟩: ∃ L,L=iu b:=⟨_,rfl⟩;have HLl:Hid (L.length=e18 - 18):=by unfold Hid;rw[hL,HBd.o,List.length_take,List.length_drop];have:=hlB.o;omega
         have HLb:Hid (L=(b.drop 18).take z2):=by unfold Hid;rw[hL,HBd.o]
         have HL0:=ah hL;have HLs:Hid (L.length<=512):=by unfold Hid;rw[HLl.o];omega
         have hj:=(HS2.o.af 41 #[.slice (some ⟨g,o+18,none⟩) (e18 - 18) (c - 18)]).drew.drew;have HJ:Hid (Calls Tryz.prog 61 #[.slice (some ⟨w2.heap.size,0,none⟩) 1 1] (w2.alloc (.cells #[.slice (some ⟨g,o+18,none⟩) (e18 - 18) (c - 18)] 41)).drew.drew fun e w'=> ∃ A13 c13,e = .returned (.slice A13 L.length c13)/\Sat w0 (ca [(A13,c13,L)]*(Pt q 163 (pO f (.slice C ks.length cc))*(Row 41 1 (.slice C ks.length cc) ks.length (ks.map aE)*(ca ks*(ae d D*F))))) w'):=by
          refine(xh (some ⟨w2.heap.size,0,none⟩) 1 1 [(some ⟨g,o+18,none⟩,c - 18,L)] rfl w0 _ _ hj ⟨aH.jC hj.at (fun j hj=>?_),fun k hk=>?_⟩ L (by simp[bT]) (by have:=HLs.o;omega) (by omega)).mono ?_
          .simp at hj;subst hj;show _=some (aE (some ⟨g,o+18,none⟩,c - 18,L));unfold aE;rw[HLl.o];rfl
          .simp at hk;subst hk;rw[HLb.o];exact(HQ.o _ g o c 18 (by omega) (by omega) hc1 hj.right.rd).take z2
          .rintro y w13 ⟨A13,c13,rfl,hs⟩;exact⟨A13,c13,rfl,(hs.eI.av.right.av.right).of (by rw[<-nq])⟩
         clear hs5 he18 hL hj;go_region_law (first
          | (go_simp;go_at_call 105;(with_reducible refine(HG2.o _ g o c hc1 HS5.o.rd).mono ?_);rintro y wx ⟨rfl,rfl⟩)
          | (go_simp;go_at_call 61;(with_reducible refine HJ.o.mono ?_);rintro y w13 ⟨A13,c13,rfl,hs⟩;have HS13:=ah hs;have z5:w13.cell? ⟨q,5,none⟩=some (.slice C ks.length cc):=HS13.o.av.cell 5;have z6: ∀ o,(w13.alloc o).cell? ⟨q,5,none⟩=some (.slice C ks.length cc):=(fun o=>(HS13.o.aC o).av.cell 5);clear hs)
          | (refine aQ rfl (.tmp 71) (.tmp 81) 87 rfl 41 i0 _ 1 24 Tryz.underlying87 hi0.o hz0.o hz1.o hz2.o rfl (by decide) (.slice C ks.length cc) ks.length (ks.map aE) rfl w0 _ (by exact(HS13.o.aC _).bD) (some ⟨w13.heap.size,0,none⟩) 1 1 [aE (A13,c13,L)] rfl (aL _ _ _) rfl (ju _) (by unfold maxLen;omega) (by omega) ?_;intro A8 c8 w8 hs;have HS8:=ah hs.bD;have c1:w8.cell? ⟨q,5,none⟩=some (.slice C ks.length cc):=hs.bD.cell 5;have f1:=hs.bD.frozen 5;clear hs))
         all_goals
          have h5:=HS8.o.set 5 (.slice A8 (ks.length+1) c8);clear c1 f1;revert h5;generalize World.setCell _ _ _=w9;intro h5;have HS9:Hid (Sat w0 (Pt q 163 (pO f (.slice A8 (ks.length+1) c8))*(Row 41 1 (.slice A8 (ks.length+1) c8) (ks.length+1) (ks.map aE++[aE (A13,c13,L)])*(ca [(A13,c13,L)]*(ca ks*(ae d D*F))))) w9):=h5;clear h5;have HF2:Hid (Sat w0 (IW q d f D (.slice A8 (ks++[(A13,c13,L)]).length c8) (ks++[(A13,c13,L)])*F) w9):=HS9.o.of (by rw[nq, <-iM,List.map_append,List.length_append];show _=_*(Row _ 1 (.slice A8 (ks.length+1) c8) (ks.length+1) (ks.map aE++[aE (A13,c13,L)])*_);ac_rfl);have HT:Hid (bT (ks++[(A13,c13,L)])=frs++[iu b]):=by unfold Hid;rw[bT,List.map_append, <-HL0.o, <-HKs.o];rfl
          have HN2:Hid ((ks++[(A13,c13,L)]).length=ks.length+1):=by unfold Hid;rw[List.length_append];rfl
          go_wp2_with fail;go_roundw
          .refine⟨k+1,⟨false,z3,z3,frs++[iu b]⟩,A8,c8,ks++[(A13,c13,L)],hm,rfl,rfl,rfl,by push_cast;rfl,HF.o.symm,HT.o,HF2.o⟩
          .simp[intOf];omega
      .have HM:Hid (max aD z3=aD):=by unfold Hid;exact Nat.max_eq_left (by omega)
       cases over with
       | true=>
        have HF:Hid (bp D z1 f.first (k+1)=⟨true,last,aD,frs⟩):=by unfold Hid;rw[HS4.o,if_pos (.inl rfl),HM.o]
        go_wp2_with fail;go_roundw
        .refine⟨k+1,⟨true,last,aD,frs⟩,C,cc,ks,hm,rfl,rfl,rfl,by push_cast;rfl,HF.o.symm,HKs.o,HS3.o.right⟩
        .simp[intOf];omega
       | false=>
        by_cases hz:(z3:Int)<last
        ·
         have HF:Hid (bp D z1 f.first (k+1)=⟨true,last,aD,frs⟩):=by unfold Hid;rw[HS4.o,if_pos (.inr (by omega)),HM.o]
         go_wp2_with fail;go_roundw
         .refine⟨k+1,⟨true,last,aD,frs⟩,C,cc,ks,hm,rfl,rfl,rfl,by push_cast;rfl,HF.o.symm,HKs.o,HS3.o.right⟩
         .simp[intOf];omega
        ·
         have HF:Hid (bp D z1 f.first (k+1)=⟨false,z3,aD,frs++[iu b]⟩):=by unfold Hid;rw[HS4.o,if_neg (by rintro (h9 | h9);cases h9;omega),HM.o]
         go_upto_region 16 with fail;have hs5:=HS3.o.drew;have y5:w2.drew.drew.cell? ⟨q,5,none⟩=some (.slice C ks.length cc):=(hs5.right.of nq).cell 5;have y6: ∀ o,(w2.alloc o).cell? ⟨q,5,none⟩=some (.slice C ks.length cc):=fun o=>((HS2.o.aC o).right.of nq).cell 5
         have HS5:=ah hs5;obtain⟨e18,he18⟩: ∃ e,e=18+z2:=⟨_,rfl⟩;have v2:IntKind.i64.wrap (z2:Int)=z2:=by rw[IntKind.wrap_i64];omega
         have v3:(18:Int)+(z2:Int)=(e18:Int):=by omega
         have v4:IntKind.i64.wrap (e18:Int)=e18:=by rw[IntKind.wrap_i64];omega
         have m7:(e18:Int)<=c:=by omega
         have m8:(18:Int)<=e18:=by omega
         have HZ:Hid (e18 - 18=z2):=by unfold Hid;omega
         obtain⟨L,hL⟩: ∃ L,L=iu b:=⟨_,rfl⟩;have HLl:Hid (L.length=e18 - 18):=by unfold Hid;rw[hL,HBd.o,List.length_take,List.length_drop];have:=hlB.o;omega
         have HLb:Hid (L=(b.drop 18).take z2):=by unfold Hid;rw[hL,HBd.o]
         have HL0:=ah hL;have HLs:Hid (L.length<=512):=by unfold Hid;rw[HLl.o];omega
         have hj:=(HS2.o.af 41 #[.slice (some ⟨g,o+18,none⟩) (e18 - 18) (c - 18)]).drew.drew;have HJ:Hid (Calls Tryz.prog 61 #[.slice (some ⟨w2.heap.size,0,none⟩) 1 1] (w2.alloc (.cells #[.slice (some ⟨g,o+18,none⟩) (e18 - 18) (c - 18)] 41)).drew.drew fun e w'=> ∃ A13 c13,e = .returned (.slice A13 L.length c13)/\Sat w0 (ca [(A13,c13,L)]*(Pt q 163 (pO f (.slice C ks.length cc))*(Row 41 1 (.slice C ks.length cc) ks.length (ks.map aE)*(ca ks*(ae d D*F))))) w'):=by
          refine(xh (some ⟨w2.heap.size,0,none⟩) 1 1 [(some ⟨g,o+18,none⟩,c - 18,L)] rfl w0 _ _ hj ⟨aH.jC hj.at (fun j hj=>?_),fun k hk=>?_⟩ L (by simp[bT]) (by have:=HLs.o;omega) (by omega)).mono ?_
          .simp at hj;subst hj;show _=some (aE (some ⟨g,o+18,none⟩,c - 18,L));unfold aE;rw[HLl.o];rfl
          .simp at hk;subst hk;rw[HLb.o];exact(HQ.o _ g o c 18 (by omega) (by omega) hc1 hj.right.rd).take z2
          .rintro y w13 ⟨A13,c13,rfl,hs⟩;exact⟨A13,c13,rfl,(hs.eI.av.right.av.right).of (by rw[<-nq])⟩
         clear hs5 he18 hL hj;go_region_law (first
          | (go_simp;go_at_call 105;(with_reducible refine(HG2.o _ g o c hc1 HS5.o.rd).mono ?_);rintro y wx ⟨rfl,rfl⟩)
          | (go_simp;go_at_call 61;(with_reducible refine HJ.o.mono ?_);rintro y w13 ⟨A13,c13,rfl,hs⟩;have HS13:=ah hs;have z5:w13.cell? ⟨q,5,none⟩=some (.slice C ks.length cc):=HS13.o.av.cell 5;have z6: ∀ o,(w13.alloc o).cell? ⟨q,5,none⟩=some (.slice C ks.length cc):=(fun o=>(HS13.o.aC o).av.cell 5);clear hs)
          | (refine aQ rfl (.tmp 71) (.tmp 81) 87 rfl 41 i0 _ 1 24 Tryz.underlying87 hi0.o hz0.o hz1.o hz2.o rfl (by decide) (.slice C ks.length cc) ks.length (ks.map aE) rfl w0 _ (by exact(HS13.o.aC _).bD) (some ⟨w13.heap.size,0,none⟩) 1 1 [aE (A13,c13,L)] rfl (aL _ _ _) rfl (ju _) (by unfold maxLen;omega) (by omega) ?_;intro A8 c8 w8 hs;have HS8:=ah hs.bD;have c1:w8.cell? ⟨q,5,none⟩=some (.slice C ks.length cc):=hs.bD.cell 5;have f1:=hs.bD.frozen 5;clear hs))
         all_goals
          have h5:=HS8.o.set 5 (.slice A8 (ks.length+1) c8);clear c1 f1;revert h5;generalize World.setCell _ _ _=w9;intro h5;have HS9:Hid (Sat w0 (Pt q 163 (pO f (.slice A8 (ks.length+1) c8))*(Row 41 1 (.slice A8 (ks.length+1) c8) (ks.length+1) (ks.map aE++[aE (A13,c13,L)])*(ca [(A13,c13,L)]*(ca ks*(ae d D*F))))) w9):=h5;clear h5;have HF2:Hid (Sat w0 (IW q d f D (.slice A8 (ks++[(A13,c13,L)]).length c8) (ks++[(A13,c13,L)])*F) w9):=HS9.o.of (by rw[nq, <-iM,List.map_append,List.length_append];show _=_*(Row _ 1 (.slice A8 (ks.length+1) c8) (ks.length+1) (ks.map aE++[aE (A13,c13,L)])*_);ac_rfl);have HT:Hid (bT (ks++[(A13,c13,L)])=frs++[iu b]):=by unfold Hid;rw[bT,List.map_append, <-HL0.o, <-HKs.o];rfl
          have HN2:Hid ((ks++[(A13,c13,L)]).length=ks.length+1):=by unfold Hid;rw[List.length_append];rfl
          go_wp2_with fail;go_roundw
          .refine⟨k+1,⟨false,z3,aD,frs++[iu b]⟩,A8,c8,ks++[(A13,c13,L)],hm,rfl,rfl,rfl,by push_cast;rfl,HF.o.symm,HT.o,HF2.o⟩
          .simp[intOf];omega
     .have HF:Hid (bp D z1 f.first (k+1)=⟨true,last,aD,frs⟩):=by
       unfold Hid;rw[HSt.o];unfold eK;rw[if_neg (by simp),if_pos];show fy z1 b=false;rw[HGd.o];exact decide_eq_false (fun h9=>h2 h9.2)
      have h2':(480:Int)<z2:=by omega
      refine wp_region_held_drew (S:=fun w'=>w'.cell? ⟨q,3,none⟩=some (.int .u64 (z1:Int))) (by kernel_rfl) y3 ?_;intro hS0;refine an 0 1 2 3 ?_;refine an 4 6 7 8 ?_;refine cH 9 ?_;refine bR 5 fun K hK=>?_
      go_simp;go_at_call 105;(with_reducible refine(HG1.o _ g o c HR2.o).mono ?_);rintro y wx ⟨rfl,rfl⟩
      refine hK.out _ _ y3 (fun hS0=>?_);clear hK K;refine an 10 11 12 13 ?_;refine cH 14 ?_;refine bR 15 fun K hK=>?_
      go_simp;go_at_call 105;(with_reducible refine(HG2.o _ g o c hc1 HR2.o).mono ?_);rintro y wx ⟨rfl,rfl⟩
      refine hK.out _ _ y3 (fun hS0=>?_);clear hK K;refine cm 16 17 ?_;refine wpAnyH_done (by kernel_rfl) ?_ _;go_wp2_with fail;go_roundw
      .refine⟨k+1,⟨true,last,aD,frs⟩,C,cc,ks,hm,rfl,rfl,rfl,by push_cast;rfl,HF.o.symm,HKs.o,HS3.o.right⟩
      .simp[intOf];omega
    .have HF:Hid (bp D birth f.first (k+1)=⟨true,last,aD,frs⟩):=by
      unfold Hid;rw[HSt.o];unfold eK;rw[if_neg (by simp),if_pos];show fy birth b=false;rw[HGd.o];exact decide_eq_false (fun h9=>h1 h9.1)
     have hne:((z1:Int) !=(birth:Int))=true:=by simp;omega
     refine wp_region_held_drew (S:=fun w'=>w'.cell? ⟨q,3,none⟩=some (.int .u64 (birth:Int))) (by kernel_rfl) y3 ?_;intro hS0;refine an 0 1 2 3 ?_;refine an 4 6 7 8 ?_;refine cH 9 ?_;refine bR 5 fun K hK=>?_
     go_simp;go_at_call 105;(with_reducible refine(HG1.o _ g o c HR2.o).mono ?_);rintro y wx ⟨rfl,rfl⟩
     refine hK.out _ _ y3 (fun hS0=>?_);clear hK K;refine cm 10 11 ?_;refine cH 12 ?_;refine cD 13 ?_;refine cD 14 ?_;refine cD 15 ?_;refine cD 16 ?_;refine cH 17 ?_;refine wpAnyH_done (by kernel_rfl) ?_ _;go_wp2_with fail;go_roundw
     .refine⟨k+1,⟨true,last,aD,frs⟩,C,cc,ks,hm,rfl,rfl,rfl,by push_cast;rfl,HF.o.symm,HKs.o,HS3.o.right⟩
     .simp[intOf];omega
   .obtain rfl:e=24:=h9;have HF:Hid (bp D birth f.first (k+1)=⟨true,last,aD,frs⟩):=by unfold Hid;rw[HSt.o];unfold eK;rw[if_pos (by simp)]
    have HRd2:Hid (Calls Tryz.prog 128 #[.pointer (some ⟨d,0,none⟩),.int .i64 (J:Int)] wr fun e w'=> ∃ v,e = .returned (.tuple #[v,.int .i64 24])/\Sat w0 (IW q d f D (.slice C ks.length cc) ks*F) w'):=HRd.o.mono fun e w' ⟨v,he,hs⟩=>⟨v,he,hs.right.of (by unfold IW;ac_rfl)⟩
    clear HL HRd HSt;go_upto_region 9 with (go_at_call 128;(with_reducible refine HRd2.o.mono ?_);rintro e w2 ⟨v,rfl,hs⟩;have HS2:=ah hs;clear hs)
    refine wp_region_held_drew (S:=fun _=>True) (by kernel_rfl) trivial ?_;intro hS0;refine cm 0 1 ?_;refine cH 2 ?_;refine cD 3 ?_;refine cD 4 ?_;refine cD 5 ?_;refine cD 6 ?_;refine cD 7 ?_;refine cD 8 ?_;refine cD 9 ?_;refine cD 10 ?_;refine cm 11 12 ?_;refine cD 13 ?_;refine cD 14 ?_;refine cD 15 ?_;refine cD 16 ?_;refine cH 17 ?_;refine wpAnyH_done (by kernel_rfl) ?_ _;go_wp2_with fail;go_roundw
    .refine⟨k+1,⟨true,last,aD,frs⟩,C,cc,ks,hm,rfl,rfl,rfl,by push_cast;rfl,HF.o.symm,HKs.o,HS2.o.drew⟩
    .simp[intOf];omega
  .have HK:Hid (k=f.blocks):=by unfold Hid;omega
   have hk2:¬ (k:Int)<f.blocks:=by omega
   have HF:Hid (Fl.load D f={ f with life:=(aD+1) % 18446744073709551616,aa:=frs }):=HLd.o ⟨over,last,aD,frs⟩ (by rw[<-HK.o];exact HD.o.1.symm);obtain⟨ml,hml⟩: ∃ m,m=(aD+1) % 18446744073709551616:=⟨_,rfl⟩;rw[<-hml] at HF;have hw:IntKind.u64.wrap ((aD:Int)+1)=ml:=by rw[IntKind.wrap_u64,hml];omega
   have HS7:=ah (HD.o.2.2.of nq);have c4:=HS7.o.cell 4;have f4:=HS7.o.frozen 4;clear hml;go_upto_region 19 with fail;have h5:=HS7.o.set 4 (.int .u64 (ml:Int));clear c4 f4;revert h5;generalize World.setCell _ _ _=w9;intro h5;have HS9:Hid (Sat w0 (Pt q 163 (pO { f with life:=ml,aa:=frs } (.slice C ks.length cc))*(Row 41 1 (.slice C ks.length cc) ks.length (ks.map aE)*(ca ks*(ae d D*F)))) w9):=h5;clear h5;go_wp2_with fail;go_ret;refine⟨rfl,?_⟩;rw[HF.o];exact Sat.Kw HKs.o HS9.o
end
section
variable {w0 w:World} {F:SP} {d s slot turn:Nat} {D:Dk} {v:Value} {ps:List (Nat × Fl)}
def tJ (D:Dk) (x:Nat × Fl):Nat × Fl:=(x.1,Fl.load D x.2)
def iz (D:Dk) (ps:List (Nat × Fl)) (k:Nat):List (Nat × Fl):=(ps.take k).map (tJ D)++ps.drop k
theorem uQ (k:Nat) (h:k<=ps.length):(iz D ps k).length=ps.length:=by
 unfold iz;rw[List.length_append,List.length_map,List.length_take,List.length_drop];omega
theorem Iy {k:Nat} (h:k<ps.length) (h2:k<(iz D ps k).length):(iz D ps k)[k]'h2=ps[k]:=by
 have hl:((ps.take k).map (tJ D)).length=k:=by rw[List.length_map,List.length_take];omega
 have h3:(iz D ps k)[k]?=some ps[k]:=by
  unfold iz;rw[List.getElem?_append_right (by rw[hl];exact Nat.le_refl _),hl,Nat.sub_self,List.getElem?_drop,Nat.add_zero,List.getElem?_eq_getElem h]
 rw[List.getElem?_eq_getElem h2] at h3;exact Option.some.inj h3
theorem Dl {k:Nat} (h:k<ps.length):(iz D ps k).set k (tJ D ps[k])=iz D ps (k+1):=by
 have hl:((ps.take k).map (tJ D)).length=k:=by rw[List.length_map,List.length_take];omega
 unfold iz;rw[List.set_append_right _ _ (by rw[hl];exact Nat.le_refl _),hl,Nat.sub_self,List.take_succ_eq_append_getElem h,List.map_append,List.append_assoc,List.drop_eq_getElem_cons h];rfl
theorem EE {k:Nat} (h:k=ps.length):(iz D ps k).map (·.2)=(ps.map (·.2)).map (Fl.load D):=by
 subst h;unfold iz;rw[List.take_length,List.drop_length,List.append_nil,List.map_map,List.map_map];rfl
def LZ (w0:World) (F:SP) (d:Nat) (D:Dk) (e:Ending) (w':World):Prop:=
 ∃ p,e = .returned (.tuple #[pW p,.int .i64 (cP D).2])/\Sat w0 (wa d p (cP D).1*(ae d D*F)) w'
theorem Ag (h:(cL D).2=0) (h2:(cL D).1=none):cP D=(none,30):=by
 unfold cP;rw[h,if_neg (by simp),h2]
theorem Au {S:aN} (h:(cL D).2=0) (h2:(cL D).1=some S):cP D=(some { S with files:=S.files.map (Fl.load D) },0):=by
 unfold cP;rw[h,if_neg (by simp),h2]
theorem FV (h:Sat w0 (ae d D*F) w) (h2:2<=D.cells.length) (hN:D.cells.length<=65536):
 Calls Tryz.prog 53 #[.pointer (some ⟨d,0,none⟩)] w (LZ w0 F d D):=by
 have HRd:=ah (uM h h2 hN);have HN:=ah hN;unfold MU at HRd;clear h h2 hN;rcases pH D with hc | hc
 .rw[hc] at HRd;have HNo:Hid ((cL D).1=none->cP D=(none,30)):=Ag hc;have HYes:Hid (∀ S,(cL D).1=some S->cP D=(some { S with files:=S.files.map (Fl.load D) },0)):=fun S=>Au hc
  have HOk:Hid (∀ S,(cL D).1=some S->zj D.cells.length S):=fun S h=>yV h
  have HOff:Hid (D.off=false):=by
   unfold Hid
   cases ho:D.off with
   | false=>rfl
   | true=>unfold cL at hc;rw[if_pos ho] at hc;cases hc
  clear hc;obtain⟨o,ho⟩: ∃ o,o=(cL D).1:=⟨_,rfl⟩;rw[<-ho] at HRd HNo HYes HOk;clear ho
  cases o with
  | none=>
   have HX:Hid (cP D=(none,30)):=HNo.o rfl;go_enter Tryz.func53, Tryz.ntmps53;go_wp2_with (go_at_call 90;(with_reducible refine HRd.o.mono ?_);rintro e w2 ⟨p,rfl,hs⟩;obtain rfl:=lK hs;unfold pW;have HS2:=ah hs;clear hs);go_ret2;exact⟨none,by rw[HX.o];rfl,by rw[HX.o];exact HS2.o⟩
  | some S=>
   have HX:Hid (cP D=(some { S with files:=S.files.map (Fl.load D) },0)):=HYes.o S rfl;have hok:=HOk.o S rfl;have HOk2:=ah hok;have hcount:=hok.count;clear HNo HYes HOk hok;go_enter Tryz.func53, Tryz.ntmps53;go_upto_region 2 with (go_at_call 90;(with_reducible refine HRd.o.mono ?_);rintro e w2 ⟨p,rfl,hs⟩;obtain⟨s,rfl⟩:=nw hs;unfold pW;obtain⟨v,ps,hps,hs2⟩:=hs.space;have HS2:=ah hs2;have HPs:=ah hps;clear hs hs2 hps)
   have hpl:ps.length<=24:=by have:=congrArg List.length HPs.o;rw[List.length_map] at this;omega
   obtain⟨A,c,rfl,h1,h2,h3,h4,h5,h6,h7⟩:=HS2.o.mW;clear h3 h4 h5 h6;go_upto_region 7 with fail;go_loopw [26] (fun iv wr=> ∃ k:Nat,k<=ps.length/\iv = .int .i64 (k:Int)/\Hid (Sat w0 (aU s d S.slot S.turn (.slice A ps.length c) (iz D ps k)*(ae d D*F)) wr)) (fun iv _=>ps.length - (intOf iv).toNat)
   case atStart=>exact⟨0,by omega,rfl,by have h9:iz D ps 0=ps:=(by simp[iz]);rw[h9];first | exact HS2.o | exact HS2.o.drew⟩
   case round=>
    obtain⟨k,hk,rfl,HD⟩:=hrel;by_cases hlt:k<ps.length
    .have hkl:k<(iz D ps k).length:=by rw[uQ k hk];exact hlt
     have hat:=Iy (D:=D) hlt hkl;have hk2:(k:Int)<ps.length:=by omega
     have hm:k+1<=ps.length:=hlt;obtain⟨A2,c2,e9,_,_,hR2,_⟩:=HD.o.mW;rw[uQ k hk] at e9;injection e9 with e9 _ e8
     subst e9;subst e8;obtain⟨b,o,rfl,hcl⟩:=lZ hR2 hkl;rw[hat] at hcl;have hmem:ps[k].2 ∈ S.files:=by rw[<-HPs.o];exact List.mem_map_of_mem (List.getElem_mem hlt)
     obtain⟨ok1,ok2⟩:=HOk2.o.bare _ hmem;obtain⟨ok3,ok4,ok5,ok6⟩:=HOk2.o.each _ hmem;have hsp:=HD.o.of (fY hkl);rw[hat] at hsp;have HL:=ah (F2 (q:=ps[k].1) (f:=ps[k].2) (d:=d) (D:=D) (w0:=w0) (w:=wr) (hsp.gw.av) ok1 HOff.o ok6 HN.o ok3.2.2.2);have HSet:=ah (uJ (s:=s) (d:=d) (slot:=S.slot) (turn:=S.turn) (v:= .slice (some ⟨b,o,none⟩) ps.length c) (F:=ae d D*F) hkl (tJ D ps[k]) (by rw[hat];rfl));rw[Dl hlt] at HSet;dsimp only[tJ] at HSet;clear ok1 ok2 ok3 ok4 ok5 ok6 hmem hsp hR2 hat;generalize ps[k].1=q at*
     generalize ps[k].2=f at*
     go_wp2_with (go_at_call 92;(with_reducible refine HL.o.mono ?_);rintro e w3 ⟨rfl,hs⟩;have HS3:=ah hs;clear hs);go_roundw
     .refine⟨k+1,hm,by push_cast;rfl,?_⟩;have h9:=HSet.o;exact HS3.o.of (by rw[h9];ac_rfl)
     .simp[intOf];omega
    .have HK:Hid (k=ps.length):=by unfold Hid;omega
     have hk2:¬ (k:Int)<ps.length:=by omega
     go_wp2_with fail;go_ret2;refine⟨some s,by rw[HX.o];rfl,?_⟩;rw[HX.o];exact Sat.eM (S:={ S with files:=S.files.map (Fl.load D) }) (by rw[EE HK.o,HPs.o]) HD.o
 .have HX:Hid (cP D=(none,21)):=by unfold Hid cP;rw[if_pos hc]
  rw[hc,tW hc] at HRd;clear hc;go_enter Tryz.func53, Tryz.ntmps53;go_wp2_with (go_at_call 90;(with_reducible refine HRd.o.mono ?_);rintro e w2 ⟨p,rfl,hs⟩;obtain rfl:=lK hs;unfold pW;have HS2:=ah hs;clear hs);go_ret2;exact⟨none,by rw[HX.o];rfl,by rw[HX.o];exact HS2.o⟩
end
theorem CM {w:World} {A:Option Addr} {l:List Int} (h:aH w A (l.map (Value.int .i64))) {k:Nat} (hk:k<l.length): ∃ b o,A=some ⟨b,o,none⟩/\w.cell? ⟨b,o+k,none⟩=some (.int .i64 l[k]):=by
 obtain⟨b,o,e,hc⟩:=h (by intro e;have:=congrArg List.length e;simp at this;rw[this] at hk;simp at hk);refine⟨b,o,e,?_⟩;have:=hc k (by simpa using hk);rw[this];simp
def Nq (l:List Int) (x z:Int):Prop:=(l.contains x=true/\0<=z)\/(l.contains x=false/\z<0)
theorem Ec (A:Option Addr) (n c:Nat) (l:List Int) (x:Int) (w:World) (hr:aH w A (l.map (Value.int .i64))) (hn:l.length=n) (hl:n<=1000000000):
 Calls Tryz.prog 134 #[.slice A n c,.int .i64 x] w fun e w'=>(∃ z:Int,e = .returned (.int .i64 z)/\Nq l x z)/\w=w':=by
 subst hn;have HR:=ah hr;clear hr;go_enter Tryz.func134, Tryz.ntmps134;go_wp2_with fail;go_loopw [8] (fun iv wr=> ∃ k:Nat,k<=l.length/\iv = .int .i64 (k:Int)/\wr=w/\Hid (∀ j (hj:j<k) (hl:j<l.length),x≠l[j])) (fun iv _=>l.length - (intOf iv).toNat)
 case atStart=>exact⟨0,by omega,rfl,rfl,fun j hj=>by omega⟩
 case round=>
  obtain⟨k,hk,rfl,rfl,HD⟩:=hrel;by_cases hlt:k<l.length
  .obtain⟨b,o,rfl,hc⟩:=CM HR.o hlt;have hk2:(k:Int)<l.length:=by omega
   have HM:Hid (l[k] ∈ l):=List.getElem_mem hlt;have HS:Hid (x≠l[k]-> ∀ j (hj:j<k+1) (hl:j<l.length),x≠l[j]):=fun hne j hj hl=>by
    by_cases e:j=k
    .subst e;exact hne
    .exact HD.o j (by omega) hl
   have hkn:k+1<=l.length:=hlt;generalize l[k]=y at*
   by_cases e:x=y
   .go_wp2_with fail;go_ret;exact⟨⟨(k:Int),rfl,.inl ⟨by rw[List.contains_iff_mem,e];exact HM.o,by omega⟩⟩,rfl⟩
   .have HS2:=ah (HS.o e);go_wp2_with fail;go_roundw
    .exact⟨k+1,hkn,by push_cast;rfl,trivial,HS2.o⟩
    .simp[intOf];omega
  .have hk2:¬ (k:Int)<l.length:=by omega
   have HN:Hid (l.contains x=false):=by
    unfold Hid;rw[List.contains_eq_mem,decide_eq_false_iff_not];intro hm;obtain⟨j,hj,e⟩:=List.getElem_of_mem hm;exact HD.o j (by omega) hj e.symm
   go_wp2_with fail;go_ret;exact⟨⟨-1,rfl,.inr ⟨HN.o,by omega⟩⟩,rfl⟩
theorem jL (A:Option Addr) (n c:Nat) (l:List Int) (x:Int) (w:World) (hr:aH w A (l.map (Value.int .i64))) (hn:l.length=n) (hl:n<=1000000000):
 Calls Tryz.prog 97 #[.slice A n c,.int .i64 x] w fun e w'=>e = .returned (.bool (l.contains x))/\w=w':=by
 have HI:=ah (Ec A n c l x w hr hn hl);clear hr hn hl;go_enter Tryz.func97, Tryz.ntmps97;go_wp2_with (go_at_call 134;(with_reducible refine HI.o.mono ?_);rintro e wx ⟨⟨z,rfl,hz⟩,rfl⟩);go_ret;rcases hz with ⟨h1,h2⟩ | ⟨h1,h2⟩
 .rw[h1];exact⟨congrArg (fun b=>Ending.returned (.bool b)) (decide_eq_true h2),rfl⟩
 .rw[h1];exact⟨congrArg (fun b=>Ending.returned (.bool b)) (decide_eq_false (by omega)),rfl⟩
def E9 (f:Fi):List Value:=[.int .i64 f.num,.int .i64 f.first,.int .i64 f.blocks]
section
variable {w0 w:World} {F:SP} {s d slot turn:Nat} {v:Value} {ps:List (Nat × Fl)} {S:aN}
theorem zc {ps:List (Nat × Fl)} {n:Int} (h:ps.map (·.2)=S.files):(np ps[fq ps n]? = .pointer none/\(S.find n).isSome=false)\/ ∃ q,np ps[fq ps n]? = .pointer (some ⟨q,0,none⟩)/\(S.find n).isSome=true:=by
 rw[oX h]
 cases ps[fq ps n]? with
 | none=>exact .inl ⟨rfl,rfl⟩
 | some x=>exact .inr ⟨x.1,rfl,rfl⟩
theorem GY {w:World} {A:Option Addr} {l:List Fi} (h:aH w A (l.flatMap E9)) {k:Nat} (hk:k<l.length): ∃ b o,A=some ⟨b,o,none⟩/\w.cell? ⟨b,o+k*3,none⟩=some (.int .i64 l[k].num)/\w.cell? ⟨b,o+k*3+1,none⟩=some (.int .i64 l[k].first)/\w.cell? ⟨b,o+k*3+2,none⟩=some (.int .i64 l[k].blocks):=by
 have hlen: ∀ l:List Fi,(l.flatMap E9).length=l.length*3:=fun l=>by
  induction l with
  | nil=>rfl
  | cons x l ih=>rw[List.flatMap_cons,List.length_append,ih,List.length_cons];show 3+_=_;omega
 have hget: ∀ (l:List Fi) (k j:Nat) (hk:k<l.length) (hj:j<3),(l.flatMap E9)[k*3+j]?=(E9 l[k])[j]?:=fun l=>by
  induction l with
  | nil=>intro k j hk;cases hk
  | cons x l ih=>
   intro k j hk hj
   cases k with
   | zero=>
    rw[List.flatMap_cons,List.getElem?_append_left (by show 0*3+j<3;omega)];simp
   | succ k=>
    rw[List.flatMap_cons,List.getElem?_append_right (by show 3<=_;omega)];show (l.flatMap E9)[(k+1)*3+j - 3]?=_;rw[show (k+1)*3+j - 3=k*3+j by omega];exact ih k j (by simpa using hk) hj
 have hl:=hlen l;obtain⟨b,o,e,hc⟩:=h (by intro e;have h9:l.length*3=0:=(by rw[<-hl,e];rfl);omega);have key: ∀ j,j<3->w.cell? ⟨b,o+k*3+j,none⟩=(E9 l[k])[j]?:=fun j hj=>by
  have hij:k*3+j<(l.flatMap E9).length:=by rw[hl];omega
  have:=hc (k*3+j) hij;rw[Nat.add_assoc,this, <-List.getElem?_eq_getElem hij,hget l k j hk hj]
 exact⟨b,o,e,key 0 (by omega),key 1 (by omega),key 2 (by omega)⟩
def uF (l:List Int):Int->Option Value:=fun i=>if i ∈ l then some (.agg #[]) else none
theorem Aq (l:List Int) (x:Int):IA (uF l) x (.agg #[])=uF (l++[x]):=by
 funext i
 unfold IA uF;by_cases e:i=x
 .subst e;simp
 .rw[if_neg e];simp[e]
theorem JF (w:World):(zeroValue 212).run Tryz.prog w = .ok (.agg #[]) w:=by kernel_rfl
theorem JX (A1:Option Addr) (c1:Nat) (add:List Fi) (A2:Option Addr) (c2:Nat) (drop:List Int) (h:Sat w0 (aU s d slot turn v ps*F) w) (hps:ps.map (·.2)=S.files) (hpl:ps.length<=1000) (hadd: ∀ W,Sat w0 F W->aH W A1 (add.flatMap E9)) (hdrop: ∀ W,Sat w0 F W->aH W A2 (drop.map (Value.int .i64)))
 (hn1:add.length<=1000000) (hn2:drop.length<=1000000) (hc2:drop.length<=c2) (hb: ∀ f ∈ add,(-9223372036854775808<=f.num/\f.num<=9223372036854775807)/\(-9223372036854775808<=f.blocks/\f.blocks<=9223372036854775807)) (hbd: ∀ n ∈ drop, -9223372036854775808<=n/\n<=9223372036854775807):
 Calls Tryz.prog 94 #[.pointer (some ⟨s,0,none⟩),.slice A1 add.length c1,.slice A2 drop.length c2] w fun e w'=>e = .returned (.bool (S.may add drop))/\Sat w0 (aU s d slot turn v ps*F) w':=by
 have HS:=ah h;have HP:=ah hps;have HF1:Hid (∀ W,Sat w0 (aU s d slot turn v ps*F) W->aH W A1 (add.flatMap E9)):=fun W hW=>hadd W hW.right
 have HF2:Hid (∀ W,Sat w0 (aU s d slot turn v ps*F) W->aH W A2 (drop.map (Value.int .i64))):=fun W hW=>hdrop W hW.right
 have HB:=ah hb;have HM:Hid (S.may add drop=(S.dS [] drop && S.eX drop [] add)):=rfl;have HFi:Hid (∀ W n,Sat w0 (aU s d slot turn v ps*F) W->Calls Tryz.prog 103 #[.pointer (some ⟨s,0,none⟩),.int .i64 n] W fun e w'=>e = .returned (np ps[fq ps n]?)/\W=w'):=fun W n hW=>eD n hW (by omega)
 have HCo:Hid (∀ W n,Sat w0 (aU s d slot turn v ps*F) W->Calls Tryz.prog 97 #[.slice A2 drop.length c2,.int .i64 n] W fun e w'=>e = .returned (.bool (drop.contains n))/\W=w'):=fun W n hW=>jL A2 drop.length c2 drop n W (hdrop W hW.right) rfl (by omega)
 have HCk:Hid (∀ W n k,k<=drop.length->Sat w0 (aU s d slot turn v ps*F) W->Calls Tryz.prog 97 #[.slice A2 k c2,.int .i64 n] W fun e w'=>e = .returned (.bool ((drop.take k).contains n))/\W=w'):=fun W n k hk hW=>jL A2 k c2 (drop.take k) n W (by
  intro hne;obtain⟨b,o,e,hc⟩:=hdrop W hW.right (by intro e;rw[List.map_eq_nil_iff] at e;rw[e] at hne;simp at hne);refine⟨b,o,e,fun j hj=>?_⟩;rw[List.length_map,List.length_take] at hj;have:=hc j (by rw[List.length_map];omega);rw[this];simp) (by rw[List.length_take];omega) (by omega)
 have hmm:= @run_makeMap Tryz.prog;clear h hps hadd hdrop hb hbd hpl;go_enter Tryz.func94, Tryz.ntmps94;go_wp2_with fail;go_loopw [16] (fun iv wr=> ∃ k:Nat,k<=drop.length/\iv = .int .i64 (k:Int)/\wr=w/\Hid (S.dS [] drop=S.dS (drop.take k) (drop.drop k))) (fun iv _=>drop.length - (intOf iv).toNat)
 case atStart=>exact⟨0,by omega,rfl,rfl,by unfold Hid;rw[List.take_zero,List.drop_zero]⟩
 case round=>
  obtain⟨k,hk,rfl,rfl,HD⟩:=hrel;by_cases hlt:k<drop.length
  .have hk2:(k:Int)<drop.length:=by omega
   obtain⟨b,o,rfl,hc⟩:=CM (HF2.o _ HS.o) hlt;have HN:Hid (S.dS [] drop=((S.find drop[k]).isSome && !(drop.take k).contains drop[k] && S.dS (drop.take (k+1)) (drop.drop (k+1)))):=by
    unfold Hid;rw[HD.o,List.drop_eq_getElem_cons hlt,List.take_succ_eq_append_getElem hlt];rfl
   have HX:=zc (S:=S) (n:=drop[k]) HP.o;have hkc:(k:Int)<=c2:=by omega
   have HCa:=ah (HCk.o wr drop[k] k (by omega) HS.o);have HFa:=ah (HFi.o wr drop[k] HS.o);have hkn:k+1<=drop.length:=hlt;generalize hB:(drop.take k).contains drop[k]=B at*
   generalize hI:(S.find drop[k]).isSome=I at*
   clear hB hI;generalize drop[k]=x at*
   rcases HX with ⟨hx1,rfl⟩ | ⟨q,hx1,rfl⟩
   .rw[hx1] at HFa;have HR:Hid (S.may add drop=false):=by unfold Hid;rw[HM.o,HN.o];rfl
    go_wp2_with (go_at_call 103;(with_reducible refine HFa.o.mono ?_);rintro e wx ⟨rfl,rfl⟩);go_ret;exact⟨by rw[HR.o];rfl,HS.o⟩
   .rw[hx1] at HFa
    cases B
    .have HN2:Hid (S.dS [] drop=S.dS (drop.take (k+1)) (drop.drop (k+1))):=by unfold Hid;rw[HN.o];rfl
     go_wp2_with (first | (go_at_call 103;(with_reducible refine HFa.o.mono ?_);rintro e wx ⟨rfl,rfl⟩) | (go_at_call 97;(with_reducible refine HCa.o.mono ?_);rintro e wx ⟨rfl,rfl⟩));go_roundw
     .exact⟨k+1,hkn,by push_cast;rfl,trivial,HN2.o⟩
     .simp[intOf];omega
    .have HR:Hid (S.may add drop=false):=by unfold Hid;rw[HM.o,HN.o];rfl
     go_wp2_with (first | (go_at_call 103;(with_reducible refine HFa.o.mono ?_);rintro e wx ⟨rfl,rfl⟩) | (go_at_call 97;(with_reducible refine HCa.o.mono ?_);rintro e wx ⟨rfl,rfl⟩));go_ret;exact⟨by rw[HR.o];rfl,HS.o⟩
  .have hk2:¬ (k:Int)<drop.length:=by omega
   have HM2:Hid (S.may add drop=S.eX drop [] add):=by
    unfold Hid;rw[HM.o,HD.o,List.drop_eq_nil_of_le (by omega)];rfl
   have hm0:=HS.o.vr (P:= Tryz.prog) (k:= 3);revert hm0;generalize hmb:wr.heap.size=mb;intro hm0;have HM0:=ah hm0;have HMb:=ah hmb;clear HD HM hm0 hmb hk;go_upto_region 8 with fail;rw[HMb.o];go_wp2_with fail;go_loopw [36] (fun iv wr=> ∃ (k n:Nat),k<=add.length/\n<=k/\iv = .int .i64 (k:Int)/\Hid (Sat w0 (bY Tryz.prog 3 mb n (uF ((add.take k).map (·.num)))*(aU s d slot turn v ps*F)) wr/\S.eX drop [] add=S.eX drop ((add.take k).map (·.num)) (add.drop k))) (fun iv _=>add.length - (intOf iv).toNat)
   case atStart=>exact⟨0,0,by omega,by omega,rfl,by have h9:=HM0.o;exact h9.of (by congr 1),by rw[List.take_zero,List.drop_zero];rfl⟩
   case round=>
    obtain⟨k,n,hk,hnk,rfl,HD⟩:=hrel;by_cases hlt:k<add.length
    .have hk2:(k:Int)<add.length:=by omega
     obtain⟨b,o,rfl,q0,q1,q2⟩:=GY (HF1.o _ HD.o.1.right) hlt;have hbx:=HB.o add[k] (List.getElem_mem hlt);obtain⟨sl,hsl⟩: ∃ sl,sl=(add.take k).map (·.num):=⟨_,rfl⟩;have HSn:Hid ((add.take (k+1)).map (·.num)=sl++[add[k].num]):=by
      unfold Hid;rw[List.take_succ_eq_append_getElem hlt,List.map_append,hsl];rfl
     have HN:Hid (S.eX drop [] add=(decide (1<=add[k].num/\add[k].num<=2147483647/\1<=add[k].blocks) && !sl.contains add[k].num && (!(S.find add[k].num).isSome || drop.contains add[k].num) && S.eX drop ((add.take (k+1)).map (·.num)) (add.drop (k+1)))):=by
      unfold Hid;rw[HD.o.2,HSn.o,List.drop_eq_getElem_cons hlt, <-hsl];rfl
     have hD1:=HD.o.1;rw[<-hsl] at hD1;have hkn:k+1<=add.length:=hlt;clear HD hsl;generalize hT:S.eX drop ((add.take (k+1)).map (·.num)) (add.drop (k+1))=T at*
     have HT:=ah hT;clear hT;generalize add[k]=x at*
     obtain⟨xn,xf,xb⟩:=x;dsimp only at q0 q1 q2 hbx HSn HN;have hs1:=hD1.af 128 #[.int .i64 xn,.int .i64 xf,.int .i64 xb];clear hD1;go_upto_region 11 with fail;revert hs1;generalize World.alloc wr _=w1;generalize wr.heap.size=B1;intro hs1;have HS1:=ah hs1;clear hs1 q0 q1 q2;have p0:w1.cell? ⟨B1,0,none⟩=some (.int .i64 xn):=HS1.o.cell 0;have p2:w1.cell? ⟨B1,2,none⟩=some (.int .i64 xb):=HS1.o.cell 2;by_cases h1:xn<1
     .have HR:Hid (S.may add drop=false):=by unfold Hid;rw[HM2.o,HN.o,decide_eq_false (by omega)];rfl
      go_wp2_with fail;go_ret;exact⟨by rw[HR.o];rfl,HS1.o.right.right⟩
     by_cases h2:2147483647<xn
     .have HR:Hid (S.may add drop=false):=by unfold Hid;rw[HM2.o,HN.o,decide_eq_false (by omega)];rfl
      go_wp2_with fail;go_ret;exact⟨by rw[HR.o];rfl,HS1.o.right.right⟩
     by_cases h3:xb<1
     .have HR:Hid (S.may add drop=false):=by unfold Hid;rw[HM2.o,HN.o,decide_eq_false (by omega)];rfl
      go_wp2_with fail;go_ret;exact⟨by rw[HR.o];rfl,HS1.o.right.right⟩
     have HN2:Hid (S.may add drop=(!sl.contains xn && (!(S.find xn).isSome || drop.contains xn) && T)):=by unfold Hid;rw[HM2.o,HN.o,decide_eq_true (by omega),Bool.true_and]
     clear HN;have hl:=HS1.o.av.rq (t:= 211) Tryz.underlying3 Tryz.underlying211 (JF w1) xn (by omega);have HFa:=ah fun W (hW:Sat w0 (aU s d slot turn v ps*F) W)=>HFi.o W xn hW
     have HCa:=ah fun W (hW:Sat w0 (aU s d slot turn v ps*F) W)=>HCo.o W xn hW
     have HX:=zc (S:=S) (n:=xn) HP.o;have hsn:uF sl xn=if sl.contains xn then some (.agg #[]) else none:=by unfold uF;simp
     rw[hsn] at hl;clear hsn;generalize hB:sl.contains xn=B at*
     generalize hI:(S.find xn).isSome=I at*
     generalize hC:drop.contains xn=C at*
     clear hB hI hC
     cases B
     .simp only[Bool.false_eq_true,if_false,Option.getD_none,Option.isSome_none] at hl;go_upto_region 14 with fail;have hs2:=HS1.o.aC (.cells #[] 212);revert hs2;generalize World.alloc w1 _=w2;generalize w1.heap.size=B2;intro hs2;have HS2:=ah hs2;clear hs2 hl p0 p2;have p0:w2.cell? ⟨B1,0,none⟩=some (.int .i64 xn):=HS2.o.cell 0;obtain⟨w5,hrun,hs5,_⟩:=HS2.o.av.oE (t:= 211) Tryz.underlying3 Tryz.underlying211 xn (by omega) (.agg #[]) (by unfold maxLen;omega);rw[Aq] at hs5;have HS5:=ah hs5.bF;have HFb:=ah (HFa.o w2 HS2.o.right.right);have HCb:=ah (HCa.o w2 HS2.o.right.right);clear hs5;rcases HX with ⟨hx1,rfl⟩ | ⟨q,hx1,rfl⟩
      .rw[hx1] at HFb;have HN3:Hid (S.may add drop=T):=by unfold Hid;rw[HN2.o];rfl
       go_wp2_with (first | (go_at_call 103;(with_reducible refine HFb.o.mono ?_);rintro e wx ⟨rfl,rfl⟩) | (go_at_call 97;(with_reducible refine HCb.o.mono ?_);rintro e wx ⟨rfl,rfl⟩));go_roundw
       .refine⟨k+1,n+1,hkn,by omega,by push_cast;rfl,?_,?_⟩
        .rw[HSn.o];exact HS5.o
        .rw[<-HM2.o,HN3.o,HT.o]
       .simp[intOf];omega
      .rw[hx1] at HFb
       cases C
       .have HR:Hid (S.may add drop=false):=by unfold Hid;rw[HN2.o];rfl
        go_wp2_with (first | (go_at_call 103;(with_reducible refine HFb.o.mono ?_);rintro e wx ⟨rfl,rfl⟩) | (go_at_call 97;(with_reducible refine HCb.o.mono ?_);rintro e wx ⟨rfl,rfl⟩));go_ret;exact⟨by rw[HR.o];rfl,HS2.o.right.right⟩
       .have HN3:Hid (S.may add drop=T):=by unfold Hid;rw[HN2.o];rfl
        go_wp2_with (first | (go_at_call 103;(with_reducible refine HFb.o.mono ?_);rintro e wx ⟨rfl,rfl⟩) | (go_at_call 97;(with_reducible refine HCb.o.mono ?_);rintro e wx ⟨rfl,rfl⟩));go_roundw
        .refine⟨k+1,n+1,hkn,by omega,by push_cast;rfl,?_,?_⟩
         .rw[HSn.o];exact HS5.o
         .rw[<-HM2.o,HN3.o,HT.o]
        .simp[intOf];omega
     .simp only[if_true,Option.getD_some,Option.isSome_some] at hl;have HR:Hid (S.may add drop=false):=by unfold Hid;rw[HN2.o];rfl
      go_wp2_with fail;go_ret;exact⟨by rw[HR.o];rfl,(HS1.o.aC _).right.right⟩
    .have hk2:¬ (k:Int)<add.length:=by omega
     have HT:Hid (S.may add drop=true):=by
      unfold Hid;rw[HM2.o,HD.o.2,List.drop_eq_nil_of_le (by omega)];rfl
     go_wp2_with fail;go_ret;exact⟨by rw[HT.o];rfl,HD.o.1.right⟩
end
def L9 (p q:Fl):Prop:=p.num<q.num
theorem tF: ∀ {l m:List Fl},l.Perm m->l.Pairwise L9->m.Pairwise L9->l=m
 | [],m,h,_,_=>by rw[List.nil_perm.1 h]
 | x::l,[],h,_,_=>by cases List.perm_nil.1 h
 | x::l,y::m,h,hl,hm=>by
  obtain⟨l1,l2⟩:=List.pairwise_cons.1 hl;obtain⟨m1,m2⟩:=List.pairwise_cons.1 hm;have e:x=y:=by
   rcases List.mem_cons.1 (h.mem_iff.1 (List.mem_cons_self)) with e | hx
   .exact e
   .rcases List.mem_cons.1 (h.mem_iff.2 (List.mem_cons_self)) with e | hy
    .exact e.symm
    .have a:=m1 x hx;have b:=l1 y hy;unfold L9 at a b;omega
  subst e;rw[tF ((List.perm_cons x).1 h) l2 m2]
theorem GS {D:DataW Value} {f:Int->Option Value} (hs:sS D f) {i:Int} (h:Maps.has D (.int .i64 i)=false):f i=none:=by
 cases hf:f i with
 | none=>rfl
 | some v=>
  have h2:=hs i .nil;rw[Maps.atKey_of_not_has h,hf] at h2
  cases h2
theorem IJ {D:DataW Value} {f:Int->Option Value} (hs:sS D f) {x:Int} {c:Value} (h: ∀ zd,D.atKey (.int .i64 x) zd = .held c):f x=some c:=by
 have h1:=hs x .nil;rw[h] at h1
 cases hf:f x with
 | none=>rw[hf] at h1;cases h1
 | some v=>rw[hf] at h1;injection h1 with h1;rw[h1]
theorem Sat.IC {w0 w w':World} {F:SP} {b:Nat} {o:Obj} (h:Sat w0 (Ow b o*F) w) (k:aq (One b) w w'): ∃ o',Sat w0 (Ow b o'*F) w':=
 ⟨_,h.turn k (Array.getElem?_eq_getElem (by have:=h.lt;have:=k.size;omega))⟩
def Jh (P:Program) (k:TypeId) (b r n:Nat) (D:DataW Value) (left:Lit->Bool) (cnt:Nat):SP:=fun h=> ∃ o1 o2,(Ow b o1*Ow r o2) h/\ ∃ es clock since seen c0,o1 = .map es clock/\o2 = .mapIter (some b) since seen c0/\
 Go.WideElems.Fit P k cF es clock/\es.size<=n/\D = .map ((es.toList.map (Go.WideElems.rg P k cF)).foldr DataW.insert [])/\(∀ x ∈ es.toList,x.born<since)/\(leftOf es seen).size=cnt/\
 (∀ x ∈ es.toList,left (Go.WideElems.rg P k cF x).1 = !seen.contains x.born)/\(∀ kl,left kl=true-> ∃ x ∈ es.toList,(Go.WideElems.rg P k cF x).1=kl)/\since<=c0/\since<=clock
section
variable {P:Program} {k t e:TypeId} {b r n cnt cnt':Nat} {D:DataW Value} {left left':Lit->Bool} {w0 w w':World} {F:SP}
theorem Sat.qy (h:Sat w0 (Jh P k b r n D left cnt*F) w): ∃ o1 o2,Sat w0 (Ow b o1*(Ow r o2*F)) w/\w.ranges P k cF b r n D left cnt:=by
 obtain⟨c,x,h1,a,g,h2,h3,⟨o1,o2,h4,es,clock,since,seen,c0,rfl,rfl,h5⟩,h8⟩:=h;have hs:Sat w0 (Ow b (.map es clock)*Ow r (.mapIter (some b) since seen c0)*F) w:=⟨c,x,h1,a,g,h2,h3,h4,h8⟩;have hs2:=hs.of (aj _ _ _);obtain⟨h6,h7,h9,h10,h11,h12,h13,h14,h15⟩:=h5;exact⟨_,_,hs2,es,clock,since,seen,c0,hs2.block,h6,h7,h9,hs2.av.block,h10,h11,h12,h13,h14,h15⟩
theorem Sat.rg (h:Sat w0 (Jh P k b r n D left cnt*F) w):w.ranges P k cF b r n D left cnt:=by
 obtain⟨_,_,_,h1⟩:=h.qy;exact h1
theorem Sat.Nz {o1 o2:Obj} (h:Sat w0 (Ow b o1*(Ow r o2*F)) w) (hr:w.ranges P k cF b r n D left cnt):Sat w0 (Jh P k b r n D left cnt*F) w:=by
 obtain⟨es,clock,since,seen,c0,hb,h6,h7,h9,hi,h10,h11,h12,h13,h14,h15⟩:=hr;have e1:=h.block;rw[hb] at e1;have e2:=h.av.block;rw[hi] at e2;injection e1 with e1
 injection e2 with e2
 subst e1;subst e2;have h':=h.of (aj _ _ _).symm;exact h'.mono fun y ⟨a,g,k1,k2,k3,k4⟩=>⟨a,g,k1,k2,⟨_,_,k3,es,clock,since,seen,c0,rfl,rfl,h6,h7,h9,h10,h11,h12,h13,h14,h15⟩,k4⟩
theorem Sat.yz {o:Obj} (h:Sat w0 (Ow b o*F) w) (hr:w'.ranges P k cF b w.heap.size n D left cnt) (hg:w.grownBy w' none) (hs:w'.heap.size=w.heap.size+1):Sat w0 (Jh P k b w.heap.size n D left cnt*F) w':=by
 have hr1:=hr;obtain⟨_,_,_,_,_,_,_,_,_,hit,_⟩:=hr1;have kc:aq No w w':=⟨hg.os,hg.tape,hg.output,hg.size,fun k hk _=>hg.block k hk (by simp)⟩;exact Sat.Nz (h.take kc (Nat.le_refl _) hit).av hr
theorem Sat.BY (h:Sat w0 (Jh P k b r n D left cnt*F) w) (hg:w.grownBy w' (some r)) (hr:w'.ranges P k cF b r n D left' cnt'):Sat w0 (Jh P k b r n D left' cnt'*F) w':=by
 obtain⟨o1,o2,h1,_⟩:=h.qy;obtain⟨o',h2⟩:=h1.av.IC ((aq.eG hg).mono fun i _ hi=>Option.some.inj hi);exact Sat.Nz h2.av hr
theorem Sat.KO {f:Int->Option Value} (h:Sat w0 (Jh P k b r n D left cnt*F) w) (hs:sS D f):Sat w0 (bY P k b n f*F) w:=by
 obtain⟨o1,o2,h1,es,clock,since,seen,c0,hb,h6,h7,h9,hi,_⟩:=h.qy;have h2:=h1.bF;have e1:=h2.block;rw[hb] at e1;injection e1 with e1
 subst e1;exact Sat.KZ h2 h6 h7 (h9 ▸ hs)
theorem Sat.IM {f:Int->Option Value} (h:Sat w0 (bY P k b n f*F) w): ∃ o,Sat w0 (Ow b o*F) w/\ ∃ D,w.ownsMap P k cF b n D/\sS D f:=by
 obtain⟨es,clock,h1,h2,h3,h4⟩:=h.lV;exact⟨_,h1,_,⟨es,clock,h1.block,h2,h3,rfl⟩,h4⟩
theorem Sat.G7 {f:List UInt8->Option Value} (h:Sat w0 (jr P k b n f*F) w): ∃ o,Sat w0 (Ow b o*F) w/\ ∃ D,w.ownsMap P k cF b n D/\my D f:=by
 obtain⟨es,clock,h1,h2,h3,h4⟩:=h.jN;exact⟨_,h1,_,⟨es,clock,h1.block,h2,h3,rfl⟩,h4⟩
end
theorem DO {D:DataW Value} {f:List UInt8->Option Value} (hs:my D f) {i:List UInt8} (h:Maps.has D (.string i)=false):f i=none:=by
 cases hf:f i with
 | none=>rfl
 | some v=>
  have h2:=hs i .nil;rw[Maps.atKey_of_not_has h,hf] at h2
  cases h2
theorem Hy {D:DataW Value} {f:List UInt8->Option Value} (hs:my D f) {x:List UInt8} {c:Value} (h: ∀ zd,D.atKey (.string x) zd = .held c):f x=some c:=by
 have h1:=hs x .nil;rw[h] at h1
 cases hf:f x with
 | none=>rw[hf] at h1;cases h1
 | some v=>rw[hf] at h1;injection h1 with h1;rw[h1]
def Fy (n:Int) (w0:World) (F:SP) (e:Ending) (w':World):Prop:=
 if 2<=n/\n<=65536 then ∃ d,e = .returned (.tuple #[.pointer (some ⟨d,0,none⟩),.int .i64 0])/\Sat w0 (ae d (Dk.new n.toNat)*F) w'
 else e = .returned (.tuple #[.pointer none,.int .i64 20])/\Sat w0 F w'
theorem Ei:(Tryz.prog.info? 142).map (fun i=>(i.zero,i.size,i.bytes))=some (some (.agg #[.slice none 0 0,.bool false]),2,32):=by kernel_rfl
def jO (n:Nat):Array Value:=((List.replicate n (((none,0,[]):cW),false)).flatMap jb).toArray
theorem yM (n:Nat):madeCells #[.slice none 0 0,.bool false] (n*2)=jO n:=by
 apply Array.ext';apply List.ext_getElem?;intro j;have hl:(List.replicate n (((none,0,[]):cW),false)).length=n:=by simp
 have hf:=mz (f:=jb) (fun _=>rfl) (List.replicate n (((none,0,[]):cW),false)) (j / 2) (j % 2);have hfl:=cN (f:=jb) (fun _=>rfl) (List.replicate n (((none,0,[]):cW),false));rw[hl] at hfl;unfold jO madeCells;by_cases h:j<n*2
 .have h1:=hf (by rw[hl];omega) (by omega);rw[show j / 2*2+j % 2=j by omega] at h1;simp only[List.getElem_replicate] at h1;rw[List.toList_toArray,h1];simp[h];rcases Nat.mod_two_eq_zero_or_one j with e | e<;>rw[e]<;>rfl
 .rw[List.getElem?_eq_none (by simp;omega),List.getElem?_eq_none (by rw[hfl];omega)]
theorem zJ (n:Nat) (hn:n<=65536) (W:World):(Instr.makeSlice 97 (.int .i64 (n:Int)) (.int .i64 (n:Int))).run Tryz.prog W=
 .ok (.slice (some ⟨W.heap.size,0,none⟩) n n) (W.alloc (.cells (jO n) 142)):=by
 obtain⟨i0,hi,hz0,hz1,hz2⟩:=info_parts Ei;have hr:=run_make (P:= Tryz.prog) W 97 142 i0 _ Tryz.underlying97 hi hz0 .i64 .i64 n n (by omega) (by omega) (by rw[hz2];omega) (by omega);have hc:(Value.agg #[.slice none 0 0,.bool false]).cells = #[.slice none 0 0,.bool false]:=rfl;simpa [hz1,hc,yM] using hr
theorem Jg (n:Int) (w0 w:World) (F:SP) (h:Sat w0 F w):Calls Tryz.prog 16 #[.int .i64 n] w (Fy n w0 F):=by
 by_cases h1:2<=n/\n<=65536
 .obtain⟨k,rfl⟩: ∃ k:Nat,n=k:=⟨n.toNat,by omega⟩;have hmk:=zJ k (by omega);have hmm:= @run_makeMap Tryz.prog;have hk1:¬ (k:Int)<2:=by omega
  have hk2:¬ (65536:Int)<k:=by omega
  have HS:=ah h;have HK:=ah h1;clear h h1;go_enter Tryz.func16, Tryz.ntmps16;go_wp2_with fail;go_ret2;unfold Fy;rw[if_pos HK.o];refine⟨_,rfl,?_⟩;have h1:=(HS.o.lE ((List.replicate k (((none,0,[]):cW),false)).map (·.1)++([]:List (Nat × cW)).map (·.2)) (fun r hr=>by simp at hr;rw[hr.2])).af 142 (jO k);have h2:=h1.vr (P:= Tryz.prog) (k:= 3);have h3:=h2.af 101 #[.slice (some ⟨w.heap.size,0,none⟩) k k,.slice none 0 0,.map (some (w.alloc (.cells (jO k) 142)).heap.size),.int .i64 0,.int .i64 0,.bool false];have h4:=h3.aI 140 2;have e5:(jO k).toList.take (k*2)=(List.replicate k (((none,0,[]):cW),false)).flatMap jb:=by
   unfold jO;refine List.take_of_length_le ?_;rw[cN (fun _=>rfl),List.length_replicate];exact Nat.le_refl _
  have h5:=(h4.bW).ef (n:=k) (cap:=k) (size:=2) (Nat.le_refl _) (by have:(2:Int)<=k/\(k:Int)<=65536:=HK.o;unfold maxLen;omega) (by unfold jO;rw[List.size_toArray,cN (fun _=>rfl),List.length_replicate]);rw[e5] at h5;rw[Int.toNat_natCast];have hb:(2:Int)<=k/\(k:Int)<=65536:=HK.o;refine Sat.mC (D:=Dk.new k) (C:=w.heap.size) (cc:=k) (M:=(w.alloc (.cells (jO k) 142)).heap.size) (nm:=0) (vp:= .slice none 0 0) (cs:=List.replicate k (((none,0,[]):cW),false)) (ps:=[]) ?_ ⟨by simp[Dk.new],rfl,?_,by simp,by simp;omega,by simp;omega⟩ (Nat.le_refl _)
  .refine Sat.of (by simpa using h5) ?_;unfold eu;rw[List.length_replicate];show _=_*(_*(Row _ 2 _ 0 []*(bY _ _ _ _ (fun _=>none)*_)))*_;simp
   ac_rfl
  .intro x hx;simp at hx;rw[hx.2];exact⟨⟨fun _=>⟨rfl,rfl⟩,fun _=>rfl,Nat.le_refl _,by show (0:Nat)<=_;omega⟩,.inl rfl⟩
 .have HS:=ah h;have HK:=ah h1;by_cases h2:n<2
  .clear h h1;go_enter Tryz.func16, Tryz.ntmps16;go_wp2_with fail;go_ret2;unfold Fy;rw[if_neg HK.o];exact⟨rfl,HS.o⟩
  .have h3:65536<n:=by omega
   clear h h1;go_enter Tryz.func16, Tryz.ntmps16;go_wp2_with fail;go_ret2;unfold Fy;rw[if_neg HK.o];exact⟨rfl,HS.o⟩
def zk (k:Nat) (vb vs:Value) (es ss:bP):SP:=
 Pt k 91 #[vb,vs,.slice none 0 0,.slice none 0 0,.slice none 0 0,.slice none 0 0]*(Row 41 1 vb es.length (es.map aE)*(Row 41 1 vs ss.length (ss.map aE)*(dM es*dM ss)))
def pg (k:Nat) (es:bP):SP:=fun h=> ∃ vb vs ss,bT ss=bT es/\zk k vb vs es ss h
section
variable {w0 w:World} {F:SP} {k:Nat} {es:bP}
theorem Sat.Ku (h:Sat w0 (pg k es*F) w): ∃ vb vs ss,bT ss=bT es/\Sat w0 (zk k vb vs es ss*F) w:=by
 obtain⟨c,x,h1,a,f,h2,h3,⟨vb,vs,ss,ht,h4⟩,h5⟩:=h;exact⟨vb,vs,ss,ht,c,x,h1,a,f,h2,h3,h4,h5⟩
theorem Sat.Ki {vb vs:Value} {ss:bP} (ht:bT ss=bT es) (h:Sat w0 (zk k vb vs es ss*F) w):Sat w0 (pg k es*F) w:=h.mono fun y ⟨a,f,h2,h3,h5,h6⟩=>⟨a,f,h2,h3,⟨vb,vs,ss,ht,h5⟩,h6⟩
theorem vX (k:Nat) (vb vs:Value) (es ss:bP) (F:SP):zk k vb vs es ss*F=Pt k 91 #[vb,vs,.slice none 0 0,.slice none 0 0,.slice none 0 0,.slice none 0 0]*(Row 41 1 vb es.length (es.map aE)*(Row 41 1 vs ss.length (ss.map aE)*(dM es*(dM ss*F)))):=by
 unfold zk;ac_rfl
end
theorem yk (k:Nat) (es:bP) (x:Option Addr × Nat × List UInt8) (w0 w:World) (F:SP) (h:Sat w0 (Row 5 1 (aE x) x.2.2.length (x.2.2.map bv)*(pg k es*F)) w) (hn:es.length<400) (hl:x.2.2.length<=140737488355328):
 Calls Tryz.prog 82 #[.pointer (some ⟨k,0,none⟩),.slice x.1 x.2.2.length x.2.1] w fun e w'=>e = .returned (.tuple #[])/\Sat w0 (pg k (es++[x])*F) w':=by
 obtain⟨i0,hi,hz0,hz1,hz2⟩:=info_parts nJ;have Hi:=ah hi;have Hz0:=ah hz0;have Hz1:=ah hz1;have Hz2:=ah hz2;obtain⟨vb,vs,ss,ht,h1⟩:=(h.av).Ku;have hlen:ss.length=es.length:=by have:=congrArg List.length ht;simpa [bT] using this
 have h2:=h1.of (vX ..);obtain⟨Ab,cb,rfl,hb1,hb2⟩:=(h2.av).aT;obtain⟨As,cs,rfl,hs1,hs2⟩:=(h2.bD).aT;have c0:=h2.cell 0;have f0:=h2.frozen 0;have hn':(es.length:Int)<400:=by omega
 have HS:=ah h2;have HT:=ah ht;have hss:ss.length<400:=by omega
 clear h h1 h2 ht hlen hi hz0 hz1 hz2;go_enter Tryz.func82, Tryz.ntmps82;go_upto_region 2 with (at_builtin;refine au rfl (.tmp 14) (.tmp 16) 87 rfl 41 i0 _ 1 24 Tryz.underlying87 Hi.o Hz0.o Hz1.o Hz2.o rfl (by decide) (.slice Ab es.length cb) es.length (es.map aE) rfl w0 _ (by exact(HS.o.aC _).av) (some ⟨w.heap.size,0,none⟩) 1 1 [aE x] rfl (aL _ _ _) rfl (ga [x]) (by unfold maxLen;omega) (by omega) ?_;intro A3 c3 w3 hs3;have q0:=hs3.av.cell 0;have q1:=hs3.av.frozen 0;have HS3:=ah (hs3.av.set 0 (.slice A3 (es.length+1) c3));clear hs3)
 obtain⟨w4,hw4⟩: ∃ w4,w4=w3.setCell ⟨k,0,none⟩ (.slice A3 (es.length+1) c3):=⟨_,rfl⟩;rw[<-hw4] at HS3;rw[<-hw4];clear hw4 q0 q1 c0 f0 HS;have hs4:Sat w0 (Pt k 91 #[.slice A3 (es.length+1) c3,.slice As ss.length cs,.slice none 0 0,.slice none 0 0,.slice none 0 0,.slice none 0 0]*(Row 41 1 (.slice A3 (es.length+1) c3) (es.length+1) (es.map aE++[aE x])*(Row 41 1 (.slice As ss.length cs) ss.length (ss.map aE)*(dM es*(dM ss*(Row 5 1 (aE x) x.2.2.length (x.2.2.map bv)*F)))))) w4:=HS3.o;have c1:=hs4.cell 1;have HS4:=ah hs4;have HRx:Hid (Rd w4.drew x.1 x.2.2):=aH.bO ((hs4.drew.CQ).aS);clear hs4 HS3;go_region_law (first
  | (go_simp;go_at_call 46;refine(twin_any _ _ x.2.2 _ HRx.o hl).mono ?_;rintro e w5 ⟨v2,rfl,h2,k2⟩;have hs5:=HS4.o.drew.dP k2 h2;obtain⟨A2,c2,hv2,_⟩:=hs5.aT;subst hv2;have y1:=hs5.av.cell 1;have y2:=fun o=>(hs5.aC o).av.cell 1;have HS5:=ah hs5;clear hs5 h2 k2)
  | (refine aQ rfl (.tmp 24) (.tmp 27) 87 rfl 41 i0 _ 1 24 Tryz.underlying87 Hi.o Hz0.o Hz1.o Hz2.o rfl (by decide) (.slice As ss.length cs) ss.length (ss.map aE) rfl w0 _ (by exact(HS5.o.aC _).bW) (some ⟨w5.heap.size,0,none⟩) 1 1 [aE (A2,c2,x.2.2)] rfl (aL _ _ _) rfl (ga [(A2,c2,x.2.2)]) (by unfold maxLen;omega) (by omega) ?_;intro A7 c7 w7 hs7;have z1:=hs7.bD.cell 1;have z2:=hs7.bD.frozen 1;have HS7:=ah hs7;clear hs7))
 all_goals
  have HS8:=ah (HS7.o.bD.set 1 (.slice A7 (ss.length+1) c7));go_wp2_with fail;go_end0
  refine⟨rfl,?_⟩;have h9:Sat w0 (Pt k 91 #[.slice A3 (es.length+1) c3,.slice A7 (ss.length+1) c7,.slice none 0 0,.slice none 0 0,.slice none 0 0,.slice none 0 0]*(Row 41 1 (.slice A7 (ss.length+1) c7) (ss.length+1) (ss.map aE++[aE (A2,c2,x.2.2)])*(Row 5 1 (.slice A2 x.2.2.length c2) x.2.2.length (x.2.2.map bv)*(Row 41 1 (.slice A3 (es.length+1) c3) (es.length+1) (es.map aE++[aE x])*(dM es*(dM ss*(Row 5 1 (aE x) x.2.2.length (x.2.2.map bv)*F))))))) _:=HS8.o;refine Sat.Ki (es:=es++[x]) (vb:= .slice A3 (es.length+1) c3) (vs:= .slice A7 (ss.length+1) c7) (ss:=ss++[(A2,c2,x.2.2)]) ((fE _ _).trans (by rw[HT.o];exact(fE es [x]).symm)) (h9.of ?_);rw[vX,og,og,List.map_append,List.map_append,List.length_append,List.length_append];show Pt k _ _*(Row _ _ _ _ _*(Row _ _ _ _ _*(Row _ _ _ _ _*(dM es*(dM ss*(Row _ _ _ _ _*F))))))=Pt k _ _*(Row _ _ _ _ _*(Row _ _ _ _ _*((Row _ _ _ _ _*dM es)*((Row _ _ _ _ _*dM ss)*F))))
  ac_rfl
end Go.Proofs.YtmbaiglpgaoogaaGreat
