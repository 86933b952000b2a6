/- Joined, as they were built one by one: Ext0 Ext1 Ext2 Ext3 Ext4 Ext5 Ext6 Ext7 Ext8. -/
import Derived.Lib.SlBytesConst
import Derived.Test.YtmbaiglpgaoogaaGreatW01
import Derived.Test.YtmbaiglpgaoogaaGreatW02
import Derived.Test.YtmbaiglpgaoogaaGreatW04
import Derived.Test.YtmbaiglpgaoogaaGreatW06
set_option maxHeartbeats 16000000
set_option linter.unusedVariables false
set_option maxRecDepth 100000
namespace Go.Proofs.YtmbaiglpgaoogaaGreat
open Go.RowKit Z
def aS (p:Nat):Value:= .pointer (some ⟨p,0,none⟩)
def nR (f:Fl) (v:Value):Array Value:= #[.int .i64 (f.num:Int),.int .i64 (f.first:Int),.int .i64 (f.blocks:Int),.int .u64 (f.birth:Int),.int .u64 (f.life:Int),v]
def mV (p:Nat) (f:Fl):SP:=fun h=> ∃ v ks,bK ks=f.aa/\(Pt p 163 (nR f v)*(Row 41 1 v ks.length (ks.map aI)*cd ks)) h
def aW:List (Nat × Fl)->SP
 | []=>bF
 | x::l=>mV x.1 x.2*aW l
def aP (s d slot turn:Nat) (v:Value) (ps:List (Nat × Fl)):SP:=
 Pt s 153 #[aS d,.int .i64 (slot:Int),.int .u64 (turn:Int),v]*(Row 155 1 v ps.length (ps.map fun x=>aS x.1)*aW ps)
def ag (s d:Nat) (S:aK):SP:=fun h=> ∃ v ps,ps.map (·.2)=S.files/\aP s d S.slot S.turn v ps h
section
variable {w0 w:World} {F:SP} {p s d slot turn:Nat} {f:Fl} {v:Value} {ks:bY} {ps:List (Nat × Fl)} {S:aK}
theorem Sat.fl (h:Sat w0 (mV p f*F) w): ∃ v ks,bK ks=f.aa/\Sat w0 (Pt p 163 (nR f v)*(Row 41 1 v ks.length (ks.map aI)*(cd ks*F))) w:=by
 obtain⟨c,x,h1,a,g,h2,h3,⟨v,ks,h4,h5⟩,h6⟩:=h;refine⟨v,ks,h4,Sat.of (A:=(Pt p 163 (nR f v)*(Row 41 1 v ks.length (ks.map aI)*cd ks))*F) ⟨c,x,h1,a,g,h2,h3,h5,h6⟩ ?_⟩
 ac_rfl
theorem Sat.ID (ht:bK ks=f.aa) (h:Sat w0 (Pt p 163 (nR f v)*(Row 41 1 v ks.length (ks.map aI)*(cd ks*F))) w):Sat w0 (mV p f*F) w:=by
 have h2:Sat w0 ((Pt p 163 (nR f v)*(Row 41 1 v ks.length (ks.map aI)*cd ks))*F) w:=h.of (by ac_rfl);exact h2.mono fun y ⟨a,g,h3,h4,h5,h6⟩=>⟨a,g,h3,h4,⟨v,ks,ht,h5⟩,h6⟩
theorem ju: ∀ (a b:List (Nat × Fl)),aW (a++b)=aW a*aW b
 | [],b=>by show aW b=bF*aW b;rw[bf]
 | x::a,b=>by show mV x.1 x.2*aW (a++b)=(mV x.1 x.2*aW a)*aW b;rw[ju a b,aB]
theorem Be (x:Nat × Fl):aW [x]=mV x.1 x.2:=by show mV x.1 x.2*bF=_;rw[iU]
theorem qa {a b:List (Nat × Fl)} (h:a.Perm b):aW a=aW b:=by
 induction h with
 | nil=>rfl
 | cons x _ ih=>show mV x.1 x.2*_=mV x.1 x.2*_;rw[ih]
 | swap x y l=>show mV y.1 y.2*(mV x.1 x.2*aW l)=mV x.1 x.2*(mV y.1 y.2*aW l);rw[aX]
 | trans _ _ i1 i2=>exact i1.trans i2
theorem Bh: ∀ (ps:List (Nat × Fl)) (i:Nat) (h:i<ps.length),aW ps=mV ps[i].1 ps[i].2*aW (ps.eraseIdx i)
 | x::l,0,h=>rfl
 | x::l,i+1,h=>by
  have hi:i<l.length:=by simpa using h
  show mV x.1 x.2*aW l=mV l[i].1 l[i].2*(mV x.1 x.2*aW (l.eraseIdx i));rw[Bh l i hi,aX]
theorem lX {i:Nat} (h:i<ps.length):aW ps=mV ps[i].1 ps[i].2*aW (ps.eraseIdx i):=Bh ps i h
theorem Hg {i:Nat} (h:i<ps.length) (x:Nat × Fl):aW (ps.set i x)=mV x.1 x.2*aW (ps.eraseIdx i):=by
 have h2:i<(ps.set i x).length:=by rw[List.length_set];exact h
 rw[lX h2,List.getElem_set_self,List.eraseIdx_set_eq]
theorem Sat.space (h:Sat w0 (ag s d S*F) w): ∃ v ps,ps.map (·.2)=S.files/\Sat w0 (aP s d S.slot S.turn v ps*F) w:=by
 obtain⟨c,x,h1,a,g,h2,h3,⟨v,ps,h4,h5⟩,h6⟩:=h;exact⟨v,ps,h4,c,x,h1,a,g,h2,h3,h5,h6⟩
theorem Sat.ek (ht:ps.map (·.2)=S.files) (h:Sat w0 (aP s d S.slot S.turn v ps*F) w):Sat w0 (ag s d S*F) w:=
 h.mono fun y ⟨a,g,h3,h4,h5,h6⟩=>⟨a,g,h3,h4,⟨v,ps,ht,h5⟩,h6⟩
theorem dj:aP s d slot turn v ps*F=Pt s 153 #[aS d,.int .i64 (slot:Int),.int .u64 (turn:Int),v]*(Row 155 1 v ps.length (ps.map fun x=>aS x.1)*(aW ps*F)):=by
 unfold aP;ac_rfl
theorem fE {i:Nat} (h:i<ps.length):aP s d slot turn v ps*F=mV ps[i].1 ps[i].2*(Pt s 153 #[aS d,.int .i64 (slot:Int),.int .u64 (turn:Int),v]*(Row 155 1 v ps.length (ps.map fun x=>aS x.1)*(aW (ps.eraseIdx i)*F))):=by
 rw[dj,lX h];ac_rfl
theorem Sat.me (h:Sat w0 (aP s d slot turn v ps*F) w): ∃ A c,v = .slice A ps.length c/\ps.length<=c/\c<=maxLen/\aF w A (ps.map fun x=>aS x.1)/\
 (w.cell? ⟨s,0,none⟩=some (aS d)/\w.cell? ⟨s,1,none⟩=some (.int .i64 (slot:Int))/\w.cell? ⟨s,2,none⟩=some (.int .u64 (turn:Int))/\w.cell? ⟨s,3,none⟩=some v):=by
 have h1:=h.of dj;obtain⟨A,c,rfl,h2,h3⟩:=h1.ay.bm;exact⟨A,c,rfl,h2,h3,aF.bG h1.ay.aO,h1.cell 0,h1.cell 1,h1.cell 2,h1.cell 3⟩
theorem Sat.po (h:Sat w0 (aP s d slot turn v ps*F) w) {i:Nat} (hi:i<ps.length): ∃ u ks,bK ks=ps[i].2.aa/\(w.cell? ⟨ps[i].1,0,none⟩=some (.int .i64 (ps[i].2.num:Int))/\w.cell? ⟨ps[i].1,1,none⟩=some (.int .i64 (ps[i].2.first:Int))/\w.cell? ⟨ps[i].1,2,none⟩=some (.int .i64 (ps[i].2.blocks:Int))/\
 w.cell? ⟨ps[i].1,3,none⟩=some (.int .u64 (ps[i].2.birth:Int))/\w.cell? ⟨ps[i].1,4,none⟩=some (.int .u64 (ps[i].2.life:Int))/\w.cell? ⟨ps[i].1,5,none⟩=some u)/\ ∃ A c,u = .slice A ks.length c/\ks.length<=c/\c<=maxLen/\rm w A ks:=by
 obtain⟨u,ks,h1,h2⟩:=(h.of (fE hi)).fl;obtain⟨A,c,e,h3,h4⟩:=h2.ay.bm;refine⟨u,ks,h1,⟨h2.cell 0,h2.cell 1,h2.cell 2,h2.cell 3,h2.cell 4,h2.cell 5⟩,A,c,e,h3,h4,?_,?_⟩
 .subst e;exact aF.bG h2.ay.aO
 .intro k hk;exact h2.bp.F4 hk
end
def eP (ps:List (Nat × Fl)) (n:Int):Nat:=ps.findIdx fun x=>((x.2.num:Nat):Int)==n
theorem Gp (ps:List (Nat × Fl)) (n:Int):eP ps n<=ps.length:=List.findIdx_le_length
theorem BT {ps:List (Nat × Fl)} {n:Int} {i:Nat} (hi:i<ps.length) (h1:(ps[i].2.num:Int)=n) (h2: ∀ j (hj:j<i),((ps[j]'(by omega)).2.num:Int)≠n):eP ps n=i:=by
 unfold eP;rw[List.findIdx_eq hi];exact⟨by simpa using h1,fun j hj=>by simpa using h2 j hj⟩
theorem BL {ps:List (Nat × Fl)} {n:Int} (h2: ∀ j (hj:j<ps.length),(ps[j].2.num:Int)≠n):eP ps n=ps.length:=by
 unfold eP;rw[List.findIdx_eq_length];intro x hx;obtain⟨j,hj,rfl⟩:=List.getElem_of_mem hx;simpa using h2 j hj
theorem nC {ps:List (Nat × Fl)} {S:aK} (ht:ps.map (·.2)=S.files) (n:Int):S.find n=(ps[eP ps n]?).map (·.2):=by
 unfold aK.find eP;rw[<-ht,List.find?_map];rw[<-List.find?_eq_getElem?_findIdx];rfl
section
variable {w0 w:World} {F:SP} {s d slot turn:Nat} {v:Value} {ps:List (Nat × Fl)}
def mY (o:Option (Nat × Fl)):Value:=match o with | some x=>aS x.1 | none=> .pointer none
theorem lp {A:Option Addr} {k:Nat} (h:aF w A (ps.map fun x=>aS x.1)) (hk:k<ps.length): ∃ b o,A=some ⟨b,o,none⟩/\w.cell? ⟨b,o+k,none⟩=some (.pointer (some ⟨ps[k].1,0,none⟩)):=by
 obtain⟨b,o,e,hc⟩:=h (by intro e;have:=congrArg List.length e;simp at this;rw[this] at hk;simp at hk);refine⟨b,o,e,?_⟩;have:=hc k (by simpa using hk);rw[this];simp[aS]
theorem eb (n:Int) (h:Sat w0 (aP s d slot turn v ps*F) w) (hl:ps.length<=1000000):
 Calls Tryz.prog 103 #[.pointer (some ⟨s,0,none⟩),.int .i64 n] w fun e w'=>e = .returned (mY ps[eP ps n]?)/\w=w':=by
 obtain⟨A,c,rfl,h1,h2,h3,h4,h5,h6,h7⟩:=h.me;have HS:=ah h;have HR:=ah h3;clear h h3 h4 h5 h6;go_enter Tryz.func103, Tryz.ntmps103;go_wp2_with fail;go_loopw [6,12] (fun _ iv wr=> ∃ k:Nat,k<=ps.length/\iv = .int .i64 (k:Int)/\wr=w/\Hid (∀ j (hj:j<k) (hl:j<ps.length),(ps[j].2.num:Int)≠n)) (fun _ iv _=>ps.length - (intOf iv).toNat)
 case atStart=>exact⟨0,by omega,rfl,rfl,fun j hj=>by omega⟩
 case round=>
  obtain⟨k,hk,rfl,rfl,HD⟩:=hrel;by_cases hlt:k<ps.length
  .obtain⟨b,o,rfl,hc⟩:=lp HR.o hlt;obtain⟨u,ks,hks,hg,hu⟩:=HS.o.po hlt;have g0:=hg.1;clear hg hu;have hk2:(k:Int)<ps.length:=by omega
   by_cases e:(ps[k].2.num:Int)=n
   .have HE:Hid (eP ps n=k):=BT hlt e (fun j hj=>HD.o j hj (by omega));have HE2:Hid (mY ps[k]? = .pointer (some ⟨ps[k].1,0,none⟩)):=by unfold Hid mY;rw[List.getElem?_eq_getElem hlt];rfl
    clear hks;generalize ps[k].2.num=m at*
    generalize ps[k].1=q at*
    subst e;go_wp2_with fail;go_ret;refine⟨?_,rfl⟩;rw[HE.o,HE2.o];rfl
   .have HN:Hid (∀ j (hj:j<k+1) (hl:j<ps.length),(ps[j].2.num:Int)≠n):=fun j hj hl=>by
     by_cases ej:j=k
     .subst ej;exact e
     .exact HD.o j (by omega) hl
    clear hks;generalize ps[k].2.num=m at*
    generalize ps[k].1=q at*
    go_wp2_with fail;go_roundw
    .exact⟨k+1,by omega,by push_cast;rfl,trivial,HN.o⟩
    .simp[intOf];omega
  .have HE:Hid (eP ps n=ps.length):=BL (fun j hj=>HD.o j (by omega) hj);have hk2:¬ (k:Int)<ps.length:=by omega
   go_wp2_with fail;go_ret;refine⟨?_,rfl⟩;rw[HE.o,List.getElem?_eq_none (Nat.le_refl _)];rfl
theorem IC:(Tryz.prog.info? 128).map (fun i=>(i.zero,i.size,i.bytes))=some (some (.agg #[.int .i64 0,.int .i64 0,.int .i64 0]),3,24):=by kernel_rfl
def Ju (f:Fl):List Value:=[.int .i64 (f.num:Int),.int .i64 (f.first:Int),.int .i64 (f.blocks:Int)]
theorem rE (h:Sat w0 (aP s d slot turn v ps*F) w) (hl:ps.length<=1000000):
 Calls Tryz.prog 67 #[.pointer (some ⟨s,0,none⟩)] w fun e w'=> ∃ u,e = .returned u/\Sat w0 (Row 128 3 u ps.length ((ps.map (·.2)).flatMap Ju)*(aP s d slot turn v ps*F)) w':=by
 obtain⟨i0,hi0',hz0',hz1',hz2'⟩:=info_parts IC;have hi0:=ah hi0';have hz0:=ah hz0';have hz1:=ah hz1';have hz2:=ah hz2';obtain⟨A,c,rfl,h1,h2,h3,h4,h5,h6,h7⟩:=h.me;have HS:=ah h;have HR:=ah h3;clear h h3 h4 h5 h6 hi0' hz0' hz1' hz2';go_enter Tryz.func67, Tryz.ntmps67;go_wp2_with fail;go_loopw [3,5,11] (fun ov _ iv wr=> ∃ (k:Nat) (C:Option Addr) (cc:Nat),k<=ps.length/\ov = .slice C k cc/\iv = .int .i64 (k:Int)/\Hid (Sat w0 (Row 128 3 (.slice C k cc) k (((ps.take k).map (·.2)).flatMap Ju)*(aP s d slot turn (.slice A ps.length c) ps*F)) wr)) (fun _ _ iv _=>ps.length - (intOf iv).toNat)
 case atStart=>exact⟨0,none,0,by omega,rfl,rfl,HS.o.aN _ 3⟩
 case round=>
  obtain⟨k,C,cc,hk,rfl,rfl,HD⟩:=hrel;by_cases hlt:k<ps.length
  .obtain⟨A2,c2,e9,_,_,hR2,_⟩:=HD.o.right.me;injection e9 with e9 _ e8
   subst e9;subst e8;obtain⟨b,o,rfl,hc⟩:=lp hR2 hlt;obtain⟨u,ks,hks,hg,hu⟩:=HD.o.right.po hlt;have g0:=hg.1;have g1:=hg.2.1;have g2:=hg.2.2.1;have hk2:(k:Int)<ps.length:=by omega
   have HT:Hid (((ps.take (k+1)).map (·.2)).flatMap Ju=((ps.take k).map (·.2)).flatMap Ju++[.int .i64 (ps[k].2.num:Int),.int .i64 (ps[k].2.first:Int),.int .i64 (ps[k].2.blocks:Int)]):=by
    unfold Hid;rw[List.take_succ_eq_append_getElem hlt,List.map_append,List.flatMap_append];rfl
   clear hg hu hks hR2;generalize ps[k].2.num=m0 at*
   generalize ps[k].2.first=m1 at*
   generalize ps[k].2.blocks=m2 at*
   generalize ps[k].1=q at*
   go_wp2_with (at_builtin;refine av rfl (.tmp 15) (.tmp 20) 105 rfl 128 i0 _ 3 24 Tryz.underlying105 hi0.o hz0.o hz1.o hz2.o rfl (by decide) (.slice C k cc) k _ rfl w0 _ (by exact HD.o.aD _) (some ⟨wr.heap.size,0,none⟩) 1 1 [.int .i64 (m0:Int),.int .i64 (m1:Int),.int .i64 (m2:Int)] rfl (aR _ _ _) rfl (by intro u hu;simp at hu;rcases hu with rfl | rfl | rfl<;>rfl) (by unfold maxLen;omega) (by omega) ?_;intro A3 c3 w3 hs;have HS3:=ah hs;clear hs);go_roundw
   .exact⟨k+1,A3,c3,by omega,rfl,by push_cast;rfl,by rw[HT.o];exact HS3.o⟩
   .simp[intOf];omega
  .obtain rfl:k=ps.length:=by omega
   have hk2:¬ ((ps.length:Nat):Int)<ps.length:=by omega
   go_wp2_with fail;go_ret;exact⟨_,rfl,by rw[<-List.take_length (l:=ps)];simpa using HD.o⟩
end
section
variable {w0 w:World} {F:SP} {s d slot turn:Nat} {v:Value} {ps:List (Nat × Fl)} {D:Dk}
theorem Sat.ed {A:Option Addr} {c n:Nat} {l:List UInt8} (h:Sat w0 (Row 5 1 (.slice A n c) n (l.map bv)*F) w):Sat w0 (cd [(A,c,l)]*F) w:=by
 obtain⟨A2,c2,e,_,_,h2⟩:=h.xU;injection e with e1 _ e3
 subst e1;subst e3;have:=qN (A,c,l);rw[<-this];exact h2
theorem Ff (h:Sat w0 (aP s d slot turn v ps*(af d D*F)) w) (hw2:D.pend.length<=1000000000):
 Calls Tryz.prog 56 #[.pointer (some ⟨s,0,none⟩)] w fun e w'=>e = .returned (.int .i64 D.flush.2)/\Sat w0 (aP s d slot turn v ps*(af d D.flush.1*F)) w':=by
 have HB:=ah (sy d D w0 w _ h.ay hw2);obtain⟨A,c,rfl,h1,h2,h3,h4,h5,h6,h7⟩:=h.me;unfold aS at h4;clear h h3 h5 h6;go_enter Tryz.func56, Tryz.ntmps56;go_wp2_with (go_at_call 102;(with_reducible refine HB.o.mono ?_);rintro x wx ⟨rfl,hs⟩;have HS2:=ah hs;clear hs);go_ret;exact⟨rfl,HS2.o.ay⟩
theorem Hc (n:Int) (h:Sat w0 (aP s d slot turn v ps*F) w) (hl:ps.length<=1000000) (hi:eP ps n=ps.length):
 Calls Tryz.prog 118 #[.pointer (some ⟨s,0,none⟩),.int .i64 n] w fun e w'=>e = .returned (.tuple #[.int .i64 0,.int .i64 34])/\w=w':=by
 have HF:=eb n h hl;rw[hi,List.getElem?_eq_none (Nat.le_refl _)] at HF;have HF:=ah HF;clear h hi;go_enter Tryz.func118, Tryz.ntmps118;go_wp2_with (go_at_call 103;(with_reducible refine HF.o.mono ?_);rintro x wx ⟨rfl,rfl⟩;unfold mY;dsimp only);go_ret2;exact⟨rfl,rfl⟩
theorem EU (n:Int) (h:Sat w0 (aP s d slot turn v ps*F) w) (hl:ps.length<=1000000) {i:Nat} (hi:i<ps.length) (he:eP ps n=i) (hb:ps[i].2.blocks<=65536) (hf:ps[i].2.aa.length<=ps[i].2.blocks):
 Calls Tryz.prog 118 #[.pointer (some ⟨s,0,none⟩),.int .i64 n] w fun e w'=>e = .returned (.tuple #[.int .i64 ((ps[i].2.blocks:Int) - ps[i].2.aa.length),.int .i64 0])/\Sat w0 (aP s d slot turn v ps*F) w':=by
 have HF:=eb n h hl;rw[he,List.getElem?_eq_getElem hi] at HF;have HF:=ah HF;have HS:=ah h;obtain⟨u,ks,hks,hg,A,c,rfl,hu⟩:=h.po hi;have g2:=hg.2.2.1;have g5:=hg.2.2.2.2.2;have hkl:ks.length=ps[i].2.aa.length:=by rw[<-hks,bK,List.length_map]
 have hw:IntKind.i64.wrap ((ps[i].2.blocks:Int) - (ps[i].2.aa.length:Int))=(ps[i].2.blocks:Int) - (ps[i].2.aa.length:Int):=by rw[IntKind.wrap_i64];omega
 have HD:=ah ((Sat.drewN (h:=h)));rw[hkl] at g5;clear h hg hu hks he hkl;generalize ps[i].2.aa.length=m at*
 generalize ps[i].2.blocks=b at*
 go_enter Tryz.func118, Tryz.ntmps118;go_wp2_with (go_at_call 103;(with_reducible refine HF.o.mono ?_);rintro x wx ⟨rfl,rfl⟩;unfold mY aS;dsimp only);go_region
 all_goals
  (try go_wp2_with fail)
  go_ret2;exact⟨rfl,by first | exact HS.o | exact HS.o.drew | exact HD.o _⟩
theorem jd (k:du): ∀ u ∈ [aI k],u.oneCell'=true:=by
 intro u hu;rw[List.mem_singleton] at hu;subst hu;rfl
theorem By (n:Int) (h:Sat w0 (aP s d slot turn v ps*F) w) (hl:ps.length<=1000000) (hi:eP ps n=ps.length):
 Calls Tryz.prog 59 #[.pointer (some ⟨s,0,none⟩),.int .i64 n] w fun e w'=>e = .returned (.tuple #[.slice none 0 0,.int .i64 34])/\w=w':=by
 have HF:=eb n h hl;rw[hi,List.getElem?_eq_none (Nat.le_refl _)] at HF;have HF:=ah HF;clear h hi;go_enter Tryz.func59, Tryz.ntmps59;go_wp2_with (go_at_call 103;(with_reducible refine HF.o.mono ?_);rintro x wx ⟨rfl,rfl⟩;unfold mY;dsimp only);go_ret2;exact⟨rfl,rfl⟩
theorem AF:(Tryz.prog.info? 41).map (fun i=>(i.zero,i.size,i.bytes))=some (some (.slice none 0 0),1,24):=by kernel_rfl
theorem yJ (n:Int) (h:Sat w0 (aP s d slot turn v ps*F) w) (hl:ps.length<=1000000) {i:Nat} (hi:i<ps.length) (he:eP ps n=i) (hf:ps[i].2.aa.length<=65536) (hsm: ∀ p ∈ ps[i].2.aa,p.length<=480):
 Calls Tryz.prog 59 #[.pointer (some ⟨s,0,none⟩),.int .i64 n] w fun e w'=> ∃ u ts,e = .returned (.tuple #[u,.int .i64 0])/\bK ts=ps[i].2.aa/\Sat w0 (Row 41 1 u ts.length (ts.map aI)*(cd ts*(aP s d slot turn v ps*F))) w':=by
 obtain⟨i0,hi0',hz0',hz1',hz2'⟩:=info_parts AF;have hi0:=ah hi0';have hz0:=ah hz0';have hz1:=ah hz1';have hz2:=ah hz2';have HF:=eb n h hl;rw[he,List.getElem?_eq_getElem hi] at HF;have HF:=ah HF;obtain⟨v5,ks,hks,hfl⟩:=(h.of (fE hi)).fl;obtain⟨A,c,rfl,hu1,hu2⟩:=hfl.ay.bm;have g5:w.cell? ⟨ps[i].1,5,none⟩=some (.slice A ks.length c):=hfl.cell 5;have HS:=ah hfl;have hkl:ks.length=ps[i].2.aa.length:=by rw[<-hks,bK,List.length_map]
 have HKs:=ah hks;have HSm:Hid (∀ k ∈ ks,k.2.2.length<=480):=fun k hk=>hsm k.2.2 (by rw[<-hks];exact List.mem_map_of_mem hk)
 have hk16:ks.length<=65536:=by omega
 clear h hks he hkl hf hsm hi0' hz0' hz1' hz2' hfl;obtain⟨G,hG⟩: ∃ G,G=Pt s 153 #[aS d,.int .i64 (slot:Int),.int .u64 (turn:Int),v]*(Row 155 1 v ps.length (ps.map fun x=>aS x.1)*(aW (ps.eraseIdx i)*F)):=⟨_,rfl⟩;rw[<-hG] at HS;have HG:=ah hG;clear hG;go_enter Tryz.func59, Tryz.ntmps59;go_wp2_with (go_at_call 103;(with_reducible refine HF.o.mono ?_);rintro x wx ⟨rfl,rfl⟩;unfold mY aS;dsimp only);go_loopw [7,9,20] (fun ov _ iv wr=> ∃ (k:Nat) (C:Option Addr) (cc:Nat) (ts:bY),k<=ks.length/\ov = .slice C k cc/\iv = .int .i64 (k:Int)/\Hid (ts.length=k/\bK ts=bK (ks.take k)/\Sat w0 (Row 41 1 (.slice C k cc) k (ts.map aI)*(cd ts*(Pt ps[i].1 163 (nR ps[i].2 (.slice A ks.length c))*(Row 41 1 (.slice A ks.length c) ks.length (ks.map aI)*(cd ks*G))))) wr)) (fun _ _ iv _=>ks.length - (intOf iv).toNat)
 case atStart=>exact⟨0,none,0,[],by omega,rfl,rfl,rfl,rfl,(HS.o.mj [] (by simp)).aN _ 1⟩
 case round=>
  obtain⟨k,C,cc,ts,hk,rfl,rfl,HD⟩:=hrel;by_cases hlt:k<ks.length
  .have hrd:rm wr A ks:=⟨aF.bG HD.o.2.2.bL.aO,fun x hx=>HD.o.2.2.fN.F4 hx⟩;obtain⟨⟨b,o,rfl,hc⟩,hx⟩:=hrd.get hlt;have hk2:(k:Int)<ks.length:=by omega
   have hxl:=HSm.o ks[k] (List.getElem_mem hlt);have HT:Hid (bK (ks.take (k+1))=bK (ks.take k)++[ks[k].2.2]):=by
    unfold Hid bK;rw[List.take_succ_eq_append_getElem hlt,List.map_append];rfl
   have HCl:=ah (ez ks[k].1 ks[k].2.1 ks[k].2.2 wr hx (by omega));clear hx hrd;generalize ks[k]=x at*
   go_wp2_with (first
    | (go_at_call 104;(with_reducible refine HCl.o.mono ?_);rintro e w2 ⟨v2,rfl,h2,_,k2⟩;have hs:=HD.o.2.2.dP k2 h2;obtain⟨A2,c2,hv2,_⟩:=hs.bm;subst hv2;have HS2:=ah (hs.ed (l:=x.2.2));clear hs h2 k2)
    | (at_builtin;refine av rfl (.tmp 24) (.tmp 27) 87 rfl 41 i0 _ 1 24 Tryz.underlying87 hi0.o hz0.o hz1.o hz2.o rfl (by decide) (.slice C k cc) k (ts.map aI) rfl w0 _ (by exact(HS2.o.aD _).ay) (some ⟨w2.heap.size,0,none⟩) 1 1 [aI (A2,c2,x.2.2)] rfl (aR _ _ _) rfl (jd _) (by unfold maxLen;omega) (by omega) ?_;intro A3 c3 w3 hs3;have HS3:=ah hs3;clear hs3))
   go_roundw
   .refine⟨k+1,A3,c3,ts++[(A2,c2,x.2.2)],by omega,rfl,by push_cast;rfl,?_,?_,?_⟩
    .rw[List.length_append,HD.o.1];rfl
    .rw[HT.o, <-HD.o.2.1,bK,List.map_append];rfl
    .rw[List.map_append];exact HS3.o.of (by rw[<-ir,List.map_singleton];ac_rfl)
   .simp[intOf];omega
  .obtain rfl:k=ks.length:=by omega
   have hk2:¬ ((ks.length:Nat):Int)<ks.length:=by omega
   go_wp2_with fail;go_ret2;refine⟨_,rfl,ts,?_,?_⟩
   .rw[HD.o.2.1,List.take_length];exact HKs.o
   .rw[HD.o.1];have h9:=Sat.ID HKs.o (HD.o.2.2.of (show _=Pt ps[i].1 163 (nR ps[i].2 (.slice A ks.length c))*(Row 41 1 (.slice A ks.length c) ks.length (ks.map aI)*(cd ks*(Row 41 1 (.slice C ks.length cc) ks.length (ts.map aI)*(cd ts*G)))) by ac_rfl));refine h9.of ?_;rw[HG.o,fE hi]
    ac_rfl
end
section
variable {w0 w:World} {F:SP} {v:Value} {f:Fl}
theorem jY (x n:Nat) (z:Int) (hz:z=n) (hx:x<18446744073709551616) (h0:1<=n) (hn:n<=8) (w0 w:World) (F:SP) (h:Sat w0 F w) (P:List UInt8) (hP:ai x n=P):
 Calls Tryz.prog 117 #[.int .u64 (x:Int),.int .i64 z] w fun e w'=> ∃ A c,e = .returned (.slice A P.length c)/\Sat w0 (Row 5 1 (.slice A P.length c) P.length (P.map bv)*F) w':=by
 subst hz;subst hP;exact(bS x n hx h0 hn w0 w F h).mono fun _ _ ⟨A,c,e,_,_,hs⟩=>⟨A,c,e,hs⟩
theorem vt (A:Option Addr) (n c:Nat) (ks:bY) (hn:ks.length=n) (w0 w:World) (F:SP) (h:Sat w0 F w) (hr:rm w A ks) (l:List UInt8) (hl:(bK ks).flatten=l) (htot:l.length<=140737488355328) (hks:n<=1000000):
 Calls Tryz.prog 61 #[.slice A n c] w fun e w'=> ∃ B d,e = .returned (.slice B l.length d)/\Sat w0 (Row 5 1 (.slice B l.length d) l.length (l.map bv)*F) w':=by
 subst hn;subst hl;refine(eG A c ks w hr htot (by omega)).mono ?_;rintro e w' ⟨v2,rfl,h2,k2⟩;have hs:=h.dP k2 h2;obtain⟨B,d,rfl,_⟩:=hs.bm;exact⟨B,d,rfl,hs⟩
theorem zD (l:List UInt8):(xC l).map bv=l.map bv++ea (512 - l.length):=by
 unfold xC ea;rw[List.map_append,List.map_replicate];rfl
theorem CC (q:Nat) (A:Option Addr) (c:Nat) (p:List UInt8) (h:Sat w0 (Pt q 163 (nR f v)*F) w) (hp: ∀ W,Sat w0 F W->Rd W A p) (hl:p.length<=480) (hb:f.birth<18446744073709551616) (hli:f.life<18446744073709551616):
 Calls Tryz.prog 150 #[.pointer (some ⟨q,0,none⟩),.slice A p.length c] w fun e w'=> ∃ B d,e = .returned (.slice B 512 d)/\Sat w0 (Row 5 1 (.slice B 512 d) 512 ((bB f.birth f.life p).map bv)*(Pt q 163 (nR f v)*F)) w':=by
 obtain⟨P1,hP1⟩: ∃ P,ai f.birth 8=P:=⟨_,rfl⟩;obtain⟨P2,hP2⟩: ∃ P,ai f.life 8=P:=⟨_,rfl⟩;obtain⟨P3,hP3⟩: ∃ P,ai p.length 2=P:=⟨_,rfl⟩;have l1:P1.length=8:=by rw[<-hP1,aw]
 have l2:P2.length=8:=by rw[<-hP2,aw]
 have l3:P3.length=2:=by rw[<-hP3,aw]
 obtain⟨H,hH⟩: ∃ H,H=P1++(P2++(P3++p)):=⟨_,rfl⟩;have hHl:H.length=18+p.length:=by rw[hH];simp only[List.length_append,l1,l2,l3];omega
 have HFr:Hid ((bB f.birth f.life p).map bv=H.map bv++ea (512 - H.length)):=by
  unfold Hid bB;rw[hP1,hP2,hP3, <-hH,zD]
 have hb0:Hid (f.birth<18446744073709551616):=hb;have hli0:Hid (f.life<18446744073709551616):=hli;have hwp:IntKind.u64.wrap (p.length:Int)=p.length:=by rw[IntKind.wrap_u64];omega
 have hH512:H.length<=498:=by omega
 have hsub:(512:Int) - (H.length:Int)=((512 - H.length:Nat):Int):=by omega
 have hH0:0<H.length:=by omega
 have HH:=ah hH;have HP1:=ah hP1;have HP2:=ah hP2;have HP3:=ah hP3;have HS:=ah h.drew;have HR:=ah hp;have HC:Hid (ao No w w.drew):=(ao.refl No w).drew;clear h hP1 hP2 hP3 l1 l2 l3 hH hHl hp hb hli;go_enter Tryz.func150, Tryz.ntmps150;go_upto_region 1 with fail;refine wp_region_held_drew (S:=fun w'=>w'.cell? ⟨q,3,none⟩=some (.int .u64 (f.birth:Int))/\w'.cell? ⟨q,4,none⟩=some (.int .u64 (f.life:Int))) (by kernel_rfl) ⟨HS.o.cell 3,HS.o.cell 4⟩ ?_;intro hS0;refine an 0 1 2 3 ?_;refine an 5 6 7 8 ?_;refine an 10 11 12 14 ?_;refine bC 4 fun K hK=>?_
 go_simp;go_at_call 117;refine(jY f.birth 8 8 rfl hb0.o (by omega) (by omega) w0 w.drew _ HS.o P1 HP1.o).mono ?_;rintro y w4 ⟨A4,c4,rfl,hs⟩;replace HS:=ah hs;clear hs
 refine hK.out _ _ ⟨HS.o.ay.cell 3,HS.o.ay.cell 4⟩ (fun hS0=>?_);clear hK K;refine bC 9 fun K hK=>?_
 go_simp;go_at_call 117;refine(jY f.life 8 8 rfl hli0.o (by omega) (by omega) w0 w4 _ HS.o P2 HP2.o).mono ?_;rintro y w9 ⟨A9,c9,rfl,hs⟩;replace HS:=ah hs;clear hs
 refine hK.out _ _ ⟨HS.o.bp.cell 3,HS.o.bp.cell 4⟩ (fun hS0=>?_);clear hK K;refine bC 13 fun K hK=>?_
 go_simp;go_at_call 117;refine(jY p.length 2 2 rfl (by omega) (by omega) (by omega) w0 w9 _ HS.o P3 HP3.o).mono ?_;rintro y w13 ⟨A13,c13,rfl,hs⟩;replace HS:=ah hs;clear hs
 refine hK.out _ _ ⟨HS.o.bL.cell 3,HS.o.bL.cell 4⟩ (fun hS0=>?_);clear hK K;refine bC 15 fun K hK=>?_
 go_simp;have hs:=HS.o.ab 41 #[.slice A4 P1.length c4,.slice A9 P2.length c9,.slice A13 P3.length c13,.slice A p.length c];revert hs;generalize World.alloc w13 _=w15;generalize w13.heap.size=B15;intro hs;replace HS:=ah hs;clear hs;refine hK.out _ _ ⟨HS.o.fN.cell 3,HS.o.fN.cell 4⟩ (fun hS0=>?_);clear hK K;refine bC 16 fun K hK=>?_
 go_simp;go_at_call 61;refine(vt (some ⟨B15,0,none⟩) 4 4 [(A4,c4,P1),(A9,c9,P2),(A13,c13,P3),(A,c,p)] rfl w0 w15 _ HS.o ⟨aF.je HS.o.at (fun j hj=>by simp at hj;have:j=0\/j=1\/j=2\/j=3:=(by omega);rcases this with rfl | rfl | rfl | rfl<;>rfl),fun k hk=>by simp at hk;rcases hk with rfl | rfl | rfl | rfl;exact aF.bG HS.o.bL.aO;exact aF.bG HS.o.bp.aO;exact aF.bG HS.o.ay.aO;exact HR.o _ HS.o.right.right.right.right.right⟩ H (by rw[HH.o];simp[bK]) (by omega) (by omega)).mono ?_;rintro y w16 ⟨A16,c16,rfl,hs⟩;replace HS:=ah hs;clear hs
 refine hK.out _ _ ⟨HS.o.Cd.cell 3,HS.o.Cd.cell 4⟩ (fun hS0=>?_);clear hK K;refine ca 17 ?_;refine wpAnyH_done (by kernel_rfl) ?_ _;go_upto_region 2 with fail;obtain⟨g,rfl,_⟩:=HS.o.qu hH0;obtain⟨j0,hj,hy0,hy1,hy2⟩:=info_parts kq;go_wp2_with (at_builtin;refine nP rfl (.tmp 23) (.tmp 26) 41 3 5 j0 rfl Tryz.underlying41 Tryz.underlying3 hj hy0 hy1 hy2 g H.length c16 (512 - H.length) (H.map bv) rfl rfl w0 _ HS.o (by omega) (by omega) ?_;intro A5 c5 w5 hs;replace HS:=ah hs;clear hs);go_ret;have e5:H.length+(512 - H.length)=512:=by omega
 have h9:=HS.o;rw[e5, <-HFr.o] at h9;exact⟨A5,c5,by rw[e5];rfl,h9.bo.bo.bo.bo⟩
end
section
variable {w0 w:World} {F:SP} {s d slot turn:Nat} {v:Value} {ps:List (Nat × Fl)} {D:Dk}
theorem rD {i:Nat} (h:i<ps.length) (x:Nat × Fl) (hx:x.1=ps[i].1):aP s d slot turn v (ps.set i x)*F=mV x.1 x.2*(Pt s 153 #[aS d,.int .i64 (slot:Int),.int .u64 (turn:Int),v]*(Row 155 1 v ps.length (ps.map fun x=>aS x.1)*(aW (ps.eraseIdx i)*F))):=by
 have e:(ps.set i x).map (fun y=>aS y.1)=ps.map fun y=>aS y.1:=by
  apply List.ext_getElem?;intro j;rw[List.getElem?_map,List.getElem?_map,List.getElem?_set];by_cases ej:i=j
  .subst ej;rw[if_pos rfl,if_pos h,List.getElem?_eq_getElem h,Option.map_some,Option.map_some,hx]
  .rw[if_neg ej]
 rw[dj,Hg h,List.length_set,e]
 ac_rfl
theorem uR (n:Int) (A:Option Addr) (c m:Nat) (h:Sat w0 (aP s d slot turn v ps*F) w) (hl:ps.length<=1000000) (hi:eP ps n=ps.length):
 Calls Tryz.prog 120 #[.pointer (some ⟨s,0,none⟩),.int .i64 n,.slice A m c] w fun e w'=>e = .returned (.int .i64 34)/\w=w':=by
 have HF:=eb n h hl;rw[hi,List.getElem?_eq_none (Nat.le_refl _)] at HF;have HF:=ah HF;clear h hi;go_enter Tryz.func120, Tryz.ntmps120;go_wp2_with (go_at_call 103;(with_reducible refine HF.o.mono ?_);rintro x wx ⟨rfl,rfl⟩;unfold mY;dsimp only);go_ret;exact⟨rfl,rfl⟩
theorem wG (n:Int) (A:Option Addr) (c m:Nat) (h:Sat w0 (aP s d slot turn v ps*F) w) (hl:ps.length<=1000000) {i:Nat} (hi:i<ps.length) (he:eP ps n=i) (hm:480<m):
 Calls Tryz.prog 120 #[.pointer (some ⟨s,0,none⟩),.int .i64 n,.slice A m c] w fun e w'=>e = .returned (.int .i64 35)/\w=w':=by
 have HF:=eb n h hl;rw[he,List.getElem?_eq_getElem hi] at HF;have HF:=ah HF;have hm2:(480:Int)<m:=by omega
 clear h he hm;go_enter Tryz.func120, Tryz.ntmps120;go_wp2_with (go_at_call 103;(with_reducible refine HF.o.mono ?_);rintro x wx ⟨rfl,rfl⟩;unfold mY aS;dsimp only);go_ret;exact⟨rfl,rfl⟩
theorem yx (n:Int) (A:Option Addr) (c m:Nat) (h:Sat w0 (aP s d slot turn v ps*F) w) (hl:ps.length<=1000000) {i:Nat} (hi:i<ps.length) (he:eP ps n=i) (hm:m<=480) (hf:ps[i].2.aa.length=ps[i].2.blocks):
 Calls Tryz.prog 120 #[.pointer (some ⟨s,0,none⟩),.int .i64 n,.slice A m c] w fun e w'=>e = .returned (.int .i64 36)/\Sat w0 (aP s d slot turn v ps*F) w':=by
 have HF:=eb n h hl;rw[he,List.getElem?_eq_getElem hi] at HF;have HF:=ah HF;have HS:=ah h;obtain⟨u,ks,hks,hg,B,c2,rfl,hu⟩:=h.po hi;have g2:=hg.2.2.1;have g5:=hg.2.2.2.2.2;have hkl:ks.length=ps[i].2.aa.length:=by rw[<-hks,bK,List.length_map]
 rw[hkl,hf] at g5;have hm2:¬ (480:Int)<m:=by omega
 clear h hg hu hks he hkl hf hm;generalize ps[i].2.blocks=b at*
 go_enter Tryz.func120, Tryz.ntmps120;go_upto_region 6 with (go_at_call 103;(with_reducible refine HF.o.mono ?_);rintro x wx ⟨rfl,rfl⟩;unfold mY aS;dsimp only)
 go_region
 all_goals
  go_wp2_with fail;go_ret;exact⟨rfl,by first | exact HS.o | exact HS.o.drew⟩
theorem Sat.Ll {A B C D' E G H I:SP} (h:Sat w0 (A*(B*(C*(D'*(E*(G*(H*(I*F)))))))) w):Sat w0 (I*(A*(B*(C*(D'*(E*(G*(H*F)))))))) w:=h.of (by ac_rfl)
theorem Sat.Lo {A B C D' E G H I:SP} (h:Sat w0 (I*(A*(B*(C*(D'*(E*(G*(H*F)))))))) w):Sat w0 (A*(B*(C*(D'*(E*(G*(H*(I*F)))))))) w:=h.of (by ac_rfl)
def KF (w0:World) (F:SP) (s d slot turn:Nat) (v:Value) (ps:List (Nat × Fl)) (i:Nat) (hi:i<ps.length) (p:List UInt8) (r:Dk × Int) (e:Ending) (w':World):Prop:=
 e = .returned (.int .i64 r.2)/\Sat w0 (aP s d slot turn v (if r.2=0 then ps.set i (ps[i].1,{ ps[i].2 with aa:=ps[i].2.aa++[p] }) else ps)*(af d r.1*F)) w'
theorem tI (n:Int) (A:Option Addr) (c:Nat) (p:List UInt8) (h:Sat w0 (aP s d slot turn v ps*(af d D*F)) w) (hp: ∀ W,Sat w0 F W->Rd W A p) (hl:ps.length<=1000000) {i:Nat} (hi:i<ps.length) (he:eP ps n=i) (hm:p.length<=480) (hf:ps[i].2.aa.length<ps[i].2.blocks) (hfb:ps[i].2.first+ps[i].2.blocks<=65536)
 (hb:ps[i].2.birth<18446744073709551616) (hli:ps[i].2.life<18446744073709551616) (hw1:D.writes<=1000000000) (hw2:D.pend.length<=1000000000) (hw3:D.armed<=9223372036854775807):
 Calls Tryz.prog 120 #[.pointer (some ⟨s,0,none⟩),.int .i64 n,.slice A p.length c] w (KF w0 F s d slot turn v ps i hi p (D.write ((ps[i].2.first+ps[i].2.aa.length:Nat):Int) (bB ps[i].2.birth ps[i].2.life p))):=by
 obtain⟨i0,hi0',hz0',hz1',hz2'⟩:=info_parts AF;have hi0:=ah hi0';have hz0:=ah hz0';have hz1:=ah hz1';have hz2:=ah hz2';obtain⟨q,hq0⟩: ∃ q,q=ps[i].1:=⟨_,rfl⟩;have HF:Hid (Calls Tryz.prog 103 #[.pointer (some ⟨s,0,none⟩),.int .i64 n] w fun e w'=>e = .returned (.pointer (some ⟨q,0,none⟩))/\w=w'):=(eb n h hl).mono fun e w' ⟨h1,h2⟩=>⟨by rw[h1,he,List.getElem?_eq_getElem hi,hq0];rfl,h2⟩
 obtain⟨v5,ks,hks,hfl⟩:=(h.of (fE hi)).fl;obtain⟨B,bc,rfl,hu1,hu2⟩:=hfl.ay.bm;have hkl:ks.length=ps[i].2.aa.length:=by rw[<-hks,bK,List.length_map]
 obtain⟨N,hN⟩: ∃ N,N=ps[i].2.aa.length:=⟨_,rfl⟩;have hkN:ks.length=N:=hkl.trans hN.symm;obtain⟨f,hf0⟩: ∃ f,f=ps[i].2:=⟨_,rfl⟩;obtain⟨bl,hbl⟩: ∃ b,b=bB f.birth f.life p:=⟨_,rfl⟩;have hbl5:bl.length=512:=by rw[hbl];exact nr hm
 obtain⟨J,hJ⟩: ∃ J,J=ps[i].2.first+ps[i].2.aa.length:=⟨_,rfl⟩;have hJn:(ps[i].2.first:Int)+(ks.length:Int)=(J:Int):=by omega
 have hwJ:IntKind.i64.wrap (J:Int)=J:=by rw[IntKind.wrap_i64];omega
 have hJs:J<=65536:=by omega
 have hk16:ks.length<=65536:=by omega
 obtain⟨R,hR⟩: ∃ R,R=D.write (J:Int) bl:=⟨_,rfl⟩;rw[<-hJ, <-hf0, <-hbl, <-hR];rw[<-hf0] at hb hli hJn hf;rw[<-hf0, <-hq0] at hfl;obtain⟨G,hG⟩: ∃ G,G=Pt s 153 #[aS d,.int .i64 (slot:Int),.int .u64 (turn:Int),v]*(Row 155 1 v ps.length (ps.map fun x=>aS x.1)*aW (ps.eraseIdx i)):=⟨_,rfl⟩;have HS:Hid (Sat w0 (Pt q 163 (nR f (.slice B ks.length bc))*(Row 41 1 (.slice B ks.length bc) ks.length (ks.map aI)*(cd ks*(Pt s 153 #[aS d,.int .i64 (slot:Int),.int .u64 (turn:Int),v]*(Row 155 1 v ps.length (ps.map fun x=>aS x.1)*(aW (ps.eraseIdx i)*(af d D*F))))))) w):=hfl;have HHp:=ah hp;have HKs:=ah hks;have Hf0:=ah hf0;have Hq0:=ah hq0;have HBl:=ah hbl;have HR:=ah hR;have HG:=ah hG;have hb0:Hid (f.birth<18446744073709551616):=hb;have hli0:Hid (f.life<18446744073709551616):=hli;have HW:Hid (∀ (X:SP) (W:World) (A:Option Addr) (c:Nat),Sat w0 (af d D*X) W->Rd W A bl->Calls Tryz.prog 131 #[.pointer (some ⟨d,0,none⟩),.int .i64 (J:Int),.slice A 512 c] W fun e w'=>e = .returned (.int .i64 R.2)/\Sat w0 (af d R.1*X) w'):=fun X W A c hX hA=>by
  have h9:=sh d D (J:Int) A c bl w0 W X hX hA (by omega) hw1 hw2 hw3;unfold zC at h9;rw[hbl5, <-hR] at h9;exact h9
 have hnf:¬ ((ks.length:Nat):Int)=(f.blocks:Int):=by rw[<-hf0] at hkl;omega
 have hm2:¬ (480:Int)<p.length:=by omega
 clear h hfl hks hf0 hq0 hbl hR hG hb hli hp hkl hi0' hz0' hz1' hz2' he hw1 hw2 hw3 hN hkN hJ hf hfb hbl5;have y0:w.cell? ⟨s,0,none⟩=some (.pointer (some ⟨d,0,none⟩)):=HS.o.bL.cell 0;have y1:w.cell? ⟨q,1,none⟩=some (.int .i64 (f.first:Int)):=HS.o.cell 1;have y2:w.cell? ⟨q,2,none⟩=some (.int .i64 (f.blocks:Int)):=HS.o.cell 2;have y5:w.cell? ⟨q,5,none⟩=some (.slice B ks.length bc):=HS.o.cell 5;go_enter Tryz.func120, Tryz.ntmps120;go_upto_region 6 with (go_at_call 103;(with_reducible refine HF.o.mono ?_);rintro x wx ⟨rfl,rfl⟩)
 go_region
 go_upto_region 8 with fail;replace HS:=ah HS.o.drew.drew;clear y0 y1 y2 y5;refine wp_region_held_drew (S:=fun w'=>w'.cell? ⟨s,0,none⟩=some (.pointer (some ⟨d,0,none⟩))/\w'.cell? ⟨q,1,none⟩=some (.int .i64 (f.first:Int))/\w'.cell? ⟨q,5,none⟩=some (.slice B ks.length bc)) (by kernel_rfl) ⟨HS.o.bL.cell 0,HS.o.cell 1,HS.o.cell 5⟩ ?_;intro hS0;refine an 0 1 2 3 ?_;refine an 4 5 6 7 ?_;refine an 8 9 10 11 ?_;refine an 12 13 14 15 ?_;refine ca 16 ?_;refine bC 17 fun K hK=>?_
 go_simp;go_at_call 150;refine(CC q A c p HS.o (fun W hW=>HHp.o W hW.right.right.right.right.right.right) hm hb0.o hli0.o).mono ?_;rintro y w17 ⟨B17,d17,rfl,hs⟩;rw[<-HBl.o] at hs;replace HS:=ah hs;clear hs
 refine hK.out _ _ ⟨HS.o.fN.cell 0,HS.o.ay.cell 1,HS.o.ay.cell 5⟩ (fun hS0=>?_);clear hK K;refine bC 18 fun K hK=>?_
 go_simp;go_at_call 131;refine(HW.o _ w17 B17 d17 HS.o.Ll (aF.bG HS.o.aO)).mono ?_;rintro y w18 ⟨rfl,hs⟩;replace HS:=ah (hs.Lo);clear hs
 refine hK.out _ _ ⟨HS.o.fN.cell 0,HS.o.ay.cell 1,HS.o.ay.cell 5⟩ (fun hS0=>?_);clear hK K;refine ca 19 ?_;refine wpAnyH_done (by kernel_rfl) ?_ _;replace HS:=ah HS.o.right;have HCl:Hid (∀ (W:World) (V:Value) (rs:bY) (D3:Dk),bK rs=f.aa->Sat w0 (Pt q 163 (nR f V)*(Row 41 1 V rs.length (rs.map aI)*(cd rs*(Pt s 153 #[aS d,.int .i64 (slot:Int),.int .u64 (turn:Int),v]*(Row 155 1 v ps.length (ps.map fun x=>aS x.1)*(aW (ps.eraseIdx i)*(af d D3*F))))))) W->Sat w0 (aP s d slot turn v ps*(af d D3*F)) W):=fun W V rs D3 ht hW=>by
  refine(Sat.ID ht hW).of ?_;rw[fE hi,Hf0.o,Hq0.o]
 by_cases hr:R.2=0
 .have hr2:¬ R.2≠0:=by omega
  go_upto_region 11 with fail;have y5:w18.cell? ⟨q,5,none⟩=some (.slice B ks.length bc):=HS.o.cell 5;have HC:=ah (ez A c p w18.drew (HHp.o _ HS.o.drew.right.right.right.right.right.right.right) (by omega));go_region_law (first
   | (go_simp;go_at_call 104;(with_reducible refine HC.o.mono ?_);rintro e w6 ⟨v6,rfl,h6,_,k6⟩;have hs:=HS.o.drew.dP k6 h6;obtain⟨A6,c6,hv6,_⟩:=hs.bm;subst hv6;have HS6:=ah (hs.ed (l:=p));have z5:w6.cell? ⟨q,5,none⟩=some (.slice B ks.length bc):=HS6.o.ay.cell 5;have z6: ∀ o,(w6.alloc o).cell? ⟨q,5,none⟩=some (.slice B ks.length bc):=(fun o=>(HS6.o.aD o).ay.cell 5);clear hs h6 k6)
   | (refine aQ rfl (.tmp 57) (.tmp 60) 87 rfl 41 i0 _ 1 24 Tryz.underlying87 hi0.o hz0.o hz1.o hz2.o rfl (by decide) (.slice B ks.length bc) ks.length (ks.map aI) rfl w0 _ (by exact(HS6.o.aD _).bp) (some ⟨w6.heap.size,0,none⟩) 1 1 [aI (A6,c6,p)] rfl (aR _ _ _) rfl (jd _) (by unfold maxLen;omega) (by omega) ?_;intro A8 c8 w8 hs;have HS8:=ah hs.bp;have c1:w8.cell? ⟨q,5,none⟩=some (.slice B ks.length bc):=hs.bp.cell 5;have f1:=hs.bp.frozen 5;clear hs))
  all_goals
   have h5:=HS8.o.set 5 (.slice A8 (ks.length+1) c8);clear c1 f1;revert h5;generalize World.setCell _ _ _=w9;intro h5;have HS9:Hid (Sat w0 (Pt q 163 (nR { f with aa:=f.aa++[p] } (.slice A8 (ks.length+1) c8))*(Row 41 1 (.slice A8 (ks.length+1) c8) (ks.length+1) (ks.map aI++[aI (A6,c6,p)])*(cd [(A6,c6,p)]*(cd ks*(Pt s 153 #[aS d,.int .i64 (slot:Int),.int .u64 (turn:Int),v]*(Row 155 1 v ps.length (ps.map fun x=>aS x.1)*(aW (ps.eraseIdx i)*(af d R.1*F)))))))) w9):=h5;clear h5;go_wp2_with fail;go_ret;refine⟨by rw[hr];rfl,?_⟩;rw[if_pos hr,rD hi (ps[i].1,{ ps[i].2 with aa:=ps[i].2.aa++[p] }) rfl];have ht:bK (ks++[(A6,c6,p)])=({ f with aa:=f.aa++[p] }:Fl).aa:=by
    unfold bK;rw[List.map_append];show bK ks++[p]=f.aa++[p];rw[HKs.o,Hf0.o]
   have h9:=Sat.ID (ks:=ks++[(A6,c6,p)]) (v:= .slice A8 (ks.length+1) c8) ht (HS9.o.of (by
    show _=_*(Row _ 1 _ (ks++[(A6,c6,p)]).length _*(cd (ks++[(A6,c6,p)])*(Pt s 153 #[aS d,.int .i64 (slot:Int),.int .u64 (turn:Int),v]*(Row 155 1 v ps.length (ps.map fun x=>aS x.1)*(aW (ps.eraseIdx i)*(af d R.1*F))))));rw[List.length_append,List.map_append, <-ir];show _=_*(Row _ 1 _ (ks.length+1) (ks.map aI++[aI (A6,c6,p)])*_)
    ac_rfl))
   rw[Hf0.o,Hq0.o] at h9;exact h9
 .go_wp2_with fail;go_ret;refine⟨rfl,?_⟩;rw[if_neg hr];exact HCl.o _ _ ks _ (HKs.o.trans (by rw[Hf0.o])) HS.o
end
section
variable {w0 w:World} {F:SP}
theorem kI {b:Nat} {t:TypeId} {fr:Nat × Nat} {l:List UInt8} (h:Sat w0 (Ow b (.cells (l.map bv).toArray t fr)*F) w):Rd w (some ⟨b,0,none⟩) l:=fun _=>
 ⟨b,0,rfl,fun j hj=>by
  rw[cell_of_row w b (0+j) _ t fr h.block,Nat.zero_add,List.getElem?_toArray,List.getElem?_eq_getElem hj]⟩
def kR (turn n:Nat) (hs:List Hd) (k:Nat):List UInt8:=lM++(ai turn 8++(ai n 1++((hs.take k).map Ej).flatten))
theorem ym {turn n:Nat} {hs:List Hd} {k:Nat} (h:k<hs.length):kR turn n hs (k+1)=kR turn n hs k++Ej hs[k]:=by
 unfold kR;rw[List.take_succ_eq_append_getElem h,List.map_append,List.flatten_append];simp
theorem nw {turn n:Nat} {hs:List Hd} {k:Nat} (h:k<=hs.length):(kR turn n hs k).length=13+20*k:=by
 unfold kR;simp only[List.length_append,aw,nf,List.length_take,Nat.min_eq_left h];show 4+_=_;omega
theorem BF (turn:Nat) (hs:List Hd):kR turn hs.length hs hs.length=nW turn hs:=by
 unfold kR nW;rw[List.take_length]
theorem DI (A:Option Addr) (c:Nat) (gs:List (Nat × Fl)) (turn:Nat) (h:Sat w0 (aW gs*F) w) (hA: ∀ W,Sat w0 (aW gs*F) W->aF W A (gs.map fun x=>aS x.1)) (hn:gs.length<=24) (ht:turn<18446744073709551616) (ho: ∀ x ∈ gs,oK x.2.hd):
 Calls Tryz.prog 132 #[.int .u64 (turn:Int),.slice A gs.length c] w fun e w'=> ∃ B d,e = .returned (.slice B 512 d)/\Sat w0 (Row 5 1 (.slice B 512 d) 512 ((bN turn (gs.map fun x=>x.2.hd)).map bv)*(aW gs*F)) w':=by
 have hcv:=fun (W:World) (C:Array Value) (n c:Nat)=>Lib.run_convert_bytes_const (P:= Tryz.prog) W 41 5 C n c Tryz.underlying41 Tryz.underlying5
 obtain⟨P8,hP8⟩: ∃ P,ai turn 8=P:=⟨_,rfl⟩;obtain⟨P1,hP1⟩: ∃ P,ai gs.length 1=P:=⟨_,rfl⟩;have l8:P8.length=8:=by rw[<-hP8,aw]
 have l1:P1.length=1:=by rw[<-hP1,aw]
 obtain⟨hs,hhs⟩: ∃ hs,hs=gs.map fun x=>x.2.hd:=⟨_,rfl⟩;have hsl:hs.length=gs.length:=by rw[hhs,List.length_map]
 obtain⟨H0,hH0⟩: ∃ H0,H0=kR turn gs.length hs 0:=⟨_,rfl⟩;have hH0l:H0.length=13:=by rw[hH0,nw (Nat.zero_le _)]
 have HH0:Hid (H0=lM++(P8++P1)):=by unfold Hid;rw[hH0];unfold kR;rw[hP8,hP1];simp
 have HH0e:=ah hH0;have HHs:=ah hhs;have HSl:=ah hsl;have HP8:=ah hP8;have HP1:=ah hP1;have HA:=ah hA;have HO:=ah ho;have ht0:Hid (turn<18446744073709551616):=ht;have hwn:IntKind.u64.wrap (gs.length:Int)=gs.length:=by rw[IntKind.wrap_u64];omega
 have HS0:Hid (Sat w0 (Ow w.heap.size (.cells #[.int .u8 84,.int .u8 68,.int .u8 88,.int .u8 49] 5 (4,5))*(aW gs*F)) (w.alloc (.cells #[.int .u8 84,.int .u8 68,.int .u8 88,.int .u8 49] 5 (4,5)))):=h.alloc _;have hH0m:H0.length<=140737488355328:=by omega
 have HC8:Hid (∀ (X:SP) (W:World),Sat w0 X W->Calls Tryz.prog 117 #[.int .u64 (turn:Int),.int .i64 8] W fun e w'=> ∃ A c,e = .returned (.slice A P8.length c)/\Sat w0 (Row 5 1 (.slice A P8.length c) P8.length (P8.map bv)*X) w'):=fun X W hX=>jY turn 8 8 rfl ht (by omega) (by omega) w0 W X hX P8 hP8
 have HC1:Hid (∀ (X:SP) (W:World),Sat w0 X W->Calls Tryz.prog 117 #[.int .u64 (gs.length:Int),.int .i64 1] W fun e w'=> ∃ A c,e = .returned (.slice A P1.length c)/\Sat w0 (Row 5 1 (.slice A P1.length c) P1.length (P1.map bv)*X) w'):=fun X W hX=>jY gs.length 1 1 rfl (by omega) (by omega) (by omega) w0 W X hX P1 hP1
 clear hH0l h hA ho hP8 hP1 l8 l1 hhs hsl hH0 ht;go_enter Tryz.func132, Tryz.ntmps132;go_upto_region 2 with (first
  | (go_at_call 117;(with_reducible refine(HC8.o _ _ HS0.o).mono ?_);rintro y w1 ⟨A1,c1,rfl,hs1⟩;have HS1:=ah hs1;clear hs1)
  | (go_at_call 117;(with_reducible refine(HC1.o _ _ HS1.o).mono ?_);rintro y w2 ⟨A2,c2,rfl,hs2⟩;have HS2:=ah (hs2.ab 41 #[.slice (some ⟨w.heap.size,0,none⟩) 4 4,.slice A1 P8.length c1,.slice A2 P1.length c2]);clear hs2;have HJ:=ah (vt (some ⟨w2.heap.size,0,none⟩) 3 3 [(some ⟨w.heap.size,0,none⟩,4,lM),(A1,c1,P8),(A2,c2,P1)] rfl w0 _ _ HS2.o ⟨aF.je HS2.o.at (fun j hj=>by simp at hj;have:j=0\/j=1\/j=2:=(by omega);rcases this with rfl | rfl | rfl<;>rfl),fun k hk=>by simp at hk;rcases hk with rfl | rfl | rfl;exact kI (l:=lM) HS2.o.bL;exact aF.bG HS2.o.bp.aO;exact aF.bG HS2.o.ay.aO⟩ H0 (by rw[HH0.o];simp[bK]) hH0m (by omega)))
  | (go_at_call 61;(with_reducible refine HJ.o.mono ?_);rintro y w3 ⟨A3,c3,rfl,hs3⟩;have HS3:=ah hs3.bo.bo.bo.bo;clear hs3))
 go_wp2_with fail;go_loopw [5,7,20] (fun bw _ iv wr=> ∃ (k:Nat) (B:Option Addr) (d:Nat) (X:List UInt8),k<=gs.length/\bw = .slice B X.length d/\iv = .int .i64 (k:Int)/\Hid (X=kR turn gs.length hs k/\Sat w0 (Row 5 1 (.slice B X.length d) X.length (X.map bv)*(aW gs*F)) wr)) (fun _ _ iv _=>gs.length - (intOf iv).toNat)
 case atStart=>exact⟨0,A3,c3,H0,by omega,rfl,rfl,HH0e.o,HS3.o⟩
 case round=>
  obtain⟨k,B,d,X,hk,rfl,rfl,HD⟩:=hrel;by_cases hlt:k<gs.length
  .obtain⟨b,o,rfl,hc⟩:=lp (HA.o wr HD.o.2.right) hlt;have hk2:(k:Int)<gs.length:=by omega
   have hXl:X.length=13+20*k:=by rw[HD.o.1,nw (by rw[HSl.o];exact hk)]
   obtain⟨o1,o2,o3,o4⟩:=HO.o gs[k] (List.getElem_mem hlt);obtain⟨f,hf0⟩: ∃ f,f=gs[k].2:=⟨_,rfl⟩;obtain⟨q,hq0⟩: ∃ q,q=gs[k].1:=⟨_,rfl⟩;have hsk:hs[k]'(by rw[HSl.o];exact hlt)=f.hd:=by simp only[HHs.o,List.getElem_map,hf0]
   rw[<-hq0] at hc;rw[<-hf0] at o1 o2 o3 o4;obtain⟨v5,ks,hks,hfl⟩:=Sat.fl (p:=q) (f:=f) ((HD.o.2.ay.of (show _=mV q f*(Row 5 1 (.slice B X.length d) X.length (X.map bv)*(aW (gs.eraseIdx k)*F)) by rw[lX hlt, <-hf0, <-hq0];ac_rfl)));obtain⟨Pa,hPa⟩: ∃ P,ai f.num 4=P:=⟨_,rfl⟩;obtain⟨Pb,hPb⟩: ∃ P,ai f.first 4=P:=⟨_,rfl⟩;obtain⟨Pc,hPc⟩: ∃ P,ai f.blocks 4=P:=⟨_,rfl⟩;obtain⟨Pd,hPd⟩: ∃ P,ai f.birth 8=P:=⟨_,rfl⟩;obtain⟨Y,hY⟩: ∃ Y,Y=X++(Pa++(Pb++(Pc++Pd))):=⟨_,rfl⟩;have hYl:Y.length<=140737488355328:=by rw[hY, <-hPa, <-hPb, <-hPc, <-hPd];simp only[List.length_append,aw];omega
   have HYk:Hid (Y=kR turn gs.length hs (k+1)):=by
    unfold Hid;rw[ym (by rw[HSl.o];exact hlt),hsk,hY, <-HD.o.1];unfold Ej Fl.hd;simp only[hPa,hPb,hPc,hPd]
   have n1:f.num<4294967296:=o1;have n2:f.first<4294967296:=o2;have n3:f.blocks<4294967296:=o3;have n4:Hid (f.birth<18446744073709551616):=o4;have w1':IntKind.u64.wrap (f.num:Int)=f.num:=by rw[IntKind.wrap_u64];omega
   have w2':IntKind.u64.wrap (f.first:Int)=f.first:=by rw[IntKind.wrap_u64];omega
   have w3':IntKind.u64.wrap (f.blocks:Int)=f.blocks:=by rw[IntKind.wrap_u64];omega
   have HCa:Hid (∀ (X:SP) (W:World),Sat w0 X W->Calls Tryz.prog 117 #[.int .u64 (f.num:Int),.int .i64 4] W fun e w'=> ∃ A c,e = .returned (.slice A Pa.length c)/\Sat w0 (Row 5 1 (.slice A Pa.length c) Pa.length (Pa.map bv)*X) w'):=fun X W hX=>jY f.num 4 4 rfl (by omega) (by omega) (by omega) w0 W X hX Pa hPa
   have HCb:Hid (∀ (X:SP) (W:World),Sat w0 X W->Calls Tryz.prog 117 #[.int .u64 (f.first:Int),.int .i64 4] W fun e w'=> ∃ A c,e = .returned (.slice A Pb.length c)/\Sat w0 (Row 5 1 (.slice A Pb.length c) Pb.length (Pb.map bv)*X) w'):=fun X W hX=>jY f.first 4 4 rfl (by omega) (by omega) (by omega) w0 W X hX Pb hPb
   have HCc:Hid (∀ (X:SP) (W:World),Sat w0 X W->Calls Tryz.prog 117 #[.int .u64 (f.blocks:Int),.int .i64 4] W fun e w'=> ∃ A c,e = .returned (.slice A Pc.length c)/\Sat w0 (Row 5 1 (.slice A Pc.length c) Pc.length (Pc.map bv)*X) w'):=fun X W hX=>jY f.blocks 4 4 rfl (by omega) (by omega) (by omega) w0 W X hX Pc hPc
   have HCd:Hid (∀ (X:SP) (W:World),Sat w0 X W->Calls Tryz.prog 117 #[.int .u64 (f.birth:Int),.int .i64 8] W fun e w'=> ∃ A c,e = .returned (.slice A Pd.length c)/\Sat w0 (Row 5 1 (.slice A Pd.length c) Pd.length (Pd.map bv)*X) w'):=fun X W hX=>jY f.birth 8 8 rfl o4 (by omega) (by omega) w0 W X hX Pd hPd
   have HS:=ah hfl.drew;have HKs:=ah hks;have Hf0:=ah hf0;have Hq0:=ah hq0;have HY:=ah hY;clear hfl hks hf0 hq0 hY hPa hPb hPc hPd hsk hXl o1 o2 o3 o4 n1 n2 n3;go_upto_region 5 with fail;refine wp_region_held_drew (S:=fun w'=>w'.cell? ⟨q,0,none⟩=some (.int .i64 (f.num:Int))/\w'.cell? ⟨q,1,none⟩=some (.int .i64 (f.first:Int))/\w'.cell? ⟨q,2,none⟩=some (.int .i64 (f.blocks:Int))/\w'.cell? ⟨q,3,none⟩=some (.int .u64 (f.birth:Int))) (by kernel_rfl) ⟨HS.o.cell 0,HS.o.cell 1,HS.o.cell 2,HS.o.cell 3⟩ ?_;intro hS0;refine an 0 1 2 3 ?_;refine an 4 5 6 8 ?_;refine an 9 10 11 12 ?_;refine an 13 15 16 17 ?_;refine an 18 19 20 22 ?_;refine cw 23 24 ?_;refine ca 25 ?_;refine bC 7 fun K hK=>?_
   go_simp;go_at_call 117;(with_reducible refine(HCa.o _ _ HS.o).mono ?_);rintro y w7 ⟨A7,c7,rfl,hs⟩;replace HS:=ah hs;clear hs
   refine hK.out _ _ ⟨HS.o.ay.cell 0,HS.o.ay.cell 1,HS.o.ay.cell 2,HS.o.ay.cell 3⟩ (fun hS0=>?_);clear hK K;refine bC 14 fun K hK=>?_
   go_simp;go_at_call 117;(with_reducible refine(HCb.o _ _ HS.o).mono ?_);rintro y w14 ⟨A14,c14,rfl,hs⟩;replace HS:=ah hs;clear hs
   refine hK.out _ _ ⟨HS.o.bp.cell 0,HS.o.bp.cell 1,HS.o.bp.cell 2,HS.o.bp.cell 3⟩ (fun hS0=>?_);clear hK K;refine bC 21 fun K hK=>?_
   go_simp;go_at_call 117;(with_reducible refine(HCc.o _ _ HS.o).mono ?_);rintro y w21 ⟨A21,c21,rfl,hs⟩;replace HS:=ah hs;clear hs
   refine hK.out _ _ ⟨HS.o.bL.cell 0,HS.o.bL.cell 1,HS.o.bL.cell 2,HS.o.bL.cell 3⟩ (fun hS0=>?_);clear hK K;refine bC 26 fun K hK=>?_
   go_simp;go_at_call 117;(with_reducible refine(HCd.o _ _ HS.o).mono ?_);rintro y w26 ⟨A26,c26,rfl,hs⟩;replace HS:=ah hs;clear hs
   refine hK.out _ _ ⟨HS.o.fN.cell 0,HS.o.fN.cell 1,HS.o.fN.cell 2,HS.o.fN.cell 3⟩ (fun hS0=>?_);clear hK K;refine bC 27 fun K hK=>?_
   go_simp;have hs:=HS.o.ab 41 #[.slice B X.length d,.slice A7 Pa.length c7,.slice A14 Pb.length c14,.slice A21 Pc.length c21,.slice A26 Pd.length c26];revert hs;generalize World.alloc w26 _=w27;generalize w26.heap.size=B27;intro hs;replace HS:=ah hs;clear hs;refine hK.out _ _ ⟨HS.o.Cd.cell 0,HS.o.Cd.cell 1,HS.o.Cd.cell 2,HS.o.Cd.cell 3⟩ (fun hS0=>?_);clear hK K;refine bC 28 fun K hK=>?_
   go_simp;have HJ9:=ah (vt (some ⟨B27,0,none⟩) 5 5 [(B,d,X),(A7,c7,Pa),(A14,c14,Pb),(A21,c21,Pc),(A26,c26,Pd)] rfl w0 w27 _ HS.o ⟨aF.je HS.o.at (fun j hj=>by simp at hj;have:j=0\/j=1\/j=2\/j=3\/j=4:=(by omega);rcases this with rfl | rfl | rfl | rfl | rfl<;>rfl),fun k hk=>by simp at hk;rcases hk with rfl | rfl | rfl | rfl | rfl;exact aF.bG HS.o.right.right.right.Cd.aO;exact aF.bG HS.o.fN.aO;exact aF.bG HS.o.bL.aO;exact aF.bG HS.o.bp.aO;exact aF.bG HS.o.ay.aO⟩ Y (by rw[HY.o];simp[bK]) hYl (by omega));go_at_call 61;(with_reducible refine HJ9.o.mono ?_);rintro y w28 ⟨A28,c28,rfl,hs⟩;replace HS:=ah hs;clear hs HJ9;refine hK.out _ _ ⟨HS.o.right.Cd.cell 0,HS.o.right.Cd.cell 1,HS.o.right.Cd.cell 2,HS.o.right.Cd.cell 3⟩ (fun hS0=>?_);clear hK K;refine ca 29 ?_;refine wpAnyH_done (by kernel_rfl) ?_ _;go_wp2_with fail;go_roundw
   .refine⟨k+1,A28,c28,Y,by omega,rfl,by push_cast;rfl,HYk.o,?_⟩;have h9:=HS.o.bo.bo.bo.bo.bo;have h8:=Sat.ID HKs.o (h9.of (show _=Pt q 163 (nR f v5)*(Row 41 1 v5 ks.length (ks.map aI)*(cd ks*(Row 5 1 (.slice A28 Y.length c28) Y.length (Y.map bv)*(Row 5 1 (.slice B X.length d) X.length (X.map bv)*(aW (gs.eraseIdx k)*F))))) by ac_rfl));have h7:=(h8.bp.right).ay;refine h7.of ?_;rw[lX hlt,Hf0.o,Hq0.o]
    ac_rfl
   .simp[intOf];omega
  .obtain rfl:k=gs.length:=by omega
   have hk2:¬ ((gs.length:Nat):Int)<gs.length:=by omega
   have HX:Hid (X=nW turn hs):=by unfold Hid;rw[HD.o.1, <-BF,HSl.o]
   have hXl:X.length=13+20*gs.length:=by rw[HD.o.1,nw (by rw[HSl.o];exact Nat.le_refl _)]
   have hX0:0<X.length:=by omega
   have hXm:X.length<=493:=by omega
   have hsub:(512:Int) - (X.length:Int)=((512 - X.length:Nat):Int):=by omega
   have HFr:Hid ((bN turn hs).map bv=X.map bv++ea (512 - X.length)):=by unfold Hid bN;rw[zD,HX.o]
   have HS:=ah HD.o.2;clear hXl HD;go_upto_region 7 with fail;obtain⟨g,rfl,_⟩:=HS.o.qu hX0;obtain⟨j0,hj,hy0,hy1,hy2⟩:=info_parts kq;go_wp2_with (at_builtin;refine nP rfl (.tmp 54) (.tmp 57) 41 3 5 j0 rfl Tryz.underlying41 Tryz.underlying3 hj hy0 hy1 hy2 g X.length d (512 - X.length) (X.map bv) rfl rfl w0 _ HS.o (by omega) (by omega) ?_;intro A5 c5 w5 hs;replace HS:=ah hs;clear hs);go_ret;have e5:X.length+(512 - X.length)=512:=by omega
   have h9:=HS.o;rw[e5, <-HFr.o] at h9;exact⟨A5,c5,by rw[e5];rfl,by rw[<-HHs.o];exact h9⟩
end
section
variable {w0 w:World} {F:SP} {s d slot turn:Nat} {v V:Value} {gs:List (Nat × Fl)} {D:Dk}
theorem yy (D:Dk) (i:Int) (b:List UInt8):(D.write i b).1.pend.length<=D.pend.length+1:=by
 unfold Dk.write;split
 .split
  .show (D.pend++[_]).length<=_;rw[List.length_append];exact Nat.le_refl _
  .exact Nat.le_succ _
 .exact Nat.le_succ _
def gS (slot:Nat):Nat:=(slot+1) % 2
def gN (turn:Nat):Nat:=(turn+1) % 18446744073709551616
def Cl (d slot turn:Nat) (v V:Value) (ok:Bool):Array Value:=if ok then #[aS d,.int .i64 (gS slot:Int),.int .u64 (gN turn:Int),V] else #[aS d,.int .i64 (slot:Int),.int .u64 (turn:Int),v]
def Ka (w0:World) (F:SP) (s d slot turn:Nat) (v V:Value) (gs:List (Nat × Fl)) (R1 R2:Dk × Int) (e:Ending) (w':World):Prop:=
 (R1.2≠0/\e = .returned (.int .i64 R1.2)/\Sat w0 (Pt s 153 (Cl d slot turn v V false)*(Row 155 1 V gs.length (gs.map fun x=>aS x.1)*(aW gs*(af d R1.1*F)))) w')\/
 (R1.2=0/\R2.2≠0/\e = .returned (.int .i64 R2.2)/\Sat w0 (Pt s 153 (Cl d slot turn v V false)*(Row 155 1 V gs.length (gs.map fun x=>aS x.1)*(aW gs*(af d R2.1*F)))) w')\/
 (R1.2=0/\R2.2=0/\e = .returned (.int .i64 0)/\Sat w0 (Pt s 153 (Cl d slot turn v V true)*(Row 155 1 V gs.length (gs.map fun x=>aS x.1)*(aW gs*(af d R2.1*F)))) w')
theorem zK (h:Sat w0 (Pt s 153 #[aS d,.int .i64 (slot:Int),.int .u64 (turn:Int),v]*(Row 155 1 V gs.length (gs.map fun x=>aS x.1)*(aW gs*(af d D*F)))) w) (hn:gs.length<=24) (hsl:slot<2) (htu:turn<18446744073709551616) (ho: ∀ x ∈ gs,oK x.2.hd) (hw1:D.writes<=1000000000) (hw2:D.pend.length<=999999999) (hw3:D.armed<=9223372036854775807):
 Calls Tryz.prog 91 #[.pointer (some ⟨s,0,none⟩),V] w (Ka w0 F s d slot turn v V gs (D.write (gS slot:Int) (bN (gN turn) (gs.map fun x=>x.2.hd))) (D.write (gS slot:Int) (bN (gN turn) (gs.map fun x=>x.2.hd))).1.flush):=by
 obtain⟨A,c,rfl,hc1,hc2⟩:=h.ay.bm;obtain⟨b,hb⟩: ∃ b,b=bN (gN turn) (gs.map fun x=>x.2.hd):=⟨_,rfl⟩;have hbl:b.length=512:=by rw[hb];exact fk (by rw[List.length_map];exact hn)
 obtain⟨R1,hR1⟩: ∃ R,R=D.write (gS slot:Int) b:=⟨_,rfl⟩;obtain⟨R2,hR2⟩: ∃ R,R=R1.1.flush:=⟨_,rfl⟩;rw[<-hb, <-hR1, <-hR2];have hp1:R1.1.pend.length<=1000000000:=by have:=yy D (gS slot:Int) b;rw[<-hR1] at this;omega
 have HW:Hid (∀ (X:SP) (W:World) (A:Option Addr) (c:Nat),Sat w0 (af d D*X) W->Rd W A b->Calls Tryz.prog 131 #[.pointer (some ⟨d,0,none⟩),.int .i64 (gS slot:Int),.slice A 512 c] W fun e w'=>e = .returned (.int .i64 R1.2)/\Sat w0 (af d R1.1*X) w'):=fun X W A c hX hA=>by
  have h9:=sh d D (gS slot:Int) A c b w0 W X hX hA (by omega) hw1 (by omega) hw3;unfold zC at h9;rw[hbl, <-hR1] at h9;exact h9
 have HFl:Hid (∀ (X:SP) (W:World),Sat w0 (af d R1.1*X) W->Calls Tryz.prog 102 #[.pointer (some ⟨d,0,none⟩)] W fun e w'=>e = .returned (.int .i64 R2.2)/\Sat w0 (af d R2.1*X) w'):=fun X W hX=>by
  have h9:=sy d R1.1 w0 W X hX hp1;rw[<-hR2] at h9;exact h9
 have htn:gN turn<18446744073709551616:=Nat.mod_lt _ (by omega);have HSe:Hid (∀ (W:World),Sat w0 (aW gs*(Row 155 1 (.slice A gs.length c) gs.length (gs.map fun x=>aS x.1)*(Pt s 153 #[aS d,.int .i64 (slot:Int),.int .u64 (turn:Int),v]*(af d D*F)))) W->
  Calls Tryz.prog 132 #[.int .u64 (gN turn:Int),.slice A gs.length c] W fun e w'=> ∃ B d',e = .returned (.slice B 512 d')/\Sat w0 (Row 5 1 (.slice B 512 d') 512 (b.map bv)*(aW gs*(Row 155 1 (.slice A gs.length c) gs.length (gs.map fun x=>aS x.1)*(Pt s 153 #[aS d,.int .i64 (slot:Int),.int .u64 (turn:Int),v]*(af d D*F))))) w'):=fun W hW=>by
  rw[hb];exact DI A c gs (gN turn) hW (fun W2 hW2=>aF.bG hW2.right.aO) hn htn ho
 have e1:((slot:Int)+1).tmod 2=(gS slot:Int):=by
  rw[Int.tmod_eq_emod_of_nonneg (by omega)];unfold gS;omega
 have e1':IntKind.i64.wrap ((slot:Int)+1)=(slot:Int)+1:=by rw[IntKind.wrap_i64];omega
 have e2:IntKind.u64.wrap ((turn:Int)+1)=(gN turn:Int):=by
  rw[IntKind.wrap_u64];unfold gN;omega
 have HS:=ah h;have y0:w.cell? ⟨s,0,none⟩=some (.pointer (some ⟨d,0,none⟩)):=h.cell 0;have y1:w.cell? ⟨s,1,none⟩=some (.int .i64 (slot:Int)):=h.cell 1;clear h ho hb hbl hR1 hR2 hp1 htn hw1 hw2 hw3;generalize hsl9:gS slot=sl at*
 generalize htu9:gN turn=tu at*
 have HSl:=ah hsl9;have HTu:=ah htu9;clear hsl9 htu9;go_enter Tryz.func91, Tryz.ntmps91;go_upto_region 2 with fail;replace HS:=ah ((HS.o.drew).of (show _=aW gs*(Row 155 1 (.slice A gs.length c) gs.length (gs.map fun x=>aS x.1)*(Pt s 153 #[aS d,.int .i64 (slot:Int),.int .u64 (turn:Int),v]*(af d D*F))) by ac_rfl));clear y0 y1;refine wp_region_held_drew (S:=fun w'=>w'.cell? ⟨s,0,none⟩=some (.pointer (some ⟨d,0,none⟩))/\w'.cell? ⟨s,2,none⟩=some (.int .u64 (turn:Int))) (by kernel_rfl) ⟨HS.o.bp.cell 0,HS.o.bp.cell 2⟩ ?_;intro hS0;refine an 0 1 2 3 ?_;refine an 4 5 6 7 ?_;refine cw 8 9 ?_;refine ca 10 ?_;refine bC 11 fun K hK=>?_
 go_simp;go_at_call 132;(with_reducible refine(HSe.o _ HS.o).mono ?_);rintro y w11 ⟨B11,d11,rfl,hs⟩;replace HS:=ah hs;clear hs
 refine hK.out _ _ ⟨HS.o.bL.cell 0,HS.o.bL.cell 2⟩ (fun hS0=>?_);clear hK K;refine bC 12 fun K hK=>?_
 go_simp;go_at_call 131;refine(HW.o _ w11 B11 d11 HS.o.fN (aF.bG HS.o.aO)).mono ?_;rintro y w12 ⟨rfl,hs⟩;replace HS:=ah hs.Lc;clear hs
 refine hK.out _ _ ⟨HS.o.bL.cell 0,HS.o.bL.cell 2⟩ (fun hS0=>?_);clear hK K;refine ca 13 ?_;refine wpAnyH_done (by kernel_rfl) ?_ _;replace HS:=ah HS.o.right;by_cases hr1:R1.2=0
 .go_upto_region 5 with fail;have y0:w12.cell? ⟨s,0,none⟩=some (.pointer (some ⟨d,0,none⟩)):=HS.o.bp.cell 0;go_upto_region 6 with (go_at_call 102;(with_reducible refine(HFl.o _ w12 HS.o.bL).mono ?_);rintro y w13 ⟨rfl,hs⟩;replace HS:=ah hs.KR;clear hs)
  clear y0;by_cases hr2:R2.2=0
  .have y1:w13.cell? ⟨s,1,none⟩=some (.int .i64 (slot:Int)):=HS.o.bp.cell 1;have y2:w13.cell? ⟨s,2,none⟩=some (.int .u64 (turn:Int)):=HS.o.bp.cell 2;have y3:w13.cell? ⟨s,3,none⟩=some v:=HS.o.bp.cell 3;have f1:=HS.o.bp.frozen 1;have f2:=HS.o.bp.frozen 2;have f3:=HS.o.bp.frozen 3;go_wp2_with fail;go_ret;refine .inr (.inr ⟨hr1,hr2,rfl,?_⟩);have h9:=((HS.o.bp.set 1 (.int .i64 (sl:Int))).set 3 (.slice A gs.length c)).set 2 (.int .u64 (tu:Int));unfold Cl;rw[if_pos rfl,HSl.o,HTu.o];exact h9.of (by
    show Pt s 153 #[aS d,.int .i64 (sl:Int),.int .u64 (tu:Int),.slice A gs.length c]*_=_
    ac_rfl)
  .go_wp2_with fail;go_ret;refine .inr (.inl ⟨hr1,hr2,rfl,?_⟩);exact HS.o.of (by unfold Cl;rw[if_neg (by simp)];ac_rfl)
 .go_wp2_with fail;go_ret;refine .inl ⟨hr1,rfl,?_⟩;exact HS.o.of (by unfold Cl;rw[if_neg (by simp)];ac_rfl)
end
def dr (x:Nat × Nat × Nat):List Value:=[.int .i64 (x.1:Int),.int .i64 (x.2.1:Int),.int .i64 (x.2.2:Int)]
section
variable {w0 w:World} {F:SP} {s d:Nat} {a1 a2 a3:Value} {D:Dk} {dp:List (Nat × Nat × Nat)}
theorem qA: ∀ l:List (Nat × Nat × Nat),(l.flatMap dr).length=l.length*3
 | []=>rfl
 | x::l=>by rw[List.flatMap_cons,List.length_append,qA l,List.length_cons];show 3+_=_;omega
theorem uH: ∀ (l:List (Nat × Nat × Nat)) (k j:Nat) (hk:k<l.length) (hj:j<3),(l.flatMap dr)[k*3+j]?=(dr l[k])[j]?
 | x::l,0,j,hk,hj=>by
  rw[List.flatMap_cons,List.getElem?_append_left (by show 0*3+j<3;omega)];simp
 | x::l,k+1,j,hk,hj=>by
  rw[List.flatMap_cons,List.getElem?_append_right (by show 3<=_;omega)];show (l.flatMap dr)[(k+1)*3+j - 3]?=_;rw[show (k+1)*3+j - 3=k*3+j by omega];exact uH l k j (by simpa using hk) hj
theorem Je {A:Option Addr} (h:aF w A (dp.flatMap dr)) {k:Nat} (hk:k<dp.length): ∃ b o,A=some ⟨b,o,none⟩/\w.cell? ⟨b,o+k*3,none⟩=some (.int .i64 (dp[k].1:Int))/\w.cell? ⟨b,o+k*3+1,none⟩=some (.int .i64 (dp[k].2.1:Int))/\w.cell? ⟨b,o+k*3+2,none⟩=some (.int .i64 (dp[k].2.2:Int)):=by
 have hl:=qA dp;obtain⟨b,o,e,hc⟩:=h (by intro e;have h9:dp.length*3=0:=(by rw[<-hl,e];rfl);omega);have key: ∀ j,j<3->w.cell? ⟨b,o+k*3+j,none⟩=(dr dp[k])[j]?:=fun j hj=>by
  have hij:k*3+j<(dp.flatMap dr).length:=by rw[hl];omega
  have:=hc (k*3+j) hij;rw[Nat.add_assoc,this, <-List.getElem?_eq_getElem hij,uH dp k j hk hj]
 exact⟨b,o,e,key 0 (by omega),key 1 (by omega),key 2 (by omega)⟩
theorem Cf (A:Option Addr) (c:Nat) (bl:Int) (h:Sat w0 (Pt s 153 #[aS d,a1,a2,a3]*(af d D*F)) w) (hr:aF w A (dp.flatMap dr)) (hl:dp.length<=1000000) (hb: ∀ x ∈ dp,x.2.1<=65536/\x.2.2<=65536) (hbl: -9223372036854775808<=bl/\bl<=9223372036854775807) (hn:D.cells.length<=65536):
 Calls Tryz.prog 99 #[.pointer (some ⟨s,0,none⟩),.slice A dp.length c,.int .i64 bl] w fun e w'=>e = .returned (.tuple #[.int .i64 ((aU D.cells.length bl 2 (dp.map (·.2))).1:Int),.bool (aU D.cells.length bl 2 (dp.map (·.2))).2])/\ao No w w':=by
 have HB:=ah fun (W:World) (k:ao No w W)=>gy d D w0 W _ (h.ay.new k)
 have y0:w.cell? ⟨s,0,none⟩=some (.pointer (some ⟨d,0,none⟩)):=h.cell 0;have HY:Hid (∀ W,ao No w W->W.cell? ⟨s,0,none⟩=some (.pointer (some ⟨d,0,none⟩))):=fun W k=>k.cell y0 id
 have HR:=ah hr;have HBd:=ah hb;clear h hr hb y0;go_enter Tryz.func99, Tryz.ntmps99;go_wp2_with fail;go_loopw [8,10,13] (fun fv _ iv wr=> ∃ (k f:Nat),k<=dp.length/\f<=131072/\fv = .int .i64 (f:Int)/\iv = .int .i64 (k:Int)/\Hid (ao No w wr/\aU D.cells.length bl 2 (dp.map (·.2))=aU D.cells.length bl f ((dp.drop k).map (·.2)))) (fun _ _ iv _=>dp.length - (intOf iv).toNat)
 case atStart=>exact⟨0,2,by omega,by omega,rfl,rfl,ao.refl _ _,rfl⟩
 case round=>
  obtain⟨k,f,hk,hf,rfl,rfl,HD⟩:=hrel;by_cases hlt:k<dp.length
  .obtain⟨b,o,rfl,z0,z1,z2⟩:=Je (HR.o.new HD.o.1) hlt;have hk2:(k:Int)<dp.length:=by omega
   obtain⟨hx1,hx2⟩:=HBd.o dp[k] (List.getElem_mem hlt);have hdr:dp.drop k=dp[k]::dp.drop (k+1):=List.drop_eq_getElem_cons hlt;have HP:Hid (aU D.cells.length bl 2 (dp.map (·.2))=if bl<=(dp[k].2.1:Int) - f then (f,true) else aU D.cells.length bl (dp[k].2.1+dp[k].2.2) ((dp.drop (k+1)).map (·.2))):=by
    unfold Hid;rw[HD.o.2,hdr,List.map_cons]
    conv=>lhs;unfold aU
   have HC:=ah HD.o.1;clear hdr HD;generalize dp[k].1=x0 at*
   generalize dp[k].2.1=x1 at*
   generalize dp[k].2.2=x2 at*
   have hw:IntKind.i64.wrap ((x1:Int) - (f:Int))=(x1:Int) - f:=by rw[IntKind.wrap_i64];omega
   by_cases hfit:bl<=(x1:Int) - f
   .go_wp2_with fail;go_ret2;rw[HP.o,if_pos hfit];exact⟨rfl,HC.o.alloc _⟩
   .have hw2:IntKind.i64.wrap ((x1:Int)+(x2:Int))=((x1+x2:Nat):Int):=by rw[IntKind.wrap_i64];omega
    have hfit2:¬ bl<=(x1:Int) - f:=hfit;have HP2:Hid (aU D.cells.length bl 2 (dp.map (·.2))=aU D.cells.length bl (x1+x2) ((dp.drop (k+1)).map (·.2))):=by unfold Hid;rw[HP.o,if_neg hfit]
    clear HP hfit;go_wp2_with fail;go_roundw
    .exact⟨k+1,x1+x2,by omega,by omega,by push_cast;rfl,by push_cast;rfl,HC.o.alloc _,HP2.o⟩
    .simp[intOf];omega
  .obtain rfl:k=dp.length:=by omega
   have hk2:¬ ((dp.length:Nat):Int)<dp.length:=by omega
   have HP:Hid (aU D.cells.length bl 2 (dp.map (·.2))=(f,decide (bl<=(D.cells.length:Int) - f))):=by
    unfold Hid;rw[HD.o.2,List.drop_length];rfl
   have y0:=HY.o wr HD.o.1;have HB2:=ah (HB.o wr HD.o.1);have hw:IntKind.i64.wrap ((D.cells.length:Int) - (f:Int))=(D.cells.length:Int) - f:=by rw[IntKind.wrap_i64];omega
   have HC:=ah HD.o.1;go_wp2_with (go_at_call 51;(with_reducible refine HB2.o.mono ?_);rintro x wx ⟨rfl,rfl⟩);go_ret2;rw[HP.o];exact⟨rfl,HC.o⟩
end
section
variable {w0 w:World} {F:SP} {d:Nat} {gs:List (Nat × Fl)} {D:Dk}
def tR (n:Nat) (f:Fl):Bool:=decide (2<=f.first/\1<=f.blocks/\(f.blocks:Int)<=(n:Int) - f.first)
theorem BR (n:Nat) (gs:List (Nat × Fl)):jZ n (gs.map fun x=>x.2.hd)=gs.all fun x=>tR n x.2:=by
 unfold jZ;rw[List.all_map];rfl
theorem DE (A:Option Addr) (c:Nat) (h:Sat w0 (aW gs*(af d D*F)) w) (hA: ∀ W,Sat w0 (aW gs*(af d D*F)) W->aF W A (gs.map fun x=>aS x.1)) (hn:gs.length<=1000) (hb: ∀ x ∈ gs,x.2.first<4294967296/\x.2.blocks<4294967296) (hN:D.cells.length<=65536):
 Calls Tryz.prog 130 #[.pointer (some ⟨d,0,none⟩),.slice A gs.length c] w fun e w'=>e = .returned (.bool (jZ D.cells.length (gs.map fun x=>x.2.hd)))/\Sat w0 (aW gs*(af d D*F)) w':=by
 rw[BR];obtain⟨N,hNN⟩: ∃ N,N=D.cells.length:=⟨_,rfl⟩;have HB:Hid (∀ W X,Sat w0 (af d D*X) W->Calls Tryz.prog 51 #[.pointer (some ⟨d,0,none⟩)] W fun e w'=>e = .returned (.int .i64 (N:Int))/\W=w'):=fun W X k=>by rw[hNN];exact gy d D w0 W X k
 rw[<-hNN] at hN ⊢;have HS:=ah h;have HA:=ah hA;have HBd:=ah hb;clear h hA hb hNN;go_enter Tryz.func130, Tryz.ntmps130;go_wp2_with fail;go_loopw [6,9] (fun _ iv wr=> ∃ k:Nat,k<=gs.length/\iv = .int .i64 (k:Int)/\Hid (Sat w0 (aW gs*(af d D*F)) wr/\ ∀ j (hj:j<k) (hl:j<gs.length),tR N gs[j].2=true)) (fun _ iv _=>gs.length - (intOf iv).toNat)
 case atStart=>exact⟨0,by omega,rfl,HS.o,fun j hj=>by omega⟩
 case round=>
  obtain⟨k,hk,rfl,HD⟩:=hrel;by_cases hlt:k<gs.length
  .obtain⟨b,o,rfl,hc⟩:=lp (HA.o wr HD.o.1) hlt;have hk2:(k:Int)<gs.length:=by omega
   obtain⟨hx1,hx2⟩:=HBd.o gs[k] (List.getElem_mem hlt);obtain⟨v5,ks,hks,hfl⟩:=Sat.fl (p:=gs[k].1) (f:=gs[k].2) (HD.o.1.of (show _=mV gs[k].1 gs[k].2*(aW (gs.eraseIdx k)*(af d D*F)) by rw[lX hlt];ac_rfl));have y1:wr.drew.cell? ⟨gs[k].1,1,none⟩=some (.int .i64 (gs[k].2.first:Int)):=hfl.drew.cell 1;have y2:wr.drew.cell? ⟨gs[k].1,2,none⟩=some (.int .i64 (gs[k].2.blocks:Int)):=hfl.drew.cell 2;have HNo:Hid (tR N gs[k].2=false->(gs.all fun x=>tR N x.2)=false):=fun h9=>by
    rw[List.all_eq_false];exact⟨gs[k],List.getElem_mem hlt,by rw[h9];simp⟩
   have HL:Hid (tR N gs[k].2=decide (2<=gs[k].2.first/\1<=gs[k].2.blocks/\(gs[k].2.blocks:Int)<=(N:Int) - gs[k].2.first)):=rfl;have HY:Hid (∀ j (hj:j<k+1) (hl:j<gs.length),tR N gs[k].2=true->tR N gs[j].2=true):=fun j hj hl h9=>by
    by_cases ej:j=k
    .subst ej;exact h9
    .exact HD.o.2 j (by omega) hl
   have HBl:=ah (HB.o wr.drew _ (HD.o.1.drew.ay));clear hks hfl;generalize tR N gs[k].2=LB at*
   generalize gs[k].2.first=m1 at*
   generalize gs[k].2.blocks=m2 at*
   generalize gs[k].1=q at*
   have hw:IntKind.i64.wrap ((N:Int) - (m1:Int))=(N:Int) - m1:=by rw[IntKind.wrap_i64];omega
   go_upto_region 4 with fail;by_cases h1:(m1:Int)<2
   .have HF:Hid (LB=false):=by unfold Hid;rw[HL.o];exact decide_eq_false (by omega)
    refine wp_region_held_drew (S:=fun w'=>w'.cell? ⟨q,1,none⟩=some (.int .i64 (m1:Int))/\w'.cell? ⟨q,2,none⟩=some (.int .i64 (m2:Int))) (by kernel_rfl) ⟨y1,y2⟩ ?_;intro hS0;refine an 0 1 2 3 ?_;refine cw 4 5 ?_;refine ca 6 ?_;refine cg 7 ?_;refine cg 8 ?_;refine cg 9 ?_;refine cg 10 ?_;refine cg 11 ?_;refine cg 12 ?_;refine cw 13 14 ?_;refine cg 15 ?_;refine cg 16 ?_;refine cg 17 ?_;refine cg 18 ?_;refine cg 19 ?_;refine cg 20 ?_;refine cg 21 ?_;refine cg 22 ?_;refine cg 23 ?_;refine cg 24 ?_;refine cg 25 ?_;refine cg 26 ?_;refine cg 27 ?_;refine cg 28 ?_;refine ca 29 ?_;refine wpAnyH_done (by kernel_rfl) ?_ _;go_wp2_with fail;go_ret;rw[HNo.o HF.o];exact⟨rfl,HD.o.1.drew⟩
   .by_cases h2:(m2:Int)<1
    .have HF:Hid (LB=false):=by unfold Hid;rw[HL.o];exact decide_eq_false (by omega)
     refine wp_region_held_drew (S:=fun w'=>w'.cell? ⟨q,1,none⟩=some (.int .i64 (m1:Int))/\w'.cell? ⟨q,2,none⟩=some (.int .i64 (m2:Int))) (by kernel_rfl) ⟨y1,y2⟩ ?_;intro hS0;refine an 0 1 2 3 ?_;refine an 4 5 6 7 ?_;refine an 8 9 10 11 ?_;refine cw 12 13 ?_;refine ca 14 ?_;refine cg 15 ?_;refine cg 16 ?_;refine cg 17 ?_;refine cg 18 ?_;refine cg 19 ?_;refine cg 20 ?_;refine cg 21 ?_;refine cg 22 ?_;refine cg 23 ?_;refine cg 24 ?_;refine cg 25 ?_;refine cg 26 ?_;refine cg 27 ?_;refine cg 28 ?_;refine ca 29 ?_;refine wpAnyH_done (by kernel_rfl) ?_ _;go_wp2_with fail;go_ret;rw[HNo.o HF.o];exact⟨rfl,HD.o.1.drew⟩
    .by_cases h3:(N:Int) - m1<m2
     .have HF:Hid (LB=false):=by unfold Hid;rw[HL.o];exact decide_eq_false (by omega)
      refine wp_region_held_drew (S:=fun w'=>w'.cell? ⟨q,1,none⟩=some (.int .i64 (m1:Int))/\w'.cell? ⟨q,2,none⟩=some (.int .i64 (m2:Int))) (by kernel_rfl) ⟨y1,y2⟩ ?_;intro hS0;refine an 0 1 2 3 ?_;refine an 4 5 6 7 ?_;refine an 8 9 10 11 ?_;refine an 12 13 14 15 ?_;refine an 16 17 18 19 ?_;refine an 20 22 23 24 ?_;refine cw 25 26 ?_;refine bC 21 fun K hK=>?_
      go_simp;go_at_call 51;(with_reducible refine HBl.o.mono ?_);rintro y wx ⟨rfl,rfl⟩
      refine hK.out _ _ ⟨y1,y2⟩ (fun hS0=>?_);clear hK K;refine cw 27 28 ?_;refine ca 29 ?_;refine wpAnyH_done (by kernel_rfl) ?_ _;go_wp2_with fail;go_ret;rw[HNo.o HF.o];exact⟨rfl,HD.o.1.drew⟩
     .have HF:Hid (LB=true):=by unfold Hid;rw[HL.o];exact decide_eq_true (by omega)
      refine wp_region_held_drew (S:=fun w'=>w'.cell? ⟨q,1,none⟩=some (.int .i64 (m1:Int))/\w'.cell? ⟨q,2,none⟩=some (.int .i64 (m2:Int))) (by kernel_rfl) ⟨y1,y2⟩ ?_;intro hS0;refine an 0 1 2 3 ?_;refine an 4 5 6 7 ?_;refine an 8 9 10 11 ?_;refine an 12 13 14 15 ?_;refine an 16 17 18 19 ?_;refine an 20 22 23 24 ?_;refine cw 25 26 ?_;refine bC 21 fun K hK=>?_
      go_simp;go_at_call 51;(with_reducible refine HBl.o.mono ?_);rintro y wx ⟨rfl,rfl⟩
      refine hK.out _ _ ⟨y1,y2⟩ (fun hS0=>?_);clear hK K;refine cw 27 28 ?_;refine ca 29 ?_;refine wpAnyH_done (by kernel_rfl) ?_ _;go_wp2_with fail;go_roundw
      .exact⟨k+1,by omega,by push_cast;rfl,HD.o.1.drew,fun j hj hl=>HY.o j hj hl HF.o⟩
      .simp[intOf];omega
  .have hk2:¬ (k:Int)<gs.length:=by omega
   have HT:Hid ((gs.all fun x=>tR N x.2)=true):=by
    unfold Hid;rw[List.all_eq_true];intro x hx;obtain⟨j,hj,rfl⟩:=List.getElem_of_mem hx;exact HD.o.2 j (by omega) hj
   go_wp2_with fail;go_ret;rw[HT.o];exact⟨rfl,HD.o.1⟩
end
end Go.Proofs.YtmbaiglpgaoogaaGreat
