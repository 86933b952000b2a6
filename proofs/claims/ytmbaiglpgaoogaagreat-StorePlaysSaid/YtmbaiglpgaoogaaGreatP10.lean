/- Joined, as they were built one by one: Sto24 Sto25 StTold StCut StOpen StRef1 StRef3 StRef4 StRm StOld StAskL. -/
import Derived.OpenShut
import Derived.Test.YtmbaiglpgaoogaaGreatW09
import Derived.Test.YtmbaiglpgaoogaaGreatW12
import Derived.Test.YtmbaiglpgaoogaaGreatW13
import Derived.Test.YtmbaiglpgaoogaaGreatW16
import Derived.Test.YtmbaiglpgaoogaaGreatW29
import Derived.Test.YtmbaiglpgaoogaaGreatW30
import Derived.Test.YtmbaiglpgaoogaaGreatW32
import Derived.Test.YtmbaiglpgaoogaaGreatW33
import Derived.Test.YtmbaiglpgaoogaaGreatW34
import Derived.Test.YtmbaiglpgaoogaaGreatP01
import Derived.Test.YtmbaiglpgaoogaaGreatP02
import Derived.Test.YtmbaiglpgaoogaaGreatP03
import Derived.Test.YtmbaiglpgaoogaaGreatP04
import Derived.Test.YtmbaiglpgaoogaaGreatP05
import Derived.Test.YtmbaiglpgaoogaaGreatP06
import Derived.Test.YtmbaiglpgaoogaaGreatP07
import Derived.Test.YtmbaiglpgaoogaaGreatP08
import Derived.Test.YtmbaiglpgaoogaaGreatP09
set_option maxHeartbeats 16000000
set_option linter.unusedVariables false
set_option maxRecDepth 100000
namespace Go.Proofs.YtmbaiglpgaoogaaGreat
open Go.RowKit Z
section
variable {w0 w w':World} {F F':SP} {b d n t k a nx:Nat} {M:List Kv} {olds:Int->Option (List Kv)}
theorem NF (h:cX w0 F b d n t k a nx M olds w):Calls Tryz.prog 87 #[.pointer (some ⟨b,0,none⟩)] w fun x w'=>x = .returned (.bool false)/\w=w':=by
 obtain⟨s,S,v,D,h1,h2,h3,h4⟩:=h;exact Np b d s v h4
def LY (olds:Int->Option (List Kv)) (i:Int):Int->Option (List Kv):=fun j=>if j=i then none else olds j
theorem NH (i:Int) (hi: -9223372036854775808<=i/\i<=9223372036854775807) (h:cX w0 F b d n t k a nx M olds w):
 Calls Tryz.prog 43 #[.pointer (some ⟨b,0,none⟩),.int .i64 i] w fun x w'=>x = .returned (.int .i64 (if (olds i).isSome=true then 0 else 104))/\cX w0 F b d n t k a nx M (LY olds i) w':=by
 obtain⟨s,S,v,D,h1,h2,h3,h4⟩:=h;refine(Ng b d s v i hi h4).mono ?_;rintro x w' ⟨rfl,hs⟩;have he:(v.snaps i).isSome=(olds i).isSome:=by
  rcases h1.snaps i with ⟨g1,g2⟩ | ⟨q,Mo,g1,g2,g3⟩<;>rw[g1,g2]<;>rfl
 rw[he];refine⟨rfl,s,S,{ v with snaps:=fun j=>if j=i then none else v.snaps j },D,⟨h1.F7,h1.mem,fun j=>?_,h1.cnt,h1.bP⟩,h2,h3,hs⟩;by_cases hj:j=i
 .refine .inl ⟨?_,?_⟩
  .show (if j=i then none else v.snaps j)=none;rw[if_pos hj]
  .unfold LY;rw[if_pos hj]
 .rcases h1.snaps j with ⟨g1,g2⟩ | ⟨q,Mo,g1,g2,g3⟩
  .refine .inl ⟨?_,?_⟩
   .show (if j=i then none else v.snaps j)=none;rw[if_neg hj,g1]
   .unfold LY;rw[if_neg hj,g2]
  .refine .inr ⟨q,Mo,?_,?_,g3⟩
   .show (if j=i then none else v.snaps j)=some q;rw[if_neg hj,g1]
   .unfold LY;rw[if_neg hj,g2]
end
section
variable {w0 w w':World} {F F':SP} {b d n t k a nx:Nat} {M:List Kv} {olds:Int->Option (List Kv)}
theorem cX.Ls (h:cX w0 F b d n t k a nx M olds w) (o:Obj):cX w0 (Ow w.heap.size o*F) b d n t k a nx M olds (w.alloc o):=h.map fun G hG=>(hG.alloc o).ay
end
section
variable {w0 w w':World} {F F' A:SP} {b d n t k a nx:Nat} {M:List Kv} {olds:Int->Option (List Kv)} {B:Option Addr} {c:Nat} {qs es:List En}
theorem LZ (A B:Option Addr) (c d:Nat) (l m:List UInt8) (w:World) (h1:Rd w A l) (h2:Rd w B m):
 Calls Tryz.prog 36 #[.slice A l.length c,.slice B m.length d] w fun x w'=>x = .returned (.bool (decide (l=m)))/\w=w':=by
 obtain⟨SA,SB,B1,e1,e2,e3,e4⟩:=oU l m;have s1:=dy h1 c;have s2:=dy h2 d;rw[<-e1] at s1;rw[<-e2] at s2;rw[<-e4];clear e1 e2 e4 h1 h2;go_enter Tryz.func36, Tryz.ntmps36;go_wp2_with fail;go_ret;exact⟨rfl,rfl⟩
end
def M3 (x:K5):Array Value:= #[.int .i64 x.op,.int .i64 x.n,.slice x.bA x.ps.length x.bc,aJ x.key,aJ x.too,.slice x.kA x.keep.length x.kc,.int .i64 x.torn,.int .i64 x.cut]
def Pu.cut (p:Pu):Pu:=⟨(p.key.1,p.key.2.1,p.key.2.2.take 140),(p.value.1,p.value.2.1,p.value.2.2.take 200),p.dead⟩
def Lx (ps:List Pu):List Pu:=(ps.take 12).map Pu.cut
theorem MY (ps:List Pu):(Lx ps).length<=12:=by unfold Lx;rw[List.length_map,List.length_take];omega
theorem Nw {w:World} {ps:List Pu} (h:gZ w ps):gZ w (Lx ps):=fun p hp=>by
 obtain⟨q,hq,rfl⟩:=List.mem_map.1 hp;have h1:=h q (List.mem_of_mem_take hq);exact⟨h1.1.take 140,h1.2.take 200⟩
theorem Md {ps:List Pu}: ∀ p ∈ Lx ps,p.key.2.2.length<=140/\p.value.2.2.length<=200:=fun p hp=>by
 obtain⟨q,hq,rfl⟩:=List.mem_map.1 hp;exact⟨by show (q.key.2.2.take 140).length<=140;rw[List.length_take];omega,by show (q.value.2.2.take 200).length<=200;rw[List.length_take];omega⟩
theorem Mc (n:Nat) (hn:n<=1000) (a:du) (l:List UInt8) (hl:l=a.2.2.take n) (w:World) (hc:a.2.2.length<=a.2.1) (g:Int) (hg:g=n):
 Calls Tryz.prog 80 #[.slice a.1 a.2.2.length a.2.1,.int .i64 g] w fun e w'=>e = .returned (.slice a.1 l.length a.2.1)/\w'=w:=by
 subst hl;by_cases h:n<a.2.2.length
 .have HL:Hid ((a.2.2.take n).length=n):=by unfold Hid;rw[List.length_take];omega
  rw[HL.o];have h2:g<=a.2.1:=by omega
  have h3:g<a.2.2.length:=by omega
  have h4:n<=a.2.1:=by omega
  have h5:0<=g:=by omega
  have h6:g.toNat=n:=by omega
  subst hg;go_enter Tryz.func80, Tryz.ntmps80;go_wp2;go_ret;exact⟨rfl,rfl⟩
 .have HL:Hid ((a.2.2.take n).length=a.2.2.length):=by unfold Hid;rw[List.length_take];omega
  rw[HL.o];have h3:¬ g<a.2.2.length:=by omega
  go_enter Tryz.func80, Tryz.ntmps80;go_wp2;go_ret;exact⟨rfl,rfl⟩
section
variable {w0 w:World} {F:SP}
theorem MD {A:Option Addr} {ps:List Pu} (h:aF w A (ps.flatMap fI)):aF w A ((ps.take 12).flatMap fI):=by
 have e:ps.flatMap fI=(ps.take 12).flatMap fI++(ps.drop 12).flatMap fI:=by rw[<-List.flatMap_append,List.take_append_drop]
 rw[e] at h;have h1:=h.take ((ps.take 12).flatMap fI).length;rw[List.take_left'] at h1
 .exact h1
 .rfl
theorem Ma (x:K5) (h:Sat w0 F w) (hb: ∀ W,Sat w0 F W->aF W x.bA (x.ps.flatMap fI)) (hbc:x.ps.length<=x.bc/\x.bc<=9223372036854775807) (hsz: ∀ p ∈ x.ps,p.key.2.2.length<=p.key.2.1/\p.value.2.2.length<=p.value.2.1):
 Calls Tryz.prog 44 #[.agg (M3 x)] w fun e w'=> ∃ B c,e = .returned (.agg (M3 { x with bA:=B,bc:=c,ps:=Lx x.ps }))/\Sat w0 (Row 43 3 (.slice B (Lx x.ps).length c) (Lx x.ps).length ((Lx x.ps).flatMap fI)*F) w':=by
 obtain⟨op,n,bA,bc,ps,⟨kyA,kyc,kyl⟩,⟨toA,toc,tol⟩,kpA,kpc,keep,torn,cut⟩:=x;obtain⟨hbc1,hbc2⟩:=hbc;replace hbc1:ps.length<=bc:=hbc1;replace hbc2:bc<=9223372036854775807:=hbc2;have HR:Hid (∀ W,Sat w0 F W->aF W bA ((ps.take 12).flatMap fI)):=ah fun W hW=>MD (hb W hW)
 have HZ:=ah hsz;obtain⟨m,hm⟩: ∃ m,m=(ps.take 12).length:=⟨_,rfl⟩;have hm2:m=min 12 ps.length:=by rw[hm,List.length_take]
 have HM:=ah hm;have h1:=h.bO (b:=w.heap.size) 80 #[.int .i64 op,.int .i64 n,.slice bA ps.length bc,.slice kyA kyl.length kyc,.slice toA tol.length toc,.slice kpA keep.length kpc,.int .i64 torn,.int .i64 cut] rfl;have h2:=h1.bO (b:=w.heap.size+1) 80 #[.int .i64 0,.int .i64 0,.slice none 0 0,.slice none 0 0,.slice none 0 0,.slice none 0 0,.int .i64 0,.int .i64 0] (by simp);clear h h1 hb hsz hm;show Calls Tryz.prog 44 #[.agg #[.int .i64 op,.int .i64 n,.slice bA ps.length bc,.slice kyA kyl.length kyc,.slice toA tol.length toc,.slice kpA keep.length kpc,.int .i64 torn,.int .i64 cut]] w _;go_enter Tryz.func44, Tryz.ntmps44;go_upto_region 1 with fail;revert h2;generalize (w.alloc _).alloc _=W;intro h2;generalize w.heap.size+1=R at*
 generalize w.heap.size=E at*
 have HS:=ah h2;obtain⟨j0,hj,hy0,hy1,hy2⟩:=info_parts AH;have Hj:=ah hj;have Hy0:=ah hy0;have Hy1:=ah hy1;have Hy2:=ah hy2;clear hj hy0 hy1 hy2 h2;have HC:Hid (∃ W',(m=ps.length/\W'=W\/12<ps.length/\m=12/\W'=W.setCell ⟨E,2,none⟩ (.slice bA 12 bc))/\Sat w0 (Pt E 80 #[.int .i64 op,.int .i64 n,.slice bA m bc,.slice kyA kyl.length kyc,.slice toA tol.length toc,.slice kpA keep.length kpc,.int .i64 torn,.int .i64 cut]*(Pt R 80 #[.int .i64 0,.int .i64 0,.slice none 0 0,.slice none 0 0,.slice none 0 0,.slice none 0 0,.int .i64 0,.int .i64 0]*F)) W'):=by
  by_cases hl:12<ps.length
  .have hm12:m=12:=by omega
   subst hm12;exact⟨_,.inr ⟨hl,rfl,rfl⟩,HS.o.ay.set 2 (.slice bA 12 bc)⟩
  .have hml:m=ps.length:=by omega
   subst hml;exact⟨_,.inl ⟨rfl,rfl⟩,HS.o.ay⟩
 obtain⟨W',hW',hs'⟩:=HC.o;have HS2:=ah hs';clear hs' HC;have c2:=HS.o.ay.cell 2;have f2:=HS.o.ay.frozen 2;rcases hW' with ⟨hml,rfl⟩ | ⟨hl,hm12,rfl⟩
 case' inl=>
  have hgt:¬ (12:Int)<ps.length:=by omega
  go_upto_region 3 with fail;clear hgt c2 f2 HS hml
 case' inr=>
  have hgt:(12:Int)<ps.length:=by omega
  have hcap:(12:Int)<=bc:=by omega
  go_upto_region 3 with fail;clear hgt hcap hl hm12 c2 f2 HS;generalize W.setCell ⟨E,2,none⟩ (.slice bA 12 bc)=W' at*
 all_goals
  have hm12:m<=12:=by omega
  clear hm2 hbc1 hbc2;go_wp2_with fail;go_loopw [3,4] (fun lv iv wr=> ∃ (i c:Nat) (B:Option Addr),i<=m/\iv = .int .i64 (i:Int)/\lv = .slice B i c/\Hid (Sat w0 (Row 43 3 (.slice B i c) i (((ps.take i).map Pu.cut).flatMap fI)*(Pt E 80 #[.int .i64 op,.int .i64 n,.slice bA m bc,.slice kyA kyl.length kyc,.slice toA tol.length toc,.slice kpA keep.length kpc,.int .i64 torn,.int .i64 cut]*(Pt R 80 #[.int .i64 0,.int .i64 0,.slice none 0 0,.slice none 0 0,.slice none 0 0,.slice none 0 0,.int .i64 0,.int .i64 0]*F))) wr)) (fun _ iv _=>m - (intOf iv).toNat)
  case atStart=>exact⟨0,0,none,by omega,rfl,rfl,HS2.o.aN 43 3⟩
  case round=>
   obtain⟨i,c,B,hi,rfl,rfl,HD⟩:=hrel;by_cases hlt:i<m
   .have hil:i<(ps.take 12).length:=by rw[<-HM.o];exact hlt
    obtain⟨lb,lo,rfl,hq⟩:=gI (HR.o _ HD.o.right.right.right) (by omega);obtain⟨y0,y1,y2⟩:=hq i hil;have hip:i<ps.length:=by rw[List.length_take] at hil;omega
    have hge:(ps.take 12)[i]=ps[i]:=List.getElem_take;rw[hge] at y0 y1 y2;have hz:=HZ.o _ (List.getElem_mem hip);have HTk:Hid ((ps.take (i+1)).map Pu.cut=(ps.take i).map Pu.cut++[ps[i].cut]):=by
     unfold Hid;rw[List.take_add_one,List.getElem?_eq_getElem hip,List.map_append];rfl
    clear hq hge;generalize ps[i]=p at*
    clear hil hip;obtain⟨⟨kA,kc,kl⟩,⟨vA,vc,vl⟩,dd⟩:=p;replace y0:_=some (Value.slice kA kl.length kc):=y0;replace y1:_=some (Value.slice vA vl.length vc):=y1;replace y2:_=some (Value.bool dd):=y2;obtain⟨kl2,hkl2⟩: ∃ kl2,kl2=kl.take 140:=⟨_,rfl⟩;obtain⟨vl2,hvl2⟩: ∃ vl2,vl2=vl.take 200:=⟨_,rfl⟩;have HPc:Hid (Pu.cut ⟨(kA,kc,kl),(vA,vc,vl),dd⟩=⟨(kA,kc,kl2),(vA,vc,vl2),dd⟩):=by rw[hkl2,hvl2];rfl
    have HK2:=ah hkl2;have HV2:=ah hvl2;have HKc:Hid (kl.length<=kc):=hz.1;have HVc:Hid (vl.length<=vc):=hz.2;have hii:(i:Int)<m:=by omega
    have x0:wr.cell? ⟨E,2,none⟩=some (.slice (some ⟨lb,lo,none⟩) m bc):=HD.o.ay.cell 2;have hs5:=HD.o.ab 43 #[.slice kA kl.length kc,.slice vA vl.length vc,.bool dd];obtain⟨P,hP⟩: ∃ P,P=wr.heap.size:=⟨_,rfl⟩;obtain⟨W5,hW5⟩: ∃ W5,W5=wr.alloc (.cells #[.slice kA kl.length kc,.slice vA vl.length vc,.bool dd] 43):=⟨_,rfl⟩;rw[<-hW5, <-hP] at hs5;have HS5:=ah hs5;clear hlt hz hkl2 hvl2 hs5;go_upto_region 8 with fail;rw[<-hP, <-hW5];clear hP hW5 x0 y0 y1 y2;have c0:=HS5.o.cell 0;have c1:=HS5.o.cell 1;have f0:=HS5.o.frozen 0;have f1:=HS5.o.frozen 1;go_region_law (first
     | (go_simp;go_at_call 80;(with_reducible refine(Mc 140 (by omega) (kA,kc,kl) kl2 HK2.o _ HKc.o 140 rfl).mono ?_);rintro x w1 ⟨rfl,rfl⟩)
     | (go_simp;go_at_call 80;(with_reducible refine(Mc 200 (by omega) (vA,vc,vl) vl2 HV2.o _ HVc.o 200 rfl).mono ?_);rintro x w1 ⟨rfl,rfl⟩))
    all_goals
     have h5:Sat w0 (Pt P 43 #[.slice kA kl2.length kc,.slice vA vl2.length vc,.bool dd]*(Row 43 3 (.slice B i c) i (((ps.take i).map Pu.cut).flatMap fI)*(Pt E 80 #[.int .i64 op,.int .i64 n,.slice (some ⟨lb,lo,none⟩) m bc,.slice kyA kyl.length kyc,.slice toA tol.length toc,.slice kpA keep.length kpc,.int .i64 torn,.int .i64 cut]*(Pt R 80 #[.int .i64 0,.int .i64 0,.slice none 0 0,.slice none 0 0,.slice none 0 0,.slice none 0 0,.int .i64 0,.int .i64 0]*F)))) _:=((HS5.o.set 0 (.slice kA kl2.length kc)).set 1 (.slice vA vl2.length vc)).drew;clear f0 f1 c0 c1;revert h5;generalize World.drew (World.setCell (World.setCell W5 _ _) _ _)=w6;intro h5;have c0:=h5.cell 0;have c1:=h5.cell 1;have c2:=h5.cell 2;have HS6:=ah (h5.ay.aD (.cells #[.slice kA kl2.length kc,.slice vA vl2.length vc,.bool dd] 43));clear h5;go_wp2_with (at_builtin;refine av rfl (.tmp 34) (.tmp 36) 22 rfl 43 j0 _ 3 56 Tryz.underlying22 Hj.o Hy0.o Hy1.o Hy2.o rfl (by decide) (.slice B i c) i (((ps.take i).map Pu.cut).flatMap fI) rfl w0 _ (by exact HS6.o) (some ⟨w6.heap.size,0,none⟩) 1 1 [.slice kA kl2.length kc,.slice vA vl2.length vc,.bool dd] rfl (by exact(aR _ _ _)) rfl (by intro u hu;simp at hu;rcases hu with rfl | rfl | rfl<;>rfl) (by unfold maxLen;omega) (by omega) ?_;intro B7 c7 w7 hs7;have HS7:=ah hs7;clear hs7);go_roundw
     .refine⟨i+1,c7,B7,by omega,by push_cast;rfl,rfl,?_⟩;rw[HTk.o,List.flatMap_append,HPc.o];exact HS7.o.ay.right
     .simp[intOf];omega
   .have hie:i=m:=by omega
    subst hie;have hge:¬ (i:Int)<i:=by omega
    have hs5:Sat w0 (Pt E 80 #[.int .i64 op,.int .i64 n,.slice B i c,.slice kyA kyl.length kyc,.slice toA tol.length toc,.slice kpA keep.length kpc,.int .i64 torn,.int .i64 cut]*(Pt R 80 #[.int .i64 0,.int .i64 0,.slice none 0 0,.slice none 0 0,.slice none 0 0,.slice none 0 0,.int .i64 0,.int .i64 0]*(Row 43 3 (.slice B i c) i (((ps.take i).map Pu.cut).flatMap fI)*F))) (wr.setCell ⟨E,2,none⟩ (.slice B i c)):=(HD.o.ay.set 2 (.slice B i c)).of (by ac_rfl);have x2:wr.cell? ⟨E,2,none⟩=some (.slice bA i bc):=HD.o.ay.cell 2;have g2:=HD.o.ay.frozen 2;obtain⟨W5,hW5⟩: ∃ W5,W5=wr.setCell ⟨E,2,none⟩ (.slice B i c):=⟨_,rfl⟩;rw[<-hW5] at hs5;have HS5:=ah hs5;have HPs:Hid (Lx ps=(ps.take i).map Pu.cut):=by
     unfold Hid Lx;have h9:=HM.o;rw[List.length_take] at h9;by_cases hp:ps.length<=12
     .rw[List.take_of_length_le hp,List.take_of_length_le (by omega)]
     .rw[show i=12 by omega]
    have HLc:Hid ((Lx ps).length=i):=by
     unfold Hid Lx;rw[List.length_map];exact HM.o.symm
    clear hs5 hlt;go_upto_region 11 with fail;rw[<-hW5];clear hW5 x2 g2;have h5:=HS5.o;have c0:W5.cell? ⟨E,0,none⟩=some (.int .i64 op):=h5.cell 0;have d0:=h5.ay.frozen 0;have e0:W5.cell? ⟨R,0,none⟩=some (.int .i64 0):=h5.ay.cell 0;have c1:W5.cell? ⟨E,1,none⟩=some (.int .i64 n):=h5.cell 1;have d1:=h5.ay.frozen 1;have e1:W5.cell? ⟨R,1,none⟩=some (.int .i64 0):=h5.ay.cell 1;have c2:W5.cell? ⟨E,2,none⟩=some (.slice B i c):=h5.cell 2;have d2:=h5.ay.frozen 2;have e2:W5.cell? ⟨R,2,none⟩=some (.slice none 0 0):=h5.ay.cell 2;have c3:W5.cell? ⟨E,3,none⟩=some (.slice kyA kyl.length kyc):=h5.cell 3;have d3:=h5.ay.frozen 3;have e3:W5.cell? ⟨R,3,none⟩=some (.slice none 0 0):=h5.ay.cell 3;have c4:W5.cell? ⟨E,4,none⟩=some (.slice toA tol.length toc):=h5.cell 4;have d4:=h5.ay.frozen 4;have e4:W5.cell? ⟨R,4,none⟩=some (.slice none 0 0):=h5.ay.cell 4;have c5:W5.cell? ⟨E,5,none⟩=some (.slice kpA keep.length kpc):=h5.cell 5;have d5:=h5.ay.frozen 5;have e5:W5.cell? ⟨R,5,none⟩=some (.slice none 0 0):=h5.ay.cell 5;have c6:W5.cell? ⟨E,6,none⟩=some (.int .i64 torn):=h5.cell 6;have d6:=h5.ay.frozen 6;have e6:W5.cell? ⟨R,6,none⟩=some (.int .i64 0):=h5.ay.cell 6;have c7:W5.cell? ⟨E,7,none⟩=some (.int .i64 cut):=h5.cell 7;have d7:=h5.ay.frozen 7;have e7:W5.cell? ⟨R,7,none⟩=some (.int .i64 0):=h5.ay.cell 7;have h6:=((((((((h5.ay.set 0 (.int .i64 op)).set 1 (.int .i64 n)).set 2 (.slice B i c)).set 3 (.slice kyA kyl.length kyc)).set 4 (.slice toA tol.length toc)).set 5 (.slice kpA keep.length kpc)).set 6 (.int .i64 torn)).set 7 (.int .i64 cut));simp only[List.setIfInBounds_toArray,List.set_cons_zero,List.set_cons_succ] at h6;have HS6:=ah h6;clear h6 h5;go_wp2_with fail;have h6:=HS6.o;revert h6;generalize World.setCell _ _ _=w4;intro h6;refine bodyPost_ret (results_cell_row (p:=2) (by kernel_rfl) _ _ R 80 _ (0,0) _ rfl h6.at Tryz.underlying80 rfl (by kernel_rfl)) rfl ?_;refine⟨B,c,?_,?_⟩
    .show _=Ending.returned (.agg #[.int .i64 op,.int .i64 n,.slice B (Lx ps).length c,.slice kyA kyl.length kyc,.slice toA tol.length toc,.slice kpA keep.length kpc,.int .i64 torn,.int .i64 cut]);rw[HLc.o]
    .show Sat w0 (Row 43 3 (.slice B (Lx ps).length c) (Lx ps).length ((Lx ps).flatMap fI)*F) w4;rw[HLc.o,HPs.o];exact h6.right.right
end
end Go.Proofs.YtmbaiglpgaoogaaGreat
namespace Go.Proofs.YtmbaiglpgaoogaaGreat
open Go.RowKit Go.ChangeShapes Go.WideShapes Go.Deep Z
def Mw (n:Int):Prop:= -9223372036854775808<=n/\n<=9223372036854775807
section
variable {H:Type} {enc:TypeId × Value->H} {P:Program} {w:World} {base:Nat} {spare:Nat->Bool} {held:Bool}
theorem LH {α:Type} [Inhabited α] (f:α->List Value) (good:α->Prop) (k bt:Nat) {t e:TypeId} {fuel:Nat} {cs:List Value} {x:DataW H × List MemPlace} (ht:P.underlying t=some (.slice e)) (hk:P.cellsOf e=k) (hb:P.bytesOf e=bt)
 (hf: ∀ x,(f x).length=k) (hpos:0<k) (each: ∀ n cs x,DataW.trod enc P w base spare held n e cs=some x->ql P e x.1-> ∃ y,cs=f y/\good y)
 (h:DataW.trod enc P w base spare held fuel t cs=some x) (hz:ql P t x.1):
 ∃ (A:Option Addr) (c:Nat) (l:List α),cs=[.slice A l.length c]/\l.length<=c/\c<=maxLen/\aF w A (l.flatMap f)/\l.length*bt<=140737488351232/\ ∀ y ∈ l,good y:=by
 rcases open_slice ht h with ⟨rfl,_⟩ | ⟨a,len,cap,m,n,D,Pl,rfl,hba,hl,hm,hmm,hx,hi⟩
 .exact⟨none,0,[],rfl,Nat.le_refl _,Nat.zero_le _,aF.nil _ _,by simp,by simp⟩
 .have hlm:len<=m:=by rw[hmm];split<;>omega
  subst hx;have hsz:=ql.len hz ht;simp only[List.length_map,List.length_range,hb,sN] at hsz;have each': ∀ i,i<len-> ∃ y:α,good y/\ ∀ j,j<k->w.cell? (a.add (i*k+j))=(f y)[j]?:=fun i hil=>by
   have hD:ql P e (D i):=ql.elem hz ht (List.mem_map.2 ⟨i,List.mem_range.2 hil,rfl⟩);obtain⟨cs',hc,htr⟩:=hi i (by omega);obtain⟨y,hy,hg⟩:=each _ _ _ htr hD;refine⟨y,hg,fun j hj=>?_⟩;obtain⟨_,_,h3⟩:=World.cells?_some hc;rw[hk] at h3;have:=h3 j hj;rw[hy,add_add] at this;exact this
  obtain⟨g,hg⟩:=choose_lt each';refine⟨some a,cap,(List.range len).map g,by simp,by simpa using hl,hm,qQ fun j hj=>?_,?_,fun y hy=>?_⟩
  .have hlen:=sr hf ((List.range len).map g);simp only[List.length_map,List.length_range] at hlen;rw[hlen] at hj;have hq:j / k<len:=Nat.div_lt_of_lt_mul (by rw[Nat.mul_comm];exact hj);have hr:j % k<k:=Nat.mod_lt _ hpos;have h1:=(hg (j / k) hq).2 (j % k) hr;have h2:=Iu hf ((List.range len).map g) (j / k) (j % k) (by simpa using hq) hr;have hjk:j / k*k+j % k=j:=Nat.div_add_mod' j k;rw[hjk] at h1 h2;rw[h1];simp only[List.getElem_map,List.getElem_range] at h2;rw[<-h2,List.getElem?_eq_getElem (by rw[hlen];exact hj)]
  .simp only[List.length_map,List.length_range];have:=Nat.mul_le_mul_right bt (show len<=len+(m - len) by omega);omega
  .obtain⟨j,hj,rfl⟩:=List.mem_map.1 hy;exact(hg j (List.mem_range.1 hj)).1
theorem Mg {t e:TypeId} {fuel:Nat} {cs:List Value} {x:DataW H × List MemPlace} (ht:P.underlying t=some (.slice e)) (he:P.underlying e=some .bool) (ce:P.cellsOf e=1) (be:P.bytesOf e=1)
 (h:DataW.trod enc P w base spare held fuel t cs=some x) (hz:ql P t x.1):
 ∃ (A:Option Addr) (c:Nat) (l:List Bool),cs=[.slice A l.length c]/\l.length<=c/\c<=maxLen/\aF w A (l.map Value.bool)/\l.length<=140737488351232:=by
 obtain⟨A,c,l,h1,h2,h3,h4,h5,_⟩:=LH (fun b:Bool=>[Value.bool b]) (fun _=>True) 1 1 ht ce be (fun _=>rfl) (by decide) (fun n cs x hx _=>by
  obtain⟨b,hb,_⟩:=DataW.trod_bool he hx;exact⟨b,hb,trivial⟩) h hz
 refine⟨A,c,l,h1,h2,h3,?_,by omega⟩;have e:l.flatMap (fun b:Bool=>[Value.bool b])=l.map Value.bool:=by
  rw[List.flatMap_def];clear h1 h2 h4 h5;rename_i hq;clear hq
  induction l with
  | nil=>rfl
  | cons b l ih=>rw[List.map_cons,List.flatten_cons,ih];rfl
 rwa [e] at h4
end
def Nn (w:World) (s:du):Prop:=Rd w s.1 s.2.2/\s.2.2.length<=s.2.1/\s.2.1<=maxLen/\s.2.2.length<=140737488351232
def Mq (w:World) (p:Pu):Prop:=Nn w p.key/\Nn w p.value
def L3 (w:World) (A:Option Addr) (c:Nat) (l:List Pu):Prop:=l.length<=c/\c<=maxLen/\aF w A (l.flatMap fI)/\l.length*56<=140737488351232/\ ∀ p ∈ l,Mq w p
theorem L3.r {w:World} {A:Option Addr} {c:Nat} {l:List Pu} (h:L3 w A c l):gZ w l:=fun p hp=>⟨(h.2.2.2.2 p hp).1.1,(h.2.2.2.2 p hp).2.1⟩
def LL (x:K5):List Value:=[.int .i64 x.op,.int .i64 x.n,.slice x.bA x.ps.length x.bc,aJ x.key,aJ x.too,.slice x.kA x.keep.length x.kc,.int .i64 x.torn,.int .i64 x.cut]
structure MW (w:World) (x:K5):Prop where
 op:Mw x.op
 n:Mw x.n
 batch:L3 w x.bA x.bc x.ps
 key:Nn w x.key
 too:Nn w x.too
 keep:aF w x.kA (x.keep.map Value.bool)/\x.keep.length<=x.kc/\x.keep.length<=140737488351232
 torn:Mw x.torn
 cut:Mw x.cut
section
variable {H:Type} {enc:TypeId × Value->H} {w:World} {base:Nat} {spare:Nat->Bool} {held:Bool}
theorem ql.LJ {P:Program} {t tj:TypeId} {fs:Array Field} {parts:List (DataW H)} {j:Nat} {d:DataW H} (h:ql P t (.agg parts)) (hu:P.underlying t=some (.struct fs)) (ht:(fs.toList.map (·.type))[j]?=some tj) (hd:parts[j]?=some d):ql P tj d:=
 fun n hn=>h n (by simp only[DataW.weights,hu];exact DataW.weights_mem_each ht hd n hn)
theorem LD: Tryz.prog.cellsOf 3 = 1:=by kernel_rfl
theorem M4: Tryz.prog.cellsOf 4 = 1:=by kernel_rfl
theorem LO: Tryz.prog.cellsOf 34 = 1:=by kernel_rfl
theorem Lw: Tryz.prog.cellsOf 41 = 1:=by kernel_rfl
theorem LG: Tryz.prog.cellsOf 22 = 1:=by kernel_rfl
theorem Ny {n:Nat} {cs:List Value} {x:DataW H × List MemPlace} (h:DataW.trod enc Tryz.prog w base spare held n 43 cs=some x) (hz:ql Tryz.prog 43 x.1):
 ∃ p:Pu,cs=fI p/\Mq w p:=by
 obtain⟨xs,m,rfl,hx,hl,hxl,hi⟩:=DataW.trod_struct Tryz.underlying43 h;have hl3:cs.length=3:=hl.trans (by kernel_rfl);have hx3:xs.length=3:=hxl
 match cs,hl3,xs,hx3 with
 | [c0,c1,c2],_,[x0,x1,x2],_=>
  have f0:DataW.trod enc Tryz.prog w base spare held m 41 [c0]=some x0:=by have:=hi 0 _ rfl;simpa [Lw] using this
  have f1:DataW.trod enc Tryz.prog w base spare held m 41 [c1]=some x1:=by have:=hi 1 _ rfl;simpa [Lw] using this
  have f2:DataW.trod enc Tryz.prog w base spare held m 4 [c2]=some x2:=by have:=hi 2 _ rfl;simpa [Lw,M4] using this
  subst hx;have hz0:ql Tryz.prog 41 x0.1:=ql.LJ hz Tryz.underlying43 (j:=0) rfl rfl;have hz1:ql Tryz.prog 41 x1.1:=ql.LJ hz Tryz.underlying43 (j:=1) rfl rfl;obtain⟨A0,k0,l0,e0,p1,p2,p3,p4,_⟩:=Jo Tryz.underlying41 Tryz.underlying5 (by kernel_rfl) (by kernel_rfl) f0 hz0;obtain⟨A1,k1,l1,e1,q1,q2,q3,q4,_⟩:=Jo Tryz.underlying41 Tryz.underlying5 (by kernel_rfl) (by kernel_rfl) f1 hz1;obtain⟨a2,e2,_⟩:=DataW.trod_bool Tryz.underlying4 f2;injection e0 with e0 _
  injection e1 with e1 _
  injection e2 with e2 _
  subst e0;subst e1;subst e2;exact⟨⟨(A0,k0,l0),(A1,k1,l1),a2⟩,rfl,⟨p3,p1,p2,p4⟩,q3,q1,q2,q4⟩
theorem MC {fuel:Nat} {cs:List Value} {x:DataW H × List MemPlace} (h:DataW.trod enc Tryz.prog w base spare held fuel 22 cs=some x) (hz:ql Tryz.prog 22 x.1):
 ∃ (A:Option Addr) (c:Nat) (l:List Pu),cs=[.slice A l.length c]/\L3 w A c l:=
 LH fI (Mq w) 3 56 Tryz.underlying22 (by kernel_rfl) (by kernel_rfl) (fun _=>rfl) (by decide) (fun n cs x hx hz=>Ny hx hz) h hz
theorem MF {n:Nat} {cs:List Value} {x:DataW H × List MemPlace} (h:DataW.trod enc Tryz.prog w base spare held n 80 cs=some x) (hz:ql Tryz.prog 80 x.1):
 ∃ o:K5,cs=LL o/\MW w o:=by
 obtain⟨xs,m,rfl,hx,hl,hxl,hi⟩:=DataW.trod_struct Tryz.underlying80 h;have hl8:cs.length=8:=hl.trans (by kernel_rfl);have hx8:xs.length=8:=hxl
 match cs,hl8,xs,hx8 with
 | [c0,c1,c2,c3,c4,c5,c6,c7],_,[x0,x1,x2,x3,x4,x5,x6,x7],_=>
  have f0:DataW.trod enc Tryz.prog w base spare held m 3 [c0]=some x0:=by have:=hi 0 _ rfl;simpa [LD] using this
  have f1:DataW.trod enc Tryz.prog w base spare held m 3 [c1]=some x1:=by have:=hi 1 _ rfl;simpa [LD] using this
  have f2:DataW.trod enc Tryz.prog w base spare held m 22 [c2]=some x2:=by have:=hi 2 _ rfl;simpa [LD,LG] using this
  have f3:DataW.trod enc Tryz.prog w base spare held m 41 [c3]=some x3:=by have:=hi 3 _ rfl;simpa [LD,LG,Lw] using this
  have f4:DataW.trod enc Tryz.prog w base spare held m 41 [c4]=some x4:=by have:=hi 4 _ rfl;simpa [LD,LG,Lw] using this
  have f5:DataW.trod enc Tryz.prog w base spare held m 34 [c5]=some x5:=by have:=hi 5 _ rfl;simpa [LD,LG,Lw,LO] using this
  have f6:DataW.trod enc Tryz.prog w base spare held m 3 [c6]=some x6:=by have:=hi 6 _ rfl;simpa [LD,LG,Lw,LO] using this
  have f7:DataW.trod enc Tryz.prog w base spare held m 3 [c7]=some x7:=by have:=hi 7 _ rfl;simpa [LD,LG,Lw,LO] using this
  subst hx;obtain⟨a0,e0,_,w0⟩:=DataW.trod_int Tryz.underlying3 f0;obtain⟨a1,e1,_,w1⟩:=DataW.trod_int Tryz.underlying3 f1;obtain⟨a6,e6,_,w6⟩:=DataW.trod_int Tryz.underlying3 f6;obtain⟨a7,e7,_,w7⟩:=DataW.trod_int Tryz.underlying3 f7;have hz2:ql Tryz.prog 22 x2.1:=ql.LJ hz Tryz.underlying80 (j:=2) rfl rfl;have hz3:ql Tryz.prog 41 x3.1:=ql.LJ hz Tryz.underlying80 (j:=3) rfl rfl;have hz4:ql Tryz.prog 41 x4.1:=ql.LJ hz Tryz.underlying80 (j:=4) rfl rfl;have hz5:ql Tryz.prog 34 x5.1:=ql.LJ hz Tryz.underlying80 (j:=5) rfl rfl;obtain⟨A2,k2,l2,e2,p2⟩:=MC f2 hz2;obtain⟨A3,k3,l3,e3,p3,q3,r3,z3,_⟩:=Jo Tryz.underlying41 Tryz.underlying5 (by kernel_rfl) (by kernel_rfl) f3 hz3;obtain⟨A4,k4,l4,e4,p4,q4,r4,z4,_⟩:=Jo Tryz.underlying41 Tryz.underlying5 (by kernel_rfl) (by kernel_rfl) f4 hz4;obtain⟨A5,k5,l5,e5,p5,q5,r5,z5⟩:=Mg Tryz.underlying34 Tryz.underlying4 (by kernel_rfl) (by kernel_rfl) f5 hz5;injection e0 with e0 _
  injection e1 with e1 _
  injection e2 with e2 _
  injection e3 with e3 _
  injection e4 with e4 _
  injection e5 with e5 _
  injection e6 with e6 _
  injection e7 with e7 _
  subst e0;subst e1;subst e2;subst e3;subst e4;subst e5;subst e6;subst e7;exact⟨⟨a0,a1,A2,k2,l2,(A3,k3,l3),(A4,k4,l4),A5,k5,l5,a6,a7⟩,rfl,bounds_i64 w0,bounds_i64 w1,p2,⟨r3,p3,q3,z3⟩,⟨r4,p4,q4,z4⟩,⟨r5,p5,z5⟩,bounds_i64 w6,bounds_i64 w7⟩
def Mv (w:World) (A:Option Addr) (c:Nat) (l:List K5):Prop:=l.length<=c/\c<=maxLen/\aF w A (l.flatMap LL)/\l.length*128<=140737488351232/\ ∀ x ∈ l,MW w x
theorem L4 {fuel:Nat} {cs:List Value} {x:DataW H × List MemPlace} (h:DataW.trod enc Tryz.prog w base spare held fuel 85 cs=some x) (hz:ql Tryz.prog 85 x.1):
 ∃ (A:Option Addr) (c:Nat) (l:List K5),cs=[.slice A l.length c]/\Mv w A c l:=
 LH LL (MW w) 8 128 Tryz.underlying85 (by kernel_rfl) (by kernel_rfl) (fun _=>rfl) (by decide) (fun n cs x hx hz=>MF hx hz) h hz
end
end Go.Proofs.YtmbaiglpgaoogaaGreat
namespace Go.Proofs.YtmbaiglpgaoogaaGreat
open Go.RowKit Z
section
variable {w0 w w':World} {F:SP} {v:Value} {M:List Kv} {es fs:List En}
theorem Sat.NC (h:Sat w0 (qB v M*F) w):Sat w0 (qB v M*(qB v M*F)) w:=by
 obtain⟨es,he,h1⟩:=h.mp;exact((h1.zV.Jw he).ay.Jw he).ay
end
section
variable {w0 w w':World} {F:SP} {v:Value} {M:List Kv} {es:List En}
theorem Ml {k:List UInt8}: ∀ {es:List En} {i:Nat} (hi:i<es.length),(∀ j (hj:j<es.length),j<i->es[j].key.2.2≠k)->es[i].key.2.2=k->bI k (aY es)=some es[i].value.2.2
 | e::es,0,_,_,h=>by
  show (if e.key.2.2=k then some e.value.2.2 else _)=_;exact if_pos h
 | e::es,i+1,hi,hn,h=>by
  show (if e.key.2.2=k then some e.value.2.2 else bI k (aY es))=_;refine(if_neg (hn 0 (by simp) (by omega))).trans ?_;exact Ml (i:=i) (by simpa using hi) (fun j hj hji=>hn (j+1) (by simpa using hj) (by omega)) h
theorem MM {k:List UInt8} {es:List En} (h: ∀ j (hj:j<es.length),es[j].key.2.2≠k):bI k (aY es)=none:=ft fun p hp=>by
 unfold aY at hp;obtain⟨e,he,rfl⟩:=List.mem_map.1 hp;obtain⟨j,hj,rfl⟩:=List.getElem_of_mem he;exact h j hj
theorem M8 (K:du) (hK: ∀ W,Sat w0 F W->Rd W K.1 K.2.2) (h:Sat w0 (qB v M*F) w) (hl:M.length<=100000):
 Calls Tryz.prog 81 #[.agg #[v],.slice K.1 K.2.2.length K.2.1] w fun x w'=> ∃ A c,x = .returned (.tuple #[.slice A ((bI K.2.2 M).getD []).length c,.bool (bI K.2.2 M).isSome])/\Sat w0 (cd [(A,c,(bI K.2.2 M).getD [])]*(qB v M*F)) w':=by
 obtain⟨es,he,h1⟩:=h.mp;obtain⟨A,c,rfl,hc1,hc2⟩:=h1.zY;have hel:es.length<=100000:=by rw[<-bX,he];exact hl
 obtain⟨KA,KC,kl⟩:=K;have HPr:Hid (∀ W,Sat w0 F W->Rd W KA kl):=ah hK;have h2:=h1.bO (b:=w.heap.size) 32 #[.slice A es.length c] rfl;have HE:=ah he;clear h h1 he hK hl hc1 hc2;show Calls Tryz.prog 81 #[.agg #[.slice A es.length c],.slice KA kl.length KC] w fun x w'=> ∃ A c,x = .returned (.tuple #[.slice A ((bI kl M).getD []).length c,.bool (bI kl M).isSome])/\Sat w0 (cd [(A,c,(bI kl M).getD [])]*(qB (.slice _ es.length _) M*F)) w'
 go_enter Tryz.func81, Tryz.ntmps81;go_upto_region 1 with fail;revert h2;generalize w.alloc _=W;intro h2;generalize w.heap.size=E at*
 have HS:=ah h2;clear h2;go_wp2_with fail;go_loopw [6] (fun iv wr=> ∃ (i:Nat),i<=es.length/\iv = .int .i64 (i:Int)/\Hid ((∀ j (hj:j<es.length),j<i->es[j].key.2.2≠kl)/\Sat w0 (Pt E 32 #[.slice A es.length c]*(fw (.slice A es.length c) es*F)) wr)) (fun iv _=>es.length - (intOf iv).toNat)
 case atStart=>exact⟨0,by omega,rfl,(fun j _ h=>by omega),HS.o⟩
 case round=>
  obtain⟨i,hi,rfl,HD⟩:=hrel;have x0:wr.cell? ⟨E,0,none⟩=some (.slice A es.length c):=HD.o.2.cell 0;by_cases hlt:i<es.length
  .have hsr:=HD.o.2.drew;obtain⟨lb,lo,rfl,hq⟩:=nc hsr.right.kL (by omega);obtain⟨y0,y1⟩:=hq i hlt;have ra:=hsr.right.tO _ (List.getElem_mem hlt);obtain⟨SA,SB,B1,e1,e2,e3,e4⟩:=oU es[i].key.2.2 kl;have s1:=dy ra.1 es[i].key.2.1;have s2:=dy (HPr.o _ hsr.right.right) KC;rw[<-e1] at s1;rw[<-e2] at s2;have HB4:=ah e4;have HIn:Hid (es[i].value ∈ cq es):=ah (List.mem_flatMap.2 ⟨es[i],List.getElem_mem hlt,by simp⟩);have HHit:Hid (es[i].key.2.2=kl->bI kl M=some es[i].value.2.2):=ah fun h0=>by
    rw[<-HE.o];exact Ml hlt HD.o.1 h0
   have HLq:Hid (es[i].key.2.2≠kl-> ∀ j (hj:j<es.length),j<i+1->es[j].key.2.2≠kl):=ah fun h0 j hj hji=>by
    by_cases e:j=i
    .subst e;exact h0
    .exact HD.o.1 j hj (by omega)
   clear hq ra e1 e2 e4;generalize es[i]=p at*
   obtain⟨⟨kA,kc,kl0⟩,⟨vA,vc,vl⟩,eq1,dd1⟩:=p;replace y0:_=some (Value.slice kA kl0.length kc):=y0;replace y1:_=some (Value.slice vA vl.length vc):=y1;dsimp only at s1 HB4;have hii:(i:Int)<es.length:=by omega
   have x1:wr.drew.cell? ⟨E,0,none⟩=some (.slice (some ⟨lb,lo,none⟩) es.length c):=hsr.cell 0;have G0:Hid (wr.drew.cell? ⟨E,0,none⟩=some (.slice (some ⟨lb,lo,none⟩) es.length c)/\wr.drew.cell? ⟨lb,lo+i*2,none⟩=some (.slice kA kl0.length kc)/\(convert 41 9 (.slice kA kl0.length kc)).run Tryz.prog wr.drew = .ok (.string SA) wr.drew/\(convert 41 9 (.slice KA kl.length KC)).run Tryz.prog wr.drew = .ok (.string SB) wr.drew):=ah ⟨x1,y0,s1,s2⟩;have HR:=ah hsr;have Y1:=ah y1;clear y0 y1 s1 s2 hsr x1;go_upto_region 4 with fail;have E3:=ah e3
   cases B1 with
   | true=>
    have e3:=E3.o;refine wp_region_held_drew (S:=fun w'=>w'.cell? ⟨E,0,none⟩=some (.slice (some ⟨lb,lo,none⟩) es.length c)/\w'.cell? ⟨lb,lo+i*2,none⟩=some (.slice kA kl0.length kc)/\(convert 41 9 (.slice kA kl0.length kc)).run Tryz.prog w' = .ok (.string SA) w'/\(convert 41 9 (.slice KA kl.length KC)).run Tryz.prog w' = .ok (.string SB) w') (by kernel_rfl) G0.o ?_;intro hS0;refine an 0 1 2 3 ?_;refine an 4 5 6 7 ?_;refine cw 8 9 ?_;refine wpAnyH_done (by kernel_rfl) ?_ _;have hK:=HHit.o (of_decide_eq_true HB4.o.symm);replace hK:bI kl M=some vl:=hK;have HK:=ah hK;have y1:=Y1.o;have x1:wr.drew.cell? ⟨E,0,none⟩=some (.slice (some ⟨lb,lo,none⟩) es.length c):=HR.o.cell 0;clear hK e3;go_wp2_with fail;go_ret2;refine⟨vA,vc,by rw[HK.o];rfl,?_⟩;rw[HK.o];have h5:=HR.o.right.oW.ij (rs':=[(vA,vc,vl)]) (fun r hr=>by rw[List.mem_singleton] at hr;rw[hr];exact HIn.o);exact(h5.ay.Jw HE.o).ay
   | false=>
    have e3:=E3.o;refine wp_region_held_drew (S:=fun w'=>w'.cell? ⟨E,0,none⟩=some (.slice (some ⟨lb,lo,none⟩) es.length c)/\w'.cell? ⟨lb,lo+i*2,none⟩=some (.slice kA kl0.length kc)/\(convert 41 9 (.slice kA kl0.length kc)).run Tryz.prog w' = .ok (.string SA) w'/\(convert 41 9 (.slice KA kl.length KC)).run Tryz.prog w' = .ok (.string SB) w') (by kernel_rfl) G0.o ?_;intro hS0;refine an 0 1 2 3 ?_;refine an 4 5 6 7 ?_;refine cw 8 9 ?_;refine wpAnyH_done (by kernel_rfl) ?_ _;have HLt:=ah (HLq.o (of_decide_eq_false HB4.o.symm));clear e3;go_wp2_with fail;go_roundw
    .exact⟨i+1,by omega,by push_cast;rfl,HLt.o,HR.o⟩
    .simp[intOf];omega
  .have hie:i=es.length:=by omega
   have HK:Hid (bI kl M=none):=ah (by
    rw[<-HE.o];exact MM fun j hj=>HD.o.1 j hj (by omega))
   have hii:¬ (i:Int)<es.length:=by omega
   clear hlt hie;go_wp2_with fail;go_ret2;refine⟨none,0,by rw[HK.o];rfl,?_⟩;rw[HK.o];exact Sat.mj (HD.o.2.right.Jw HE.o) _ (by intro r hr;rw[List.mem_singleton] at hr;rw[hr];rfl)
theorem MP {f t:List UInt8} {es:List En} {i q:Nat} (h:((oJ f t (aY (es.take i))).take q).length=q):(oJ f t (aY es)).take q=(oJ f t (aY (es.take i))).take q:=by
 have e:aY es=aY (es.take i)++aY (es.drop i):=by rw[<-js,List.take_append_drop]
 have e2:oJ f t (aY es)=oJ f t (aY (es.take i))++oJ f t (aY (es.drop i)):=by rw[e];exact List.filter_append ..
 rw[e2,List.take_append_of_le_length];rw[List.length_take] at h;omega
theorem MN {f t:List UInt8} {es:List En} {i:Nat} (hi:i<es.length):oJ f t (aY (es.take (i+1)))=oJ f t (aY (es.take i))++(if Iq f t es[i].key.2.2=true then [(es[i].key.2.2,es[i].value.2.2)] else []):=by
 rw[List.take_add_one,List.getElem?_eq_getElem hi,js];unfold oJ;rw[List.filter_append];congr 1
 show List.filter (fun p:Kv=>Iq f t p.1) [(es[i].key.2.2,es[i].value.2.2)]=_;rw[List.filter_cons,List.filter_nil]
theorem MJ (f t:du) (aG:Int) (hK: ∀ W,Sat w0 F W->Rd W f.1 f.2.2/\Rd W t.1 t.2.2) (h:Sat w0 (qB v M*F) w) (hl:M.length<=100000):
 Calls Tryz.prog 83 #[.agg #[v],.slice f.1 f.2.2.length f.2.1,.slice t.1 t.2.2.length t.2.1,.int .i64 aG] w fun x w'=> ∃ v',x = .returned v'/\Sat w0 (qB v' ((oJ f.2.2 t.2.2 M).take aG.toNat)*(qB v M*F)) w':=by
 obtain⟨es,he,h1⟩:=h.mp;obtain⟨A,c,rfl,hc1,hc2⟩:=h1.zY;have hel:es.length<=100000:=by rw[<-bX,he];exact hl
 obtain⟨fA,fC,fl⟩:=f;obtain⟨tA,tC,tl⟩:=t;obtain⟨j0,hj,hy0,hy1,hy2⟩:=info_parts uD;have Hj:=ah hj;have Hy0:=ah hy0;have Hy1:=ah hy1;have Hy2:=ah hy2;have HPr:Hid (∀ W,Sat w0 F W->Rd W fA fl/\Rd W tA tl):=ah hK;have h2:=h1.bO (b:=w.heap.size) 32 #[.slice A es.length c] rfl;have HE:=ah he;clear h h1 he hK hl hc1 hc2 hj hy0 hy1 hy2;show Calls Tryz.prog 83 #[.agg #[.slice A es.length c],.slice fA fl.length fC,.slice tA tl.length tC,.int .i64 aG] w fun x w'=> ∃ v',x = .returned v'/\Sat w0 (qB v' ((oJ fl tl M).take aG.toNat)*(qB (.slice _ es.length _) M*F)) w'
 go_enter Tryz.func83, Tryz.ntmps83;go_upto_region 1 with fail;revert h2;generalize w.alloc _=W;intro h2;generalize w.heap.size=E at*
 have HS:=ah (h2.aN 65 2);clear h2;go_wp2_with fail;go_loopw [9,10] (fun ov iv wr=> ∃ (i m d:Nat) (B:Option Addr) (gs:List En),i<=es.length/\m<=i/\iv = .int .i64 (i:Int)/\ov = .slice B m d/\Hid (gs.length=m/\aY gs=(oJ fl tl (aY (es.take i))).take aG.toNat/\(∀ g ∈ gs,g ∈ es)/\Sat w0 (Row 65 2 (.slice B m d) m (gs.flatMap cL)*(Pt E 32 #[.slice A es.length c]*(fw (.slice A es.length c) es*F))) wr)) (fun _ iv _=>es.length - (intOf iv).toNat)
 case atStart=>exact⟨0,0,0,none,[],by omega,by omega,rfl,rfl,rfl,by simp[aY,oJ],(fun g hg=>by cases hg),HS.o⟩
 case round=>
  obtain⟨i,m,d,B,gs,hi,hmi,rfl,rfl,HD⟩:=hrel;have x0:wr.cell? ⟨E,0,none⟩=some (.slice A es.length c):=HD.o.2.2.2.ay.cell 0;have HFin:Hid (aY gs=(oJ fl tl M).take aG.toNat->Sat w0 (qB (.slice B m d) ((oJ fl tl M).take aG.toNat)*(qB (.slice A es.length c) M*F)) wr):=ah fun h0=>by
   have h5:=(HD.o.2.2.2.of (show _=fw (.slice A es.length c) es*(Pt E 32 #[.slice A es.length c]*(Row 65 2 (.slice B m d) m (gs.flatMap cL)*F)) by ac_rfl)).oW.ij (sJ HD.o.2.2.1);have h6:Sat w0 (Row 65 2 (.slice B m d) m (gs.flatMap cL)*(cd (cq gs)*(fw (.slice A es.length c) es*F))) wr:=(h5.of (show _=Pt E 32 #[.slice A es.length c]*(Row 65 2 (.slice B m d) m (gs.flatMap cL)*(cd (cq gs)*(fw (.slice A es.length c) es*F))) by ac_rfl)).right;exact(((h6.tQ HD.o.1).Jw h0).ay.Jw HE.o).ay
  by_cases hlt:i<es.length
  .have hii:(i:Int)<es.length:=by omega
   by_cases hmm:(m:Int)<aG
   .obtain⟨lb,lo,rfl,hq⟩:=nc HD.o.2.2.2.right.right.kL (by omega);obtain⟨y0,y1⟩:=hq i hlt;have hsd:=HD.o.2.2.2;have ra:=hsd.right.right.tO _ (List.getElem_mem hlt);obtain⟨SA,SB,B1,e1,e2,e3,e4⟩:=F1 es[i].key.2.2 fl;obtain⟨SA',SC,B2,e1',e2',e3',e4'⟩:=F1 es[i].key.2.2 tl;have s1:=dy ra.1 es[i].key.2.1;have s2:=dy (HPr.o _ hsd.right.right.right).1 fC;have s3:=dy (HPr.o _ hsd.right.right.right).2 tC;rw[<-e1] at s1;rw[<-e2] at s2;rw[<-e2'] at s3;rw[e1', <-e1] at e3';have HB1:=ah e4;have HB2:=ah e4';have HIn:=ah (List.getElem_mem hlt);have HSt:=ah (MN (f:=fl) (t:=tl) hlt);clear hq ra e1 e2 e4 e1' e2' e4';generalize es[i]=p at*
    obtain⟨⟨kA,kc,kl0⟩,⟨vA,vc,vl⟩,eq1,dd1⟩:=p;replace y0:_=some (Value.slice kA kl0.length kc):=y0;replace y1:_=some (Value.slice vA vl.length vc):=y1;dsimp only at s1 HB1 HB2 HSt;have HS2:=ah hsd;clear hsd;have HNo:Hid (Iq fl tl kl0=false->Hid (gs.length=m/\aY gs=(oJ fl tl (aY (es.take (i+1)))).take aG.toNat/\(∀ g ∈ gs,g ∈ es))):=ah fun h0=>by
     refine⟨HD.o.1,?_,HD.o.2.2.1⟩;rw[HSt.o,if_neg (by rw[h0];simp),List.append_nil];exact HD.o.2.1
    cases B1 with
    | true=>
     have HI:=ah (HNo.o (by unfold Iq;rw[<-HB1.o];rfl));go_wp2_with fail;go_roundw
     .exact⟨i+1,m,d,B,gs,by omega,by omega,by push_cast;rfl,rfl,HI.o.out.1,HI.o.out.2.1,HI.o.out.2.2,HS2.o⟩
     .simp[intOf];omega
    | false=>
     by_cases ht0:tl.length=0
     .have hz0:((tl.length:Int)==0)=true:=by rw[ht0];rfl
      have HI:Hid (Iq fl tl kl0=true):=ah (by unfold Iq;rw[<-HB1.o,List.eq_nil_of_length_eq_zero ht0];rfl);clear ht0;go_upto_region 7 with fail;have HSa:=ah (HS2.o.aD (.cells #[.slice kA kl0.length kc,.slice vA vl.length vc] 65));go_wp2_with (at_builtin;refine av rfl (.tmp 47) (.tmp 53) 30 rfl 65 j0 _ 2 48 Tryz.underlying30 Hj.o Hy0.o Hy1.o Hy2.o rfl (by decide) (.slice B m d) m (gs.flatMap cL) rfl w0 _ (by exact HSa.o) (some ⟨wr.heap.size,0,none⟩) 1 1 [.slice kA kl0.length kc,.slice vA vl.length vc] rfl (by exact(aR _ _ _)) rfl (by intro u hu;simp at hu;rcases hu with rfl | rfl<;>rfl) (by unfold maxLen;omega) (by omega) ?_;intro B7 c7 w7 hs7;have HS7:=ah hs7;clear hs7);go_roundw
      .refine⟨i+1,m+1,c7,B7,gs++[⟨(kA,kc,kl0),(vA,vc,vl),eq1,dd1⟩],by omega,by omega,by push_cast;rfl,rfl,?_,?_,?_,?_⟩
       .rw[List.length_append,HD.o.1];rfl
       .have h7:=congrArg List.length HD.o.2.1;rw[bX,HD.o.1,List.length_take] at h7;have h8:(oJ fl tl (aY (es.take i))).length=m:=by omega
        have h9:=HD.o.2.1;rw[List.take_of_length_le (by omega)] at h9;rw[HSt.o,if_pos HI.o,List.take_of_length_le (by rw[List.length_append,h8];show m+1<=_;omega), <-h9,js];rfl
       .intro g hg;rcases List.mem_append.1 hg with hg | hg
        .exact HD.o.2.2.1 g hg
        .rw[List.mem_singleton] at hg;rw[hg];exact HIn.o
       .rw[List.flatMap_append];exact HS7.o
      .simp[intOf];omega
     .have hz0:((tl.length:Int)==0)=false:=by rw[beq_eq_false_iff_ne];omega
      cases B2 with
      | true=>
       have HI:Hid (Iq fl tl kl0=true):=ah (by unfold Iq;rw[<-HB1.o, <-HB2.o];simp);clear ht0;go_upto_region 7 with fail;have HSa:=ah (HS2.o.aD (.cells #[.slice kA kl0.length kc,.slice vA vl.length vc] 65));go_wp2_with (at_builtin;refine av rfl (.tmp 47) (.tmp 53) 30 rfl 65 j0 _ 2 48 Tryz.underlying30 Hj.o Hy0.o Hy1.o Hy2.o rfl (by decide) (.slice B m d) m (gs.flatMap cL) rfl w0 _ (by exact HSa.o) (some ⟨wr.heap.size,0,none⟩) 1 1 [.slice kA kl0.length kc,.slice vA vl.length vc] rfl (by exact(aR _ _ _)) rfl (by intro u hu;simp at hu;rcases hu with rfl | rfl<;>rfl) (by unfold maxLen;omega) (by omega) ?_;intro B7 c7 w7 hs7;have HS7:=ah hs7;clear hs7);go_roundw
       .refine⟨i+1,m+1,c7,B7,gs++[⟨(kA,kc,kl0),(vA,vc,vl),eq1,dd1⟩],by omega,by omega,by push_cast;rfl,rfl,?_,?_,?_,?_⟩
        .rw[List.length_append,HD.o.1];rfl
        .have h7:=congrArg List.length HD.o.2.1;rw[bX,HD.o.1,List.length_take] at h7;have h8:(oJ fl tl (aY (es.take i))).length=m:=by omega
         have h9:=HD.o.2.1;rw[List.take_of_length_le (by omega)] at h9;rw[HSt.o,if_pos HI.o,List.take_of_length_le (by rw[List.length_append,h8];show m+1<=_;omega), <-h9,js];rfl
        .intro g hg;rcases List.mem_append.1 hg with hg | hg
         .exact HD.o.2.2.1 g hg
         .rw[List.mem_singleton] at hg;rw[hg];exact HIn.o
        .rw[List.flatMap_append];exact HS7.o
       .simp[intOf];omega
      | false=>
       have HI:=ah (HNo.o (by unfold Iq;rw[<-HB1.o, <-HB2.o,decide_eq_false (by intro h0;rw[h0] at ht0;exact ht0 rfl)];rfl));clear ht0;go_wp2_with fail;go_roundw
       .exact⟨i+1,m,d,B,gs,by omega,by omega,by push_cast;rfl,rfl,HI.o.out.1,HI.o.out.2.1,HI.o.out.2.2,HS2.o⟩
       .simp[intOf];omega
   .have HT:=ah (HFin.o (by
     rw[HD.o.2.1, <-HE.o];have h7:=congrArg List.length HD.o.2.1;rw[bX,HD.o.1] at h7;exact(MP (by rw[<-h7];rw[List.length_take] at h7;omega)).symm))
    go_wp2_with fail;go_ret;exact⟨_,rfl,HT.o⟩
  .have hie:i=es.length:=by omega
   have HT:=ah (HFin.o (by rw[HD.o.2.1,hie,List.take_length,HE.o]));have hii:¬ (i:Int)<es.length:=by omega
   clear hlt hie;go_wp2_with fail;go_ret;exact⟨_,rfl,HT.o⟩
end
theorem L5 (v:Value) (M:List Kv): ∀ (vs:List Value) (Ms:List (List Kv)),vs.length=Ms.length->I9 (vs++[v]) (Ms++[M])=qB v M*I9 vs Ms
 | [],[],_=>rfl
 | u::vs,N::Ms,h=>by
  show qB u N*I9 (vs++[v]) (Ms++[M])=qB v M*(qB u N*I9 vs Ms);rw[L5 v M vs Ms (by simpa using h)];exact aX _ _ _
def Lu (Ms:List (List Kv)) (gs:List Bool) (i:Int):Option (List Kv):=if 1<=i/\gs[(i - 1).toNat]?=some false then Ms[(i - 1).toNat]? else none
theorem Nj:(Tryz.prog.info? 32).map (fun i=>(i.zero,i.size,i.bytes))=some (some (.agg #[.slice none 0 0]),1,24):=by kernel_rfl
theorem Nr:(Tryz.prog.info? 4).map (fun i=>(i.zero,i.size,i.bytes))=some (some (.bool false),1,1):=by kernel_rfl
section
variable {w0 w w':World} {F:SP} {g:Nat} {v vo vg:Value} {M:List Kv} {vs:List Value} {Ms:List (List Kv)} {gs:List Bool}
theorem Sat.Mn: ∀ {vs:List Value} {Ms:List (List Kv)} {F:SP} {i:Nat} (hv:i<vs.length) (hM:i<Ms.length),Sat w0 (I9 vs Ms*F) w->Sat w0 (qB vs[i] Ms[i]*(I9 vs Ms*F)) w
 | u::vs,N::Ms,F,0,hv,hM,h=>(((h.of (aB _ _ _)).NC).of (by show _=qB u N*((qB u N*I9 vs Ms)*F);ac_rfl))
 | u::vs,N::Ms,F,i+1,hv,hM,h=>(Sat.Mn (F:=qB u N*F) (i:=i) (by simpa using hv) (by simpa using hM) (h.of (by show (qB u N*I9 vs Ms)*F=_;ac_rfl))).of (by show _=qB (vs[i]'(by simpa using hv)) (Ms[i]'(by simpa using hM))*((qB u N*I9 vs Ms)*F);ac_rfl)
theorem MO (h:Sat w0 (eN g M Ms gs*F) w) (hl:M.length<=10000) (hn:Ms.length<=10000):
 Calls Tryz.prog 84 #[.pointer (some ⟨g,0,none⟩)] w fun x w'=>x = .returned (.int .i64 (Ms.length+1:Nat))/\Sat w0 (eN g M (Ms++[M]) (gs++[false])*F) w':=by
 obtain⟨v,vo,vg,vs,⟨hv,hg⟩,h1⟩:=h.La;have h2:=h1.of (tj ..);obtain⟨oA,oc,rfl,ho1,ho2⟩:=h2.right.bm;obtain⟨gA,gc,rfl,hg1,hg2⟩:=h2.right.right.bm;obtain⟨j0,hj,hy0,hy1,hy2⟩:=info_parts Nj;obtain⟨j1,hj1,hz0,hz1,hz2⟩:=info_parts Nr;have Hj:=ah hj;have Hy0:=ah hy0;have Hy1:=ah hy1;have Hy2:=ah hy2;have Hj1:=ah hj1;have Hz0:=ah hz0;have Hz1:=ah hz1;have Hz2:=ah hz2;have HV:=ah (And.intro hv hg);have HS:=ah h2.drew;have hvn:vs.length<=10000:=by omega
 have hgn:gs.length<=10000:=by omega
 clear h h1 h2 hj hy0 hy1 hy2 hj1 hz0 hz1 hz2 ho1 ho2 hg1 hg2 hv hg hn;go_enter Tryz.func84, Tryz.ntmps84;go_upto_region 1 with fail;refine xM (z:=14) (S:=fun w'=>w'.cell? ⟨g,0,none⟩=some v/\w'.cell? ⟨g,1,none⟩=some (.slice oA vs.length oc)) (by kernel_rfl) ⟨HS.o.cell 0,HS.o.cell 1⟩ ?_;intro hS0;refine mW 0 ?_;refine mW 1 ?_;refine mW 2 ?_;refine mW 3 ?_;refine mW 4 ?_;refine mW 5 ?_;refine mW 6 ?_;refine mW 7 ?_;refine mW 8 ?_;refine Gm 9 fun K hK=>?_
 go_simp;go_at_call 28;refine(BZ (HS.o.bL) (by omega)).mono ?_;rintro x w9 ⟨v9,rfl,hs9⟩;have HS9:=ah hs9;have HO9:Hid (v9.oneCell'=true):=ah (by obtain⟨_,_,h0⟩:=HS9.o.mp;obtain⟨_,_,h1,_⟩:=h0.zY;rw[h1];rfl);clear hs9
 refine hK.out _ _ ⟨HS9.o.bp.cell 0,HS9.o.bp.cell 1⟩ (fun hS0=>?_);clear hK K;refine Gm 10 fun K hK=>?_
 go_simp;have HS10:=ah (HS9.o.aD (.cells #[v9] 32));refine hK.out _ _ ⟨HS10.o.bp.cell 0,HS10.o.bp.cell 1⟩ (fun hS0=>?_);clear hK K;refine Gm 11 fun K hK=>?_
 refine aQ rfl (.tmp 7) (.tmp 13) 33 rfl 32 j0 _ 1 24 Tryz.underlying33 Hj.o Hy0.o Hy1.o Hy2.o rfl (by decide) (.slice oA vs.length oc) vs.length vs rfl w0 _ (by exact HS10.o.of (show _=Row 32 1 (.slice oA vs.length oc) vs.length vs*(qB v9 M*(qB v M*(Pt g 36 #[v,.slice oA vs.length oc,.slice gA gs.length gc]*(Row 4 1 (.slice gA gs.length gc) gs.length (gs.map Value.bool)*(I9 vs Ms*F))))) by ac_rfl)) (some ⟨w9.heap.size,0,none⟩) 1 1 [v9] rfl (by exact(aR _ _ _)) rfl (by intro u hu;rw[List.mem_singleton.1 hu];exact HO9.o) (by unfold maxLen;omega) (by omega) ?_;intro A11 c11 w11 hs11;have HS11:=ah hs11;have f11:=hs11.bL.frozen 1;have x11:=hs11.bL.cell 1;clear hs11;refine hK.out _ _ ⟨HS11.o.bL.cell 0,HS11.o.bL.cell 1⟩ (fun hS0=>?_);clear hK K
 try simp only[Act.put,et,eh,ep]
 refine Gm 12 fun K hK=>?_
 go_simp;refine hK.out _ _ ⟨HS11.o.bL.cell 0,HS11.o.bL.cell 1⟩ (fun hS0=>?_);clear hK K;refine mW 13 ?_;refine te rfl (by kernel_rfl) (by kernel_rfl) (fun K hK=>?_);go_simp;refine hK.out _ _ ?_;clear hK K;have h14:=(HS11.o.of (show _=Pt g 36 #[v,.slice oA vs.length oc,.slice gA gs.length gc]*(Row 32 1 (.slice A11 (vs.length+1) c11) (vs.length+1) (vs++[v9])*(qB v9 M*(Row 4 1 (.slice gA gs.length gc) gs.length (gs.map Value.bool)*(qB v M*(I9 vs Ms*F))))) by ac_rfl)).set 1 (.slice A11 (vs.length+1) c11);revert h14;generalize World.setCell _ _ _=W14;intro h14;have hs2:=(h14.of (show _=Row 4 1 (.slice gA gs.length gc) gs.length (gs.map Value.bool)*(Pt g 36 #[v,.slice A11 (vs.length+1) c11,.slice gA gs.length gc]*(Row 32 1 (.slice A11 (vs.length+1) c11) (vs.length+1) (vs++[v9])*(qB v9 M*(qB v M*(I9 vs Ms*F))))) by ac_rfl));have x1:W14.cell? ⟨g,2,none⟩=some (.slice gA gs.length gc):=hs2.right.cell 2;have HS15:=ah (hs2.aD (.cells #[.bool false] 4));clear h14 hs2 HS11 HS;go_upto_region 3 with (at_builtin;refine av rfl (.tmp 21) (.tmp 22) 34 rfl 4 j1 _ 1 1 Tryz.underlying34 Hj1.o Hz0.o Hz1.o Hz2.o rfl (by decide) (.slice gA gs.length gc) gs.length (gs.map Value.bool) rfl w0 _ (by exact HS15.o) (some ⟨W14.heap.size,0,none⟩) 1 1 [.bool false] rfl (by exact(aR _ _ _)) rfl (by intro u hu;simp at hu;rcases hu with rfl;rfl) (by unfold maxLen;omega) (by omega) ?_;intro B16 c16 w16 hs16;have HS16:=ah hs16;have x2:=hs16.ay.cell 2;have f2:=hs16.ay.frozen 2;clear hs16)
 have h17:=HS16.o.ay.set 2 (.slice B16 (gs.length+1) c16);revert h17;generalize World.setCell _ _ _=W17;intro h17;have x3:W17.cell? ⟨g,1,none⟩=some (.slice A11 (vs.length+1) c11):=h17.cell 1;have HS17:=ah h17;clear h17 f2 x2 x1;go_wp2_with fail;go_ret;refine⟨by rw[HV.o.1];rfl,?_⟩;refine Sat.G3 (v:=v) (vo:= .slice A11 (vs.length+1) c11) (vg:= .slice B16 (gs.length+1) c16) (vs:=vs++[v9]) ?_ (by rw[List.length_append,List.length_append,HV.o.1];rfl) (by rw[List.length_append,List.length_append,HV.o.2];rfl);rw[tj,L5 v9 M vs Ms HV.o.1,List.map_append,List.length_append,List.length_append];exact HS17.o.of (by show Pt g 36 #[v,.slice A11 (vs.length+1) c11,.slice B16 (gs.length+1) c16]*(Row 4 1 (.slice B16 (gs.length+1) c16) (gs.length+1) (gs.map Value.bool++[.bool false])*(Row 32 1 (.slice A11 (vs.length+1) c11) (vs.length+1) (vs++[v9])*(qB v9 M*(qB v M*(I9 vs Ms*F)))))=Pt g 36 #[v,.slice A11 (vs.length+1) c11,.slice B16 (gs.length+1) c16]*(Row 32 1 (.slice A11 (vs.length+1) c11) (vs.length+1) (vs++[v9])*(Row 4 1 (.slice B16 (gs.length+1) c16) (gs.length+1) (gs.map Value.bool++[.bool false])*(qB v M*((qB v9 M*I9 vs Ms)*F))));ac_rfl)
theorem Sat.LS {e:TypeId} {n c:Nat} {A:Option Addr} {xs:List Value} (h:Sat w0 (Row e 1 (.slice A n c) n xs*F) w) (hn:0<n): ∃ b,A=some ⟨b,0,none⟩/\xs.length=n:=by
 obtain⟨hl,⟨_,e2,_⟩ | ⟨b,cap,cur,e1,_⟩⟩:=h.cu
 .omega
 .injection e1 with e1
  exact⟨b,e1,by rw[hl,Nat.mul_one]⟩
theorem MA (i:Int) (hi: -9223372036854775808<=i/\i<=9223372036854775807) (h:Sat w0 (eN g M Ms gs*F) w) (hn:Ms.length<=10000):
 Calls Tryz.prog 86 #[.pointer (some ⟨g,0,none⟩),.int .i64 i] w fun x w'=> ∃ v',x = .returned (.tuple #[.agg #[v'],.int .i64 (if (Lu Ms gs i).isSome=true then 0 else 104)])/\Sat w0 (qB v' ((Lu Ms gs i).getD [])*(eN g M Ms gs*F)) w':=by
 obtain⟨v,vo,vg,vs,⟨hv,hg⟩,h1⟩:=h.La;have h2:=h1.of (tj ..);obtain⟨oA,oc,rfl,ho1,ho2⟩:=h2.right.bm;obtain⟨gA,gc,rfl,hg1,hg2⟩:=h2.right.right.bm;have h3:=h2.bO (b:=w.heap.size) 32 #[.slice none 0 0] rfl;have HT:Hid (∀ W N v',Sat w0 (qB v' N*(Pt g 36 #[v,.slice oA vs.length oc,.slice gA gs.length gc]*(Row 32 1 (.slice oA vs.length oc) vs.length vs*(Row 4 1 (.slice gA gs.length gc) gs.length (gs.map Value.bool)*(qB v M*(I9 vs Ms*F)))))) W->Sat w0 (qB v' N*(eN g M Ms gs*F)) W):=ah fun W N v' hW=>by
  refine(Sat.G3 (v:=v) (vo:= .slice oA vs.length oc) (vg:= .slice gA gs.length gc) (vs:=vs) (F:=qB v' N*F) ?_ hv hg).ay;rw[tj];exact hW.of (by ac_rfl)
 have HV:=ah (And.intro hv hg);have hvn:vs.length<=10000:=by omega
 obtain⟨er,her⟩: ∃ er:Int,(if (Lu Ms gs i).isSome=true then (0:Int) else 104)=er:=⟨_,rfl⟩;rw[her];have HEr:=ah her;clear her;clear h h1 h2 ho1 ho2 hg1 hg2;go_enter Tryz.func86, Tryz.ntmps86;go_upto_region 1 with fail;revert h3;generalize w.alloc _=W;intro h3;generalize w.heap.size=E at*
 have x0:=h3.cell 0;have y1:W.cell? ⟨g,1,none⟩=some (.slice oA vs.length oc):=h3.ay.cell 1;have y2:W.cell? ⟨g,2,none⟩=some (.slice gA gs.length gc):=h3.ay.cell 2;have HS:=ah h3;have hgl:gs.length=vs.length:=by omega
 clear h3 hv hg hn;by_cases h1:i<1
 .have HO:Hid (Lu Ms gs i=none):=ah (by unfold Lu;rw[if_neg (by omega)]);have f0:=HS.o.frozen 0;have h6:=HS.o.set 0 (.slice none 0 0);go_wp2_with fail;revert h6;generalize World.setCell _ _ _=W6;intro h6;refine bodyPost_ret (results_cell_tmp (p:=4) (q:=5) (by kernel_rfl) _ _ E 32 _ (0,0) _ _ rfl rfl h6.at Tryz.underlying32 rfl (by kernel_rfl)) rfl ?_;refine⟨.slice none 0 0,by rw[<-HEr.o,HO.o];rfl,?_⟩;rw[HO.o];exact HT.o _ _ _ (Sat.II h6.right)
 .by_cases h2:(vs.length:Int)<i
  .have HO:Hid (Lu Ms gs i=none):=ah (by
    unfold Lu;rw[if_neg];rintro ⟨_,h4⟩;rw[List.getElem?_eq_none (by omega)] at h4
    cases h4)
   have f0:=HS.o.frozen 0;have h6:=HS.o.set 0 (.slice none 0 0);go_wp2_with fail;revert h6;generalize World.setCell _ _ _=W6;intro h6;refine bodyPost_ret (results_cell_tmp (p:=4) (q:=5) (by kernel_rfl) _ _ E 32 _ (0,0) _ _ rfl rfl h6.at Tryz.underlying32 rfl (by kernel_rfl)) rfl ?_;refine⟨.slice none 0 0,by rw[<-HEr.o,HO.o];rfl,?_⟩;rw[HO.o];exact HT.o _ _ _ (Sat.II h6.right)
  .obtain⟨j,hj⟩: ∃ j:Nat,i=(j:Int)+1:=⟨(i - 1).toNat,by omega⟩;subst hj;have hjv:j<vs.length:=by omega
   have hjg:j<gs.length:=by omega
   have hjM:j<Ms.length:=by have:=HV.o.1;omega
   have hjt:((j:Int)+1 - 1).toNat=j:=by omega
   have hjw:IntKind.i64.wrap ((j:Int)+1 - 1)=(j:Int):=by rw[IntKind.wrap_i64];omega
   obtain⟨ob,rfl,_⟩:=HS.o.right.right.LS (by omega);obtain⟨gb,rfl,_⟩:=HS.o.right.right.right.LS (by omega);have z1:W.cell? ⟨ob,j,none⟩=some vs[j]:=HS.o.right.right.kx hjv;have z2:W.cell? ⟨gb,j,none⟩=some (.bool gs[j]):=by
    have:=HS.o.right.right.right.kx (j:=j) (by rw[List.length_map];exact hjg);rw[List.getElem_map] at this;exact this
   have HG:Hid (Lu Ms gs ((j:Int)+1)=if gs[j]=false then some Ms[j] else none):=ah (by
    unfold Lu;rw[hjt,List.getElem?_eq_getElem hjg,List.getElem?_eq_getElem hjM]
    cases hgj:gs[j] with
    | true=>rw[if_neg (by simp)];rfl
    | false=>rw[if_pos ⟨by omega,rfl⟩];rfl)
   have HM:Hid (∀ w',Sat w0 (Pt E 32 #[vs[j]]*(Pt g 36 #[v,.slice (some ⟨ob,0,none⟩) vs.length oc,.slice (some ⟨gb,0,none⟩) gs.length gc]*(Row 32 1 (.slice (some ⟨ob,0,none⟩) vs.length oc) vs.length vs*(Row 4 1 (.slice (some ⟨gb,0,none⟩) gs.length gc) gs.length (gs.map Value.bool)*(qB v M*(I9 vs Ms*F)))))) w'->Sat w0 (qB vs[j] Ms[j]*(eN g M Ms gs*F)) w'):=ah fun w' hw=>by
    refine HT.o _ _ _ ?_;have h5:=(hw.right.of (show _=I9 vs Ms*(Pt g 36 #[v,.slice (some ⟨ob,0,none⟩) vs.length oc,.slice (some ⟨gb,0,none⟩) gs.length gc]*(Row 32 1 (.slice (some ⟨ob,0,none⟩) vs.length oc) vs.length vs*(Row 4 1 (.slice (some ⟨gb,0,none⟩) gs.length gc) gs.length (gs.map Value.bool)*(qB v M*F)))) by ac_rfl)).Mn hjv hjM;exact h5.of (by ac_rfl)
   have hvj:=(HS.o.right.right.right.right.right.Mn hjv hjM).JX;generalize vs[j]=vj at*
   obtain⟨va,vn,vc,rfl⟩:=hvj;generalize Ms[j]=Mj at*
   generalize gs[j]=gj at*
   have hii:((j:Nat):Int)<vs.length:=by omega
   have hig:((j:Nat):Int)<gs.length:=by omega
   clear hjt hjM hjg hjv
   cases gj with
   | true=>
    have HO:Hid (Lu Ms gs ((j:Int)+1)=none):=ah (by rw[HG.o];rfl);have f0:=HS.o.frozen 0;have h6:=HS.o.set 0 (.slice none 0 0);go_wp2_with fail;revert h6;generalize World.setCell _ _ _=W6;intro h6;refine bodyPost_ret (results_cell_tmp (p:=4) (q:=5) (by kernel_rfl) _ _ E 32 _ (0,0) _ _ rfl rfl h6.at Tryz.underlying32 rfl (by kernel_rfl)) rfl ?_;refine⟨.slice none 0 0,by rw[<-HEr.o,HO.o];rfl,?_⟩;rw[HO.o];exact HT.o _ _ _ (Sat.II h6.right)
   | false=>
    have HO:Hid (Lu Ms gs ((j:Int)+1)=some Mj):=ah (by rw[HG.o];rfl);have f0:=HS.o.frozen 0;have h6:=HS.o.set 0 (.slice va vn vc);go_wp2_with fail;revert h6;generalize World.setCell _ _ _=W6;intro h6;refine bodyPost_ret (results_cell_tmp (p:=4) (q:=5) (by kernel_rfl) _ _ E 32 _ (0,0) _ _ rfl rfl h6.at Tryz.underlying32 rfl (by kernel_rfl)) rfl ?_;refine⟨.slice va vn vc,by rw[<-HEr.o,HO.o];rfl,?_⟩;rw[HO.o];exact HM.o _ h6
theorem ML (i:Int) (hi: -9223372036854775808<=i/\i<=9223372036854775807) (h:Sat w0 (eN g M Ms gs*F) w) (hn:Ms.length<=10000):
 Calls Tryz.prog 85 #[.pointer (some ⟨g,0,none⟩),.int .i64 i] w fun x w'=>x = .returned (.int .i64 (if (Lu Ms gs i).isSome=true then 0 else 104))/\Sat w0 (eN g M Ms (if (Lu Ms gs i).isSome=true then gs.set (i - 1).toNat true else gs)*F) w':=by
 have HA:=ah (MA i hi h hn);clear h
 cases hO:Lu Ms gs i with
 | none=>
  have HO:=ah hO;replace HA:Hid (Calls Tryz.prog 86 #[.pointer (some ⟨g,0,none⟩),.int .i64 i] w fun x w'=> ∃ v',x = .returned (.tuple #[.agg #[v'],.int .i64 104])/\Sat w0 (qB v' ((Lu Ms gs i).getD [])*(eN g M Ms gs*F)) w'):=by rw[hO] at HA ⊢;exact HA
  clear hO;show Calls Tryz.prog 85 #[.pointer (some ⟨g,0,none⟩),.int .i64 i] w fun x w'=>x = .returned (.int .i64 104)/\Sat w0 (eN g M Ms gs*F) w'
  go_enter Tryz.func85, Tryz.ntmps85;go_wp2_with (go_at_call 86;(with_reducible refine HA.o.mono ?_);rintro x w1 ⟨v',rfl,hs⟩;obtain⟨va,vn,vc,rfl⟩:=hs.JX;have HS1:=ah (hs.right.aD (.cells #[.slice va vn vc] 32));clear hs);go_ret;exact⟨rfl,HS1.o⟩
 | some Mo=>
  have hO2:=hO;unfold Lu at hO2;have hc:1<=i/\gs[(i - 1).toNat]?=some false:=by
   by_cases hc:1<=i/\gs[(i - 1).toNat]?=some false
   .exact hc
   .rw[if_neg hc] at hO2;cases hO2
  obtain⟨hc1,hc2⟩:=hc;obtain⟨j,hj⟩: ∃ j:Nat,i=(j:Int)+1:=⟨(i - 1).toNat,by omega⟩;subst hj;have hjt:((j:Int)+1 - 1).toNat=j:=by omega
  rw[hjt] at hc2 ⊢;obtain⟨hjg,_⟩:=List.getElem?_eq_some_iff.1 hc2;have hjw:IntKind.i64.wrap ((j:Int)+1 - 1)=(j:Int):=by rw[IntKind.wrap_i64];omega
  have HO:=ah hO;replace HA:Hid (Calls Tryz.prog 86 #[.pointer (some ⟨g,0,none⟩),.int .i64 ((j:Int)+1)] w fun x w'=> ∃ v',x = .returned (.tuple #[.agg #[v'],.int .i64 0])/\Sat w0 (qB v' ((Lu Ms gs ((j:Int)+1)).getD [])*(eN g M Ms gs*F)) w'):=by rw[hO] at HA ⊢;exact HA
  clear hO hO2 hc1 hc2 hjt;show Calls Tryz.prog 85 #[.pointer (some ⟨g,0,none⟩),.int .i64 ((j:Int)+1)] w fun x w'=>x = .returned (.int .i64 0)/\Sat w0 (eN g M Ms (gs.set j true)*F) w'
  go_enter Tryz.func85, Tryz.ntmps85;go_upto_region 2 with (go_at_call 86;(with_reducible refine HA.o.mono ?_);rintro x w1 ⟨v',rfl,hs⟩;obtain⟨va,vn,vc,rfl⟩:=hs.JX;have HS1:=ah (hs.right.aD (.cells #[.slice va vn vc] 32));clear hs)
  obtain⟨v,vo,vg,vs,⟨hv,hg⟩,h1⟩:=HS1.o.La;have h2:=h1.of (tj ..);obtain⟨gA,gc,rfl,hg1,hg2⟩:=h2.right.right.bm;obtain⟨gb,rfl,_⟩:=h2.right.right.LS (by omega);revert h1 h2;generalize World.alloc _ _=W2;intro h1 h2;have y2:W2.cell? ⟨g,2,none⟩=some (.slice (some ⟨gb,0,none⟩) gs.length gc):=h2.cell 2;have z2:W2.cell? ⟨gb,j,none⟩=some ((gs.map Value.bool)[j]'(by rw[List.length_map];exact hjg)):=h2.right.right.kx (by rw[List.length_map];exact hjg);have f2:=h2.right.right.kF j;have HT:Hid (∀ W,Sat w0 (Row 4 1 (.slice (some ⟨gb,0,none⟩) gs.length gc) gs.length ((gs.map Value.bool).set j (.bool true))*(Pt g 36 #[v,vo,.slice (some ⟨gb,0,none⟩) gs.length gc]*(Row 32 1 vo vs.length vs*(qB v M*(I9 vs Ms*F))))) W->Sat w0 (eN g M Ms (gs.set j true)*F) W):=ah fun W hW=>by
   refine Sat.G3 (v:=v) (vo:=vo) (vg:= .slice (some ⟨gb,0,none⟩) gs.length gc) (vs:=vs) ?_ hv (by rw[List.length_set];exact hg);rw[tj,List.map_set,List.length_set];exact hW.of (by ac_rfl)
  have HS3:=ah ((h2.bp).pC (j:=j) (.bool true));have hii:((j:Nat):Int)<gs.length:=by omega
  clear h1 h2 HS1 hv hg hg1 hg2 HA;go_wp2_with fail;go_ret;refine⟨rfl,?_⟩;exact HT.o _ HS3.o
theorem Mk (h:Sat w0 (eN g M Ms gs*F) w):
 Calls Tryz.prog 47 #[.pointer (some ⟨g,0,none⟩)] w fun x w'=>x = .returned (.tuple #[])/\Sat w0 (eN g M [] []*F) w':=by
 obtain⟨v,vo,vg,vs,⟨hv,hg⟩,h1⟩:=h.La;have h2:=h1.of (tj ..);have f1:=h2.frozen 1;have x1:=h2.cell 1;have h3:=h2.set 1 (.slice none 0 0);have f2:=h3.frozen 2;have x2:=h3.cell 2;have h4:=h3.set 2 (.slice none 0 0);have HT:=ah h4;clear h h1 h2 h3 h4 hv hg;go_enter Tryz.func47, Tryz.ntmps47;go_wp2_with fail;go_end0
 refine⟨rfl,?_⟩;have h5:=HT.o;refine Sat.G3 (v:=v) (vo:= .slice none 0 0) (vg:= .slice none 0 0) (vs:=[]) (gs:=[]) (Ms:=[]) ?_ rfl rfl;rw[tj];have h6:=(((h5.of (show _=Row 32 1 vo vs.length vs*(Row 4 1 vg gs.length (gs.map Value.bool)*(I9 vs Ms*(Pt g 36 #[v,.slice none 0 0,.slice none 0 0]*(qB v M*F)))) by ac_rfl)).right.right.right.aN 4 1).aN 32 1);have h7:=h6.of (show _=Pt g 36 #[v,.slice none 0 0,.slice none 0 0]*(Row 32 1 (.slice none 0 0) 0 []*(Row 4 1 (.slice none 0 0) 0 []*(qB v M*F))) by ac_rfl);exact h7.of (by show _=_*(_*(_*(_*(bF*F))));rw[bf];rfl)
end
theorem MI (p:Kv) (M:List Kv):cI (p::M)=p.1.length+p.2.length+40+cI M:=rfl
section
variable {w0 w w':World} {F F':SP} {b d n t k a nx:Nat} {M:List Kv} {olds:Int->Option (List Kv)}
theorem M6 (i:Int) (f tt:du) (aG:Int) (hi: -9223372036854775808<=i/\i<=9223372036854775807) (hf:Rd w f.1 f.2.2) (ht':Rd w tt.1 tt.2.2) (ht:t<=1024) (h:cX w0 F b d n t k a nx M olds w) (l:List Kv) (er:Int) (hq:(olds i=none/\l=[]/\er=104)\/ ∃ Mo,olds i=some Mo/\l=(oJ f.2.2 tt.2.2 Mo).take aG.toNat/\er=0):
 Calls Tryz.prog 45 #[.pointer (some ⟨b,0,none⟩),.int .i64 i,.slice f.1 f.2.2.length f.2.1,.slice tt.1 tt.2.2.length tt.2.1,.int .i64 aG] w fun x w'=> ∃ (B:Option Addr) (c:Nat) (qs es:List En),x = .returned (.tuple #[.slice B qs.length c,.int .i64 er])/\aY qs=l/\(∀ q ∈ qs,q ∈ es)/\cX w0 (CL B c qs es*F) b d n t k a nx M olds w':=by
 obtain⟨s,S,v,D,h1,h2,h3,h4⟩:=h;refine(MQ b d s v i f tt aG hi hf ht' h4 (by have:=h1.mem.len;omega) l er ?_).mono ?_
 .rcases h1.snaps i with ⟨g1,g2⟩ | ⟨sq,Mo,g1,g2,g3,g4,g5⟩
  .rcases hq with ⟨q1,q2,q3⟩ | ⟨Mo,q1,q2,q3⟩
   .exact .inl ⟨g1,q2,q3⟩
   .rw[g2] at q1;cases q1
  .rcases hq with ⟨q1,q2,q3⟩ | ⟨Mo2,q1,q2,q3⟩
   .rw[g2] at q1;cases q1
   .rw[g2] at q1;injection q1 with q1
    subst q1;exact .inr ⟨sq,g1,by rw[q2,GN h1.mem.sort g4 g5],q3⟩
 .rintro x w' ⟨es,qs,B,c,rfl,h5,h6,hs⟩;exact⟨B,c,qs,es,rfl,h6,h5,s,S,v,D,h1,h2,h3,hs.of (by unfold CL;ac_rfl)⟩
end
theorem Mp {w0 w:World} {F:SP} {e e':TypeId} {s s' n n':Nat} {v v':Value} {xs xs':List Value} (h:Sat w0 (Row e s v n xs*(Row e' s' v' n' xs'*F)) w): ∀ g,v.ownBlock=some g->v'.ownBlock≠some g:=fun g hg hg'=>by
 obtain⟨c,z,z1,a,f,z2,rfl,z4,b,f',z5,rfl,z6,z7⟩:=h;obtain⟨o,ho⟩:=rB z4 hg;obtain⟨o',ho'⟩:=rB z6 hg';have e1:(b.un f') g=some (false,o'):=by unfold Hp.un;rw[ho'];rfl
 rcases z2 g with q | q | ⟨o'',q,q'⟩
 .rw[ho] at q;cases q
 .rw[e1] at q;cases q
 .rw[ho] at q;injection q with q;injection q with q _;cases q
def Lv (k m:Nat):SP:=fun h=> ∃ es:bY,es.length<=m/\LP k es h
theorem MZ (K:List UInt8) (o:Option (List Kv)):bI K (o.getD [])=o.bind (bI K):=by
 cases o with
 | none=>rfl
 | some M=>rfl
theorem MR {Ms:List (List Kv)} {gs:List Bool} (M:List Kv) (h:gs.length=Ms.length):Aj (Lu Ms gs) (Ms.length+1) M=Lu (Ms++[M]) (gs++[false]):=by
 funext j
 unfold Aj Lu;by_cases h1:j=((Ms.length+1:Nat):Int)
 .have h2:(j - 1).toNat=Ms.length:=by omega
  rw[if_pos h1,h2,if_pos ⟨by omega,by rw[<-h];simp⟩];simp
 .rw[if_neg h1];by_cases h2:1<=j
  .by_cases h3:(j - 1).toNat<Ms.length
   .rw[List.getElem?_append_left (by omega),List.getElem?_append_left h3]
   .rw[if_neg (by rw[List.getElem?_eq_none (by omega)];simp),if_neg (by rw[List.getElem?_eq_none (by rw[List.length_append,List.length_singleton];omega)];simp)]
  .rw[if_neg (by omega),if_neg (by omega)]
theorem MH {Ms:List (List Kv)} {gs:List Bool} (i:Int) (h:gs.length=Ms.length):LY (Lu Ms gs) i=Lu Ms (if (Lu Ms gs i).isSome=true then gs.set (i - 1).toNat true else gs):=by
 funext j
 unfold LY;by_cases h1:(Lu Ms gs i).isSome=true
 .rw[if_pos h1];have h1c:=h1;unfold Lu at h1;by_cases h2:1<=i/\gs[(i - 1).toNat]?=some false
  .obtain⟨h3,_⟩:=List.getElem?_eq_some_iff.1 h2.2;by_cases h4:j=i
   .subst h4;rw[if_pos rfl];unfold Lu;rw[if_neg];rintro ⟨_,h5⟩;rw[List.getElem?_set_self h3] at h5
    cases h5
   .rw[if_neg h4];unfold Lu;by_cases h5:1<=j
    .have h6:(i - 1).toNat≠(j - 1).toNat:=by omega
     rw[List.getElem?_set_ne h6]
    .rw[if_neg (by omega),if_neg (by omega)]
  .rw[if_neg h2] at h1;cases h1
 .rw[if_neg h1];by_cases h4:j=i
  .subst h4;rw[if_pos rfl]
   cases h5:Lu Ms gs j with
   | none=>rfl
   | some x=>rw[h5] at h1;exact absurd rfl h1
  .rw[if_neg h4]
section
variable {w0 w w':World} {F F' A B:SP} {b d n t k a nx g kb m:Nat} {M N:List Kv} {olds:Int->Option (List Kv)} {Ms:List (List Kv)} {gs:List Bool} {v:Value} {es:bY}
theorem Sat.NM (h:Sat w0 (Lv kb m*F) w): ∃ es:bY,es.length<=m/\Sat w0 (LP kb es*F) w:=by
 obtain⟨c,x,h1,a,f,h2,h3,⟨es,h4,h5⟩,h6⟩:=h;exact⟨es,h4,c,x,h1,a,f,h2,h3,h5,h6⟩
theorem Sat.Nx (h:Sat w0 (LP kb es*F) w) (hm:es.length<=m):Sat w0 (Lv kb m*F) w:=h.mono fun y ⟨a,f,h2,h3,h5,h6⟩=>⟨a,f,h2,h3,⟨es,hm,h5⟩,h6⟩
theorem Nl (h:Sat w0 F w):Sat w0 (Lv w.heap.size 0*F) (w.alloc (.cells #[.slice none 0 0,.slice none 0 0,.slice none 0 0,.slice none 0 0,.slice none 0 0,.slice none 0 0] 91)):=by
 have h1:=h.ab 91 #[.slice none 0 0,.slice none 0 0,.slice none 0 0,.slice none 0 0,.slice none 0 0,.slice none 0 0];refine Sat.Nx (es:=[]) ?_ (Nat.le_refl _);refine Sat.Ns (vb:= .slice none 0 0) (vs:= .slice none 0 0) (ss:=[]) rfl ?_;rw[LU];have h2:=((h1.aN 41 1).aN 41 1).of (show _=Pt w.heap.size 91 #[.slice none 0 0,.slice none 0 0,.slice none 0 0,.slice none 0 0,.slice none 0 0,.slice none 0 0]*(Row 41 1 (.slice none 0 0) 0 []*(Row 41 1 (.slice none 0 0) 0 []*F)) by ac_rfl);exact h2.of (by show _=_*(_*(_*(bF*(bF*F))));rw[bf,bf];rfl)
theorem ND {x:Option Addr × Nat × List UInt8} (h:Sat w0 (LP kb (es++[x])*F) w):Rd w x.1 x.2.2:=by
 obtain⟨vb,vs,ss,ht,h1⟩:=h.MX;have h2:=th (h1.of (LU ..)).bL;exact h2.rd (by simp)
theorem M9 (h:Sat w0 (Lv kb m*F) w) (hm:m<=1000):
 Calls Tryz.prog 49 #[.pointer (some ⟨kb,0,none⟩)] w fun e w'=>e = .returned (.bool true)/\Sat w0 (Lv kb m*F) w':=by
 obtain⟨es,he,h0⟩:=h.NM;obtain⟨vb,vs,ss,ht,h1⟩:=h0.MX;have h2:=h1.of (LU ..);have hb:=Sat.base (h:=h2);have hbk:Lr w0.heap.size w0.heap.size w kb es:=⟨⟨Nat.le_refl _,hb⟩,⟨vb,vs,ss,⟨h2.at⟩,h2.ay.aO,⟨h2.bp.aO,th h2.fN⟩,ht,Mp (h2.right)⟩,th h2.bL⟩;refine(ME w0.heap.size w0.heap.size kb es w hbk (by omega)).mono ?_;rintro e w' ⟨rfl,q,rfl⟩;exact⟨rfl,h.drewN q⟩
theorem Mm (x:Option Addr × Nat × List UInt8) (h:cX w0 (Row 5 1 (aI x) x.2.2.length (x.2.2.map bv)*(Lv kb m*F)) b d n t k a nx M olds w) (hm:m<400) (hl:x.2.2.length<=140737488355328):
 Calls Tryz.prog 82 #[.pointer (some ⟨kb,0,none⟩),.slice x.1 x.2.2.length x.2.1] w fun e w'=>e = .returned (.tuple #[])/\Rd w' x.1 x.2.2/\cX w0 (Lv kb (m+1)*F) b d n t k a nx M olds w':=by
 obtain⟨G,hG,hR⟩:=h.KW;obtain⟨es,he,h0⟩:=(hG.of (show _=Lv kb m*(Row 5 1 (aI x) x.2.2.length (x.2.2.map bv)*(F*G)) by ac_rfl)).NM;refine(L9 kb es x w0 w (F*G) h0.ay (by omega) hl).mono ?_;rintro e w' ⟨rfl,h9⟩;exact⟨rfl,ND h9,hR _ _ ((h9.Nx (m:=m+1) (by rw[List.length_append,List.length_singleton];omega)).of (by ac_rfl))⟩
theorem MG (h:cX w0 (Lv kb m*F) b d n t k a nx M olds w) (hm:m<=1000):
 Calls Tryz.prog 49 #[.pointer (some ⟨kb,0,none⟩)] w fun e w'=>e = .returned (.bool true)/\cX w0 (Lv kb m*F) b d n t k a nx M olds w':=by
 obtain⟨G,hG,hR⟩:=h.KW;refine(M9 (hG.of (aB _ _ _)) hm).mono ?_;rintro e w' ⟨rfl,h9⟩;exact⟨rfl,hR _ _ (h9.of (by ac_rfl))⟩
theorem Nt (K:du) (hK: ∀ W,Sat w0 F W->Rd W K.1 K.2.2) (h:cX w0 (qB v N*F) b d n t k a nx M olds w) (hl:N.length<=100000):
 Calls Tryz.prog 81 #[.agg #[v],.slice K.1 K.2.2.length K.2.1] w fun x w'=> ∃ A c,x = .returned (.tuple #[.slice A ((bI K.2.2 N).getD []).length c,.bool (bI K.2.2 N).isSome])/\Rd w' A ((bI K.2.2 N).getD [])/\cX w0 (cd [(A,c,(bI K.2.2 N).getD [])]*(qB v N*F)) b d n t k a nx M olds w':=by
 obtain⟨G,hG,hR⟩:=h.KW;refine(M8 K (F:=F*G) (fun W hW=>hK W hW.Ku) (hG.of (aB _ _ _)) hl).mono ?_;rintro x w' ⟨A,c,rfl,h9⟩;exact⟨A,c,rfl,h9.F4 (List.mem_singleton_self _),hR _ _ (h9.of (by ac_rfl))⟩
theorem MV (f tt:du) (aG:Int) (hK: ∀ W,Sat w0 F W->Rd W f.1 f.2.2/\Rd W tt.1 tt.2.2) (h:cX w0 (qB v N*F) b d n t k a nx M olds w) (hl:N.length<=100000):
 Calls Tryz.prog 83 #[.agg #[v],.slice f.1 f.2.2.length f.2.1,.slice tt.1 tt.2.2.length tt.2.1,.int .i64 aG] w fun x w'=> ∃ (C:Option Addr) (c:Nat) (fs:List En),x = .returned (.slice C fs.length c)/\aY fs=(oJ f.2.2 tt.2.2 N).take aG.toNat/\cX w0 (fw (.slice C fs.length c) fs*(qB v N*F)) b d n t k a nx M olds w':=by
 obtain⟨G,hG,hR⟩:=h.KW;refine(MJ f tt aG (F:=F*G) (fun W hW=>hK W hW.Ku) (hG.of (aB _ _ _)) hl).mono ?_;rintro x w' ⟨v',rfl,h9⟩;obtain⟨fs,hfs,h10⟩:=h9.mp;obtain⟨C,c,rfl,_⟩:=h10.zY;exact⟨C,c,fs,rfl,hfs,hR _ _ (h10.of (by ac_rfl))⟩
theorem cX.now (h:cX w0 (eN g N Ms gs*F) b d n t k a nx M olds w): ∃ LA lc R,(∀ F' W,cX w0 (R*F') b d n t k a nx M olds W->W.cell? ⟨g,0,none⟩=some (.slice LA N.length lc)/\cX w0 (eN g N Ms gs*F') b d n t k a nx M olds W)/\cX w0 (qB (.slice LA N.length lc) N*(R*F)) b d n t k a nx M olds w:=by
 obtain⟨LA,lc,vo,vg,es,R,he,h1,hB⟩:=h.kD;have hl:es.length=N.length:=by rw[<-he,bX]
 refine⟨LA,lc,Pt g 36 #[.slice LA es.length lc,vo,vg]*(fw (.slice LA es.length lc) es*R),fun F' W hW=>?_,?_⟩
 .have h2:=hW.of (show _=Pt g 36 #[.slice LA es.length lc,vo,vg]*(fw (.slice LA es.length lc) es*(R*F')) by ac_rfl);rw[<-hl];exact⟨h2.sat.cell 0,cX.Dz hB h2⟩
 .rw[<-hl];obtain⟨G,hG,hR⟩:=(h1.of (show _=fw (.slice LA es.length lc) es*(Pt g 36 #[.slice LA es.length lc,vo,vg]*(R*F)) by ac_rfl)).KW;exact hR _ _ ((((hG.of (aB _ _ _)).zV).Jw he).of (by ac_rfl))
theorem NG (i:Int) (hi: -9223372036854775808<=i/\i<=9223372036854775807) (h:cX w0 (eN g N Ms gs*F) b d n t k a nx M olds w) (hn:Ms.length<=10000):
 Calls Tryz.prog 86 #[.pointer (some ⟨g,0,none⟩),.int .i64 i] w fun x w'=> ∃ va vn vc,x = .returned (.tuple #[.agg #[.slice va vn vc],.int .i64 (if (Lu Ms gs i).isSome=true then 0 else 104)])/\cX w0 (qB (.slice va vn vc) ((Lu Ms gs i).getD [])*(eN g N Ms gs*F)) b d n t k a nx M olds w':=by
 obtain⟨G,hG,hR⟩:=h.KW;refine(MA i hi (hG.of (aB _ _ _)) hn).mono ?_;rintro x w' ⟨v',rfl,h9⟩;obtain⟨va,vn,vc,rfl⟩:=h9.JX;exact⟨va,vn,vc,rfl,hR _ _ (h9.of (by ac_rfl))⟩
theorem NB (h:cX w0 (eN g N Ms gs*F) b d n t k a nx M olds w) (hl:N.length<=10000) (hn:Ms.length<=10000):
 Calls Tryz.prog 84 #[.pointer (some ⟨g,0,none⟩)] w fun x w'=>x = .returned (.int .i64 (Ms.length+1:Nat))/\cX w0 (eN g N (Ms++[N]) (gs++[false])*F) b d n t k a nx M olds w':=by
 obtain⟨G,hG,hR⟩:=h.KW;refine(MO (hG.of (aB _ _ _)) hl hn).mono ?_;rintro x w' ⟨rfl,h9⟩;exact⟨rfl,hR _ _ (h9.of (by ac_rfl))⟩
theorem Nz (i:Int) (hi: -9223372036854775808<=i/\i<=9223372036854775807) (h:cX w0 (eN g N Ms gs*F) b d n t k a nx M olds w) (hn:Ms.length<=10000):
 Calls Tryz.prog 85 #[.pointer (some ⟨g,0,none⟩),.int .i64 i] w fun x w'=>x = .returned (.int .i64 (if (Lu Ms gs i).isSome=true then 0 else 104))/\cX w0 (eN g N Ms (if (Lu Ms gs i).isSome=true then gs.set (i - 1).toNat true else gs)*F) b d n t k a nx M olds w':=by
 obtain⟨G,hG,hR⟩:=h.KW;refine(ML i hi (hG.of (aB _ _ _)) hn).mono ?_;rintro x w' ⟨rfl,h9⟩;exact⟨rfl,hR _ _ (h9.of (by ac_rfl))⟩
theorem cX.Nk (h:cX w0 (eN g N Ms gs*F) b d n t k a nx M olds w):gs.length=Ms.length:=by
 obtain⟨G,hG,_⟩:=h.KW;obtain⟨_,_,_,_,⟨_,h1⟩,_⟩:=(hG.of (aB _ _ _)).La;exact h1
end
end Go.Proofs.YtmbaiglpgaoogaaGreat
