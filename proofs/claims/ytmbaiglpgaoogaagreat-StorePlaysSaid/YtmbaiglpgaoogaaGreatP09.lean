/- Joined, as they were built one by one: BookS BookB. -/
import Derived.Test.YtmbaiglpgaoogaaGreatW01
import Derived.Test.YtmbaiglpgaoogaaGreatW04
import Derived.Test.YtmbaiglpgaoogaaGreatP01
import Derived.Test.YtmbaiglpgaoogaaGreatP03
import Derived.Test.YtmbaiglpgaoogaaGreatP08
set_option linter.unusedVariables false
set_option maxRecDepth 100000
namespace Go.Proofs.YtmbaiglpgaoogaaGreat
open Go.RowKit Z
def Mi (k:Nat) (vb vs:Value) (es ss:bY):SP:=
 Pt k 91 #[vb,vs,.slice none 0 0,.slice none 0 0,.slice none 0 0,.slice none 0 0]*(Row 41 1 vb es.length (es.map aI)*(Row 41 1 vs ss.length (ss.map aI)*(iF es*iF ss)))
def LP (k:Nat) (es:bY):SP:=fun h=> ∃ vb vs ss,bK ss=bK es/\Mi k vb vs es ss h
section
variable {w0 w:World} {F:SP} {k:Nat} {es:bY}
theorem Sat.MX (h:Sat w0 (LP k es*F) w): ∃ vb vs ss,bK ss=bK es/\Sat w0 (Mi k vb vs es ss*F) w:=by
 obtain⟨c,x,h1,a,f,h2,h3,⟨vb,vs,ss,ht,h4⟩,h5⟩:=h;exact⟨vb,vs,ss,ht,c,x,h1,a,f,h2,h3,h4,h5⟩
theorem Sat.Ns {vb vs:Value} {ss:bY} (ht:bK ss=bK es) (h:Sat w0 (Mi k vb vs es ss*F) w):Sat w0 (LP k es*F) w:=h.mono fun y ⟨a,f,h2,h3,h5,h6⟩=>⟨a,f,h2,h3,⟨vb,vs,ss,ht,h5⟩,h6⟩
theorem LU (k:Nat) (vb vs:Value) (es ss:bY) (F:SP):Mi k vb vs es ss*F=Pt k 91 #[vb,vs,.slice none 0 0,.slice none 0 0,.slice none 0 0,.slice none 0 0]*(Row 41 1 vb es.length (es.map aI)*(Row 41 1 vs ss.length (ss.map aI)*(iF es*(iF ss*F)))):=by
 unfold Mi;ac_rfl
end
theorem L9 (k:Nat) (es:bY) (x:Option Addr × Nat × List UInt8) (w0 w:World) (F:SP) (h:Sat w0 (Row 5 1 (aI x) x.2.2.length (x.2.2.map bv)*(LP k es*F)) w) (hn:es.length<400) (hl:x.2.2.length<=140737488355328):
 Calls Tryz.prog 82 #[.pointer (some ⟨k,0,none⟩),.slice x.1 x.2.2.length x.2.1] w fun e w'=>e = .returned (.tuple #[])/\Sat w0 (LP k (es++[x])*F) w':=by
 obtain⟨i0,hi,hz0,hz1,hz2⟩:=info_parts oQ;have Hi:=ah hi;have Hz0:=ah hz0;have Hz1:=ah hz1;have Hz2:=ah hz2;obtain⟨vb,vs,ss,ht,h1⟩:=(h.ay).MX;have hlen:ss.length=es.length:=by have:=congrArg List.length ht;simpa [bK] using this
 have h2:=h1.of (LU ..);obtain⟨Ab,cb,rfl,hb1,hb2⟩:=(h2.ay).bm;obtain⟨As,cs,rfl,hs1,hs2⟩:=(h2.bp).bm;have c0:=h2.cell 0;have f0:=h2.frozen 0;have hn':(es.length:Int)<400:=by omega
 have HS:=ah h2;have HT:=ah ht;have hss:ss.length<400:=by omega
 clear h h1 h2 ht hlen hi hz0 hz1 hz2;go_enter Tryz.func82, Tryz.ntmps82;go_upto_region 2 with (at_builtin;refine av rfl (.tmp 14) (.tmp 16) 87 rfl 41 i0 _ 1 24 Tryz.underlying87 Hi.o Hz0.o Hz1.o Hz2.o rfl (by decide) (.slice Ab es.length cb) es.length (es.map aI) rfl w0 _ (by exact(HS.o.aD _).ay) (some ⟨w.heap.size,0,none⟩) 1 1 [aI x] rfl (aR _ _ _) rfl (iV [x]) (by unfold maxLen;omega) (by omega) ?_;intro A3 c3 w3 hs3;have q0:=hs3.ay.cell 0;have q1:=hs3.ay.frozen 0;have HS3:=ah (hs3.ay.set 0 (.slice A3 (es.length+1) c3));clear hs3)
 obtain⟨w4,hw4⟩: ∃ w4,w4=w3.setCell ⟨k,0,none⟩ (.slice A3 (es.length+1) c3):=⟨_,rfl⟩;rw[<-hw4] at HS3;rw[<-hw4];clear hw4 q0 q1 c0 f0 HS;have hs4:Sat w0 (Pt k 91 #[.slice A3 (es.length+1) c3,.slice As ss.length cs,.slice none 0 0,.slice none 0 0,.slice none 0 0,.slice none 0 0]*(Row 41 1 (.slice A3 (es.length+1) c3) (es.length+1) (es.map aI++[aI x])*(Row 41 1 (.slice As ss.length cs) ss.length (ss.map aI)*(iF es*(iF ss*(Row 5 1 (aI x) x.2.2.length (x.2.2.map bv)*F)))))) w4:=HS3.o;have c1:=hs4.cell 1;have HS4:=ah hs4;have HRx:Hid (Rd w4.drew x.1 x.2.2):=aF.bG ((hs4.drew.Cd).aO);clear hs4 HS3;go_region_law (first
  | (go_simp;go_at_call 46;refine(twin_any _ _ x.2.2 _ HRx.o hl).mono ?_;rintro e w5 ⟨v2,rfl,h2,k2⟩;have hs5:=HS4.o.drew.dP k2 h2;obtain⟨A2,c2,hv2,_⟩:=hs5.bm;subst hv2;have y1:=hs5.ay.cell 1;have y2:=fun o=>(hs5.aD o).ay.cell 1;have HS5:=ah hs5;clear hs5 h2 k2)
  | (refine aQ rfl (.tmp 24) (.tmp 27) 87 rfl 41 i0 _ 1 24 Tryz.underlying87 Hi.o Hz0.o Hz1.o Hz2.o rfl (by decide) (.slice As ss.length cs) ss.length (ss.map aI) rfl w0 _ (by exact(HS5.o.aD _).bL) (some ⟨w5.heap.size,0,none⟩) 1 1 [aI (A2,c2,x.2.2)] rfl (aR _ _ _) rfl (iV [(A2,c2,x.2.2)]) (by unfold maxLen;omega) (by omega) ?_;intro A7 c7 w7 hs7;have z1:=hs7.bp.cell 1;have z2:=hs7.bp.frozen 1;have HS7:=ah hs7;clear hs7))
 all_goals
  have HS8:=ah (HS7.o.bp.set 1 (.slice A7 (ss.length+1) c7));go_wp2_with fail;go_end0
  refine⟨rfl,?_⟩;have h9:Sat w0 (Pt k 91 #[.slice A3 (es.length+1) c3,.slice A7 (ss.length+1) c7,.slice none 0 0,.slice none 0 0,.slice none 0 0,.slice none 0 0]*(Row 41 1 (.slice A7 (ss.length+1) c7) (ss.length+1) (ss.map aI++[aI (A2,c2,x.2.2)])*(Row 5 1 (.slice A2 x.2.2.length c2) x.2.2.length (x.2.2.map bv)*(Row 41 1 (.slice A3 (es.length+1) c3) (es.length+1) (es.map aI++[aI x])*(iF es*(iF ss*(Row 5 1 (aI x) x.2.2.length (x.2.2.map bv)*F))))))) _:=HS8.o;refine Sat.Ns (es:=es++[x]) (vb:= .slice A3 (es.length+1) c3) (vs:= .slice A7 (ss.length+1) c7) (ss:=ss++[(A2,c2,x.2.2)]) ((jH _ _).trans (by rw[HT.o];exact(jH es [x]).symm)) (h9.of ?_);rw[LU,LM,LM,List.map_append,List.map_append,List.length_append,List.length_append];show Pt k _ _*(Row _ _ _ _ _*(Row _ _ _ _ _*(Row _ _ _ _ _*(iF es*(iF ss*(Row _ _ _ _ _*F))))))=Pt k _ _*(Row _ _ _ _ _*(Row _ _ _ _ _*((Row _ _ _ _ _*iF es)*((Row _ _ _ _ _*iF ss)*F))))
  ac_rfl
end Go.Proofs.YtmbaiglpgaoogaaGreat
