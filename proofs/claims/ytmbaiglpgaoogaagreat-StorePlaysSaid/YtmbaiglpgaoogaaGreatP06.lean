/- Joined, as they were built one by one: Sto11 Sto13. -/
import Derived.Test.YtmbaiglpgaoogaaGreatW18
import Derived.Test.YtmbaiglpgaoogaaGreatW23
import Derived.Test.YtmbaiglpgaoogaaGreatW29
import Derived.Test.YtmbaiglpgaoogaaGreatP01
import Derived.Test.YtmbaiglpgaoogaaGreatP02
import Derived.Test.YtmbaiglpgaoogaaGreatP05
set_option maxHeartbeats 16000000
set_option linter.unusedVariables false
set_option maxRecDepth 100000
namespace Go.Proofs.YtmbaiglpgaoogaaGreat
open Go.RowKit Z
section
variable {w0 w:World} {F:SP}
theorem Np (b d s:Nat) (v:Sd) (h:Sat w0 (dG b d s v*F) w):Calls Tryz.prog 87 #[.pointer (some ⟨b,0,none⟩)] w fun x w'=>x = .returned (.bool false)/\w=w':=by
 obtain⟨tb,hr,mb,ns,_,hs0⟩:=h.db;have c7:w.cell? ⟨b,7,none⟩=some (.bool false):=(hs0.of (eM ..)).cell 7;clear h hs0;go_enter Tryz.func87, Tryz.ntmps87;go_wp2_with fail;go_ret;exact⟨rfl,rfl⟩
theorem Nh (f:Int->Option Nat) (i:Int):Nb (iH f) i=iH (fun j=>if j=i then none else f j):=by
 funext j
 unfold Nb iH;dsimp only;split<;>rfl
theorem Ng (b d s:Nat) (v:Sd) (i:Int) (hi: -9223372036854775808<=i/\i<=9223372036854775807) (h:Sat w0 (dG b d s v*F) w):
 Calls Tryz.prog 43 #[.pointer (some ⟨b,0,none⟩),.int .i64 i] w fun x w'=>x = .returned (.int .i64 (if (v.snaps i).isSome=true then 0 else 104))/\Sat w0 (dG b d s { v with snaps:=fun j=>if j=i then none else v.snaps j }*F) w':=by
 obtain⟨lg,L,sq,sn,bP,nx⟩:=v;obtain⟨tb,hr,mb,ns,⟨ht,he⟩,hs0⟩:=h.db;dsimp only at ht he;have hs:=hs0.of (eM ..);dsimp only at hs;have c5:w.cell? ⟨b,5,none⟩=some (.map (some mb)):=hs.cell 5;have hlk:=Ct hs.bp i hi;have HT:=ah ht;have HE:=ah he
 cases hsn:sn i with
 | none=>
  rw[hsn] at hlk;have hsn2:(fun j=>if j=i then none else sn j)=sn:=by
   funext j
   by_cases e:j=i
   .rw[if_pos e,e,hsn]
   .rw[if_neg e]
  have HS:=ah (hs.aD (.cells #[.int .i64 0] 135));clear h hs0 hs ht he;replace hlk:(Instr.lookup 111 (.map (some mb)) (.int .i64 i) true).run Tryz.prog w = .ok (.tuple #[.agg #[.int .i64 0],.bool false]) w:=hlk;show Calls _ _ _ _ fun x w'=>x = .returned (.int .i64 (if (sn i).isSome=true then 0 else 104))/\Sat w0 (dG b d s ⟨lg,L,sq,fun j=>if j=i then none else sn j,bP,nx⟩*F) w'
  rw[hsn2,hsn];have HSn:=ah hsn;clear hsn hsn2;go_enter Tryz.func43, Tryz.ntmps43;go_wp2_with fail;go_ret;exact⟨rfl,Sat.zX (v:=⟨lg,L,sq,sn,bP,nx⟩) HT.o HE.o (by rw[eM];exact HS.o)⟩
 | some q=>
  rw[hsn] at hlk;replace hlk:(Instr.lookup 111 (.map (some mb)) (.int .i64 i) true).run Tryz.prog w = .ok (.tuple #[.agg #[.int .i64 (q:Int)],.bool true]) w:=hlk;have hs1:=hs.ab 135 #[.int .i64 (q:Int)];obtain⟨w2,hrun,hs2,_⟩:=hs1.bL.map_drop (t:= 111) Tryz.underlying3 Tryz.underlying111 i hi 0;rw[Nh] at hs2;have c5':(w.alloc (.cells #[.int .i64 (q:Int)] 135)).cell? ⟨b,5,none⟩=some (.map (some mb)):=hs1.ay.cell 5;have HS:=ah hs2;clear h hs0 hs ht he hs1 hs2;show Calls _ _ _ _ fun x w'=>x = .returned (.int .i64 (if (sn i).isSome=true then 0 else 104))/\Sat w0 (dG b d s ⟨lg,L,sq,fun j=>if j=i then none else sn j,bP,nx⟩*F) w'
  rw[hsn];clear hsn;go_enter Tryz.func43, Tryz.ntmps43;go_wp2_with fail;go_ret;refine⟨rfl,Sat.zX (tb:=tb) (hr:=hr) (mb:=mb) (ns:=ns) (v:=⟨lg,L,sq,fun j=>if j=i then none else sn j,bP,nx⟩) HT.o HE.o ?_⟩;rw[eM];exact(HS.o.of (show _=Pt w.heap.size 135 #[.int .i64 (q:Int)]*(Pt b 113 (ef d s lg tb sq mb nx false)*(bE tb hr ns*(bT Tryz.prog 3 mb bP (iH (fun j=>if j=i then none else sn j))*F))) by ac_rfl)).right
end
section
variable {w0 w:World} {F:SP}
theorem MQ (b d s:Nat) (v:Sd) (i:Int) (f t:du) (aG:Int) (hi: -9223372036854775808<=i/\i<=9223372036854775807) (hf:Rd w f.1 f.2.2) (ht':Rd w t.1 t.2.2) (h:Sat w0 (dG b d s v*F) w) (hL:v.L.length<=90000) (l:List Kv) (er:Int)
 (hq:(v.snaps i=none/\l=[]/\er=104)\/ ∃ sq,v.snaps i=some sq/\l=(oJ f.2.2 t.2.2 (eS sq v.L)).take aG.toNat/\er=0):
 Calls Tryz.prog 45 #[.pointer (some ⟨b,0,none⟩),.int .i64 i,.slice f.1 f.2.2.length f.2.1,.slice t.1 t.2.2.length t.2.1,.int .i64 aG] w fun x w'=> ∃ (es qs:List En) (B:Option Addr) (c:Nat),x = .returned (.tuple #[.slice B qs.length c,.int .i64 er])/\(∀ q ∈ qs,q ∈ es)/\qs.map (fun q=>cZ q.ak)=l/\
  Sat w0 (Row 65 2 (.slice B qs.length c) qs.length (qs.flatMap cL)*(aT es*(dG b d s v*F))) w':=by
 obtain⟨lg,L,sq,sn,bP,nx⟩:=v;obtain⟨tb,hr,mb,ns,⟨ht,he⟩,hs0⟩:=h.db;dsimp only at ht he hL hq;have hs:=hs0.of (eM ..);dsimp only at hs;have c5:w.cell? ⟨b,5,none⟩=some (.map (some mb)):=hs.cell 5;have hlk:=Ct hs.bp i hi;have hpw:L.Pairwise dE:=he ▸ mA ht.ok;have HT:=ah ht;have HE:=ah he;rcases hq with ⟨h1,rfl,rfl⟩ | ⟨sx,h1,h2,rfl⟩
 .rw[h1] at hlk;replace hlk:(Instr.lookup 111 (.map (some mb)) (.int .i64 i) true).run Tryz.prog w = .ok (.tuple #[.agg #[.int .i64 0],.bool false]) w:=hlk;have HS:=ah (hs.aD (.cells #[.int .i64 0] 135));clear h hs0 hs ht he h1 hf ht' hpw;go_enter Tryz.func45, Tryz.ntmps45;go_wp2_with fail;go_ret2;refine⟨[],[],none,0,rfl,by simp,rfl,?_⟩;have h1:=(Sat.zX (v:=⟨lg,L,sq,sn,bP,nx⟩) HT.o HE.o (by rw[eM];exact HS.o)).aN 65 2;exact h1.of (show _=Row 65 2 (.slice none 0 0) 0 []*(bF*_) by rw[bf])
 .rw[h1] at hlk;replace hlk:(Instr.lookup 111 (.map (some mb)) (.int .i64 i) true).run Tryz.prog w = .ok (.tuple #[.agg #[.int .i64 (sx:Int)],.bool true]) w:=hlk;have hs1:=hs.ab 135 #[.int .i64 (sx:Int)];obtain⟨W1,hW1⟩: ∃ W1,W1=w.alloc (.cells #[.int .i64 (sx:Int)] 135):=⟨_,rfl⟩;rw[<-hW1] at hs1;obtain⟨vb,hvb⟩: ∃ vb,vb=w.heap.size:=⟨_,rfl⟩;rw[<-hvb] at hs1;have HW:=ah hW1;have HVb:=ah hvb;have x0:W1.cell? ⟨vb,0,none⟩=some (.int .i64 (sx:Int)):=hs1.cell 0;have c3:W1.cell? ⟨b,3,none⟩=some (.pointer (some ⟨tb,0,none⟩)):=hs1.ay.cell 3;have hf1:Rd W1 f.1 f.2.2:=by rw[hW1];exact hf.alloc _
  have ht1:Rd W1 t.1 t.2.2:=by rw[hW1];exact ht'.alloc _
  have HSc:Hid (∀ W,ao No W1 W->Calls Tryz.prog 77 #[.agg #[.int .i64 (sx:Int)],.pointer (some ⟨tb,0,none⟩),.slice f.1 f.2.2.length f.2.1,.slice t.1 t.2.2.length t.2.1,.int .i64 aG] W (zl W ((cp sx none (mE f.2.2 t.2.2 L)).take aG.toNat))):=fun W k=>C9 hs1.bp ht he hL sx aG f t hf1 ht1 k
  have HDrew:Hid (ao No W1 W1.drew):=(ao.refl No W1).drew;have HS1:=ah hs1;have HL:=ah h2;have HPw:=ah hpw;clear h hs0 hs ht he h1 h2 hf ht' hs1 hW1 hvb hf1 ht1 hpw;go_enter Tryz.func45, Tryz.ntmps45;go_upto_region 4 with fail;rw[<-HW.o, <-HVb.o];clear hlk c5 HW HVb;refine wp_region_held_drew (S:=fun w'=>w'.cell? ⟨b,3,none⟩=some (.pointer (some ⟨tb,0,none⟩))/\w'.cell? ⟨vb,0,none⟩=some (.int .i64 (sx:Int))) (by kernel_rfl) ⟨(by exact c3),(by exact x0)⟩ ?_;intro hS0;refine an 0 1 2 3 ?_;refine an 4 5 6 7 ?_;refine bC 8 fun K hK=>?_
  go_simp;go_at_call 77;(with_reducible refine(HSc.o _ HDrew.o).mono ?_);rintro e w3 ⟨es,qs,B,c,rfl,hin,hqs,hs3⟩;have HIn:=ah hin;have HQs:=ah hqs;have HS3:=ah ((HS1.o.new HDrew.o).join hs3 (ba (bH _ _ _ _ _) (cN _)));clear hin hqs hs3
  refine hK.out _ _ ⟨HS3.o.bp.cell 3,HS3.o.ay.cell 0⟩ (fun hS0=>?_);clear hK K;refine cw 9 10 ?_;refine wpAnyH_done (by kernel_rfl) ?_ _;go_wp2_with fail;go_ret2;refine⟨es,qs,B,c,rfl,HIn.o,?_,?_⟩
  .have h2:=congrArg (List.map cZ) HQs.o;rw[List.map_map] at h2;rw[show (fun q:En=>cZ q.ak)=cZ ∘ En.ak from rfl,h2,List.map_take,HL.o];show (eS sx (mE f.2.2 t.2.2 L)).take _=_;rw[DR HPw.o]
  .have h1:=HS3.o.of (show _=Pt vb 135 #[.int .i64 (sx:Int)]*(Pt b 113 (ef d s lg tb sq mb nx false)*(bE tb hr ns*(bT Tryz.prog 3 mb bP (iH sn)*(Row 65 2 (.slice B qs.length c) qs.length (qs.flatMap cL)*(aT es*F))))) by ac_rfl);exact(Sat.zX (v:=⟨lg,L,sq,sn,bP,nx⟩) HT.o HE.o (by rw[eM];exact h1.right)).of (by ac_rfl)
end
end Go.Proofs.YtmbaiglpgaoogaaGreat
