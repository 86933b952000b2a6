/- StoreOpens: the walk. -/
import Derived.Test.YtmbaiglpgaoogaaGreatS38
namespace Go.Proofs.YtmbaiglpgaoogaaGreat
open Go.RowKit
set_option linter.unusedVariables false
set_option maxRecDepth 100000
section
variable {w0 w w':World} {F F':SP} {b d n t k a nx:Nat} {M:List Kv} {olds:Int→Option (List Kv)}
set_option maxHeartbeats 8000000 in
theorem storeOpens_walk (A:Option Addr) (c:Nat) (l:List Int) (A2:Option Addr) (c2:Nat) (ts:List Int) (Kp:Option Addr) (kc:Nat) (keep:List Bool) (w:World)
  (hl:l.length≤c∧c≤maxLen∧RdV w A (l.map fun n=> .int .i64 n)∧l.length≤17592186043904∧ ∀ n ∈ l, -9223372036854775808≤n∧n≤9223372036854775807)
  (ht:ts.length≤c2∧c2≤maxLen∧RdV w A2 (ts.map fun n=> .int .i64 n)∧ts.length≤17592186043904∧ ∀ n ∈ ts, -9223372036854775808≤n∧n≤9223372036854775807)
  (hp:keep.length≤kc∧kc≤maxLen∧RdV w Kp (keep.map Value.bool)∧keep.length≤140737488351232):
  Calls Tryz.prog 11 #[.slice A l.length c,.slice A2 ts.length c2,.slice Kp keep.length kc] w (Asked true w):=by
 have h0:Sat w (Ro Kp (keep.map Value.bool)*Emp) w:=(Sat.start w).arg hp.2.2.1;have hkl:=hp.2.2.2;obtain⟨KP,hKP⟩: ∃ KP,KP=Ro Kp (keep.map Value.bool):=⟨_,rfl⟩;rw[←hKP] at h0;have HKP:=ah hKP;have HB:Hid (Calls Tryz.prog 25 #[.int .i64 1024] w fun e w'=> ∃ d b,e = .returned (.tuple #[.pointer (some ⟨d,0,none⟩),.pointer (some ⟨b,0,none⟩)])∧Sto w (KP*Emp) b d 1024 0 1 0 1 [] (fun _=>none) w'):=begin10_any (w0:=w) (w:=w) (F:=KP*Emp) 1024 (by omega) h0;have HWk:Hid (∀ w2 b d,Sto w (KP*Emp) b d 1024 0 1 0 1 [] (fun _=>none) w2→Calls Tryz.prog 26 #[] w2 fun e w'=>e = .returned (.bool true)∧Sto w (KP*Emp) b d 1024 0 1 0 1 [] (fun _=>none) w'):=fun w2 b d h=>by
  refine(wakes10_any (w0:=w2) (F:=Emp) (Sat.start w2)).mono ?_;rintro e w' ⟨rfl,hs⟩;exact⟨rfl,h.new hs.chg⟩
 have HF:Hid (∀ w2 b d,Sto w (KP*Emp) b d 1024 0 1 0 1 [] (fun _=>none) w2→Calls Tryz.prog 34 #[.pointer (some ⟨b,0,none⟩),.slice A l.length c] w2 fun x w'=>x = .returned (.bool true)∧ ∃ M',SmlM M'∧Sto w (KP*Emp) b d 1024 60 61 0 1 M' (fun _=>none) w'):=fun w2 b d h=>
  fill10_any A c l (by have:=hl.2.2.2.1;omega) hl.2.2.2.2 (by omega) (by omega) (fun p hp=>by cases hp) h fun W hW=>hl.2.2.1.new hW.chg
 have a7:=and7;have HT:=ah ht;have ht1:ts.length≤17592186043904:=ht.2.2.2.1;clear h0 hKP hp hl ht;go_enter Tryz.func11, Tryz.ntmps11;go_upto_region 4 with (first
  | (go_at_call 25;(with_reducible refine HB.out.mono ?_);rintro e w2 ⟨d,b,rfl,hs⟩;have HS2:=ah hs;clear hs)
  | (go_at_call 26;(with_reducible refine(HWk.out _ _ _ HS2.out).mono ?_);rintro e w3 ⟨rfl,hs⟩;have HS3:=ah hs;clear hs)
  | (go_at_call 34;(with_reducible refine(HF.out _ _ _ HS3.out).mono ?_);rintro e w4 ⟨rfl,M,hM,hs⟩;have HS4:=ah hs;clear hs))
 have hpr:=HS4.out.pairs;have hM60:M.length≤60:=hpr.2.1;have hMt:(cutM [] [] M).take (1000:Int).toNat=M:=by rw[cutM_nil,List.take_of_length_le];show M.length≤1000;omega
 have HSc:Hid (Calls Tryz.prog 24 #[.pointer (some ⟨b,0,none⟩),.slice none 0 0,.slice none 0 0,.int .i64 1000] w4 fun x w'=> ∃ (B:Option Addr) (c n:Nat) (qs es:List En),x = .returned (.slice B n c)∧Hid (qs.length=n∧pairsE qs=M∧(∀ q ∈ qs,q ∈ es)∧Sto w (TolP B c qs es*(KP*Emp)) b d 1024 60 61 0 1 M (fun _=>none) w')):=by
  refine(sscanT (none,0,[]) (none,0,[]) 1000 M hMt (Rd.nil _ _) (Rd.nil _ _) (by omega) HS4.out).mono ?_;rintro x w' ⟨B,c,qs,es,rfl,h1,h2,h5,h3⟩;exact⟨B,c,_,qs,es,rfl,rfl,h1,h2,h3⟩
 clear HB HWk HF HS2 HS3 hM hpr;go_upto_region 5 with (go_at_call 24;(with_reducible refine HSc.out.mono ?_);rintro e w5 ⟨B5,c5,n5,q5,es5,rfl,HQ5⟩)
 obtain⟨hq5,hp5,hm5,hs5⟩:=HQ5.out;have hn5:n5≤60:=by rw[←hq5, ←pairs_len,hp5];exact hM60
 have HQl:=ah hq5;have HQp:=ah hp5;have HTol:Hid (∀ G,TolF (G*(KP*(TolP B5 c5 q5 es5*Emp))) B5 q5):=ah fun G=>(told_p hm5).left.left
 have HC:Hid (Crd w (KP*(TolP B5 c5 q5 es5*Emp)) d 1024 60 62 [M] false w5):=(hs5.crd (by omega)).of (by ac_rfl);generalize TolP B5 c5 q5 es5*Emp=F at*
 have HMt:=ah hMt;have HScP:Hid (∀ b k W,k≤1000→Sto w (KP*F) b d 1024 60 k 0 1 M (fun _=>none) W→Calls Tryz.prog 24 #[.pointer (some ⟨b,0,none⟩),.slice none 0 0,.slice none 0 0,.int .i64 1000] W fun x w'=> ∃ (B:Option Addr) (c n:Nat) (G:SP) (qs:List En),x = .returned (.slice B n c)∧Hid (qs.length=n∧pairsE qs=M∧TolF (G*(KP*F)) B qs∧Sto w (G*(KP*F)) b d 1024 60 k 0 1 M (fun _=>none) w')):=fun b k W hk hW=>by
  refine(sscanT (none,0,[]) (none,0,[]) 1000 M HMt.out (Rd.nil _ _) (Rd.nil _ _) (by omega) hW).mono ?_;rintro x w' ⟨B,c,qs,es,rfl,h1,h2,h5,h3⟩;exact⟨B,c,_,_,qs,rfl,rfl,h1,told_p h2,h3⟩
 have HPr:Hid (∀ (B:Option Addr) (c n:Nat) (G:SP) (qs:List En) b k W,qs.length=n→pairsE qs=M→TolF (G*(KP*F)) B qs→Sto w (G*(KP*F)) b d 1024 60 k 0 1 M (fun _=>none) W→Calls Tryz.prog 23 #[.slice B n c,.slice B5 n5 c5] W fun x w'=>x = .returned (.bool true)∧Sto w (KP*F) b d 1024 60 k 0 1 M (fun _=>none) w'):=fun B c n G qs b k W h1 h2 h3 h4=>by
  have h9:=pairs_told (c:=c) (c':=c5) h3 (HTol.out G) (by rw[h2,HQp.out]) (by rw[←pairs_len,h2];omega) h4;rw[h1,HQl.out] at h9;refine h9.mono ?_;rintro x w' ⟨rfl,h10⟩;exact⟨rfl,h10.drop⟩
 have HOn:Hid (∀ (torn bytes:Int) k W,k≤1000→Crd w (KP*F) d 1024 60 k [M] true W→Calls Tryz.prog 39 #[.pointer (some ⟨d,0,none⟩),.slice Kp keep.length kc,.int .i64 torn,.int .i64 bytes] W fun e w'=>e = .returned (.tuple #[])∧Fnd w (KP*F) d 1024 60 k 0 [M] w'):=fun torn bytes k W hk hW=>by
  rw[HKP.out] at hW ⊢;exact con Kp kc keep torn bytes (by omega) (by omega) hW
 clear hq5 hp5 hm5 hs5 HQ5 HSc HS4 hMt;go_wp2_with fail;go_loopw [10] (fun iv wr=> ∃ (i:Nat),i≤ts.length∧i≤8∧iv = .int .i64 (i:Int)∧Hid (∃ off,Crd w (KP*F) d 1024 60 (70+3*i) [M] off wr)) (fun iv _=>20 - (intOf iv).toNat)
 case atStart=>exact⟨0,by omega,by omega,rfl,false,HC.out.mono (by omega) (by omega)⟩
 case round=>
  obtain⟨i,hi,hi8,rfl,HD⟩:=hrel;obtain⟨off,hcd⟩:=HD.out;have HCut:=ah (ccut hcd);clear hcd HC;by_cases hin:i<ts.length∧i<8
  ·obtain⟨hil,hi7⟩:=hin;have hii:(i:Int)<ts.length:=by omega
   have h8:(i:Int)<8:=by omega
   go_upto_region 10 with (first
    | (go_at_call 38;(with_reducible refine HCut.out.mono ?_);rintro e w6 ⟨rfl,hs⟩;have HS6:=ah hs;clear hs)
    | (go_at_call 39;(with_reducible refine(HOn.out _ _ _ _ (by omega) HS6.out).mono ?_);rintro e w7 ⟨rfl,hs⟩;have HS7:=ah hs;clear hs))
   have hch:Chg No w w7:=by
    obtain⟨D,S,_,_,_,h1⟩:=HS7.out;exact h1.chg
   obtain⟨lb,lo,hA,hcell⟩:=(HT.out.2.2.1.new hch) (by intro h0;have:=congrArg List.length h0;rw[List.length_map,List.length_nil] at this;omega);subst hA;have y0:=hcell i (by rw[List.length_map];exact hil);rw[List.getElem_map] at y0;have hxi:=HT.out.2.2.2.2 _ (List.getElem_mem hil);generalize ts[i]=x at*
   clear hcell hch hil hi7;have HArm:Hid (Calls Tryz.prog 37 #[.pointer (some ⟨d,0,none⟩),.int .i64 (1+x % 8)] w7 fun e w'=>e = .returned (.tuple #[])∧Fnd w (KP*F) d 1024 60 (70+3*i) (1+x % 8).toNat [M] w'):=farm (1+x % 8) HS7.out;have hx8:(1+x % 8).toNat≤8:=by omega
   generalize (1+x % 8).toNat=a at*
   have HA8:=ah hx8;clear hx8;go_upto_region 12 with (first
    | (go_at_call 37;(with_reducible refine HArm.out.mono ?_);rintro e w8 ⟨rfl,hs⟩;have HS8:=ah hs;clear hs)
    | (go_at_call 19;(with_reducible refine(fopen1 (by omega) (by omega) (by have:=HA8.out;omega) HS8.out).mono ?_);rintro e w9 ⟨pv,er,rfl,HS9⟩))
   rcases HS9.out with ⟨b9,rfl,rfl,hs⟩ | ⟨rfl,rfl,hs⟩
   ·have HSt:=ah hs;clear hs y0;go_wp2_with (first
     | (go_at_call 40;(with_reducible refine(soff HSt.out).mono ?_);rintro e wx ⟨rfl,rfl⟩)
     | (go_at_call 37;(with_reducible refine(sarm 0 HSt.out).mono ?_);rintro e w10 ⟨rfl,hs⟩;have HS10:=ah hs;clear hs)
     | (go_at_call 24;(with_reducible refine(HScP.out _ _ _ (by omega) HS10.out).mono ?_);rintro e w11 ⟨B11,c11,n11,G11,q11,rfl,HQ11⟩)
     | (go_at_call 23;(with_reducible refine(HPr.out _ _ _ _ _ _ _ _ HQ11.out.1 HQ11.out.2.1 HQ11.out.2.2.1 HQ11.out.2.2.2).mono ?_);rintro e w12 ⟨rfl,hs⟩;have HS12:=ah hs;clear hs)
     | (go_at_call 29;(with_reducible refine(num10_any _ _).mono ?_);rintro e wx ⟨rfl,rfl⟩))
    go_roundw
    ·exact⟨i+1,by omega,by omega,by push_cast;rfl,false,(HS12.out.crd (by omega)).mono (Nat.le_refl _) (by omega)⟩
    ·simp[intOf];omega
   ·have HSt:=ah hs;clear hs y0;go_wp2_with (first
     | (go_at_call 40;(with_reducible refine(coff HSt.out).mono ?_);rintro e wx ⟨rfl,rfl⟩)
     | (go_at_call 29;(with_reducible refine(num10_any _ _).mono ?_);rintro e wx ⟨rfl,rfl⟩))
    go_roundw
    ·exact⟨i+1,by omega,by omega,by push_cast;rfl,true,HSt.out.mono (Nat.le_refl _) (by omega)⟩
    ·simp[intOf];omega
  ·have hex:¬ (i:Int)<ts.length∨((i:Int)<ts.length∧¬ (i:Int)<8):=by omega
   clear hin;rcases hex with hex | ⟨hex,hex2⟩
   all_goals
    go_wp2_with (first
     | (go_at_call 38;(with_reducible refine HCut.out.mono ?_);rintro e w6 ⟨rfl,hs⟩;have HS6:=ah hs;clear hs)
     | (go_at_call 39;(with_reducible refine(HOn.out _ _ _ _ (by omega) HS6.out).mono ?_);rintro e w7 ⟨rfl,hs⟩;have HS7:=ah hs;clear hs)
     | (go_at_call 19;(with_reducible refine(fopen0 (by omega) (by omega) HS7.out).mono ?_);rintro e w9 ⟨M2,hM2,b9,rfl,hs⟩;rw[List.mem_singleton] at hM2;subst hM2;have HS10:=ah hs;clear hs)
     | (go_at_call 24;(with_reducible refine(HScP.out _ _ _ (by omega) HS10.out).mono ?_);rintro e w11 ⟨B11,c11,n11,G11,q11,rfl,HQ11⟩)
     | (go_at_call 23;(with_reducible refine(HPr.out _ _ _ _ _ _ _ _ HQ11.out.1 HQ11.out.2.1 HQ11.out.2.2.1 HQ11.out.2.2.2).mono ?_);rintro e w12 ⟨rfl,hs⟩;have HS12:=ah hs;clear hs)
     | (go_at_call 29;(with_reducible refine(num10_any _ _).mono ?_);rintro e wx ⟨rfl,rfl⟩))
    go_ret;exact⟨rfl,HS12.out.sat.chg⟩
end
end Go.Proofs.YtmbaiglpgaoogaaGreat
