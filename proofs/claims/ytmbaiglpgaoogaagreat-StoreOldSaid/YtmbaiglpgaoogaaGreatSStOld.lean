/- StoreOld: the walk. -/
import Derived.Test.YtmbaiglpgaoogaaGreatS37
import Derived.Test.YtmbaiglpgaoogaaGreatS38
namespace Go.Proofs.YtmbaiglpgaoogaaGreat
open Go.RowKit
set_option linter.unusedVariables false
set_option maxRecDepth 100000
section
variable {w0 w w':World} {F F':SP} {b d n t k a nx:Nat} {M:List Kv} {olds:Int→Option (List Kv)}
theorem sscanAtT (i:Int) (f tt:Slc) (most:Int) (hi: -9223372036854775808≤i∧i≤9223372036854775807) (hf:Rd w f.1 f.2.2) (ht':Rd w tt.1 tt.2.2) (ht:t≤1024) (h:Sto w0 F b d n t k a nx M olds w) (l:List Kv) (er:Int) (hq:(olds i=none∧l=[]∧er=104)∨ ∃ Mo,olds i=some Mo∧l=(cutM f.2.2 tt.2.2 Mo).take most.toNat∧er=0):
  Calls Tryz.prog 45 #[.pointer (some ⟨b,0,none⟩),.int .i64 i,.slice f.1 f.2.2.length f.2.1,.slice tt.1 tt.2.2.length tt.2.1,.int .i64 most] w fun x w'=> ∃ (B:Option Addr) (c:Nat) (qs es:List En),x = .returned (.tuple #[.slice B qs.length c,.int .i64 er])∧pairsE qs=l∧(∀ q ∈ qs,q ∈ es)∧Sto w0 (TolP B c qs es*F) b d n t k a nx M olds w':=by
 obtain⟨s,S,v,D,h1,h2,h3,h4⟩:=h;refine(scanAt_st b d s v i f tt most hi hf ht' h4 (by have:=h1.mem.len;omega) l er ?_).mono ?_
 ·rcases h1.snaps i with ⟨g1,g2⟩ | ⟨sq,Mo,g1,g2,g3,g4,g5⟩
  ·rcases hq with ⟨q1,q2,q3⟩ | ⟨Mo,q1,q2,q3⟩
   ·exact .inl ⟨g1,q2,q3⟩
   ·rw[g2] at q1;cases q1
  ·rcases hq with ⟨q1,q2,q3⟩ | ⟨Mo2,q1,q2,q3⟩
   ·rw[g2] at q1;cases q1
   ·rw[g2] at q1;injection q1 with q1
    subst q1;exact .inr ⟨sq,g1,by rw[q2,view_is h1.mem.sort g4 g5],q3⟩
 ·rintro x w' ⟨es,qs,B,c,rfl,h5,h6,hs⟩;exact⟨B,c,qs,es,rfl,h6,h5,s,S,v,D,h1,h2,h3,hs.of (by unfold TolP;ac_rfl)⟩
theorem swriteAny (A:Option Addr) (c:Nat) (ps:List Pu) (hk:k≤10000) (ht:t+ps.length≤1024) (h:Sto w0 F b d n t k 0 nx M olds w)
  (hb: ∀ W,Sat w0 F W→RdV W A (ps.flatMap puC)∧PusR W ps) (hz: ∀ p ∈ ps,p.key.2.2.length≤1000000000∧p.value.2.2.length≤1000000000):
  Calls Tryz.prog 20 #[.pointer (some ⟨b,0,none⟩),.slice A ps.length c] w fun x w'=> ∃ (er:Int) (M':List Kv),x = .returned (.int .i64 er)∧Sto w0 F b d n (t+ps.length) (k+1) 0 nx M' olds w':=by
 obtain⟨s,S,v,D,h1,h2,h3,h4⟩:=h;refine(write_st b d s v n t k D S M olds A c ps h1 hk ht (by omega) h4 hb hz).mono ?_;rintro x w' (⟨_,g1,g2⟩ | ⟨_,_,g1,g2⟩ | ⟨_,_,rfl,S',D',v',g3,g4,g5,g6,g7,g8⟩ | ⟨_,_,_,g1,_⟩)
 ·exact⟨_,M,g1,Sto.mono (show Sto w0 F b d n t k 0 nx M olds w' from ⟨s,S,v,D,h1,h2,h3,g2⟩) (by omega) (by omega)⟩
 ·exact⟨_,M,g1,Sto.mono (show Sto w0 F b d n t k 0 nx M olds w' from ⟨s,S,v,D,h1,h2,h3,g2⟩) (by omega) (by omega)⟩
 ·rw[List.length_map] at g3;exact⟨0,_,rfl,s,S',v',D',g3,by omega,by omega,g8⟩
 ·omega
theorem scut0 (A:Option Addr) (c:Nat) (ps:List Pu) (h:Sto w0 F b d n t k a nx M olds w) (hb: ∀ W,Sat w0 F W→RdV W A (ps.flatMap puC)) (hbc:ps.length≤c∧c≤9223372036854775807) (hsz: ∀ p ∈ ps,p.key.2.2.length≤p.key.2.1∧p.value.2.2.length≤p.value.2.1):
  Calls Tryz.prog 44 #[.agg #[.int .i64 0,.int .i64 0,.slice A ps.length c,.slice none 0 0,.slice none 0 0,.slice none 0 0,.int .i64 0,.int .i64 0]] w fun e w'=> ∃ (B:Option Addr) (c' m:Nat),e = .returned (.agg #[.int .i64 0,.int .i64 0,.slice B m c',.slice none 0 0,.slice none 0 0,.slice none 0 0,.int .i64 0,.int .i64 0])∧Hid ((cutP ps).length=m∧Sto w0 (Row 43 3 (.slice B m c') m ((cutP ps).flatMap puC)*F) b d n t k a nx M olds w'):=by
 obtain⟨G,hG,hR⟩:=h.opn;refine(stepcut_any ⟨0,0,A,c,ps,(none,0,[]),(none,0,[]),none,0,[],0,0⟩ hG (fun W hW=>hb W (hW.of (star_comm _ _)).right) hbc hsz).mono ?_;rintro e w' ⟨B,c',rfl,hs⟩;exact⟨B,c',_,rfl,rfl,hR _ _ (hs.of (by ac_rfl))⟩
theorem stp_field (A:Option Addr) (m c:Nat) (W:World):(Instr.field 80 (.agg #[.int .i64 0,.int .i64 0,.slice A m c,.slice none 0 0,.slice none 0 0,.slice none 0 0,.int .i64 0,.int .i64 0]) 2).run Tryz.prog W = .ok (.slice A m c) W:=by rfl
set_option maxHeartbeats 8000000 in
theorem storeOld_walk (A:Option Addr) (c:Nat) (ps:List Pu) (B:Option Addr) (c2:Nat) (qs:List Pu) (tidy:Bool) (w:World) (ha:PsIn10 w A c ps) (hb:PsIn10 w B c2 qs):
  Calls Tryz.prog 13 #[.slice A ps.length c,.slice B qs.length c2,.bool tidy] w (Asked true w):=by
 have HB:Hid (Calls Tryz.prog 25 #[.int .i64 2048] w fun e w'=> ∃ d b,e = .returned (.tuple #[.pointer (some ⟨d,0,none⟩),.pointer (some ⟨b,0,none⟩)])∧Sto w Emp b d 2048 0 1 0 1 [] (fun _=>none) w'):=begin10_any (w0:=w) (w:=w) (F:=Emp) 2048 (by omega) (Sat.start w);have HWk:Hid (∀ w2 b d,Sto w Emp b d 2048 0 1 0 1 [] (fun _=>none) w2→Calls Tryz.prog 26 #[] w2 fun e w'=>e = .returned (.bool true)∧Sto w Emp b d 2048 0 1 0 1 [] (fun _=>none) w'):=fun w2 b d h=>by
  refine(wakes10_any (w0:=w2) (F:=Emp) (Sat.start w2)).mono ?_;rintro e w' ⟨rfl,hs⟩;exact⟨rfl,h.new hs.chg⟩
 have HC1:Hid (∀ w2 b d,Sto w Emp b d 2048 0 1 0 1 [] (fun _=>none) w2→Calls Tryz.prog 44 #[.agg #[.int .i64 0,.int .i64 0,.slice A ps.length c,.slice none 0 0,.slice none 0 0,.slice none 0 0,.int .i64 0,.int .i64 0]] w2 fun e w'=> ∃ (B:Option Addr) (c' m:Nat),e = .returned (.agg #[.int .i64 0,.int .i64 0,.slice B m c',.slice none 0 0,.slice none 0 0,.slice none 0 0,.int .i64 0,.int .i64 0])∧Hid ((cutP ps).length=m∧Sto w (Row 43 3 (.slice B m c') m ((cutP ps).flatMap puC)*Emp) b d 2048 0 1 0 1 [] (fun _=>none) w')):=fun w2 b d h=>
  scut0 A c ps h (fun W hW=>ha.2.2.1.new hW.chg) ⟨ha.1,by have:=ha.2.1;unfold maxLen at this;omega⟩ fun p hp=>⟨(ha.2.2.2.2 p hp).1.2.1,(ha.2.2.2.2 p hp).2.2.1⟩
 have HC2:Hid (∀ F w2 b d,Sto w F b d 2048 0 1 0 1 [] (fun _=>none) w2→Calls Tryz.prog 44 #[.agg #[.int .i64 0,.int .i64 0,.slice B qs.length c2,.slice none 0 0,.slice none 0 0,.slice none 0 0,.int .i64 0,.int .i64 0]] w2 fun e w'=> ∃ (B:Option Addr) (c' m:Nat),e = .returned (.agg #[.int .i64 0,.int .i64 0,.slice B m c',.slice none 0 0,.slice none 0 0,.slice none 0 0,.int .i64 0,.int .i64 0])∧Hid ((cutP qs).length=m∧Sto w (Row 43 3 (.slice B m c') m ((cutP qs).flatMap puC)*F) b d 2048 0 1 0 1 [] (fun _=>none) w')):=fun F w2 b d h=>
  scut0 B c2 qs h (fun W hW=>hb.2.2.1.new hW.chg) ⟨hb.1,by have:=hb.2.1;unfold maxLen at this;omega⟩ fun p hp=>⟨(hb.2.2.2.2 p hp).1.2.1,(hb.2.2.2.2 p hp).2.2.1⟩
 have hfd:=stp_field;have HRa:=ah ha.r;have HRb:=ah hb.r;clear ha hb;go_enter Tryz.func13, Tryz.ntmps13;go_upto_region 5 with (first
  | (go_at_call 25;(with_reducible refine HB.out.mono ?_);rintro e w2 ⟨d,b,rfl,hs⟩;have HS2:=ah hs;clear hs)
  | (go_at_call 26;(with_reducible refine(HWk.out _ _ _ HS2.out).mono ?_);rintro e w3 ⟨rfl,hs⟩;have HS3:=ah hs;clear hs)
  | (go_at_call 44;(with_reducible refine(HC1.out _ _ _ HS3.out).mono ?_);rintro e w4 ⟨A4,c4,m4,rfl,HS4⟩)
  | (go_at_call 44;(with_reducible refine(HC2.out _ _ _ _ HS4.out.2).mono ?_);rintro e w5 ⟨A5,c5,m5,rfl,HS5⟩))
 have HM4:=ah HS4.out.1;obtain⟨hm5,hs5⟩:=HS5.out;have h124:m4≤12:=by have:=HM4.out;have:=cutP_len ps;omega
 have h125:m5≤12:=by have:=cutP_len qs;omega
 have HM5:=ah hm5;have hF: ∃ F,(∀ W,Sat w F W→RdV W A4 ((cutP ps).flatMap puC)∧PusR W (cutP ps))∧(∀ W,Sat w F W→RdV W A5 ((cutP qs).flatMap puC)∧PusR W (cutP qs))∧Sto w F b d 2048 0 1 0 1 [] (fun _=>none) w5:=
  ⟨_,fun W hW=>⟨hW.right.row_rdK,cutP_r (HRa.out.new hW.chg)⟩,fun W hW=>⟨hW.row_rdK,cutP_r (HRb.out.new hW.chg)⟩,hs5⟩
 obtain⟨F,hfa,hfb,hs6⟩:=hF;have HWa:Hid (Calls Tryz.prog 20 #[.pointer (some ⟨b,0,none⟩),.slice A4 m4 c4] w5 fun x w'=> ∃ (er:Int) (M':List Kv),x = .returned (.int .i64 er)∧Sto w F b d 2048 12 2 0 1 M' (fun _=>none) w'):=by
  have h9:=swriteAny A4 c4 (cutP ps) (by omega) (by have:=cutP_len ps;omega) hs6 hfa (fun p hp=>by have:=cutP_few p hp;omega);rw[HM4.out] at h9;refine h9.mono ?_;rintro x w' ⟨er,M',rfl,h⟩;exact⟨er,M',rfl,h.mono (by omega) (by omega)⟩
 have HWb:Hid (∀ t k nx M olds W,t+12≤1024→k≤10000→Sto w F b d 2048 t k 0 nx M olds W→Calls Tryz.prog 20 #[.pointer (some ⟨b,0,none⟩),.slice A5 m5 c5] W fun x w'=> ∃ (er:Int) (M':List Kv),x = .returned (.int .i64 er)∧Sto w F b d 2048 (t+12) (k+1) 0 nx M' olds w'):=fun t k nx M olds W ht hk hW=>by
  have h9:=swriteAny A5 c5 (cutP qs) hk (by have:=cutP_len qs;omega) hW hfb (fun p hp=>by have:=cutP_few p hp;omega);rw[HM5.out] at h9;refine h9.mono ?_;rintro x w' ⟨er,M',rfl,h⟩;exact⟨er,M',rfl,h.mono (by omega) (by omega)⟩
 clear HB HWk HC1 HC2 HS2 HS3 HS4 HS5 hm5 hs5 hfa hs6;go_upto_region 6 with (go_at_call 20;(with_reducible refine HWa.out.mono ?_);rintro e w6 ⟨er,M,rfl,hs⟩;have HS6:=ah hs;clear hs)
 have hpr:=HS6.out.pairs;have HSc:Hid (Calls Tryz.prog 24 #[.pointer (some ⟨b,0,none⟩),.slice none 0 0,.slice none 0 0,.int .i64 100] w6 fun x w'=> ∃ (B:Option Addr) (c n:Nat) (qs es:List En),x = .returned (.slice B n c)∧Hid (qs.length=n∧pairsE qs=M∧(∀ q ∈ qs,q ∈ es)∧Sto w (TolP B c qs es*F) b d 2048 12 2 0 1 M (fun _=>none) w')):=by
  refine(sscanT (none,0,[]) (none,0,[]) 100 M (by rw[cutM_nil,List.take_of_length_le];show M.length≤100;omega) (Rd.nil _ _) (Rd.nil _ _) (by omega) HS6.out).mono ?_;rintro x w' ⟨B,c,qs,es,rfl,h1,h2,h5,h3⟩;exact⟨B,c,_,qs,es,rfl,rfl,h1,h2,h3⟩
 have hMl:M.length≤12:=hpr.2.1;clear hpr HWa;go_upto_region 7 with (go_at_call 24;(with_reducible refine HSc.out.mono ?_);rintro e w7 ⟨B7,c7,n7,q7,es7,rfl,HQ7⟩)
 obtain⟨hq7,hp7,hm7,hs7⟩:=HQ7.out;have HSn:Hid (Calls Tryz.prog 41 #[.pointer (some ⟨b,0,none⟩)] w7 fun x w'=>x = .returned (.int .i64 1)∧Sto w (TolP B7 c7 q7 es7*F) b d 2048 12 3 0 2 M (snapO (fun _=>none) 1 M) w'):=ssnap (by omega) hs7;have HT7:Hid (TolF (TolP B7 c7 q7 es7*F) B7 q7):=told_p hm7;have HL7:=ah hq7;have HP7:=ah hp7;have h712:n7≤12:=by rw[←hq7, ←pairs_len,hp7];exact hMl
 have HO:Hid (snapO (fun _=>none) 1 M 1=some M):=ah (by unfold snapO;rw[if_pos (by rfl)]);generalize snapO (fun _=>none) 1 M=olds at*
 clear hq7 hp7 hs7 hm7 HQ7 HSc HS6;go_upto_region 8 with (go_at_call 41;(with_reducible refine HSn.out.mono ?_);rintro e w8 ⟨rfl,hs⟩;have HS8:=ah hs;clear hs)
 have HWb2:Hid (∀ t k M W,t+12≤1024→k≤10000→Sto w (TolP B7 c7 q7 es7*F) b d 2048 t k 0 2 M olds W→Calls Tryz.prog 20 #[.pointer (some ⟨b,0,none⟩),.slice A5 m5 c5] W fun x w'=> ∃ (er:Int) (M':List Kv),x = .returned (.int .i64 er)∧Sto w (TolP B7 c7 q7 es7*F) b d 2048 (t+12) (k+1) 0 2 M' olds w'):=fun t k M W ht hk hW=>by
  have h9:=swriteAny A5 c5 (cutP qs) hk (by have:=cutP_len qs;omega) hW (fun W hW=>hfb W hW.right) (fun p hp=>by have:=cutP_few p hp;omega);rw[HM5.out] at h9;refine h9.mono ?_;rintro x w' ⟨er,M',rfl,h⟩;exact⟨er,M',rfl,h.mono (by omega) (by omega)⟩
 clear HWb hfb HSn;generalize TolP B7 c7 q7 es7*F=F2 at*
 have HSa:Hid (∀ t k M2 W,t≤1024→Sto w F2 b d 2048 t k 0 2 M2 olds W→Calls Tryz.prog 45 #[.pointer (some ⟨b,0,none⟩),.int .i64 1,.slice none 0 0,.slice none 0 0,.int .i64 100] W fun x w'=> ∃ (B:Option Addr) (c n:Nat) (qs es:List En),x = .returned (.tuple #[.slice B n c,.int .i64 0])∧Hid (qs.length=n∧pairsE qs=M∧(∀ q ∈ qs,q ∈ es)∧Sto w (TolP B c qs es*F2) b d 2048 t k 0 2 M2 olds w')):=fun t k M2 W ht hW=>by
  refine(sscanAtT 1 (none,0,[]) (none,0,[]) 100 (by omega) (Rd.nil _ _) (Rd.nil _ _) ht hW M 0 (.inr ⟨M,HO.out,by rw[cutM_nil,List.take_of_length_le];show M.length≤100;omega,rfl⟩)).mono ?_;rintro x w' ⟨B,c,qs,es,rfl,h1,h2,h3⟩;exact⟨B,c,_,qs,es,rfl,rfl,h1,h2,h3⟩
 go_wp2_with fail;go_loopw [11] (fun iv wr=> ∃ (i:Nat),i≤3∧iv = .int .i64 (i:Int)∧Hid (∃ M2,Sto w F2 b d 2048 (12+12*i) (10+2*i) 0 2 M2 olds wr)) (fun iv _=>10 - (intOf iv).toNat)
 case atStart=>exact⟨0,by omega,rfl,M,HS8.out.mono (by omega) (by omega)⟩
 case round=>
  obtain⟨i,hi,rfl,HD⟩:=hrel;by_cases hlt:i<3
  ·have hii:(i:Int)<3:=by omega
   obtain⟨M2,hs⟩:=HD.out;have HW:=ah (HWb2.out _ _ _ _ (by omega) (by omega) hs);clear hs;go_upto_region 12 with (go_at_call 20;(with_reducible refine HW.out.mono ?_);rintro e w9 ⟨er9,M9,rfl,hs⟩;have HS9:=ah hs;clear hs)
   cases tidy
   case' false=>
    go_upto_region 14 with fail;have HS10:=ah (HS9.out.mono (Nat.le_refl _) (show 10+2*i+1≤10+2*i+2 by omega));generalize w9=w10 at*
   case' true=>
    go_upto_region 14 with (first
     | (go_at_call 35;(with_reducible refine(stidy (by omega) (by omega) HS9.out).mono ?_);rintro e w10 ⟨rfl,hs⟩;have HS10:=ah hs;clear hs)
     | (go_at_call 29;(with_reducible refine(num10_any _ _).mono ?_);rintro e wx ⟨rfl,rfl⟩))
   all_goals
    have HSa2:=ah (HSa.out _ _ _ _ (by omega) HS10.out);go_upto_region 15 with (go_at_call 45;(with_reducible refine HSa2.out.mono ?_);rintro e w11 ⟨B11,c11,n11,q11,es11,rfl,HQ⟩)
    obtain⟨hq,hp,hm,hs⟩:=HQ.out;have HPr:Hid (Calls Tryz.prog 23 #[.slice B11 n11 c11,.slice B7 n7 c7] w11 fun x w'=>x = .returned (.bool true)∧Sto w (TolP B11 c11 q11 es11*F2) b d 2048 (12+12*i+12) (10+2*i+2) 0 2 M9 olds w'):=by
     have h9:=pairs_told (c:=c11) (c':=c7) (told_p hm) HT7.out.left (by rw[hp,HP7.out]) (by rw[←pairs_len,hp];omega) hs;rw[hq,HL7.out] at h9;exact h9
    clear hq hp hm hs HQ HSa2;go_wp2_with (first
     | (go_at_call 23;(with_reducible refine HPr.out.mono ?_);rintro e w12 ⟨rfl,hs⟩;have HS12:=ah hs;clear hs)
     | (go_at_call 29;(with_reducible refine(num10_any _ _).mono ?_);rintro e wx ⟨rfl,rfl⟩))
    go_roundw
    ·exact⟨i+1,by omega,by push_cast;rfl,M9,HS12.out.drop.mono (by omega) (by omega)⟩
    ·simp[intOf];omega
  ·have hie:i=3:=by omega
   subst hie;obtain⟨M2,hs⟩:=HD.out;have HS9:=ah hs;have HDr:Hid (Calls Tryz.prog 43 #[.pointer (some ⟨b,0,none⟩),.int .i64 1] wr fun x w'=>x = .returned (.int .i64 0)∧Sto w F2 b d 2048 48 16 0 2 M2 (dropO olds 1) w'):=by
    have h9:=sdrop 1 (by omega) hs;rw[HO.out] at h9;exact h9
   have hO2:dropO olds 1 1=none:=by unfold dropO;rw[if_pos rfl]
   have HDr2:Hid (∀ W,Sto w F2 b d 2048 48 16 0 2 M2 (dropO olds 1) W→Calls Tryz.prog 43 #[.pointer (some ⟨b,0,none⟩),.int .i64 1] W fun x w'=>x = .returned (.int .i64 104)∧Sto w F2 b d 2048 48 16 0 2 M2 (dropO (dropO olds 1) 1) w'):=fun W hW=>by
    have h9:=sdrop 1 (by omega) hW;rw[hO2] at h9;exact h9
   have hO3:dropO (dropO olds 1) 1 1=none:=by unfold dropO;rw[if_pos rfl]
   have HSb:Hid (∀ W,Sto w F2 b d 2048 48 16 0 2 M2 (dropO (dropO olds 1) 1) W→Calls Tryz.prog 45 #[.pointer (some ⟨b,0,none⟩),.int .i64 1,.slice none 0 0,.slice none 0 0,.int .i64 1] W fun x w'=> ∃ (B:Option Addr) (c n:Nat),x = .returned (.tuple #[.slice B n c,.int .i64 104])∧Sto w F2 b d 2048 48 16 0 2 M2 (dropO (dropO olds 1) 1) w'):=fun W hW=>by
    refine(sscanAtT 1 (none,0,[]) (none,0,[]) 1 (by omega) (Rd.nil _ _) (Rd.nil _ _) (by omega) hW [] 104 (.inl ⟨hO3,rfl,rfl⟩)).mono ?_;rintro x w' ⟨B,c,qs,es,rfl,h1,h2,h3⟩;exact⟨B,c,_,rfl,h3.drop⟩
   have HSn:Hid (∀ W,Sto w F2 b d 2048 48 16 0 2 M2 (dropO (dropO olds 1) 1) W→Calls Tryz.prog 41 #[.pointer (some ⟨b,0,none⟩)] W fun x w'=>x = .returned (.int .i64 2)∧Sto w F2 b d 2048 48 17 0 3 M2 (snapO (dropO (dropO olds 1) 1) 2 M2) w'):=fun W hW=>ssnap (by omega) hW
   clear hs hO2 hO3 hlt HD;go_wp2_with (first
    | (go_at_call 43;(with_reducible refine HDr.out.mono ?_);rintro e w10 ⟨rfl,hs⟩;have HS10:=ah hs;clear hs)
    | (go_at_call 43;(with_reducible refine(HDr2.out _ HS10.out).mono ?_);rintro e w11 ⟨rfl,hs⟩;have HS11:=ah hs;clear hs)
    | (go_at_call 45;(with_reducible refine(HSb.out _ HS11.out).mono ?_);rintro e w12 ⟨B12,c12,n12,rfl,hs⟩;have HS12:=ah hs;clear hs)
    | (go_at_call 41;(with_reducible refine(HSn.out _ HS12.out).mono ?_);rintro e w13 ⟨rfl,hs⟩;have HS13:=ah hs;clear hs)
    | (go_at_call 29;(with_reducible refine(num10_any _ _).mono ?_);rintro e wx ⟨rfl,rfl⟩))
   go_ret;exact⟨rfl,HS13.out.sat.chg⟩
end
end Go.Proofs.YtmbaiglpgaoogaaGreat
