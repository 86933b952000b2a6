/- StoreFormats: the walk. -/
import Derived.Test.YtmbaiglpgaoogaaGreatS37
import Derived.Test.YtmbaiglpgaoogaaGreatS38
namespace Go.Proofs.YtmbaiglpgaoogaaGreat
open Go.RowKit
set_option linter.unusedVariables false
set_option maxRecDepth 100000
theorem and1023 (n:Int):bits .and .i64 n 1023=n % 1024:=by
 have h1:(BitVec.ofInt 64 1023).toNat=2 ^ 10 - 1:=by decide
 have key:(BitVec.ofInt 64 n &&& BitVec.ofInt 64 1023).toNat=(n % ((2 ^ 64:Nat):Int)).toNat % 2 ^ 10:=by
  rw[BitVec.toNat_and,BitVec.toNat_ofInt,h1,Nat.and_two_pow_sub_one_eq_mod]
 show IntKind.i64.wrap ((BitVec.ofInt 64 n &&& BitVec.ofInt 64 1023).toNat:Nat)=n % 1024;rw[key,IntKind.wrap_i64];omega
section
variable {w0 w w':World} {F F':SP} {b d n t k a nx:Nat} {M:List Kv} {olds:Int→Option (List Kv)}
theorem kwriteOr (x:Int) (hk:k≤10000) (ht:t+1≤1024) (h:Sto w0 F b d n t k 0 nx M olds w):
  Calls Tryz.prog 20 #[.pointer (some ⟨b,0,none⟩),.slice (some ⟨w.heap.size+1+1,0,none⟩) 1 1] (((w.alloc (.cells ((keyB x).map bv).toArray 5)).alloc (by1 120)).alloc (.cells #[.slice (some ⟨w.heap.size,0,none⟩) 3 3,.slice (some ⟨w.heap.size+1,0,none⟩) 1 1,.bool false] 43)) fun e w'=> ∃ (er:Int) (M':List Kv),e = .returned (.int .i64 er)∧(er=0∨er=103)∧Sto w0 F b d n (t+1) (k+1) 0 nx M' olds w':=by
 have h8:=((h.al (.cells ((keyB x).map bv).toArray 5)).al (by1 120)).al (.cells #[.slice (some ⟨w.heap.size,0,none⟩) 3 3,.slice (some ⟨w.heap.size+1,0,none⟩) 1 1,.bool false] 43);simp only[World.size_alloc] at h8;generalize w.heap.size=g at*
 obtain⟨s,S,v,D,h1,h2,h3,h4⟩:=h8;have hb:BatOk [(⟨(some ⟨g,0,none⟩,3,keyB x),(some ⟨g+1,0,none⟩,1,[120]),false⟩:Pu).chn]:=⟨fun q hq=>by
  rw[List.mem_singleton] at hq;subst hq;exact⟨by show 1≤3∧3≤128;omega,by show 1≤_;omega,fun h=>by cases h⟩,by show (3+1+16)+0≤262144;omega⟩
 refine(write_st b d s v n t k D S M olds (some ⟨g+1+1,0,none⟩) 1 [⟨(some ⟨g,0,none⟩,3,keyB x),(some ⟨g+1,0,none⟩,1,[120]),false⟩] h1 hk ht (by omega) h4 (fun W hW=>⟨?_,fun q hq=>?_⟩) (fun q hq=>?_)).mono ?_
 ·exact lit_fi hW rfl
 ·rw[List.mem_singleton] at hq;subst hq;exact⟨ow_rd (l:=keyB x) hW.up3,ow_rd (l:=[120]) hW.up2⟩
 ·rw[List.mem_singleton] at hq;subst hq;exact⟨by show 3≤_;omega,by show 1≤_;omega⟩
 ·rintro x w' (⟨g0,_⟩ | ⟨_,_,g1,g2⟩ | ⟨_,_,rfl,S',D',v',g3,g4,g5,g6,g7,g8⟩ | ⟨_,_,_,g1,_⟩)
  ·exact absurd (chk_zero.2 hb) g0
  ·exact⟨103,M,g1,.inr rfl,Sto.mono (Sto.drop (Sto.drop (Sto.drop (show Sto w0 _ b d n t k 0 nx M olds w' from ⟨s,S,v,D,h1,h2,h3,g2⟩)))) (by omega) (by omega)⟩
  ·exact⟨0,_,rfl,.inl rfl,Sto.drop (Sto.drop (Sto.drop (show Sto w0 _ b d n (t+1) (k+1) 0 nx _ olds w' from ⟨s,S',v',D',g3,by omega,by omega,g8⟩)))⟩
  ·omega
set_option maxHeartbeats 8000000 in
theorem storeFormats_walk (n0:Int) (A:Option Addr) (c:Nat) (l:List Int) (w:World) (hn: -9223372036854775808≤n0∧n0≤9223372036854775807)
  (hl:l.length≤c∧c≤maxLen∧RdV w A (l.map fun n=> .int .i64 n)∧l.length≤17592186043904∧ ∀ n ∈ l, -9223372036854775808≤n∧n≤9223372036854775807):
  Calls Tryz.prog 7 #[.int .i64 n0,.slice A l.length c] w (Asked true w):=by
 have a1023:=and1023;have hcv:=conv_const;obtain⟨n,hnn⟩: ∃ n:Nat,(n:Int)=2+n0 % 1024:=⟨(2+n0 % 1024).toNat,by omega⟩;have hn2:2≤n:=by omega
 have hnN:n≤1025:=by omega
 have HNew:Hid (Calls Tryz.prog 16 #[.int .i64 (n:Int)] w fun e w'=> ∃ d,e = .returned (.tuple #[.pointer (some ⟨d,0,none⟩),.int .i64 0])∧Sat w (Disk d (Dk.new n)*Emp) w'):=(new_any (n:Int) w w Emp (Sat.start w)).mono fun e w' h9=>by
  unfold NewD at h9;rw[if_pos (by omega),Int.toNat_natCast] at h9;exact h9
 have HL:=ah hl;have hl1:l.length≤17592186043904:=hl.2.2.2.1;clear hl;by_cases h64:n<64
 ·have HFo:Hid (∀ d W,Sat w (Disk d (Dk.new n)*Emp) W→Calls Tryz.prog 18 #[.pointer (some ⟨d,0,none⟩)] W fun x w'=>x = .returned (.int .i64 103)∧W=w'):=fun d W hW=>format_few hW rfl new_len h64
  have HOp:Hid (∀ d W,Sat w (Disk d (Dk.new n)*Emp) W→Calls Tryz.prog 19 #[.pointer (some ⟨d,0,none⟩)] W fun x w'=>x = .returned (.tuple #[.pointer none,.int .i64 105])∧Sat w (Disk d (Dk.new n)*Emp) w'):=fun d W hW=>open_raw hW (by rw[new_len];omega) (by rw[new_len];omega) (openX_new hn2)
  have HWk:Hid (∀ F W,Sat w F W→Calls Tryz.prog 26 #[] W fun e w'=>e = .returned (.bool true)∧Sat w F w'):=fun F W hW=>wakes10_any hW
  have hlt:(n:Int)<64:=by omega
  clear h64 hn;go_enter Tryz.func7, Tryz.ntmps7;go_upto_region 2 with fail;rw[←hnn];clear hnn;go_wp2_with (first
   | (go_at_call 16;(with_reducible refine HNew.out.mono ?_);rintro e w2 ⟨d,rfl,hs⟩;have HS2:=ah hs;clear hs)
   | (go_at_call 29;(with_reducible refine(num10_any _ _).mono ?_);rintro e wx ⟨rfl,rfl⟩)
   | (go_at_call 18;(with_reducible refine(HFo.out _ _ HS2.out).mono ?_);rintro e w3 ⟨rfl,rfl⟩)
   | (go_at_call 19;(with_reducible refine(HOp.out _ _ HS2.out).mono ?_);rintro e w4 ⟨rfl,hs⟩;have HS4:=ah hs;clear hs)
   | (go_at_call 26;(with_reducible refine(HWk.out _ _ HS4.out).mono ?_);rintro e w5 ⟨rfl,hs⟩;have HS5:=ah hs;clear hs))
  go_ret;exact⟨rfl,HS5.out.chg⟩
 ·have hb:64≤n∧n≤65536:=by omega
  have HFo:Hid (∀ W d,Sat w (Disk d (Dk.new n)*Emp) W→Calls Tryz.prog 18 #[.pointer (some ⟨d,0,none⟩)] W fun e w'=>e = .returned (.int .i64 0)∧Hid (∃ D' S',openX D'=(some S',0)∧FndI n 0 0 D' S' [[]]∧D'.armed=0∧Sat w (Disk d D'*Emp) w')):=fun W d hW=>
   format_find d n 0 1 1 1 1 (Dk.new n) (beginD n) (fun _=>0) hb rfl (by unfold Dk.new;simp) (formatX_new (by omega)) (begin_good (by omega) hb.2) begin_len begin_armed (by show 0≤_;omega) ⟨Nat.zero_le _,Nat.zero_le _⟩ begin_cnt (by omega) (by omega) (by omega) hW
  have HOp:Hid (∀ W d,(∃ D' S',openX D'=(some S',0)∧FndI n 0 0 D' S' [[]]∧D'.armed=0∧Sat w (Disk d D'*Emp) W)→Calls Tryz.prog 19 #[.pointer (some ⟨d,0,none⟩)] W fun e w'=> ∃ b,e = .returned (.tuple #[.pointer (some ⟨b,0,none⟩),.int .i64 0])∧Sto w Emp b d n 0 1 0 1 [] (fun _=>none) w'):=fun W d h=>sopen_find (k:=0) (by omega) h
  have HCn:Hid (∀ b d k W,Sto w Emp b d n 0 k 0 1 [] (fun _=>none) W→Calls Tryz.prog 31 #[.pointer (some ⟨b,0,none⟩)] W fun x w'=>x = .returned (.int .i64 0)∧Sto w Emp b d n 0 k 0 1 [] (fun _=>none) w'):=fun b d k W hW=>scount (by omega) hW
  have HSc:Hid (∀ b d k W,Sto w Emp b d n 0 k 0 1 [] (fun _=>none) W→Calls Tryz.prog 24 #[.pointer (some ⟨b,0,none⟩),.slice none 0 0,.slice none 0 0,.int .i64 9] W fun x w'=> ∃ B c,x = .returned (.slice B 0 c)∧Sto w Emp b d n 0 k 0 1 [] (fun _=>none) w'):=fun b d k W hW=>by
   refine(sscanT (none,0,[]) (none,0,[]) 9 [] rfl (Rd.nil _ _) (Rd.nil _ _) (by omega) hW).mono ?_;rintro x w' ⟨B,c,qs,es,rfl,h1,h2,h5,h3⟩;have h4:qs.length=0:=by rw[←pairs_len,h1];rfl
   rw[h4];exact⟨B,c,rfl,h3.drop⟩
  have HWk:Hid (∀ b d W,Sto w Emp b d n 0 1 0 1 [] (fun _=>none) W→Calls Tryz.prog 26 #[] W fun e w'=>e = .returned (.bool true)∧Sto w Emp b d n 0 1 0 1 [] (fun _=>none) w'):=fun b d W h=>by
   refine(wakes10_any (w0:=W) (F:=Emp) (Sat.start W)).mono ?_;rintro e w' ⟨rfl,hs⟩;exact⟨rfl,h.new hs.chg⟩
  have hlt:¬ (n:Int)<64:=by omega
  have HB:=ah hb;clear h64 hn hb;go_enter Tryz.func7, Tryz.ntmps7;go_upto_region 2 with fail;rw[←hnn];clear hnn;go_upto_region 12 with (first
   | (go_at_call 16;(with_reducible refine HNew.out.mono ?_);rintro e w2 ⟨d,rfl,hs⟩;have HS2:=ah hs;clear hs)
   | (go_at_call 29;(with_reducible refine(num10_any _ _).mono ?_);rintro e wx ⟨rfl,rfl⟩)
   | (go_at_call 18;(with_reducible refine(HFo.out _ _ HS2.out).mono ?_);rintro e w3 ⟨rfl,HS3⟩)
   | (go_at_call 19;(with_reducible refine(HOp.out _ _ HS3.out).mono ?_);rintro e w4 ⟨b,rfl,hs⟩;have HS4:=ah hs;clear hs)
   | (go_at_call 31;(with_reducible refine(HCn.out _ _ _ _ HS4.out).mono ?_);rintro e w5 ⟨rfl,hs⟩;have HS5:=ah hs;clear hs)
   | (go_at_call 26;(with_reducible refine(HWk.out _ _ _ HS5.out).mono ?_);rintro e w6 ⟨rfl,hs⟩;have HS6:=ah hs;clear hs))
  clear HNew HFo HOp HWk HS2 HS3 HS4 HS5;go_wp2_with fail;go_loopw [12] (fun iv wr=> ∃ (i:Nat),i≤l.length∧i≤20∧iv = .int .i64 (i:Int)∧Hid (∃ M,Sto w Emp b d n i (1+i) 0 1 M (fun _=>none) wr)) (fun iv _=>30 - (intOf iv).toNat)
  case atStart=>exact⟨0,by omega,by omega,rfl,[],HS6.out⟩
  case round=>
   obtain⟨i,hi,hi2,rfl,HD⟩:=hrel;by_cases hin:i<l.length∧i<20
   ·obtain⟨hil,hi20⟩:=hin;obtain⟨M,hS⟩:=HD.out;obtain⟨lb,lo,hA,hcell⟩:=(HL.out.2.2.1.new hS.sat.chg) (by intro h0;have:=congrArg List.length h0;rw[List.length_map,List.length_nil] at this;omega);subst hA;have y0:=hcell i (by rw[List.length_map];exact hil);rw[List.getElem_map] at y0;have hxi:=HL.out.2.2.2.2 _ (List.getElem_mem hil);generalize l[i]=x at*
    have hii:(i:Int)<l.length:=by omega
    have h6:(i:Int)<20:=by omega
    have HW:=ah (kwriteOr x (by omega) (by omega) hS);clear hcell hS hil hi20;go_upto_region 16 with (first
     | (go_at_call 33;(with_reducible refine(key10_any x hxi _).mono ?_);rintro e w3 ⟨rfl,rfl⟩)
     | (go_at_call 20;(with_reducible refine HW.out.mono ?_);rintro e w7 ⟨er,M7,rfl,her,hs⟩;have HS7:=ah hs;have HEr:=ah her;clear hs her)
     | (go_at_call 29;(with_reducible refine(num10_any _ _).mono ?_);rintro e wx ⟨rfl,rfl⟩))
    rcases HEr.out with rfl | rfl
    all_goals
     go_wp2_with fail;go_roundw
     ·exact⟨i+1,by omega,by omega,by push_cast;rfl,M7,HS7.out.mono (by omega) (by omega)⟩
     ·simp[intOf];omega
   ·have hex:¬ (i:Int)<l.length∨((i:Int)<l.length∧¬ (i:Int)<20):=by omega
    obtain⟨M,hS⟩:=HD.out;have HFo:=ah (sformat HB.out (by omega) hS);have HOp:Hid (∀ W,(∃ D' S',openX D'=(some S',0)∧FndI n 0 (1+i+2) D' S' [[]]∧D'.armed=0∧Sat w (Disk d D'*Emp) W)→Calls Tryz.prog 19 #[.pointer (some ⟨d,0,none⟩)] W fun e w'=> ∃ b,e = .returned (.tuple #[.pointer (some ⟨b,0,none⟩),.int .i64 0])∧Sto w Emp b d n 0 (1+i+2+1) 0 1 [] (fun _=>none) w'):=fun W h=>sopen_find (by omega) h
    clear hS hin HD;rcases hex with hex | ⟨hex,hex2⟩
    all_goals
     go_wp2_with (first
      | (go_at_call 18;(with_reducible refine HFo.out.mono ?_);rintro e w8 ⟨rfl,HS8⟩;replace HS8:=ah HS8)
      | (go_at_call 29;(with_reducible refine(num10_any _ _).mono ?_);rintro e wx ⟨rfl,rfl⟩)
      | (go_at_call 19;(with_reducible refine(HOp.out _ HS8.out).mono ?_);rintro e w9 ⟨b2,rfl,hs⟩;have HS9:=ah hs;clear hs)
      | (go_at_call 31;(with_reducible refine(HCn.out _ _ _ _ HS9.out).mono ?_);rintro e w10 ⟨rfl,hs⟩;have HS10:=ah hs;clear hs)
      | (go_at_call 24;(with_reducible refine(HSc.out _ _ _ _ HS10.out).mono ?_);rintro e w11 ⟨B11,c11,rfl,hs⟩;have HS11:=ah hs;clear hs))
     go_ret;exact⟨rfl,HS11.out.sat.chg⟩
end
end Go.Proofs.YtmbaiglpgaoogaaGreat
