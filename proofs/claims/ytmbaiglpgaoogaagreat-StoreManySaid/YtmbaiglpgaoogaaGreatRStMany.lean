/- StoreMany: the walk. -/
import Derived.Test.YtmbaiglpgaoogaaGreatR02
import Derived.Test.YtmbaiglpgaoogaaGreatR36
namespace Go.Proofs.YtmbaiglpgaoogaaGreat
open Go.RowKit
set_option linter.unusedVariables false
set_option maxRecDepth 100000
section
variable {w0 w w':World} {F F':SP} {b d n t k a nx:Nat} {M:List Kv} {olds:Int→Option (List Kv)}
def mnV (r k:Nat):List UInt8:=[UInt8.ofNat r,UInt8.ofNat k]
def MnI (p st r i:Nat) (M:List Kv):Prop:=KM p M∧SmlM M∧ ∀ j<i,j*st % 64<p→getK (keyB ((j*st % 64:Nat):Int)) M=some (mnV r (j*st % 64))
def MnO (p r:Nat) (M:List Kv):Prop:=KM p M∧SmlM M∧(1≤r→ ∀ k:Nat,k<p→getK (keyB (k:Int)) M=some (mnV (r - 1) k))
theorem MnI.no {p st r i:Nat} {M:List Kv} (h:MnI p st r i M) (hk:¬ i*st % 64<p):MnI p st r (i+1) M:=⟨h.1,h.2.1,fun j hj hp=>by
 by_cases e:j=i
 ·subst e;exact absurd hp hk
 ·exact h.2.2 j (by omega) hp⟩
theorem MnI.put {p st r i:Nat} {M:List Kv} (h:MnI p st r i M) (hs:M.Pairwise kLT) (hk:i*st % 64<p) (h64:p≤64) (hsm:SmlM (putM ⟨keyB ((i*st % 64:Nat):Int),mnV r (i*st % 64),false⟩ M)):MnI p st r (i+1) (putM ⟨keyB ((i*st % 64:Nat):Int),mnV r (i*st % 64),false⟩ M):=⟨h.1.put hk rfl,hsm,fun j hj hp=>by
 rw [putM_get _ hs]
 by_cases e:j*st % 64=i*st % 64
 ·rw [e,if_pos rfl];rfl
 ·rw [if_neg fun q=>e (keyB_inj (by omega) (by omega) q).symm]
  exact h.2.2 j (by
   by_cases e2:j=i
   ·subst e2;exact absurd rfl e
   ·omega) hp⟩
theorem MnI.all {p sv r:Nat} {M:List Kv} (h:MnI p (1+2*sv) r 64 M) (hs:sv<16) (h64:p≤64):MnO p (r+1) M:=⟨h.1,h.2.1,fun _ k hk=>by
 obtain ⟨i,hi,e⟩:=odd_all hs (show k<64 by omega)
 have:=h.2.2 i hi (by rw [e];exact hk)
 rw [e] at this
 exact this⟩
theorem MnO.beg {p st r:Nat} {M:List Kv} (h:MnO p r M):MnI p st r 0 M:=⟨h.1,h.2.1,fun j hj=>by omega⟩
set_option maxHeartbeats 8000000 in
theorem storeMany_walk (n0 r0 s0:Int) (w:World) (hn: -9223372036854775808≤n0∧n0≤9223372036854775807) (hr: -9223372036854775808≤r0∧r0≤9223372036854775807) (hs: -9223372036854775808≤s0∧s0≤9223372036854775807):
  Calls Tryz.prog 6 #[.int .i64 n0, .int .i64 r0, .int .i64 s0] w (Asked true w):=by
 have HB:Hid (Calls Tryz.prog 25 #[.int .i64 1024] w fun e w'=> ∃ d b,e = .returned (.tuple #[.pointer (some ⟨d,0,none⟩), .pointer (some ⟨b,0,none⟩)])∧Sto w Emp b d 1024 0 1 0 1 [] (fun _=>none) w'):=begin10_any (w0:=w) (w:=w) (F:=Emp) 1024 (by omega) (Sat.start w)
 have HWk:Hid (∀ w2 b d,Sto w Emp b d 1024 0 1 0 1 [] (fun _=>none) w2→Calls Tryz.prog 26 #[] w2 fun e w'=>e = .returned (.bool true)∧Sto w Emp b d 1024 0 1 0 1 [] (fun _=>none) w'):=fun w2 b d h=>by
  refine (wakes10_any (w0:=w2) (F:=Emp) (Sat.start w2)).mono ?_
  rintro e w' ⟨rfl,hs⟩
  exact ⟨rfl,h.new hs.chg⟩
 have a7:=and7
 have a15:=and15
 have a63:=and63
 have hcv:=conv_const
 obtain ⟨p,hpn⟩: ∃ p:Nat,(p:Int)=1+n0 % 64:=⟨(1+n0 % 64).toNat,by omega⟩
 obtain ⟨q,hqn⟩: ∃ q:Nat,(q:Int)=1+r0 % 8:=⟨(1+r0 % 8).toNat,by omega⟩
 obtain ⟨sv,hsn⟩: ∃ sv:Nat,(sv:Int)=s0 % 16:=⟨(s0 % 16).toNat,by omega⟩
 have hp1:1≤p:=by omega
 have hp2:p≤64:=by omega
 have hq1:1≤q:=by omega
 have hq2:q≤8:=by omega
 have hsv:sv≤15:=by omega
 go_enter Tryz.func6, Tryz.ntmps6
 go_upto_region 6 with (first
  | (go_at_call 25;(with_reducible refine HB.out.mono ?_);rintro e w2 ⟨d,b,rfl,hs⟩;have HS2:=Lib.hid hs;clear hs)
  | (go_at_call 26;(with_reducible refine (HWk.out _ _ _ HS2.out).mono ?_);rintro e w3 ⟨rfl,hs⟩;have HS3:=Lib.hid hs;clear hs))
 rw [←hpn, ←hqn, ←hsn]
 obtain ⟨st,hst⟩: ∃ st:Nat,st=1+2*sv:=⟨_,rfl⟩
 rw [show (1+2*(sv:Int))=(st:Int) by omega]
 have hst2:st≤31:=by omega
 have HSt:=Lib.hid hst
 have HP0:=Lib.hid (show 1≤p∧p≤64 by omega)
 have HSv:=Lib.hid (show sv<16 by omega)
 clear hpn hqn hsn HB HWk HS2 hst hn hr hs
 go_wp2_with fail
 go_loopw [9] (fun rv wr=> ∃ (r:Nat),r≤q∧rv = .int .i64 (r:Int)∧Hid (∃ M,MnO p r M∧Sto w Emp b d 1024 (64*r) (1+64*r) 0 1 M (fun _=>none) wr)) (fun rv _=>10 - (intOf rv).toNat)
 case atStart=>exact ⟨0,by omega,rfl,[],⟨fun p hp=>(by cases hp),fun p hp=>(by cases hp),fun h=>(by omega)⟩,HS3.out⟩
 case round=>
  obtain ⟨r,hrq,rfl,HD⟩:=hrel
  by_cases hlt:r<q
  ·have hle:(r:Int)<q:=by omega
   have hr8:r≤7:=by omega
   clear hlt
   go_upto_region 10 with fail
   go_loopw [10] (fun iv wr=> ∃ (i:Nat),i≤64∧iv = .int .i64 (i:Int)∧Hid (∃ M,MnI p st r i M∧Sto w Emp b d 1024 (64*r+i) (1+64*r+i) 0 1 M (fun _=>none) wr)) (fun iv _=>70 - (intOf iv).toNat)
   case atStart=>
    obtain ⟨M,h1,h2⟩:=HD.out
    exact ⟨0,by omega,rfl,M,h1.beg,h2⟩
   case round=>
    obtain ⟨i,hi,rfl,HE⟩:=hrel
    by_cases hl64:i<64
    ·have hil:(i:Int)<64:=by omega
     have hmu:i*st≤63*31:=Nat.mul_le_mul (by omega) hst2
     obtain ⟨y,hy⟩: ∃ y:Nat,y=i*st:=⟨_,rfl⟩
     have hyc:(i:Int)*(st:Int)=(y:Int):=by rw [hy];push_cast;rfl
     obtain ⟨x,hx⟩: ∃ x:Nat,x=y % 64:=⟨_,rfl⟩
     have hxc:(y:Int) % 64=(x:Int):=by rw [hx];omega
     have hx64:x≤63:=by omega
     have hxe:i*st % 64=x:=by rw [hx,hy]
     have HXe:=Lib.hid hxe
     have hy2:y≤1953:=by omega
     clear hl64 hmu hy hx hxe
     go_upto_region 13 with fail
     by_cases hxp:x<p
     ·have hge:¬ (p:Int)≤x:=by omega
      obtain ⟨M,hM,hS⟩:=HE.out
      have HM:=Lib.hid hM
      have HS:=Lib.hid hS
      have w1:IntKind.u8.wrap (r:Int)=r:=by rw [IntKind.wrap_u8];omega
      have w2:IntKind.u8.wrap (x:Int)=x:=by rw [IntKind.wrap_u8];omega
      have hpw:=(HS.out.pairs).1
      have HPw:=Lib.hid hpw
      have HW:=Lib.hid (kwrite (x:Int) (mnV r x) 2 rfl (by show 2≤4;omega) #[.int .u8 (r:Int), .int .u8 (x:Int)] (by show #[bv _,bv _]=_;rw [bv_nat (by omega),bv_nat (by omega)]) (by omega) (by omega) HM.out.2.1 (HM.out.1.few hpw (by omega)) HS.out)
      have hxi: -9223372036854775808≤(x:Int)∧(x:Int)≤9223372036854775807:=by omega
      have HXp:=Lib.hid hxp
      clear hM hS hpw hxp
      go_upto_region 11 with (first
       | (go_at_call 33;(with_reducible refine (key10_any (x:Int) hxi _).mono ?_);rintro e w3 ⟨rfl,rfl⟩)
       | (go_at_call 20;(with_reducible refine HW.out.mono ?_);rintro e w4 ⟨rfl,hsm,hs⟩;have HS4:=Lib.hid hs;have HSm:=Lib.hid hsm;clear hs hsm)
       | (go_at_call 29;(with_reducible refine (num10_any _ _).mono ?_);rintro e wx ⟨rfl,rfl⟩))
      go_wp2_with fail
      go_roundw
      ·refine ⟨i+1,by omega,by push_cast;rfl,_,?_,by have h9:=HS4.out;exact h9⟩
       have h9:=HM.out.put HPw.out (by rw [HXe.out];exact HXp.out) HP0.out.2 (by rw [HXe.out];exact HSm.out)
       rw [HXe.out] at h9
       exact h9
      ·simp [intOf];omega
     ·have hge:(p:Int)≤x:=by omega
      have HXp:=Lib.hid hxp
      clear hxp
      go_wp2_with fail
      go_roundw
      ·obtain ⟨M,hM,hS⟩:=HE.out
       exact ⟨i+1,by omega,by push_cast;rfl,M,hM.no (by rw [HXe.out];exact HXp.out),hS.mono (by omega) (by omega)⟩
      ·simp [intOf];omega
    ·have hie:i=64:=by omega
     subst hie
     clear hl64
     go_wp2_with fail
     go_roundw
     ·obtain ⟨M,hM,hS⟩:=HE.out
      refine ⟨r+1,by omega,by push_cast;rfl,M,?_,hS.mono (by omega) (by omega)⟩
      rw [HSt.out] at hM
      exact hM.all HSv.out HP0.out.2
     ·simp [intOf];omega
  ·have hie:r=q:=by omega
   subst hie
   obtain ⟨M,hM,hS⟩:=HD.out
   have HS:=Lib.hid hS
   have hpw:=(hS.pairs).1
   have HG:=Lib.hid (hM.2.2 hq1)
   have hlen:M.length=p:=hM.1.all hp2 hpw fun k hk=>by rw [hM.2.2 hq1 k hk];rfl
   have HSc:Hid (Calls Tryz.prog 24 #[.pointer (some ⟨b,0,none⟩), .slice none 0 0, .slice none 0 0, .int .i64 100] wr fun e w'=> ∃ B c,e = .returned (.slice B p c)∧Sto w Emp b d 1024 (64*r) (1+64*r) 0 1 M (fun _=>none) w'):=by
    refine (sscan (none,0,[]) (none,0,[]) 100 (Rd.nil _ _) (Rd.nil _ _) (by omega) hS).mono ?_
    rintro e w' ⟨es,qs,B,c,rfl,h1,h2,h3⟩
    have h4:=congrArg List.length h2
    rw [cutM_nil,List.length_map,List.length_take,hlen] at h4
    have h5:qs.length=p:=by rw [h4];show min 100 p=p;omega
    rw [h5]
    exact ⟨B,c,rfl,h3.drop.drop⟩
   have HLn:=Lib.hid hlen
   clear hS hpw hM hlen hlt HD HS3
   go_upto_region 17 with (go_at_call 24;(with_reducible refine HSc.out.mono ?_);rintro e w5 ⟨B,c,rfl,hs⟩;have HS5:=Lib.hid hs;clear hs)
   have HCn:Hid (Calls Tryz.prog 31 #[.pointer (some ⟨b,0,none⟩)] w5 fun x w'=>x = .returned (.int .i64 (p:Int))∧Sto w Emp b d 1024 (64*r) (1+64*r) 0 1 M (fun _=>none) w'):=by
    have h9:=scount (by omega) HS5.out
    rw [HLn.out] at h9
    exact h9
   have hpp:((p:Int) !=p)=false:=by simp
   go_upto_region 20 with (go_at_call 31;(with_reducible refine HCn.out.mono ?_);rintro e w6 ⟨rfl,hs⟩;have HS6:=Lib.hid hs;clear hs)
   go_loopw [13] (fun kv wr=> ∃ (k:Nat),k≤p∧kv = .int .i64 (k:Int)∧Hid (Sto w Emp b d 1024 (64*r) (1+64*r) 0 1 M (fun _=>none) wr)) (fun kv _=>70 - (intOf kv).toNat)
   case atStart=>exact ⟨0,by omega,rfl,HS6.out⟩
   case round=>
    obtain ⟨k,hk,rfl,HE⟩:=hrel
    by_cases hkp:k<p
    ·have hki:(k:Int)<p:=by omega
     have hkr: -9223372036854775808≤(k:Int)∧(k:Int)≤9223372036854775807:=by omega
     have HK:=Lib.hid (kget (k:Int) (some (mnV (r - 1) k)) (HG.out k hkp) (by omega) HE.out)
     clear hkp
     go_upto_region 23 with (first
      | (go_at_call 33;(with_reducible refine (key10_any (k:Int) hkr _).mono ?_);rintro e w3 ⟨rfl,rfl⟩)
      | (go_at_call 32;(with_reducible refine HK.out.mono ?_);rintro e w7 ⟨A7,c7,rfl,hs⟩;have HS7:=Lib.hid hs;clear hs))
     obtain ⟨g,e,hc⟩:=HS7.out.sat.row_at (show 0<2 by omega)
     have y0:w7.cell? ⟨g,0,none⟩=some (.int .u8 ((r:Int) - 1)):=by
      have:=hc 0 (by show 0<2;omega)
      rw [←show ((r - 1:Nat):Int)=(r:Int) - 1 by omega, ←bv_nat (by omega)]
      exact this
     have y1:w7.cell? ⟨g,1,none⟩=some (.int .u8 (k:Int)):=by
      have:=hc 1 (by show 1<2;omega)
      rw [←bv_nat (by omega)]
      exact this
     subst e
     clear hc
     have hc1:((r:Int) - 1 !=r - 1)=false:=by simp
     have hc2:((k:Int) !=k)=false:=by simp
     go_wp2_with fail
     go_roundw
     ·exact ⟨k+1,by omega,by push_cast;rfl,HS7.out.drop⟩
     ·simp [intOf];omega
    ·have hke:k=p:=by omega
     subst hke
     go_wp2_with fail
     go_ret
     exact ⟨rfl,HE.out.sat.chg⟩
end
end Go.Proofs.YtmbaiglpgaoogaaGreat
