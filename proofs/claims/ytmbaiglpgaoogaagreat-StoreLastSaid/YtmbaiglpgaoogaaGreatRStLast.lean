/- StoreLast: the walk. -/
import Derived.Test.YtmbaiglpgaoogaaGreatR02
import Derived.Test.YtmbaiglpgaoogaaGreatR36
namespace Go.Proofs.YtmbaiglpgaoogaaGreat
open Go.RowKit
set_option linter.unusedVariables false
set_option maxRecDepth 100000
def larr (f:Nat→Nat):Array Value:=((List.range 64).map fun k=>Value.int .i64 (f k:Int)).toArray
theorem larr_get (f:Nat→Nat) {k:Nat} (h:k<64):(larr f)[k]?=some (.int .i64 (f k:Int)):=by
 unfold larr
 simp [h]
theorem z64:(#[Value.int .i64 0,Value.int .i64 0,Value.int .i64 0,Value.int .i64 0,Value.int .i64 0,Value.int .i64 0,Value.int .i64 0,Value.int .i64 0,Value.int .i64 0,Value.int .i64 0,Value.int .i64 0,Value.int .i64 0,Value.int .i64 0,Value.int .i64 0,Value.int .i64 0,Value.int .i64 0,Value.int .i64 0,Value.int .i64 0,Value.int .i64 0,Value.int .i64 0,Value.int .i64 0,Value.int .i64 0,Value.int .i64 0,Value.int .i64 0,Value.int .i64 0,Value.int .i64 0,Value.int .i64 0,Value.int .i64 0,Value.int .i64 0,Value.int .i64 0,Value.int .i64 0,Value.int .i64 0,Value.int .i64 0,Value.int .i64 0,Value.int .i64 0,Value.int .i64 0,Value.int .i64 0,Value.int .i64 0,Value.int .i64 0,Value.int .i64 0,Value.int .i64 0,Value.int .i64 0,Value.int .i64 0,Value.int .i64 0,Value.int .i64 0,Value.int .i64 0,Value.int .i64 0,Value.int .i64 0,Value.int .i64 0,Value.int .i64 0,Value.int .i64 0,Value.int .i64 0,Value.int .i64 0,Value.int .i64 0,Value.int .i64 0,Value.int .i64 0,Value.int .i64 0,Value.int .i64 0,Value.int .i64 0,Value.int .i64 0,Value.int .i64 0,Value.int .i64 0,Value.int .i64 0,Value.int .i64 0]:Array Value)=larr (fun _=>0):=rfl
def updL (f:Nat→Nat) (k v:Nat):Nat→Nat:=fun j=>if j=k then v else f j
theorem larr_set (f:Nat→Nat) (k v:Nat):(larr f).setIfInBounds k (.int .i64 (v:Int))=larr (updL f k v):=by
 apply Array.ext_getElem?
 intro i
 rw [Array.getElem?_setIfInBounds]
 have hs: ∀ g,(larr g).size=64:=fun g=>by unfold larr;simp
 by_cases hi:i<64
 ·rw [larr_get _ hi,larr_get _ hi,hs]
  unfold updL
  by_cases e:k=i
  ·subst e;rw [if_pos rfl,if_pos hi,if_pos rfl]
  ·rw [if_neg e,if_neg (Ne.symm e)]
 ·have h1: ∀ g,(larr g)[i]?=none:=fun g=>Array.getElem?_eq_none (by rw [hs];omega)
  rw [h1,h1,hs]
  by_cases e:k=i
  ·subst e;rw [if_pos rfl,if_neg hi]
  ·rw [if_neg e]
def LsI (M:List Kv) (f:Nat→Nat):Prop:=KM 64 M∧SmlM M∧(∀ k:Nat,f k≤60)∧ ∀ k:Nat,k<64→getK (keyB (k:Int)) M=if f k=0 then none else some [UInt8.ofNat (f k)]
theorem LsI.put {M:List Kv} {f:Nat→Nat} (h:LsI M f) (hs:M.Pairwise kLT) {k v:Nat} (hk:k<64) (hv:v≤60) (h0:v≠0) (hsm:SmlM (putM ⟨keyB (k:Int),[UInt8.ofNat v],false⟩ M)):LsI (putM ⟨keyB (k:Int),[UInt8.ofNat v],false⟩ M) (updL f k v):=by
 refine ⟨h.1.put hk rfl,hsm,fun j=>?_,fun j hj=>?_⟩
 ·unfold updL
  split
  ·exact hv
  ·exact h.2.2.1 j
 ·rw [putM_get _ hs]
  unfold updL
  by_cases e:j=k
  ·subst e
   rw [if_pos rfl,if_pos rfl,if_neg h0]
   rfl
  ·rw [if_neg fun q=>e (keyB_inj hk hj q).symm,if_neg e]
   exact h.2.2.2 j hj
theorem LsI.del {M:List Kv} {f:Nat→Nat} (h:LsI M f) (hs:M.Pairwise kLT) {k:Nat} (hk:k<64) (hsm:SmlM (putM ⟨keyB (k:Int),[],true⟩ M)):LsI (putM ⟨keyB (k:Int),[],true⟩ M) (updL f k 0):=by
 refine ⟨h.1.put hk rfl,hsm,fun j=>?_,fun j hj=>?_⟩
 ·unfold updL
  split
  ·omega
  ·exact h.2.2.1 j
 ·rw [putM_get _ hs]
  unfold updL
  by_cases e:j=k
  ·subst e
   rw [if_pos rfl,if_pos rfl,if_pos rfl]
   rfl
  ·rw [if_neg fun q=>e (keyB_inj hk hj q).symm,if_neg e]
   exact h.2.2.2 j hj
section
variable {w0 w w':World} {F F':SP} {b d n t k a nx:Nat} {M:List Kv} {olds:Int→Option (List Kv)}
theorem kdel (x:Int) (hk:k≤10000) (ht:t+1≤1024) (hM:SmlM M) (hl:M.length≤600) (h:Sto w0 F b d 1024 t k 0 nx M olds w):
  Calls Tryz.prog 20 #[.pointer (some ⟨b,0,none⟩), .slice (some ⟨w.heap.size+1,0,none⟩) 1 1] ((w.alloc (.cells ((keyB x).map bv).toArray 5)).alloc (.cells #[.slice (some ⟨w.heap.size,0,none⟩) 3 3, .slice none 0 0, .bool true] 43)) fun e w'=>e = .returned (.int .i64 0)∧SmlM (putM ⟨keyB x,[],true⟩ M)∧Sto w0 F b d 1024 (t+1) (k+1) 0 nx (putM ⟨keyB x,[],true⟩ M) olds w':=by
 have h8:=(h.al (.cells ((keyB x).map bv).toArray 5)).al (.cells #[.slice (some ⟨w.heap.size,0,none⟩) 3 3, .slice none 0 0, .bool true] 43)
 simp only [World.size_alloc] at h8
 generalize w.heap.size=g at*
 refine (swrite1 ⟨(some ⟨g,0,none⟩,3,keyB x),(none,0,[]),true⟩ (g+1) (by omega) (by omega) h8 (fun W hW=>⟨ow_rd (l:=keyB x) hW,Rd.nil _ _⟩) ⟨by show 1≤3∧3≤128;omega,by show 0≤_;omega,fun _=>rfl⟩ (sml_room hM (by show 3+0≤10;omega) hl)).mono ?_
 rintro e w' ⟨rfl,h6⟩
 exact ⟨rfl,sml_put hM (by show 3+0≤10;omega),h6.drop⟩
set_option maxHeartbeats 8000000 in
theorem storeLast_walk (A:Option Addr) (c:Nat) (l:List Int) (A2:Option Addr) (c2:Nat) (ts:List Int) (w:World)
  (hl:l.length≤c∧c≤maxLen∧RdV w A (l.map fun n=> .int .i64 n)∧l.length≤17592186043904∧ ∀ n ∈ l, -9223372036854775808≤n∧n≤9223372036854775807)
  (ht:ts.length≤c2∧c2≤maxLen∧RdV w A2 (ts.map fun n=> .int .i64 n)∧ts.length≤17592186043904∧ ∀ n ∈ ts, -9223372036854775808≤n∧n≤9223372036854775807):
  Calls Tryz.prog 9 #[.slice A l.length c, .slice A2 ts.length c2] w (Asked true w):=by
 have HB:Hid (Calls Tryz.prog 25 #[.int .i64 1024] w fun e w'=> ∃ d b,e = .returned (.tuple #[.pointer (some ⟨d,0,none⟩), .pointer (some ⟨b,0,none⟩)])∧Sto w Emp b d 1024 0 1 0 1 [] (fun _=>none) w'):=begin10_any (w0:=w) (w:=w) (F:=Emp) 1024 (by omega) (Sat.start w)
 have HWk:Hid (∀ w2 b d,Sto w Emp b d 1024 0 1 0 1 [] (fun _=>none) w2→Calls Tryz.prog 26 #[] w2 fun e w'=>e = .returned (.bool true)∧Sto w Emp b d 1024 0 1 0 1 [] (fun _=>none) w'):=fun w2 b d h=>by
  refine (wakes10_any (w0:=w2) (F:=Emp) (Sat.start w2)).mono ?_
  rintro e w' ⟨rfl,hs⟩
  exact ⟨rfl,h.new hs.chg⟩
 have a7:=and7
 have a63:=and63
 have HL:=Lib.hid hl
 have HT:=Lib.hid ht
 have hl1:l.length≤17592186043904:=hl.2.2.2.1
 have ht1:ts.length≤17592186043904:=ht.2.2.2.1
 clear hl ht
 go_enter Tryz.func9, Tryz.ntmps9
 go_upto_region 4 with (first
  | (go_at_call 25;(with_reducible refine HB.out.mono ?_);rintro e w2 ⟨d,b,rfl,hs⟩;have HS2:=Lib.hid hs;clear hs)
  | (go_at_call 26;(with_reducible refine (HWk.out _ _ _ HS2.out).mono ?_);rintro e w3 ⟨rfl,hs⟩;have HS3:=Lib.hid hs;clear hs))
 clear HB HWk HS2
 go_upto_region 5 with fail
 have hs8:Sto w (Pt w3.heap.size 68 (larr fun _=>0)*Emp) b d 1024 0 1 0 1 [] (fun _=>none) (w3.alloc (.cells (larr fun _=>0) 68)):=HS3.out.al (.cells (larr fun _=>0) 68)
 obtain ⟨gb,hgb⟩: ∃ gb,gb=w3.heap.size:=⟨_,rfl⟩
 obtain ⟨W8,hW8⟩: ∃ W8,W8=w3.alloc (.cells (larr fun _=>0) 68):=⟨_,rfl⟩
 rw [←hgb, ←hW8] at hs8
 rw [←hgb,z64, ←hW8]
 have HS8:=Lib.hid hs8
 clear hgb hW8 hs8 HS3
 go_wp2_with fail
 go_loopw [8,6] (fun iv db wr=> ∃ (i b:Nat),i≤l.length∧i≤60∧iv = .int .i64 (i:Int)∧db = .pointer (some ⟨b,0,none⟩)∧Hid (∃ M f,LsI M f∧Sto w (Pt gb 68 (larr f)*Emp) b d 1024 i (1+3*i) 0 1 M (fun _=>none) wr)) (fun iv _ _=>70 - (intOf iv).toNat)
 case atStart=>exact ⟨0,b,by omega,by omega,rfl,rfl,[],fun _=>0,⟨fun p hp=>(by cases hp),fun p hp=>(by cases hp),fun _=>Nat.zero_le _,fun k hk=>rfl⟩,HS8.out⟩
 case round=>
  obtain ⟨i,b,hi,hi6,rfl,rfl,HD⟩:=hrel
  by_cases hlt:i<l.length∧i<60
  ·obtain ⟨hlt,h60⟩:=hlt
   obtain ⟨M,f,hM,hS⟩:=HD.out
   obtain ⟨lb,lo,hA,hcell⟩:=(HL.out.2.2.1.new hS.sat.chg) (by intro h0;have:=congrArg List.length h0;rw [List.length_map,List.length_nil] at this;omega)
   subst hA
   have y0:=hcell i (by rw [List.length_map];exact hlt)
   rw [List.getElem_map] at y0
   have hxi:=HL.out.2.2.2.2 _ (List.getElem_mem hlt)
   generalize l[i]=x at*
   obtain ⟨s,hsx⟩: ∃ s:Nat,(s:Int)=x % 64:=⟨(x % 64).toNat,by omega⟩
   have hs64:s<64:=by omega
   have hs64c:(s:Int)<64:=by omega
   have hsr: -9223372036854775808≤(s:Int)∧(s:Int)≤9223372036854775807:=by omega
   have hii:(i:Int)<l.length:=by omega
   have h6:(i:Int)<60:=by omega
   have HM:=Lib.hid hM
   have HS:=Lib.hid hS
   have HPw:=Lib.hid (hS.pairs).1
   have f0:=hS.sat.frozen s
   have z0:wr.cell? ⟨gb,s,none⟩=some (.int .i64 (f s:Int)):=(hS.sat.cell s).trans (larr_get f hs64)
   have HF:=Lib.hid f0
   have HZ:=Lib.hid z0
   have HLn:=Lib.hid (hM.1.few (hS.pairs).1 (by omega))
   clear hcell hM hS hlt h60 f0 z0 HD
   go_upto_region 9 with fail
   rw [←hsx]
   clear hsx
   by_cases hd:x / 64 % 8=7
   case' pos=>
    have f0:=HF.out
    have z0:=HZ.out
    have HS2:Hid (Sto w (Pt gb 68 (larr (updL f s 0))*Emp) b d 1024 i (1+3*i) 0 1 M (fun _=>none) (wr.setCell ⟨gb,s,none⟩ (.int .i64 0))):=by
     have h9:=HS.out.set s (.int .i64 ((0:Nat):Int))
     rw [larr_set] at h9
     exact h9
    clear HS
    go_upto_region 11 with fail
    obtain ⟨w9,hw9⟩: ∃ w9,w9=wr.setCell ⟨gb,s,none⟩ (.int .i64 0):=⟨_,rfl⟩
    rw [←hw9] at HS2
    rw [←hw9]
    clear hw9 f0 z0 HF HZ y0
    have HW:=Lib.hid (kdel (s:Int) (by omega) (by omega) HM.out.2.1 HLn.out HS2.out)
    go_upto_region 16 with (first
     | (go_at_call 33;(with_reducible refine (key10_any (s:Int) hsr _).mono ?_);rintro e wk ⟨rfl,rfl⟩)
     | (go_at_call 20;(with_reducible refine HW.out.mono ?_);rintro e w4 ⟨rfl,hsm,hs⟩;have HS4:=Lib.hid hs;have HSm:=Lib.hid hsm;clear hs hsm)
     | (go_at_call 29;(with_reducible refine (num10_any _ _).mono ?_);rintro e wx ⟨rfl,rfl⟩))
    have HN:Hid (∃ M f,LsI M f∧Sto w (Pt gb 68 (larr f)*Emp) b d 1024 (i+1) (1+3*i+1) 0 1 M (fun _=>none) w4):=Lib.hid ⟨_,_,HM.out.del HPw.out hs64 HSm.out,HS4.out⟩
    clear HS2 HW HS4 HSm
   case' neg=>
    have f0:=HF.out
    have z0:=HZ.out
    have w1:IntKind.u8.wrap (1+(i:Int))=1+i:=by rw [IntKind.wrap_u8];omega
    have HS2:Hid (Sto w (Pt gb 68 (larr (updL f s (1+i)))*Emp) b d 1024 i (1+3*i) 0 1 M (fun _=>none) (wr.setCell ⟨gb,s,none⟩ (.int .i64 (1+(i:Int))))):=by
     have h9:=HS.out.set s (.int .i64 ((1+i:Nat):Int))
     rw [larr_set] at h9
     rw [show ((1+i:Nat):Int)=1+(i:Int) by omega] at h9
     exact h9
    clear HS
    go_upto_region 14 with fail
    obtain ⟨w9,hw9⟩: ∃ w9,w9=wr.setCell ⟨gb,s,none⟩ (.int .i64 (1+(i:Int))):=⟨_,rfl⟩
    rw [←hw9] at HS2
    rw [←hw9]
    clear hw9 f0 z0 HF HZ y0
    have HW:=Lib.hid (kwrite (s:Int) [UInt8.ofNat (1+i)] 1 rfl (by show 1≤4;omega) #[.int .u8 (1+(i:Int))] (by show #[bv _]=_;rw [bv_nat (by omega),show ((1+i:Nat):Int)=1+(i:Int) by omega]) (by omega) (by omega) HM.out.2.1 HLn.out HS2.out)
    go_upto_region 16 with (first
     | (go_at_call 33;(with_reducible refine (key10_any (s:Int) hsr _).mono ?_);rintro e wk ⟨rfl,rfl⟩)
     | (go_at_call 20;(with_reducible refine HW.out.mono ?_);rintro e w4 ⟨rfl,hsm,hs⟩;have HS4:=Lib.hid hs;have HSm:=Lib.hid hsm;clear hs hsm)
     | (go_at_call 29;(with_reducible refine (num10_any _ _).mono ?_);rintro e wx ⟨rfl,rfl⟩))
    have HN:Hid (∃ M f,LsI M f∧Sto w (Pt gb 68 (larr f)*Emp) b d 1024 (i+1) (1+3*i+1) 0 1 M (fun _=>none) w4):=Lib.hid ⟨_,_,HM.out.put HPw.out hs64 (by omega) (by omega) HSm.out,HS4.out⟩
    clear HS2 HW HS4 HSm w1
   all_goals
    clear HM HPw HLn hxi
    by_cases hlt2:i<ts.length
    ·obtain ⟨M,f,hM,hS⟩:=HN.out
     obtain ⟨lb2,lo2,hA2,hcell⟩:=(HT.out.2.2.1.new hS.sat.chg) (by intro h0;have:=congrArg List.length h0;rw [List.length_map,List.length_nil] at this;omega)
     subst hA2
     have y0:=hcell i (by rw [List.length_map];exact hlt2)
     rw [List.getElem_map] at y0
     have hxi:=HT.out.2.2.2.2 _ (List.getElem_mem hlt2)
     generalize ts[i]=y at*
     have hi2:(i:Int)<ts.length:=by omega
     have HM:=Lib.hid hM
     have HS:=Lib.hid hS
     clear hcell hM hS hlt2 HN
     rcases (by omega:y % 8=6∨y % 8=7∨(y % 8≠6∧y % 8≠7)) with hx | hx | ⟨hx,hx2⟩
     ·go_wp2_with (first
       | (go_at_call 35;(with_reducible refine (stidy (by omega) (by omega) HS.out).mono ?_);rintro e w6 ⟨rfl,hs⟩;have HS6:=Lib.hid hs;clear hs)
       | (go_at_call 29;(with_reducible refine (num10_any _ _).mono ?_);rintro e wx ⟨rfl,rfl⟩))
      go_roundw
      ·exact ⟨i+1,b,by omega,by omega,by push_cast;rfl,rfl,M,f,HM.out,HS6.out.mono (by omega) (by omega)⟩
      ·simp [intOf];omega
     ·go_wp2_with (first
       | (go_at_call 19;(with_reducible refine (sopen (by omega) (by omega) HS.out).mono ?_);rintro e w6 ⟨b2,rfl,hs⟩;have HS6:=Lib.hid hs;clear hs)
       | (go_at_call 29;(with_reducible refine (num10_any _ _).mono ?_);rintro e wx ⟨rfl,rfl⟩))
      go_roundw
      ·exact ⟨i+1,b2,by omega,by omega,by push_cast;rfl,rfl,M,f,HM.out,HS6.out.mono (by omega) (by omega)⟩
      ·simp [intOf];omega
     ·go_wp2_with fail
      go_roundw
      ·exact ⟨i+1,b,by omega,by omega,by push_cast;rfl,rfl,M,f,HM.out,HS.out.mono (by omega) (by omega)⟩
      ·simp [intOf];omega
    ·have hi2:¬ (i:Int)<ts.length:=by omega
     clear hlt2
     go_wp2_with fail
     go_roundw
     ·obtain ⟨M,f,hM,hS⟩:=HN.out
      exact ⟨i+1,b,by omega,by omega,by push_cast;rfl,rfl,M,f,hM,hS.mono (by omega) (by omega)⟩
     ·simp [intOf];omega
  ·have hex:¬ (i:Int)<l.length∨((i:Int)<l.length∧¬ (i:Int)<60):=by omega
   obtain ⟨M,f,hM,hS⟩:=HD.out
   have HM:=Lib.hid hM
   have HS:=Lib.hid hS
   clear hM hS hlt HD
   rcases hex with hex | ⟨hex,hex2⟩
   all_goals
    go_upto_region 27 with fail
    go_loopw [12] (fun kv wr=> ∃ (k:Nat),k≤64∧kv = .int .i64 (k:Int)∧Hid (Sto w (Pt gb 68 (larr f)*Emp) b d 1024 i (1+3*i) 0 1 M (fun _=>none) wr)) (fun kv _=>70 - (intOf kv).toNat)
    case atStart=>exact ⟨0,by omega,rfl,HS.out⟩
    case round=>
     obtain ⟨k,hk,rfl,HE⟩:=hrel
     by_cases hkp:k<64
     ·have hki:(k:Int)<64:=by omega
      have hkr: -9223372036854775808≤(k:Int)∧(k:Int)≤9223372036854775807:=by omega
      have hg:=HM.out.2.2.2 k hkp
      have hf60:=HM.out.2.2.1 k
      have HGet:=Lib.hid (larr_get f hkp)
      clear hkp
      by_cases hfk:f k=0
      ·rw [if_pos hfk] at hg
       have HK:=Lib.hid (kget (k:Int) none hg (by omega) HE.out)
       have HGet0:Hid ((larr f)[k]?=some (.int .i64 0)):=Lib.hid (by rw [HGet.out,hfk];rfl)
       clear hg hfk
       go_upto_region 30 with (first
        | (go_at_call 33;(with_reducible refine (key10_any (k:Int) hkr _).mono ?_);rintro e wk ⟨rfl,rfl⟩)
        | (go_at_call 32;(with_reducible refine HK.out.mono ?_);rintro e w7 ⟨A7,c7,rfl,hs⟩;have HS7:=Lib.hid hs;clear hs))
       have G0:Hid (w7.drew.cell? ⟨gb,k,none⟩=some (.int .i64 0)):=Lib.hid ((HS7.out.sat.drew.right.cell k).trans HGet0.out)
       refine wp_region_held_drew (S:=fun w'=>w'.cell? ⟨gb,k,none⟩=some (.int .i64 0)) (by kernel_rfl) G0.out ?_
       intro hS0
       refine rtk 0 ?_
       refine rtk 1 ?_
       refine rtk 2 ?_
       refine rtk 3 ?_
       refine rtk 4 ?_
       refine rtk 5 ?_
       refine rtk 6 ?_
       refine rtk 7 ?_
       refine rtk 8 ?_
       refine rsk 9 ?_
       refine rsk 10 ?_
       refine rsk 11 ?_
       refine rsk 12 ?_
       refine rsk 13 ?_
       refine rsk 14 ?_
       refine rsk 15 ?_
       refine rsk 16 ?_
       refine rsk 17 ?_
       refine rsk 18 ?_
       refine rsk 19 ?_
       refine rsk 20 ?_
       refine rsk 21 ?_
       refine rtk 22 ?_
       refine rtk 23 ?_
       refine wpAnyH_done (by kernel_rfl) ?_ _
       go_wp2_with fail
       go_roundw
       ·exact ⟨k+1,by omega,by push_cast;rfl,(HS7.out.map fun G hG=>hG.drew).drop⟩
       ·simp [intOf];omega
      ·rw [if_neg hfk] at hg
       have HK:=Lib.hid (kget (k:Int) (some [UInt8.ofNat (f k)]) hg (by omega) HE.out)
       have hfp:0<f k:=by omega
       have hfd:decide (0<f k)=true:=by simpa using hfp
       have hff:((f k:Int) !=f k)=false:=by simp
       have hwf:IntKind.i64.wrap (f k:Int)=f k:=by rw [IntKind.wrap_i64];omega
       clear hg hfk
       go_upto_region 30 with (first
        | (go_at_call 33;(with_reducible refine (key10_any (k:Int) hkr _).mono ?_);rintro e wk ⟨rfl,rfl⟩)
        | (go_at_call 32;(with_reducible refine HK.out.mono ?_);rintro e w7 ⟨A7,c7,rfl,hs⟩;have HS7:=Lib.hid hs;clear hs))
       obtain ⟨g9,rfl,y1⟩:=row_u8 (s:=f k) (by omega) HS7.out.sat.drew
       have G0:Hid (w7.drew.cell? ⟨gb,k,none⟩=some (.int .i64 (f k:Int))∧w7.drew.cell? ⟨g9,0,none⟩=some (.int .u8 (f k:Int))):=Lib.hid ⟨(HS7.out.sat.drew.right.cell k).trans HGet.out,y1⟩
       clear y1
       refine wp_region_held_drew (S:=fun w'=>w'.cell? ⟨gb,k,none⟩=some (.int .i64 (f k:Int))∧w'.cell? ⟨g9,0,none⟩=some (.int .u8 (f k:Int))) (by kernel_rfl) G0.out ?_
       intro hS0
       refine rtk 0 ?_
       refine rtk 1 ?_
       refine rtk 2 ?_
       refine rtk 3 ?_
       refine rtk 4 ?_
       refine rtk 5 ?_
       refine rtk 6 ?_
       refine rtk 7 ?_
       refine rtk 8 ?_
       refine rtk 9 ?_
       refine rtk 10 ?_
       refine rtk 11 ?_
       refine rtk 12 ?_
       refine rtk 13 ?_
       refine rtk 14 ?_
       refine rtk 15 ?_
       refine rtk 16 ?_
       refine rtk 17 ?_
       refine rtk 18 ?_
       refine rtk 19 ?_
       refine rtk 20 ?_
       refine rtk 21 ?_
       refine rtk 22 ?_
       refine rtk 23 ?_
       refine wpAnyH_done (by kernel_rfl) ?_ _
       go_wp2_with fail
       go_roundw
       ·exact ⟨k+1,by omega,by push_cast;rfl,(HS7.out.map fun G hG=>hG.drew).drop⟩
       ·simp [intOf];omega
     ·have hke:k=64:=by omega
      subst hke
      go_wp2_with fail
      go_ret
      exact ⟨rfl,HE.out.sat.chg⟩
end
end Go.Proofs.YtmbaiglpgaoogaaGreat
