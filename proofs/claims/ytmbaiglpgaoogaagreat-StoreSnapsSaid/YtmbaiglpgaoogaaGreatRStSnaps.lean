/- StoreSnaps: the walk. -/
import Derived.Test.YtmbaiglpgaoogaaGreatR02
import Derived.Test.YtmbaiglpgaoogaaGreatR36
namespace Go.Proofs.YtmbaiglpgaoogaaGreat
open Go.RowKit
set_option linter.unusedVariables false
set_option maxRecDepth 100000
def mapSn (i:Nat):List Kv:=if i=0 then [] else [([107],[UInt8.ofNat i])]
def oldSn (i:Nat) (g:Nat→Bool):Int→Option (List Kv):=fun j=>if 1≤j∧j≤(i:Int)∧g j.toNat=false then some (mapSn j.toNat) else none
theorem cmp_k:Lib.compareBytes [107] [107]=0:=by decide
theorem put_sn (i:Nat):putM ⟨[107],[UInt8.ofNat (i+1)],false⟩ (mapSn i)=mapSn (i+1):=by
 unfold mapSn putM
 rw [if_neg (show ¬ i+1=0 by omega)]
 by_cases h:i=0
 ·rw [if_pos h];rfl
 ·rw [if_neg h]
  simp [cmp_k]
theorem snap_sn (i:Nat):snapO (oldSn i fun _=>false) (i+1) (mapSn (i+1))=oldSn (i+1) fun _=>false:=by
 funext j
 unfold snapO oldSn
 by_cases h:j=((i+1:Nat):Int)
 ·rw [if_pos h,if_pos ⟨by omega,by omega,rfl⟩,h]
  rfl
 ·rw [if_neg h]
  by_cases h2:1≤j∧j≤(i:Int)
  ·rw [if_pos (by simpa using h2),if_pos (by simp;omega)]
  ·rw [if_neg (by simpa using h2),if_neg (by simp;omega)]
theorem sml_sn (i:Nat):SmlM (mapSn i):=fun p hp=>by
 unfold mapSn at hp
 split at hp
 ·cases hp
 ·rw [List.mem_singleton] at hp
  subst hp
  show 1+1≤10
  omega
theorem oldSn_none:oldSn 0 (fun _=>false)=fun _=>none:=by
 funext j
 unfold oldSn
 rw [if_neg (by omega)]
def garr (g:Nat→Bool):Array Value:= #[.bool (g 0), .bool (g 1), .bool (g 2), .bool (g 3), .bool (g 4), .bool (g 5), .bool (g 6), .bool (g 7), .bool (g 8)]
theorem garr_get (g:Nat→Bool) (i:Nat) (h:i≤8):(garr g)[i]?=some (.bool (g i)):=by
 match i,h with
 | 0,_=>rfl
 | 1,_=>rfl
 | 2,_=>rfl
 | 3,_=>rfl
 | 4,_=>rfl
 | 5,_=>rfl
 | 6,_=>rfl
 | 7,_=>rfl
 | 8,_=>rfl
def setG (g:Nat→Bool) (s:Nat):Nat→Bool:=fun i=>if i=s then true else g i
theorem garr_set (g:Nat→Bool) (s:Nat) (h:s≤8):(garr g).setIfInBounds s (.bool true)=garr (setG g s):=by
 match s,h with
 | 0,_=>rfl
 | 1,_=>rfl
 | 2,_=>rfl
 | 3,_=>rfl
 | 4,_=>rfl
 | 5,_=>rfl
 | 6,_=>rfl
 | 7,_=>rfl
 | 8,_=>rfl
theorem drop_sn (p:Nat) (g:Nat→Bool) (s:Nat):dropO (oldSn p g) (s:Int)=oldSn p (setG g s):=by
 funext j
 unfold dropO oldSn setG
 by_cases h:j=(s:Int)
 ·rw [if_pos h,if_neg]
  rintro ⟨_,_,h3⟩
  rw [if_pos (by omega)] at h3
  cases h3
 ·rw [if_neg h]
  by_cases h1:1≤j
  ·have h2:¬ j.toNat=s:=by omega
   rw [if_neg h2]
  ·rw [if_neg (fun h3=>h1 h3.1),if_neg (fun h3=>h1 h3.1)]
theorem oldSn_no {p:Nat} {g:Nat→Bool} {s:Nat} (h:g s=true):oldSn p g (s:Int)=none:=by
 unfold oldSn
 rw [if_neg]
 rintro ⟨_,_,h3⟩
 rw [Int.toNat_natCast,h] at h3
 cases h3
theorem oldSn_yes {p:Nat} {g:Nat→Bool} {s:Nat} (h:g s=false) (h1:1≤s) (h2:s≤p):oldSn p g (s:Int)=some (mapSn s):=by
 unfold oldSn
 rw [if_pos ⟨by omega,by omega,by rw [Int.toNat_natCast];exact h⟩,Int.toNat_natCast]
theorem get_sn {s:Nat} (h1:1≤s):getK [107] (mapSn s)=some [UInt8.ofNat s]:=by
 unfold mapSn
 rw [if_neg (by omega)]
 rfl
section
variable {w0 w w':World} {F F':SP} {b d n t k a nx:Nat} {M:List Kv} {olds:Int→Option (List Kv)}
theorem lit_at_no {x:UInt8} (i:Int) (hi: -9223372036854775808≤i∧i≤9223372036854775807) (ho:olds i=none) (ht:t≤1024) (h:Sto w0 F b d n t k a nx M olds w) (g:Int) (hg:g=x.toNat):
  Calls Tryz.prog 42 #[.pointer (some ⟨b,0,none⟩), .int .i64 i, .slice (some ⟨w.heap.size,0,none⟩) 1 1] (w.alloc (by1 g)) fun e w'=> ∃ A c,e = .returned (.tuple #[.slice A 0 c, .bool false, .int .i64 104])∧Sto w0 F b d n t k a nx M olds w':=by
 subst hg
 have h5:=h.al (by1 x.toNat)
 refine (sgetAt i (some ⟨w.heap.size,0,none⟩,1,[x]) hi (ow_rd (l:=[x]) h5.sat) ht h5 none 104 (.inl ⟨ho,rfl,rfl⟩)).mono ?_
 rintro e w' ⟨A,c,rfl,h6⟩
 exact ⟨A,c,rfl,h6.drop.drop⟩
theorem sn_write (i:Nat) (hi:i≤100) (x:Int) (hx:x=((i+1:Nat):Int)) (h:Sto w0 F b d 1024 i (1+2*i) 0 (i+1) (mapSn i) olds w):
  Calls Tryz.prog 20 #[.pointer (some ⟨b,0,none⟩), .slice (some ⟨w.heap.size+1+1,0,none⟩) 1 1] (((w.alloc (by1 107)).alloc (.cells #[.int .u8 x] 5)).alloc (.cells #[.slice (some ⟨w.heap.size,0,none⟩) 1 1, .slice (some ⟨w.heap.size+1,0,none⟩) 1 1, .bool false] 43)) fun e w'=>e = .returned (.int .i64 0)∧Sto w0 F b d 1024 (i+1) (1+2*i+1) 0 (i+1) (mapSn (i+1)) olds w':=by
 subst hx
 have hbi:([UInt8.ofNat (i+1)].map bv).toArray = #[.int .u8 ((i+1:Nat):Int)]:=by
  show #[bv _]=_
  unfold bv
  rw [UInt8.toNat_ofNat',Nat.mod_eq_of_lt (by omega)]
 have h8:=((h.al (by1 107)).al (.cells #[.int .u8 ((i+1:Nat):Int)] 5)).al (.cells #[.slice (some ⟨w.heap.size,0,none⟩) 1 1, .slice (some ⟨w.heap.size+1,0,none⟩) 1 1, .bool false] 43)
 simp only [World.size_alloc] at h8
 generalize w.heap.size=g at*
 refine (swrite1 ⟨(some ⟨g,0,none⟩,1,[107]),(some ⟨g+1,0,none⟩,1,[UInt8.ofNat (i+1)]),false⟩ (g+1+1) (by omega) (by omega) h8 (fun W hW=>⟨ow_rd (l:=[107]) hW.up2,ow_rd (l:=[UInt8.ofNat (i+1)]) (by rw [hbi];exact hW)⟩) ⟨by show 1≤1∧1≤128;omega,by show 1≤_;omega,fun h=>by cases h⟩ (sml_room (sml_sn i) (by show 1+1≤10;omega) (by have:=(h.pairs).2.1;omega))).mono ?_
 rintro e w' ⟨rfl,h6⟩
 refine ⟨rfl,?_⟩
 rw [←put_sn]
 exact h6.drop.drop
set_option maxHeartbeats 8000000 in
theorem storeSnaps_walk (n0:Int) (A:Option Addr) (c:Nat) (ds:List Int) (tidy:Bool) (w:World) (hn: -9223372036854775808≤n0∧n0≤9223372036854775807)
  (hp:ds.length≤c∧c≤maxLen∧RdV w A (ds.map fun n=> .int .i64 n)∧ds.length≤17592186043904∧ ∀ n ∈ ds, -9223372036854775808≤n∧n≤9223372036854775807):
  Calls Tryz.prog 12 #[.int .i64 n0, .slice A ds.length c, .bool tidy] w (Asked true w):=by
 have HB:Hid (Calls Tryz.prog 25 #[.int .i64 1024] w fun e w'=> ∃ d b,e = .returned (.tuple #[.pointer (some ⟨d,0,none⟩), .pointer (some ⟨b,0,none⟩)])∧Sto w Emp b d 1024 0 1 0 1 [] (fun _=>none) w'):=begin10_any (w0:=w) (w:=w) (F:=Emp) 1024 (by omega) (Sat.start w)
 have HWk:Hid (∀ w2 b d,Sto w Emp b d 1024 0 1 0 1 [] (fun _=>none) w2→Calls Tryz.prog 26 #[] w2 fun e w'=>e = .returned (.bool true)∧Sto w Emp b d 1024 0 1 0 1 [] (fun _=>none) w'):=fun w2 b d h=>by
  refine (wakes10_any (w0:=w2) (F:=Emp) (Sat.start w2)).mono ?_
  rintro e w' ⟨rfl,hs⟩
  exact ⟨rfl,h.new hs.chg⟩
 have a7:=and7
 have hcv:=conv_const
 obtain ⟨p,hpn⟩: ∃ p:Nat,(p:Int)=1+n0 % 8:=⟨(1+n0 % 8).toNat,by omega⟩
 have hp8:1≤p∧p≤8:=by omega
 have HPn:=Lib.hid hpn
 have HP:=Lib.hid hp
 obtain ⟨hp1,hp2⟩:=hp8
 clear hp
 go_enter Tryz.func12, Tryz.ntmps12
 go_upto_region 5 with (first
  | (go_at_call 25;(with_reducible refine HB.out.mono ?_);rintro e w2 ⟨d,b,rfl,hs⟩;have HS2:=Lib.hid hs;clear hs)
  | (go_at_call 26;(with_reducible refine (HWk.out _ _ _ HS2.out).mono ?_);rintro e w3 ⟨rfl,hs⟩;have HS3:=Lib.hid hs;clear hs))
 rw [←hpn]
 clear hpn HB HWk HS2
 have HS4:Hid (Sto w Emp b d 1024 0 (1+2*0) 0 (0+1) (mapSn 0) (oldSn 0 fun _=>false) w3):=by rw [oldSn_none];exact HS3.out
 clear HS3
 go_wp2_with fail
 go_loopw [9] (fun iv wr=> ∃ (i:Nat),i≤p∧iv = .int .i64 ((i:Int)+1)∧Hid (Sto w Emp b d 1024 i (1+2*i) 0 (i+1) (mapSn i) (oldSn i fun _=>false) wr)) (fun iv _=>10 - (intOf iv).toNat)
 case atStart=>exact ⟨0,by omega,rfl,HS4.out⟩
 case round=>
  obtain ⟨i,hi,rfl,HD⟩:=hrel
  by_cases hlt:i<p
  ·have hle:(i:Int)+1≤p:=by omega
   have hi9:i≤7:=by omega
   have hw:IntKind.u8.wrap ((i:Int)+1)=(i:Int)+1:=by rw [IntKind.wrap_u8];omega
   have HW:=Lib.hid (sn_write i (by omega) ((i:Int)+1) (by omega) HD.out)
   have hb:(((i+1:Nat):Int) !=(i:Int)+1)=false:=by rw [bne_eq_false_iff_eq];omega
   clear hlt
   go_upto_region 7 with (first
    | (go_at_call 20;(with_reducible refine HW.out.mono ?_);rintro e w4 ⟨rfl,hs⟩;have HS5:=Lib.hid hs;clear hs)
    | (go_at_call 29;(with_reducible refine (num10_any _ _).mono ?_);rintro e wx ⟨rfl,rfl⟩)
    | (go_at_call 41;(with_reducible refine (ssnap (by omega) HS5.out).mono ?_);rintro e w5 ⟨rfl,hs⟩;rw [snap_sn] at hs;have HS6:=Lib.hid hs;clear hs))
   go_wp2_with fail
   go_roundw
   ·exact ⟨i+1,by omega,by push_cast;rfl,by have h9:=HS6.out;rw [show 1+2*i+1+1=1+2*(i+1) by omega] at h9;exact h9⟩
   ·simp [intOf];omega
  ·have hie:i=p:=by omega
   subst hie
   have hle:¬ (i:Int)+1≤i:=by omega
   have HD5:=Lib.hid HD.out
   clear HD hlt
   cases tidy
   case' false=>
    go_upto_region 12 with fail
    have HS7:Hid (Sto w Emp b d 1024 i 40 0 (i+1) (mapSn i) (oldSn i fun _=>false) wr):=HD5.out.mono (Nat.le_refl _) (by omega)
    obtain ⟨w6,hw6⟩: ∃ w6,w6=wr:=⟨_,rfl⟩
    rw [←hw6] at HS7
    rw [←hw6]
    clear hw6
   case' true=>
    go_upto_region 12 with (first
     | (go_at_call 35;(with_reducible refine (stidy (by omega) (by omega) HD5.out).mono ?_);rintro e w6 ⟨rfl,hs⟩;have HS6:=Lib.hid hs;clear hs)
     | (go_at_call 29;(with_reducible refine (num10_any _ _).mono ?_);rintro e wx ⟨rfl,rfl⟩))
    have HS7:Hid (Sto w Emp b d 1024 i 40 0 (i+1) (mapSn i) (oldSn i fun _=>false) w6):=HS6.out.mono (Nat.le_refl _) (by omega)
    clear HS6
   ·
    clear HD5 hle
    go_upto_region 13 with fail
    have hs8:Sto w (Pt w6.heap.size 74 (garr fun _=>false)*Emp) b d 1024 i 40 0 (i+1) (mapSn i) (oldSn i fun _=>false) (w6.alloc (.cells #[.bool false, .bool false, .bool false, .bool false, .bool false, .bool false, .bool false, .bool false, .bool false] 74)):=HS7.out.al (.cells #[.bool false, .bool false, .bool false, .bool false, .bool false, .bool false, .bool false, .bool false, .bool false] 74)
    obtain ⟨gb,hgb⟩: ∃ gb,gb=w6.heap.size:=⟨_,rfl⟩
    obtain ⟨W8,hW8⟩: ∃ W8,W8=w6.alloc (.cells #[.bool false, .bool false, .bool false, .bool false, .bool false, .bool false, .bool false, .bool false, .bool false] 74):=⟨_,rfl⟩
    rw [←hgb, ←hW8] at hs8
    rw [←hgb, ←hW8]
    have HS8:=Lib.hid hs8
    clear hgb hW8 hs8 HS7
    go_wp2_with fail
    go_loopw [11] (fun iv wr=> ∃ (j:Nat),j≤ds.length+1∧j≤12∧iv = .int .i64 (j:Int)∧Hid (∃ g,Sto w (Pt gb 74 (garr g)*Emp) b d 1024 i 40 0 (i+1) (mapSn i) (oldSn i g) wr)) (fun iv _=>14 - (intOf iv).toNat)
    case atStart=>exact ⟨0,by omega,by omega,rfl,_,HS8.out⟩
    case round=>
     obtain ⟨j,hj,hj12,rfl,HD⟩:=hrel
     by_cases h12:j<12∧j≤ds.length
     ·obtain ⟨g,hg⟩:=HD.out
      have HG:=Lib.hid hg
      obtain ⟨h12a,h12b⟩:=h12
      have hjl:(j:Int)≤ds.length:=by omega
      have hj12c:(j:Int)<12:=by omega
      clear hg
      go_upto_region 17 with fail
      go_loopw [12] (fun sv wr=> ∃ (s:Nat),1≤s∧s≤i+1∧sv = .int .i64 (s:Int)∧Hid (Sto w (Pt gb 74 (garr g)*Emp) b d 1024 i 40 0 (i+1) (mapSn i) (oldSn i g) wr)) (fun sv _=>14 - (intOf sv).toNat)
      case atStart=>exact ⟨1,by omega,by omega,rfl,HG.out⟩
      case round=>
       obtain ⟨s,hs1,hs2,rfl,HI⟩:=hrel
       by_cases hsi:s≤i
       ·have hle:(s:Int)≤i:=by omega
        cases hgs:g s with
        | true=>
         have HGs:=Lib.hid hgs
         have HNo:=Lib.hid (oldSn_no (p:=i) hgs)
         clear hgs
         go_upto_region 20 with (go_at_call 42;(with_reducible refine (lit_at_no (x:=107) (s:Int) (by omega) HNo.out (by omega) HI.out 107 (by decide)).mono ?_);rintro e w9 ⟨A9,c9,rfl,hs⟩;have HS9:=Lib.hid hs;clear hs)
         have y0:w9.cell? ⟨gb,s,none⟩=some (.bool true):=(HS9.out.sat.cell s).trans (by rw [garr_get g s (by omega),HGs.out])
         go_wp2_with (go_at_call 29;(with_reducible refine (num10_any _ _).mono ?_);rintro e wx ⟨rfl,rfl⟩)
         go_roundw
         ·exact ⟨s+1,by omega,by omega,by push_cast;rfl,HS9.out⟩
         ·simp [intOf];omega
        | false=>
         have HGs:=Lib.hid hgs
         have HYes:=Lib.hid (oldSn_yes (p:=i) hgs hs1 hsi)
         have HGet:=Lib.hid (get_sn hs1)
         clear hgs
         go_upto_region 20 with (go_at_call 42;(with_reducible refine (lit_at_yes (x:=107) (v:=[UInt8.ofNat s]) (Mo:=mapSn s) (s:Int) (by omega) HYes.out HGet.out (by omega) HI.out 107 (by decide) 1 rfl).mono ?_);rintro e w9 ⟨A9,c9,rfl,hs⟩;have HS9:=Lib.hid hs;clear hs)
         have y0:w9.cell? ⟨gb,s,none⟩=some (.bool false):=(HS9.out.sat.right.cell s).trans (by rw [garr_get g s (by omega),HGs.out])
         obtain ⟨g9,rfl,y1⟩:=row_u8 (s:=s) (by omega) HS9.out.sat
         have hss:((s:Int) !=s)=false:=by simp
         go_wp2_with (go_at_call 29;(with_reducible refine (num10_any _ _).mono ?_);rintro e wx ⟨rfl,rfl⟩)
         go_roundw
         ·exact ⟨s+1,by omega,by omega,by push_cast;rfl,HS9.out.drop⟩
         ·simp [intOf];omega
       ·have hse:s=i+1:=by omega
        subst hse
        have hle:¬ ((i+1:Nat):Int)≤i:=by omega
        have hle2:¬ (i:Int)+1≤i:=by omega
        by_cases hjd:j<ds.length
        ·obtain ⟨lb,lo,hA,hcell⟩:=(HP.out.2.2.1.new HI.out.sat.chg) (by intro h0;have:=congrArg List.length h0;rw [List.length_map,List.length_nil] at this;omega)
         subst hA
         have y0:=hcell j (by rw [List.length_map];exact hjd)
         rw [List.getElem_map] at y0
         generalize ds[j]=x at*
         have hjd2:(j:Int)<ds.length:=by omega
         obtain ⟨m,hm⟩: ∃ m:Nat,(m:Int)=0+x % ((i:Int) - 1 - 0+1):=⟨(x % (i:Int)).toNat,by
          have h1:=Int.emod_nonneg x (show (i:Int)≠0 by omega)
          rw [show (i:Int) - 1 - 0+1=i by omega]
          omega⟩
         have hm8:m+1≤i:=by
          have h1:=Int.emod_lt_of_pos x (show 0<(i:Int) by omega)
          rw [show (i:Int) - 1 - 0+1=i by omega] at hm
          omega
         have HWi:Hid (∀ W,Calls Tryz.prog 27 #[.int .i64 x, .int .i64 0, .int .i64 ((i:Int) - 1)] W fun e w'=>e = .returned (.int .i64 (m:Int))∧W=w'):=fun W=>by
          have h9:=kwithin_any x 0 ((i:Int) - 1) W (by omega) (by omega) (by omega)
          rw [←hm] at h9
          exact h9
         clear hm hcell
         go_upto_region 27 with (go_at_call 27;(with_reducible refine (HWi.out _).mono ?_);rintro e wx ⟨rfl,rfl⟩)
         obtain ⟨s,hs⟩: ∃ s:Nat,(s:Int)=1+(m:Int):=⟨m+1,by omega⟩
         rw [←hs]
         have hs1:1≤s∧s≤i:=by omega
         have hs9:(s:Int)<9:=by omega
         clear hs y0
         cases hgs:g s with
         | true=>
          have HGs:=Lib.hid hgs
          have HDr:Hid (∀ W,Chg No wr W→Calls Tryz.prog 43 #[.pointer (some ⟨b,0,none⟩), .int .i64 (s:Int)] W fun e w'=>e = .returned (.int .i64 104)∧Sto w (Pt gb 74 (garr g)*Emp) b d 1024 i 40 0 (i+1) (mapSn i) (oldSn i (setG g s)) w'):=fun W hk=>by
           have h9:=sdrop (s:Int) (by omega) (HI.out.new hk)
           rw [oldSn_no hgs,drop_sn] at h9
           exact h9
          have g0:wr.cell? ⟨gb,s,none⟩=some (.bool true):=(HI.out.sat.cell s).trans (by rw [garr_get g s (by omega),hgs])
          have G0:=Lib.hid g0
          clear hgs g0
          refine wp_region_held_drew (S:=fun w'=>w'.cell? ⟨gb,s,none⟩=some (.bool true)) (by kernel_rfl) (by exact G0.out) ?_
          intro hS0
          refine rtk 0 ?_
          refine rtk 1 ?_
          refine rtk 5 ?_
          refine rtk 6 ?_
          refine rtk 7 ?_
          refine rck 2 fun K hK=>?_
          go_simp
          go_at_call 43;(with_reducible refine (HDr.out _ (Chg.refl No _).drew).mono ?_);rintro e w9 ⟨rfl,hs⟩;have HS13:=Lib.hid hs;clear hs
          refine hK.out _ _ (by exact (HS13.out.sat.cell s).trans (by rw [garr_get g s (by omega),HGs.out])) (fun hS0=>?_)
          clear hK K
          refine rck 3 fun K hK=>?_
          go_simp
          go_at_call 29;(with_reducible refine (num10_any _ _).mono ?_);rintro e wx ⟨rfl,rfl⟩
          refine hK.out _ _ (by exact (HS13.out.sat.cell s).trans (by rw [garr_get g s (by omega),HGs.out])) (fun hS0=>?_)
          clear hK K
          refine rtk 4 ?_
          refine rtk 8 ?_
          refine wpAnyH_done (by kernel_rfl) ?_ _
          have x0:w9.cell? ⟨gb,s,none⟩=some (.bool true):=(HS13.out.sat.cell s).trans (by rw [garr_get g s (by omega),HGs.out])
          have f0:=HS13.out.sat.frozen s
          have HS14:=Lib.hid (HS13.out.set s (.bool true))
          go_wp2_with fail
          go_roundw
          ·exact ⟨j+1,by omega,by omega,by push_cast;rfl,setG g s,by have h9:=HS14.out;rw [garr_set g s (by omega)] at h9;exact h9⟩
          ·simp [intOf];omega
         | false=>
          have HGs:=Lib.hid hgs
          have HDr:Hid (∀ W,Chg No wr W→Calls Tryz.prog 43 #[.pointer (some ⟨b,0,none⟩), .int .i64 (s:Int)] W fun e w'=>e = .returned (.int .i64 0)∧Sto w (Pt gb 74 (garr g)*Emp) b d 1024 i 40 0 (i+1) (mapSn i) (oldSn i (setG g s)) w'):=fun W hk=>by
           have h9:=sdrop (s:Int) (by omega) (HI.out.new hk)
           rw [oldSn_yes hgs (by omega) (by omega),drop_sn] at h9
           exact h9
          have g0:wr.cell? ⟨gb,s,none⟩=some (.bool false):=(HI.out.sat.cell s).trans (by rw [garr_get g s (by omega),hgs])
          have G0:=Lib.hid g0
          clear hgs g0
          refine wp_region_held_drew (S:=fun w'=>w'.cell? ⟨gb,s,none⟩=some (.bool false)) (by kernel_rfl) (by exact G0.out) ?_
          intro hS0
          refine rtk 0 ?_
          refine rtk 1 ?_
          refine rtk 5 ?_
          refine rtk 6 ?_
          refine rtk 7 ?_
          refine rck 2 fun K hK=>?_
          go_simp
          go_at_call 43;(with_reducible refine (HDr.out _ (Chg.refl No _).drew).mono ?_);rintro e w9 ⟨rfl,hs⟩;have HS13:=Lib.hid hs;clear hs
          refine hK.out _ _ (by exact (HS13.out.sat.cell s).trans (by rw [garr_get g s (by omega),HGs.out])) (fun hS0=>?_)
          clear hK K
          refine rck 3 fun K hK=>?_
          go_simp
          go_at_call 29;(with_reducible refine (num10_any _ _).mono ?_);rintro e wx ⟨rfl,rfl⟩
          refine hK.out _ _ (by exact (HS13.out.sat.cell s).trans (by rw [garr_get g s (by omega),HGs.out])) (fun hS0=>?_)
          clear hK K
          refine rtk 4 ?_
          refine rtk 8 ?_
          refine wpAnyH_done (by kernel_rfl) ?_ _
          have x0:w9.cell? ⟨gb,s,none⟩=some (.bool false):=(HS13.out.sat.cell s).trans (by rw [garr_get g s (by omega),HGs.out])
          have f0:=HS13.out.sat.frozen s
          have HS14:=Lib.hid (HS13.out.set s (.bool true))
          go_wp2_with fail
          go_roundw
          ·exact ⟨j+1,by omega,by omega,by push_cast;rfl,setG g s,by have h9:=HS14.out;rw [garr_set g s (by omega)] at h9;exact h9⟩
          ·simp [intOf];omega
        ·have hjd2:¬ (j:Int)<ds.length:=by omega
         go_wp2_with fail
         go_roundw
         ·exact ⟨j+1,by omega,by omega,by push_cast;rfl,g,HI.out⟩
         ·simp [intOf];omega
     ·obtain ⟨g,hg⟩:=HD.out
      have HG:=Lib.hid hg
      have HGet:=Lib.hid (get_sn (s:=i) (by omega))
      clear hg
      have hcs:(¬ (j:Int)≤ds.length)∨((j:Int)≤ds.length∧j=12):=by omega
      clear h12
      rcases hcs with hcs | ⟨hcs,rfl⟩
      all_goals
       go_upto_region 31 with (go_at_call 32;(with_reducible refine (lit_get_yes (x:=107) (v:=[UInt8.ofNat i]) HGet.out (by omega) HG.out 107 (by decide) 1 rfl).mono ?_);rintro e w9 ⟨A9,c9,rfl,hs⟩;have HS9:=Lib.hid hs;clear hs)
       obtain ⟨g9,rfl,y1⟩:=row_u8 (s:=i) (by omega) HS9.out.sat
       have hss:((i:Int)==i)=true:=by simp
       go_wp2_with fail
       go_ret
       exact ⟨rfl,HS9.out.sat.chg⟩
   ·
    clear HD5 hle
    go_upto_region 13 with fail
    have hs8:Sto w (Pt w6.heap.size 74 (garr fun _=>false)*Emp) b d 1024 i 40 0 (i+1) (mapSn i) (oldSn i fun _=>false) (w6.alloc (.cells #[.bool false, .bool false, .bool false, .bool false, .bool false, .bool false, .bool false, .bool false, .bool false] 74)):=HS7.out.al (.cells #[.bool false, .bool false, .bool false, .bool false, .bool false, .bool false, .bool false, .bool false, .bool false] 74)
    obtain ⟨gb,hgb⟩: ∃ gb,gb=w6.heap.size:=⟨_,rfl⟩
    obtain ⟨W8,hW8⟩: ∃ W8,W8=w6.alloc (.cells #[.bool false, .bool false, .bool false, .bool false, .bool false, .bool false, .bool false, .bool false, .bool false] 74):=⟨_,rfl⟩
    rw [←hgb, ←hW8] at hs8
    rw [←hgb, ←hW8]
    have HS8:=Lib.hid hs8
    clear hgb hW8 hs8 HS7
    go_wp2_with fail
    go_loopw [11] (fun iv wr=> ∃ (j:Nat),j≤ds.length+1∧j≤12∧iv = .int .i64 (j:Int)∧Hid (∃ g,Sto w (Pt gb 74 (garr g)*Emp) b d 1024 i 40 0 (i+1) (mapSn i) (oldSn i g) wr)) (fun iv _=>14 - (intOf iv).toNat)
    case atStart=>exact ⟨0,by omega,by omega,rfl,_,HS8.out⟩
    case round=>
     obtain ⟨j,hj,hj12,rfl,HD⟩:=hrel
     by_cases h12:j<12∧j≤ds.length
     ·obtain ⟨g,hg⟩:=HD.out
      have HG:=Lib.hid hg
      obtain ⟨h12a,h12b⟩:=h12
      have hjl:(j:Int)≤ds.length:=by omega
      have hj12c:(j:Int)<12:=by omega
      clear hg
      go_upto_region 17 with fail
      go_loopw [12] (fun sv wr=> ∃ (s:Nat),1≤s∧s≤i+1∧sv = .int .i64 (s:Int)∧Hid (Sto w (Pt gb 74 (garr g)*Emp) b d 1024 i 40 0 (i+1) (mapSn i) (oldSn i g) wr)) (fun sv _=>14 - (intOf sv).toNat)
      case atStart=>exact ⟨1,by omega,by omega,rfl,HG.out⟩
      case round=>
       obtain ⟨s,hs1,hs2,rfl,HI⟩:=hrel
       by_cases hsi:s≤i
       ·have hle:(s:Int)≤i:=by omega
        cases hgs:g s with
        | true=>
         have HGs:=Lib.hid hgs
         have HNo:=Lib.hid (oldSn_no (p:=i) hgs)
         clear hgs
         go_upto_region 20 with (go_at_call 42;(with_reducible refine (lit_at_no (x:=107) (s:Int) (by omega) HNo.out (by omega) HI.out 107 (by decide)).mono ?_);rintro e w9 ⟨A9,c9,rfl,hs⟩;have HS9:=Lib.hid hs;clear hs)
         have y0:w9.cell? ⟨gb,s,none⟩=some (.bool true):=(HS9.out.sat.cell s).trans (by rw [garr_get g s (by omega),HGs.out])
         go_wp2_with (go_at_call 29;(with_reducible refine (num10_any _ _).mono ?_);rintro e wx ⟨rfl,rfl⟩)
         go_roundw
         ·exact ⟨s+1,by omega,by omega,by push_cast;rfl,HS9.out⟩
         ·simp [intOf];omega
        | false=>
         have HGs:=Lib.hid hgs
         have HYes:=Lib.hid (oldSn_yes (p:=i) hgs hs1 hsi)
         have HGet:=Lib.hid (get_sn hs1)
         clear hgs
         go_upto_region 20 with (go_at_call 42;(with_reducible refine (lit_at_yes (x:=107) (v:=[UInt8.ofNat s]) (Mo:=mapSn s) (s:Int) (by omega) HYes.out HGet.out (by omega) HI.out 107 (by decide) 1 rfl).mono ?_);rintro e w9 ⟨A9,c9,rfl,hs⟩;have HS9:=Lib.hid hs;clear hs)
         have y0:w9.cell? ⟨gb,s,none⟩=some (.bool false):=(HS9.out.sat.right.cell s).trans (by rw [garr_get g s (by omega),HGs.out])
         obtain ⟨g9,rfl,y1⟩:=row_u8 (s:=s) (by omega) HS9.out.sat
         have hss:((s:Int) !=s)=false:=by simp
         go_wp2_with (go_at_call 29;(with_reducible refine (num10_any _ _).mono ?_);rintro e wx ⟨rfl,rfl⟩)
         go_roundw
         ·exact ⟨s+1,by omega,by omega,by push_cast;rfl,HS9.out.drop⟩
         ·simp [intOf];omega
       ·have hse:s=i+1:=by omega
        subst hse
        have hle:¬ ((i+1:Nat):Int)≤i:=by omega
        have hle2:¬ (i:Int)+1≤i:=by omega
        by_cases hjd:j<ds.length
        ·obtain ⟨lb,lo,hA,hcell⟩:=(HP.out.2.2.1.new HI.out.sat.chg) (by intro h0;have:=congrArg List.length h0;rw [List.length_map,List.length_nil] at this;omega)
         subst hA
         have y0:=hcell j (by rw [List.length_map];exact hjd)
         rw [List.getElem_map] at y0
         generalize ds[j]=x at*
         have hjd2:(j:Int)<ds.length:=by omega
         obtain ⟨m,hm⟩: ∃ m:Nat,(m:Int)=0+x % ((i:Int) - 1 - 0+1):=⟨(x % (i:Int)).toNat,by
          have h1:=Int.emod_nonneg x (show (i:Int)≠0 by omega)
          rw [show (i:Int) - 1 - 0+1=i by omega]
          omega⟩
         have hm8:m+1≤i:=by
          have h1:=Int.emod_lt_of_pos x (show 0<(i:Int) by omega)
          rw [show (i:Int) - 1 - 0+1=i by omega] at hm
          omega
         have HWi:Hid (∀ W,Calls Tryz.prog 27 #[.int .i64 x, .int .i64 0, .int .i64 ((i:Int) - 1)] W fun e w'=>e = .returned (.int .i64 (m:Int))∧W=w'):=fun W=>by
          have h9:=kwithin_any x 0 ((i:Int) - 1) W (by omega) (by omega) (by omega)
          rw [←hm] at h9
          exact h9
         clear hm hcell
         go_upto_region 27 with (go_at_call 27;(with_reducible refine (HWi.out _).mono ?_);rintro e wx ⟨rfl,rfl⟩)
         obtain ⟨s,hs⟩: ∃ s:Nat,(s:Int)=1+(m:Int):=⟨m+1,by omega⟩
         rw [←hs]
         have hs1:1≤s∧s≤i:=by omega
         have hs9:(s:Int)<9:=by omega
         clear hs y0
         cases hgs:g s with
         | true=>
          have HGs:=Lib.hid hgs
          have HDr:Hid (∀ W,Chg No wr W→Calls Tryz.prog 43 #[.pointer (some ⟨b,0,none⟩), .int .i64 (s:Int)] W fun e w'=>e = .returned (.int .i64 104)∧Sto w (Pt gb 74 (garr g)*Emp) b d 1024 i 40 0 (i+1) (mapSn i) (oldSn i (setG g s)) w'):=fun W hk=>by
           have h9:=sdrop (s:Int) (by omega) (HI.out.new hk)
           rw [oldSn_no hgs,drop_sn] at h9
           exact h9
          have g0:wr.cell? ⟨gb,s,none⟩=some (.bool true):=(HI.out.sat.cell s).trans (by rw [garr_get g s (by omega),hgs])
          have G0:=Lib.hid g0
          clear hgs g0
          refine wp_region_held_drew (S:=fun w'=>w'.cell? ⟨gb,s,none⟩=some (.bool true)) (by kernel_rfl) (by exact G0.out) ?_
          intro hS0
          refine rtk 0 ?_
          refine rtk 1 ?_
          refine rtk 5 ?_
          refine rtk 6 ?_
          refine rtk 7 ?_
          refine rck 2 fun K hK=>?_
          go_simp
          go_at_call 43;(with_reducible refine (HDr.out _ (Chg.refl No _).drew).mono ?_);rintro e w9 ⟨rfl,hs⟩;have HS13:=Lib.hid hs;clear hs
          refine hK.out _ _ (by exact (HS13.out.sat.cell s).trans (by rw [garr_get g s (by omega),HGs.out])) (fun hS0=>?_)
          clear hK K
          refine rck 3 fun K hK=>?_
          go_simp
          go_at_call 29;(with_reducible refine (num10_any _ _).mono ?_);rintro e wx ⟨rfl,rfl⟩
          refine hK.out _ _ (by exact (HS13.out.sat.cell s).trans (by rw [garr_get g s (by omega),HGs.out])) (fun hS0=>?_)
          clear hK K
          refine rtk 4 ?_
          refine rtk 8 ?_
          refine wpAnyH_done (by kernel_rfl) ?_ _
          have x0:w9.cell? ⟨gb,s,none⟩=some (.bool true):=(HS13.out.sat.cell s).trans (by rw [garr_get g s (by omega),HGs.out])
          have f0:=HS13.out.sat.frozen s
          have HS14:=Lib.hid (HS13.out.set s (.bool true))
          go_wp2_with fail
          go_roundw
          ·exact ⟨j+1,by omega,by omega,by push_cast;rfl,setG g s,by have h9:=HS14.out;rw [garr_set g s (by omega)] at h9;exact h9⟩
          ·simp [intOf];omega
         | false=>
          have HGs:=Lib.hid hgs
          have HDr:Hid (∀ W,Chg No wr W→Calls Tryz.prog 43 #[.pointer (some ⟨b,0,none⟩), .int .i64 (s:Int)] W fun e w'=>e = .returned (.int .i64 0)∧Sto w (Pt gb 74 (garr g)*Emp) b d 1024 i 40 0 (i+1) (mapSn i) (oldSn i (setG g s)) w'):=fun W hk=>by
           have h9:=sdrop (s:Int) (by omega) (HI.out.new hk)
           rw [oldSn_yes hgs (by omega) (by omega),drop_sn] at h9
           exact h9
          have g0:wr.cell? ⟨gb,s,none⟩=some (.bool false):=(HI.out.sat.cell s).trans (by rw [garr_get g s (by omega),hgs])
          have G0:=Lib.hid g0
          clear hgs g0
          refine wp_region_held_drew (S:=fun w'=>w'.cell? ⟨gb,s,none⟩=some (.bool false)) (by kernel_rfl) (by exact G0.out) ?_
          intro hS0
          refine rtk 0 ?_
          refine rtk 1 ?_
          refine rtk 5 ?_
          refine rtk 6 ?_
          refine rtk 7 ?_
          refine rck 2 fun K hK=>?_
          go_simp
          go_at_call 43;(with_reducible refine (HDr.out _ (Chg.refl No _).drew).mono ?_);rintro e w9 ⟨rfl,hs⟩;have HS13:=Lib.hid hs;clear hs
          refine hK.out _ _ (by exact (HS13.out.sat.cell s).trans (by rw [garr_get g s (by omega),HGs.out])) (fun hS0=>?_)
          clear hK K
          refine rck 3 fun K hK=>?_
          go_simp
          go_at_call 29;(with_reducible refine (num10_any _ _).mono ?_);rintro e wx ⟨rfl,rfl⟩
          refine hK.out _ _ (by exact (HS13.out.sat.cell s).trans (by rw [garr_get g s (by omega),HGs.out])) (fun hS0=>?_)
          clear hK K
          refine rtk 4 ?_
          refine rtk 8 ?_
          refine wpAnyH_done (by kernel_rfl) ?_ _
          have x0:w9.cell? ⟨gb,s,none⟩=some (.bool false):=(HS13.out.sat.cell s).trans (by rw [garr_get g s (by omega),HGs.out])
          have f0:=HS13.out.sat.frozen s
          have HS14:=Lib.hid (HS13.out.set s (.bool true))
          go_wp2_with fail
          go_roundw
          ·exact ⟨j+1,by omega,by omega,by push_cast;rfl,setG g s,by have h9:=HS14.out;rw [garr_set g s (by omega)] at h9;exact h9⟩
          ·simp [intOf];omega
        ·have hjd2:¬ (j:Int)<ds.length:=by omega
         go_wp2_with fail
         go_roundw
         ·exact ⟨j+1,by omega,by omega,by push_cast;rfl,g,HI.out⟩
         ·simp [intOf];omega
     ·obtain ⟨g,hg⟩:=HD.out
      have HG:=Lib.hid hg
      have HGet:=Lib.hid (get_sn (s:=i) (by omega))
      clear hg
      have hcs:(¬ (j:Int)≤ds.length)∨((j:Int)≤ds.length∧j=12):=by omega
      clear h12
      rcases hcs with hcs | ⟨hcs,rfl⟩
      all_goals
       go_upto_region 31 with (go_at_call 32;(with_reducible refine (lit_get_yes (x:=107) (v:=[UInt8.ofNat i]) HGet.out (by omega) HG.out 107 (by decide) 1 rfl).mono ?_);rintro e w9 ⟨A9,c9,rfl,hs⟩;have HS9:=Lib.hid hs;clear hs)
       obtain ⟨g9,rfl,y1⟩:=row_u8 (s:=i) (by omega) HS9.out.sat
       have hss:((i:Int)==i)=true:=by simp
       go_wp2_with fail
       go_ret
       exact ⟨rfl,HS9.out.sat.chg⟩
end
end Go.Proofs.YtmbaiglpgaoogaaGreat
