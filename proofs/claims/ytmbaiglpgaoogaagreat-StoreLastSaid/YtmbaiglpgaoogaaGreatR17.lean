/- Joined, as they were built one by one: TabEnt TabRd2. -/
import Derived.Test.YtmbaiglpgaoogaaGreatR01
import Derived.Test.YtmbaiglpgaoogaaGreatR07
import Derived.Test.YtmbaiglpgaoogaaGreatR15
import Derived.Test.YtmbaiglpgaoogaaGreatR16
namespace Go.Proofs.YtmbaiglpgaoogaaGreat
open Go.RowKit
set_option linter.unusedVariables false
set_option maxRecDepth 100000
theorem commonS {w0 w:World} {S:SP} (a b:Slc) (h:Sat w0 S w) (ha:Rd w a.1 a.2.2) (hb:Rd w b.1 b.2.2) (hl:a.2.2.length≤1000000):
  Calls Tryz.prog 197 #[.slice a.1 a.2.2.length a.2.1, .slice b.1 b.2.2.length b.2.1] w fun x w'=>x = .returned (.int .i64 (commonN a.2.2 b.2.2:Nat))∧Sat w0 S w':=by
 refine (common_any a b w ha hb hl).mono ?_
 rintro x w' ⟨rfl,k⟩
 exact ⟨rfl,h.new k⟩
def entKs (n m seq:Nat) (dn:UInt8) (kA:Option Addr) (kc:Nat) (k:List UInt8) (vA:Option Addr) (vc:Nat) (v:List UInt8) (g8 g14:Nat) (A12:Option Addr) (c12:Nat) (A19:Option Addr) (c19:Nat):Rows_:=
 [(some ⟨g8,0,none⟩,2,[UInt8.ofNat n,UInt8.ofNat m]),(A12,c12,putB seq 8),(some ⟨g14,0,none⟩,1,[dn]),(A19,c19,putB v.length 2),((if kc=n then kA else Option.map (fun x=>x.add n) kA),kc - n,k.drop n),(vA,vc,v)]
theorem entRdl (n m seq:Nat) (dn:UInt8) (kA:Option Addr) (kc:Nat) (k:List UInt8) (vA:Option Addr) (vc:Nat) (v:List UInt8) (hnk:n≤k.length) (hkl:k.length≤128) (hm:m=k.length - n) (hkc:k.length≤kc) (w w26:World) (PE:SP) (g8 g14 g26:Nat) (A12:Option Addr) (c12:Nat) (A19:Option Addr) (c19:Nat)
  (hs:Sat w (PE*(Pt g8 5 #[.int .u8 (n:Int), .int .u8 (m:Int)]*(Row 5 1 (.slice A12 (putB seq 8).length c12) (putB seq 8).length ((putB seq 8).map bv)*(Pt g14 5 #[.int .u8 (dn.toNat:Int)]*(Row 5 1 (.slice A19 (putB v.length 2).length c19) (putB v.length 2).length ((putB v.length 2).map bv)*(Pt g26 41 #[.slice (some ⟨g8,0,none⟩) 2 2, .slice A12 (putB seq 8).length c12, .slice (some ⟨g14,0,none⟩) 1 1, .slice A19 (putB v.length 2).length c19, .slice (if kc=n then kA else Option.map (fun x=>x.add n) kA) (k.length - n) (kc - n), .slice vA v.length vc]*Emp)))))) w26)
  (hk:Rd w26 kA k) (hv:Rd w26 vA v):RdL w26 (some ⟨g26,0,none⟩) (entKs n m seq dn kA kc k vA vc v g8 g14 A12 c12 A19 c19):=by
 refine ⟨?_,fun x hx=>?_⟩
 ·have e:(entKs n m seq dn kA kc k vA vc v g8 g14 A12 c12 A19 c19).map slOf=(#[.slice (some ⟨g8,0,none⟩) 2 2, .slice A12 (putB seq 8).length c12, .slice (some ⟨g14,0,none⟩) 1 1, .slice A19 (putB v.length 2).length c19, .slice (if kc=n then kA else Option.map (fun x=>x.add n) kA) (k.length - n) (kc - n), .slice vA v.length vc]:Array Value).toList:=by simp [entKs,slOf]
  rw [e]
  exact RdV.of_at hs.up6.at fun j hj=>by rw [←Array.getElem?_toList,List.getElem?_eq_getElem hj]
 ·have h8:Rd w26 (some ⟨g8,0,none⟩) [UInt8.ofNat n,UInt8.ofNat m]:=RdV.of_at hs.up2.at fun j hj=>by
   have hn:((UInt8.ofNat n).toNat:Int)=n:=by rw [UInt8.toNat_ofNat',Nat.mod_eq_of_lt (by omega)]
   have hmm:((UInt8.ofNat m).toNat:Int)=m:=by rw [UInt8.toNat_ofNat',Nat.mod_eq_of_lt (by omega)]
   have e:([UInt8.ofNat n,UInt8.ofNat m].map bv)=[.int .u8 (n:Int), .int .u8 (m:Int)]:=by
    unfold bv
    rw [List.map_cons,List.map_cons,List.map_nil,hn,hmm]
   simp only [e]
   rw [←List.getElem?_eq_getElem (by rw [e] at hj;exact hj)]
   simp
  have h14:Rd w26 (some ⟨g14,0,none⟩) [dn]:=RdV.of_at hs.up4.at fun j hj=>by
   simp at hj
   subst hj
   rfl
  have h12:Rd w26 A12 (putB seq 8):=RdV.of_own hs.up3.row_own
  have h19:Rd w26 A19 (putB v.length 2):=RdV.of_own hs.up5.row_own
  have hd:Rd w26 (if kc=n then kA else Option.map (fun x=>x.add n) kA) (k.drop n):=hk.drop hnk hkc
  unfold entKs at hx
  simp only [List.mem_cons,List.not_mem_nil,or_false] at hx
  rcases hx with rfl | rfl | rfl | rfl | rfl | rfl
  ·exact h8
  ·exact h12
  ·exact h14
  ·exact h19
  ·exact hd
  ·exact hv
theorem entLen (n m seq:Nat) (dn:UInt8) (kA:Option Addr) (kc:Nat) (k:List UInt8) (vA:Option Addr) (vc:Nat) (v:List UInt8) (g8 g14:Nat) (A12:Option Addr) (c12:Nat) (A19:Option Addr) (c19:Nat) (hkl:k.length≤128) (hvl:v.length≤16384):
  (txt (entKs n m seq dn kA kc k vA vc v g8 g14 A12 c12 A19 c19)).flatten.length≤140737488355328:=by
 simp [txt,entKs,putB_len]
 omega
theorem entFlat (al:List UInt8) (n m seq:Nat) (dn:UInt8) (kA:Option Addr) (kc:Nat) (k:List UInt8) (vA:Option Addr) (vc:Nat) (v:List UInt8) (g8 g14:Nat) (A12:Option Addr) (c12:Nat) (A19:Option Addr) (c19:Nat) (dead:Bool) (hn:n=commonN al k) (hm:m=k.length - n) (hd:dn=if dead then 1 else 0):
  (txt (entKs n m seq dn kA kc k vA vc v g8 g14 A12 c12 A19 c19)).flatten=entB al ⟨k,v,(seq:Int),dead⟩:=by
 subst hn;subst hm;subst hd
 simp [txt,entKs,entB]
theorem NewB.lift {w0 w w':World} {F:SP} {l:List UInt8} {e:Ending} (h:Sat w0 F w) (k:NewB w Emp l e w'):NewB w0 F l e w':=by
 obtain ⟨A,c,rfl,h1,h2,hs⟩:=k
 exact ⟨A,c,rfl,h1,h2,h.gotRow hs.chg hs.row_own⟩
set_option maxHeartbeats 4000000 in
theorem entB0 (a:Slc) (kA:Option Addr) (kc:Nat) (k:List UInt8) (vA:Option Addr) (vc:Nat) (v:List UInt8) (seq:Nat) (dead:Bool) (w:World) (ha:Rd w a.1 a.2.2) (hk:Rd w kA k) (hv:Rd w vA v)
  (hal:a.2.2.length≤128) (hkl:k.length≤128) (hkc:k.length≤kc) (hkm:kc≤maxLen) (hvl:v.length≤16384) (hsq:seq<9223372036854775808):
  Calls Tryz.prog 179 #[.slice a.1 a.2.2.length a.2.1, .agg #[.slice kA k.length kc, .slice vA v.length vc, .int .i64 (seq:Int), .bool dead]] w (NewB w Emp (entB a.2.2 ⟨k,v,seq,dead⟩)):=by
 have h:=Sat.start w
 obtain ⟨n,hn⟩: ∃ n,n=commonN a.2.2 k:=⟨_,rfl⟩
 have hnk:n≤k.length:=by rw [hn];exact (commonN_le _ _).2
 have hs0:=h.allocPt 120 #[.slice kA k.length kc, .slice vA v.length vc, .int .i64 (seq:Int), .bool dead]
 have c0:=hs0.cell 0;have c1:=hs0.cell 1;have c2:=hs0.cell 2;have c3:=hs0.cell 3
 have K0:=(Chg.refl No w).alloc (.cells #[.slice kA k.length kc, .slice vA v.length vc, .int .i64 (seq:Int), .bool dead] 120)
 have HA:=Lib.hid ha;have HK:=Lib.hid hk;have HV:=Lib.hid hv;have HA0:=Lib.hid (ha.new K0);have HK0:=Lib.hid (hk.new K0)
 have HS:=Lib.hid hs0
 have HN:=Lib.hid hn
 unfold maxLen at hkm
 clear h ha hk hv hs0 K0 hn
 go_enter Tryz.func179, Tryz.ntmps179
 go_upto_if 12 with (go_at_call 197;refine (commonS a (kA,kc,k) HS.out HA0.out HK0.out (by omega)).mono ?_;rintro x w1 ⟨rfl,hs1⟩;have d3:=hs1.cell 3;have HS1:=Lib.hid hs1;clear hs1)
 rw [←HN.out]
 obtain ⟨E,hE⟩: ∃ E,E=w.heap.size:=⟨_,rfl⟩
 rw [←hE] at HS1 d3
 rw [←hE]
 have HE:=Lib.hid hE
 clear hE HS c0 c1 c2 c3
 obtain ⟨dn,hdn⟩: ∃ dn:UInt8,dn=if dead then 1 else 0:=⟨_,rfl⟩
 have HDn:=Lib.hid hdn
 clear hdn
 go_cut [6] from 7 (fun fv wx=>fv = .int .u8 (dn.toNat:Int)∧wx=w1)
 case first=>
  cases dead
  ·go_wp2_with fail
   go_meet
   exact ⟨by rw [HDn.out];rfl,rfl⟩
  ·go_wp2_with fail
   go_meet
   exact ⟨by rw [HDn.out];rfl,rfl⟩
 case rest=>
  obtain ⟨rfl,rfl⟩:=hcut
  obtain ⟨m,hm⟩: ∃ m,m=k.length - n:=⟨_,rfl⟩
  have hsub:(k.length:Int) - (n:Int)=(m:Int):=by omega
  have hw1:IntKind.u8.wrap (n:Int)=n:=by rw [IntKind.wrap_u8];omega
  have hw2:IntKind.u8.wrap (m:Int)=m:=by rw [IntKind.wrap_u8];omega
  have hw3:IntKind.u64.wrap (seq:Int)=seq:=by rw [IntKind.wrap_u64];omega
  have hw4:IntKind.u64.wrap (v.length:Int)=v.length:=by rw [IntKind.wrap_u64];omega
  have hw5:IntKind.i64.wrap (m:Int)=m:=by rw [IntKind.wrap_i64];omega
  have HM:=Lib.hid hm
  have HSd:=Lib.hid HS1.out.drew
  clear hm
  go_upto_region 5 with fail
  refine wp_region_held_drew (S:=fun w'=>w'.cell? ⟨E,0,none⟩=some (.slice kA k.length kc)∧w'.cell? ⟨E,1,none⟩=some (.slice vA v.length vc)∧w'.cell? ⟨E,2,none⟩=some (.int .i64 (seq:Int))) (by kernel_rfl) ⟨HSd.out.cell 0,HSd.out.cell 1,HSd.out.cell 2⟩ ?_
  intro hS0
  revert hS0 HSd
  generalize wc.drew=wd
  intro HS hS0
  refine rtk 0 ?_
  refine rtk 1 ?_
  refine rtk 2 ?_
  refine rtk 3 ?_
  refine rtk 4 ?_
  refine rtk 5 ?_
  refine rtk 6 ?_
  refine rtk 7 ?_
  refine rtk 9 ?_
  refine rtk 10 ?_
  refine rtk 11 ?_
  refine rtk 13 ?_
  refine rtk 15 ?_
  refine rtk 16 ?_
  refine rtk 17 ?_
  refine rtk 18 ?_
  refine rtk 20 ?_
  refine rtk 21 ?_
  refine rtk 22 ?_
  refine rtk 23 ?_
  refine rtk 24 ?_
  refine rtk 25 ?_
  refine rgn_three (i:=8) (j:=12) (k:=14) rfl rfl rfl (by kernel_rfl) (fun K hK=>?_) (fun K hK=>?_) (fun K hK=>?_)
  ·
   go_simp
   have hs:=HS.out.allocPt 5 #[.int .u8 (n:Int), .int .u8 (m:Int)]
   revert hs
   generalize World.alloc wd _=w8
   generalize wd.heap.size=g8
   intro hs
   replace HS:Hid (Sat w (Pt E 120 #[.slice kA k.length kc, .slice vA v.length vc, .int .i64 (seq:Int), .bool dead]*(Pt g8 5 #[.int .u8 (n:Int), .int .u8 (m:Int)]*Emp)) w8):=hs.of (by ac_rfl)
   clear hs
   refine hK.out _ _ ⟨HS.out.cell 0,HS.out.cell 1,HS.out.cell 2⟩ (fun hS0=>?_)
   clear hK K
   refine rgn_both (i:=12) (j:=14) rfl rfl (by kernel_rfl) (fun K hK=>?_) (fun K hK=>?_)
   ·
    go_simp
    go_at_call 117
    refine (oput_any seq 8 (by omega) (by omega) (by omega) w _ _ HS.out).mono ?_
    rintro x w12 ⟨A12,c12,rfl, -, -,hs⟩
    replace HS:Hid (Sat w (Pt E 120 #[.slice kA k.length kc, .slice vA v.length vc, .int .i64 (seq:Int), .bool dead]*(Pt g8 5 #[.int .u8 (n:Int), .int .u8 (m:Int)]*(Row 5 1 (.slice A12 (putB seq 8).length c12) (putB seq 8).length ((putB seq 8).map bv)*Emp))) w12):=hs.of (by ac_rfl)
    clear hs
    refine hK.out _ _ ⟨HS.out.cell 0,HS.out.cell 1,HS.out.cell 2⟩ (fun hS0=>?_)
    clear hK K
    refine rgn_both (i:=14) (j:=19) rfl rfl (by kernel_rfl) (fun K hK=>?_) (fun K hK=>?_)
    ·
     go_simp
     have hs:=HS.out.allocPt 5 #[.int .u8 (dn.toNat:Int)]
     revert hs
     generalize World.alloc w12 _=w14
     generalize w12.heap.size=g14
     intro hs
     replace HS:Hid (Sat w (Pt E 120 #[.slice kA k.length kc, .slice vA v.length vc, .int .i64 (seq:Int), .bool dead]*(Pt g8 5 #[.int .u8 (n:Int), .int .u8 (m:Int)]*(Row 5 1 (.slice A12 (putB seq 8).length c12) (putB seq 8).length ((putB seq 8).map bv)*(Pt g14 5 #[.int .u8 (dn.toNat:Int)]*Emp)))) w14):=hs.of (by ac_rfl)
     clear hs
     refine hK.out _ _ ⟨HS.out.cell 0,HS.out.cell 1,HS.out.cell 2⟩ (fun hS0=>?_)
     clear hK K
     refine rck 19 fun K hK=>?_
     go_simp
     go_at_call 117
     refine (oput_any v.length 2 (by omega) (by omega) (by omega) w _ _ HS.out).mono ?_
     rintro x w19 ⟨A19,c19,rfl, -, -,hs⟩
     replace HS:Hid (Sat w (Pt E 120 #[.slice kA k.length kc, .slice vA v.length vc, .int .i64 (seq:Int), .bool dead]*(Pt g8 5 #[.int .u8 (n:Int), .int .u8 (m:Int)]*(Row 5 1 (.slice A12 (putB seq 8).length c12) (putB seq 8).length ((putB seq 8).map bv)*(Pt g14 5 #[.int .u8 (dn.toNat:Int)]*(Row 5 1 (.slice A19 (putB v.length 2).length c19) (putB v.length 2).length ((putB v.length 2).map bv)*Emp))))) w19):=hs.of (by ac_rfl)
     clear hs
     refine hK.out _ _ ⟨HS.out.cell 0,HS.out.cell 1,HS.out.cell 2⟩ (fun hS0=>?_)
     clear hK K
     refine rck 26 fun K hK=>?_
     go_simp
     have hs:=HS.out.allocPt 41 #[.slice (some ⟨g8,0,none⟩) 2 2, .slice A12 (putB seq 8).length c12, .slice (some ⟨g14,0,none⟩) 1 1, .slice A19 (putB v.length 2).length c19, .slice (if kc=n then kA else Option.map (fun x=>x.add n) kA) (k.length - n) (kc - n), .slice vA v.length vc]
     revert hs
     generalize World.alloc w19 _=w26
     generalize w19.heap.size=g26
     intro hs
     replace HS:Hid (Sat w (Pt E 120 #[.slice kA k.length kc, .slice vA v.length vc, .int .i64 (seq:Int), .bool dead]*(Pt g8 5 #[.int .u8 (n:Int), .int .u8 (m:Int)]*(Row 5 1 (.slice A12 (putB seq 8).length c12) (putB seq 8).length ((putB seq 8).map bv)*(Pt g14 5 #[.int .u8 (dn.toNat:Int)]*(Row 5 1 (.slice A19 (putB v.length 2).length c19) (putB v.length 2).length ((putB v.length 2).map bv)*(Pt g26 41 #[.slice (some ⟨g8,0,none⟩) 2 2, .slice A12 (putB seq 8).length c12, .slice (some ⟨g14,0,none⟩) 1 1, .slice A19 (putB v.length 2).length c19, .slice (if kc=n then kA else Option.map (fun x=>x.add n) kA) (k.length - n) (kc - n), .slice vA v.length vc]*Emp)))))) w26):=hs.of (by ac_rfl)
     clear hs
     refine hK.out _ _ ⟨HS.out.cell 0,HS.out.cell 1,HS.out.cell 2⟩ (fun hS0=>?_)
     clear hK K
     refine rck 27 fun K hK=>?_
     go_simp
     have hrl:=entRdl n m seq dn kA kc k vA vc v hnk hkl HM.out hkc w w26 _ g8 g14 g26 A12 c12 A19 c19 HS.out (HK.out.new HS.out.chg) (HV.out.new HS.out.chg)
     go_at_call 61
     refine (join_any (some ⟨g26,0,none⟩) 6 (entKs n m seq dn kA kc k vA vc v g8 g14 A12 c12 A19 c19) w26 hrl (entLen n m seq dn kA kc k vA vc v g8 g14 A12 c12 A19 c19 hkl hvl) (show 6≤140737488355328 by omega)).mono ?_
     rintro x w27 ⟨vv,rfl,ho,k27⟩
     rw [entFlat a.2.2 n m seq dn kA kc k vA vc v g8 g14 A12 c12 A19 c19 dead HN.out HM.out HDn.out] at ho
     obtain ⟨A27,c27,rfl, -⟩:=own_sl ho
     have HS27:=Lib.hid ((Sat.start w).gotRow (HS.out.chg.tr k27) (own_base ho HS.out.chg.size))
     replace HS:=Lib.hid (HS.out.new k27)
     clear hrl ho k27
     refine hK.out _ _ ⟨HS.out.cell 0,HS.out.cell 1,HS.out.cell 2⟩ (fun hS0=>?_)
     clear hK K
     refine rtk 28 ?_
     refine wpAnyH_done (by kernel_rfl) ?_ _
     go_wp2_with fail
     all_goals
      go_ret
      obtain ⟨B,d,e,h1,h2⟩:=HS27.out.row_sl
      injection e with e1 _ e2
      subst e1
      subst e2
      exact ⟨A27,c27,rfl,h1,h2,HS27.out⟩
    ·
     go_simp
     go_at_call 117
     refine (oput_any v.length 2 (by omega) (by omega) (by omega) w _ _ HS.out).mono ?_
     rintro x w19 ⟨A19,c19,rfl, -, -,hs⟩
     replace HS:Hid (Sat w (Pt E 120 #[.slice kA k.length kc, .slice vA v.length vc, .int .i64 (seq:Int), .bool dead]*(Pt g8 5 #[.int .u8 (n:Int), .int .u8 (m:Int)]*(Row 5 1 (.slice A12 (putB seq 8).length c12) (putB seq 8).length ((putB seq 8).map bv)*(Row 5 1 (.slice A19 (putB v.length 2).length c19) (putB v.length 2).length ((putB v.length 2).map bv)*Emp)))) w19):=hs.of (by ac_rfl)
     clear hs
     refine hK.out _ _ ⟨HS.out.cell 0,HS.out.cell 1,HS.out.cell 2⟩ (fun hS0=>?_)
     clear hK K
     refine rck 14 fun K hK=>?_
     go_simp
     have hs:=HS.out.allocPt 5 #[.int .u8 (dn.toNat:Int)]
     revert hs
     generalize World.alloc w19 _=w14
     generalize w19.heap.size=g14
     intro hs
     replace HS:Hid (Sat w (Pt E 120 #[.slice kA k.length kc, .slice vA v.length vc, .int .i64 (seq:Int), .bool dead]*(Pt g8 5 #[.int .u8 (n:Int), .int .u8 (m:Int)]*(Row 5 1 (.slice A12 (putB seq 8).length c12) (putB seq 8).length ((putB seq 8).map bv)*(Pt g14 5 #[.int .u8 (dn.toNat:Int)]*(Row 5 1 (.slice A19 (putB v.length 2).length c19) (putB v.length 2).length ((putB v.length 2).map bv)*Emp))))) w14):=hs.of (by ac_rfl)
     clear hs
     refine hK.out _ _ ⟨HS.out.cell 0,HS.out.cell 1,HS.out.cell 2⟩ (fun hS0=>?_)
     clear hK K
     refine rck 26 fun K hK=>?_
     go_simp
     have hs:=HS.out.allocPt 41 #[.slice (some ⟨g8,0,none⟩) 2 2, .slice A12 (putB seq 8).length c12, .slice (some ⟨g14,0,none⟩) 1 1, .slice A19 (putB v.length 2).length c19, .slice (if kc=n then kA else Option.map (fun x=>x.add n) kA) (k.length - n) (kc - n), .slice vA v.length vc]
     revert hs
     generalize World.alloc w14 _=w26
     generalize w14.heap.size=g26
     intro hs
     replace HS:Hid (Sat w (Pt E 120 #[.slice kA k.length kc, .slice vA v.length vc, .int .i64 (seq:Int), .bool dead]*(Pt g8 5 #[.int .u8 (n:Int), .int .u8 (m:Int)]*(Row 5 1 (.slice A12 (putB seq 8).length c12) (putB seq 8).length ((putB seq 8).map bv)*(Pt g14 5 #[.int .u8 (dn.toNat:Int)]*(Row 5 1 (.slice A19 (putB v.length 2).length c19) (putB v.length 2).length ((putB v.length 2).map bv)*(Pt g26 41 #[.slice (some ⟨g8,0,none⟩) 2 2, .slice A12 (putB seq 8).length c12, .slice (some ⟨g14,0,none⟩) 1 1, .slice A19 (putB v.length 2).length c19, .slice (if kc=n then kA else Option.map (fun x=>x.add n) kA) (k.length - n) (kc - n), .slice vA v.length vc]*Emp)))))) w26):=hs.of (by ac_rfl)
     clear hs
     refine hK.out _ _ ⟨HS.out.cell 0,HS.out.cell 1,HS.out.cell 2⟩ (fun hS0=>?_)
     clear hK K
     refine rck 27 fun K hK=>?_
     go_simp
     have hrl:=entRdl n m seq dn kA kc k vA vc v hnk hkl HM.out hkc w w26 _ g8 g14 g26 A12 c12 A19 c19 HS.out (HK.out.new HS.out.chg) (HV.out.new HS.out.chg)
     go_at_call 61
     refine (join_any (some ⟨g26,0,none⟩) 6 (entKs n m seq dn kA kc k vA vc v g8 g14 A12 c12 A19 c19) w26 hrl (entLen n m seq dn kA kc k vA vc v g8 g14 A12 c12 A19 c19 hkl hvl) (show 6≤140737488355328 by omega)).mono ?_
     rintro x w27 ⟨vv,rfl,ho,k27⟩
     rw [entFlat a.2.2 n m seq dn kA kc k vA vc v g8 g14 A12 c12 A19 c19 dead HN.out HM.out HDn.out] at ho
     obtain ⟨A27,c27,rfl, -⟩:=own_sl ho
     have HS27:=Lib.hid ((Sat.start w).gotRow (HS.out.chg.tr k27) (own_base ho HS.out.chg.size))
     replace HS:=Lib.hid (HS.out.new k27)
     clear hrl ho k27
     refine hK.out _ _ ⟨HS.out.cell 0,HS.out.cell 1,HS.out.cell 2⟩ (fun hS0=>?_)
     clear hK K
     refine rtk 28 ?_
     refine wpAnyH_done (by kernel_rfl) ?_ _
     go_wp2_with fail
     all_goals
      go_ret
      obtain ⟨B,d,e,h1,h2⟩:=HS27.out.row_sl
      injection e with e1 _ e2
      subst e1
      subst e2
      exact ⟨A27,c27,rfl,h1,h2,HS27.out⟩
   ·
    go_simp
    have hs:=HS.out.allocPt 5 #[.int .u8 (dn.toNat:Int)]
    revert hs
    generalize World.alloc w8 _=w14
    generalize w8.heap.size=g14
    intro hs
    replace HS:Hid (Sat w (Pt E 120 #[.slice kA k.length kc, .slice vA v.length vc, .int .i64 (seq:Int), .bool dead]*(Pt g8 5 #[.int .u8 (n:Int), .int .u8 (m:Int)]*(Pt g14 5 #[.int .u8 (dn.toNat:Int)]*Emp))) w14):=hs.of (by ac_rfl)
    clear hs
    refine hK.out _ _ ⟨HS.out.cell 0,HS.out.cell 1,HS.out.cell 2⟩ (fun hS0=>?_)
    clear hK K
    refine rck 12 fun K hK=>?_
    go_simp
    go_at_call 117
    refine (oput_any seq 8 (by omega) (by omega) (by omega) w _ _ HS.out).mono ?_
    rintro x w12 ⟨A12,c12,rfl, -, -,hs⟩
    replace HS:Hid (Sat w (Pt E 120 #[.slice kA k.length kc, .slice vA v.length vc, .int .i64 (seq:Int), .bool dead]*(Pt g8 5 #[.int .u8 (n:Int), .int .u8 (m:Int)]*(Row 5 1 (.slice A12 (putB seq 8).length c12) (putB seq 8).length ((putB seq 8).map bv)*(Pt g14 5 #[.int .u8 (dn.toNat:Int)]*Emp)))) w12):=hs.of (by ac_rfl)
    clear hs
    refine hK.out _ _ ⟨HS.out.cell 0,HS.out.cell 1,HS.out.cell 2⟩ (fun hS0=>?_)
    clear hK K
    refine rck 19 fun K hK=>?_
    go_simp
    go_at_call 117
    refine (oput_any v.length 2 (by omega) (by omega) (by omega) w _ _ HS.out).mono ?_
    rintro x w19 ⟨A19,c19,rfl, -, -,hs⟩
    replace HS:Hid (Sat w (Pt E 120 #[.slice kA k.length kc, .slice vA v.length vc, .int .i64 (seq:Int), .bool dead]*(Pt g8 5 #[.int .u8 (n:Int), .int .u8 (m:Int)]*(Row 5 1 (.slice A12 (putB seq 8).length c12) (putB seq 8).length ((putB seq 8).map bv)*(Pt g14 5 #[.int .u8 (dn.toNat:Int)]*(Row 5 1 (.slice A19 (putB v.length 2).length c19) (putB v.length 2).length ((putB v.length 2).map bv)*Emp))))) w19):=hs.of (by ac_rfl)
    clear hs
    refine hK.out _ _ ⟨HS.out.cell 0,HS.out.cell 1,HS.out.cell 2⟩ (fun hS0=>?_)
    clear hK K
    refine rck 26 fun K hK=>?_
    go_simp
    have hs:=HS.out.allocPt 41 #[.slice (some ⟨g8,0,none⟩) 2 2, .slice A12 (putB seq 8).length c12, .slice (some ⟨g14,0,none⟩) 1 1, .slice A19 (putB v.length 2).length c19, .slice (if kc=n then kA else Option.map (fun x=>x.add n) kA) (k.length - n) (kc - n), .slice vA v.length vc]
    revert hs
    generalize World.alloc w19 _=w26
    generalize w19.heap.size=g26
    intro hs
    replace HS:Hid (Sat w (Pt E 120 #[.slice kA k.length kc, .slice vA v.length vc, .int .i64 (seq:Int), .bool dead]*(Pt g8 5 #[.int .u8 (n:Int), .int .u8 (m:Int)]*(Row 5 1 (.slice A12 (putB seq 8).length c12) (putB seq 8).length ((putB seq 8).map bv)*(Pt g14 5 #[.int .u8 (dn.toNat:Int)]*(Row 5 1 (.slice A19 (putB v.length 2).length c19) (putB v.length 2).length ((putB v.length 2).map bv)*(Pt g26 41 #[.slice (some ⟨g8,0,none⟩) 2 2, .slice A12 (putB seq 8).length c12, .slice (some ⟨g14,0,none⟩) 1 1, .slice A19 (putB v.length 2).length c19, .slice (if kc=n then kA else Option.map (fun x=>x.add n) kA) (k.length - n) (kc - n), .slice vA v.length vc]*Emp)))))) w26):=hs.of (by ac_rfl)
    clear hs
    refine hK.out _ _ ⟨HS.out.cell 0,HS.out.cell 1,HS.out.cell 2⟩ (fun hS0=>?_)
    clear hK K
    refine rck 27 fun K hK=>?_
    go_simp
    have hrl:=entRdl n m seq dn kA kc k vA vc v hnk hkl HM.out hkc w w26 _ g8 g14 g26 A12 c12 A19 c19 HS.out (HK.out.new HS.out.chg) (HV.out.new HS.out.chg)
    go_at_call 61
    refine (join_any (some ⟨g26,0,none⟩) 6 (entKs n m seq dn kA kc k vA vc v g8 g14 A12 c12 A19 c19) w26 hrl (entLen n m seq dn kA kc k vA vc v g8 g14 A12 c12 A19 c19 hkl hvl) (show 6≤140737488355328 by omega)).mono ?_
    rintro x w27 ⟨vv,rfl,ho,k27⟩
    rw [entFlat a.2.2 n m seq dn kA kc k vA vc v g8 g14 A12 c12 A19 c19 dead HN.out HM.out HDn.out] at ho
    obtain ⟨A27,c27,rfl, -⟩:=own_sl ho
    have HS27:=Lib.hid ((Sat.start w).gotRow (HS.out.chg.tr k27) (own_base ho HS.out.chg.size))
    replace HS:=Lib.hid (HS.out.new k27)
    clear hrl ho k27
    refine hK.out _ _ ⟨HS.out.cell 0,HS.out.cell 1,HS.out.cell 2⟩ (fun hS0=>?_)
    clear hK K
    refine rtk 28 ?_
    refine wpAnyH_done (by kernel_rfl) ?_ _
    go_wp2_with fail
    all_goals
     go_ret
     obtain ⟨B,d,e,h1,h2⟩:=HS27.out.row_sl
     injection e with e1 _ e2
     subst e1
     subst e2
     exact ⟨A27,c27,rfl,h1,h2,HS27.out⟩
  ·
   go_simp
   go_at_call 117
   refine (oput_any seq 8 (by omega) (by omega) (by omega) w _ _ HS.out).mono ?_
   rintro x w12 ⟨A12,c12,rfl, -, -,hs⟩
   replace HS:Hid (Sat w (Pt E 120 #[.slice kA k.length kc, .slice vA v.length vc, .int .i64 (seq:Int), .bool dead]*(Row 5 1 (.slice A12 (putB seq 8).length c12) (putB seq 8).length ((putB seq 8).map bv)*Emp)) w12):=hs.of (by ac_rfl)
   clear hs
   refine hK.out _ _ ⟨HS.out.cell 0,HS.out.cell 1,HS.out.cell 2⟩ (fun hS0=>?_)
   clear hK K
   refine rgn_three (i:=8) (j:=14) (k:=19) rfl rfl rfl (by kernel_rfl) (fun K hK=>?_) (fun K hK=>?_) (fun K hK=>?_)
   ·
    go_simp
    have hs:=HS.out.allocPt 5 #[.int .u8 (n:Int), .int .u8 (m:Int)]
    revert hs
    generalize World.alloc w12 _=w8
    generalize w12.heap.size=g8
    intro hs
    replace HS:Hid (Sat w (Pt E 120 #[.slice kA k.length kc, .slice vA v.length vc, .int .i64 (seq:Int), .bool dead]*(Pt g8 5 #[.int .u8 (n:Int), .int .u8 (m:Int)]*(Row 5 1 (.slice A12 (putB seq 8).length c12) (putB seq 8).length ((putB seq 8).map bv)*Emp))) w8):=hs.of (by ac_rfl)
    clear hs
    refine hK.out _ _ ⟨HS.out.cell 0,HS.out.cell 1,HS.out.cell 2⟩ (fun hS0=>?_)
    clear hK K
    refine rgn_both (i:=14) (j:=19) rfl rfl (by kernel_rfl) (fun K hK=>?_) (fun K hK=>?_)
    ·
     go_simp
     have hs:=HS.out.allocPt 5 #[.int .u8 (dn.toNat:Int)]
     revert hs
     generalize World.alloc w8 _=w14
     generalize w8.heap.size=g14
     intro hs
     replace HS:Hid (Sat w (Pt E 120 #[.slice kA k.length kc, .slice vA v.length vc, .int .i64 (seq:Int), .bool dead]*(Pt g8 5 #[.int .u8 (n:Int), .int .u8 (m:Int)]*(Row 5 1 (.slice A12 (putB seq 8).length c12) (putB seq 8).length ((putB seq 8).map bv)*(Pt g14 5 #[.int .u8 (dn.toNat:Int)]*Emp)))) w14):=hs.of (by ac_rfl)
     clear hs
     refine hK.out _ _ ⟨HS.out.cell 0,HS.out.cell 1,HS.out.cell 2⟩ (fun hS0=>?_)
     clear hK K
     refine rck 19 fun K hK=>?_
     go_simp
     go_at_call 117
     refine (oput_any v.length 2 (by omega) (by omega) (by omega) w _ _ HS.out).mono ?_
     rintro x w19 ⟨A19,c19,rfl, -, -,hs⟩
     replace HS:Hid (Sat w (Pt E 120 #[.slice kA k.length kc, .slice vA v.length vc, .int .i64 (seq:Int), .bool dead]*(Pt g8 5 #[.int .u8 (n:Int), .int .u8 (m:Int)]*(Row 5 1 (.slice A12 (putB seq 8).length c12) (putB seq 8).length ((putB seq 8).map bv)*(Pt g14 5 #[.int .u8 (dn.toNat:Int)]*(Row 5 1 (.slice A19 (putB v.length 2).length c19) (putB v.length 2).length ((putB v.length 2).map bv)*Emp))))) w19):=hs.of (by ac_rfl)
     clear hs
     refine hK.out _ _ ⟨HS.out.cell 0,HS.out.cell 1,HS.out.cell 2⟩ (fun hS0=>?_)
     clear hK K
     refine rck 26 fun K hK=>?_
     go_simp
     have hs:=HS.out.allocPt 41 #[.slice (some ⟨g8,0,none⟩) 2 2, .slice A12 (putB seq 8).length c12, .slice (some ⟨g14,0,none⟩) 1 1, .slice A19 (putB v.length 2).length c19, .slice (if kc=n then kA else Option.map (fun x=>x.add n) kA) (k.length - n) (kc - n), .slice vA v.length vc]
     revert hs
     generalize World.alloc w19 _=w26
     generalize w19.heap.size=g26
     intro hs
     replace HS:Hid (Sat w (Pt E 120 #[.slice kA k.length kc, .slice vA v.length vc, .int .i64 (seq:Int), .bool dead]*(Pt g8 5 #[.int .u8 (n:Int), .int .u8 (m:Int)]*(Row 5 1 (.slice A12 (putB seq 8).length c12) (putB seq 8).length ((putB seq 8).map bv)*(Pt g14 5 #[.int .u8 (dn.toNat:Int)]*(Row 5 1 (.slice A19 (putB v.length 2).length c19) (putB v.length 2).length ((putB v.length 2).map bv)*(Pt g26 41 #[.slice (some ⟨g8,0,none⟩) 2 2, .slice A12 (putB seq 8).length c12, .slice (some ⟨g14,0,none⟩) 1 1, .slice A19 (putB v.length 2).length c19, .slice (if kc=n then kA else Option.map (fun x=>x.add n) kA) (k.length - n) (kc - n), .slice vA v.length vc]*Emp)))))) w26):=hs.of (by ac_rfl)
     clear hs
     refine hK.out _ _ ⟨HS.out.cell 0,HS.out.cell 1,HS.out.cell 2⟩ (fun hS0=>?_)
     clear hK K
     refine rck 27 fun K hK=>?_
     go_simp
     have hrl:=entRdl n m seq dn kA kc k vA vc v hnk hkl HM.out hkc w w26 _ g8 g14 g26 A12 c12 A19 c19 HS.out (HK.out.new HS.out.chg) (HV.out.new HS.out.chg)
     go_at_call 61
     refine (join_any (some ⟨g26,0,none⟩) 6 (entKs n m seq dn kA kc k vA vc v g8 g14 A12 c12 A19 c19) w26 hrl (entLen n m seq dn kA kc k vA vc v g8 g14 A12 c12 A19 c19 hkl hvl) (show 6≤140737488355328 by omega)).mono ?_
     rintro x w27 ⟨vv,rfl,ho,k27⟩
     rw [entFlat a.2.2 n m seq dn kA kc k vA vc v g8 g14 A12 c12 A19 c19 dead HN.out HM.out HDn.out] at ho
     obtain ⟨A27,c27,rfl, -⟩:=own_sl ho
     have HS27:=Lib.hid ((Sat.start w).gotRow (HS.out.chg.tr k27) (own_base ho HS.out.chg.size))
     replace HS:=Lib.hid (HS.out.new k27)
     clear hrl ho k27
     refine hK.out _ _ ⟨HS.out.cell 0,HS.out.cell 1,HS.out.cell 2⟩ (fun hS0=>?_)
     clear hK K
     refine rtk 28 ?_
     refine wpAnyH_done (by kernel_rfl) ?_ _
     go_wp2_with fail
     all_goals
      go_ret
      obtain ⟨B,d,e,h1,h2⟩:=HS27.out.row_sl
      injection e with e1 _ e2
      subst e1
      subst e2
      exact ⟨A27,c27,rfl,h1,h2,HS27.out⟩
    ·
     go_simp
     go_at_call 117
     refine (oput_any v.length 2 (by omega) (by omega) (by omega) w _ _ HS.out).mono ?_
     rintro x w19 ⟨A19,c19,rfl, -, -,hs⟩
     replace HS:Hid (Sat w (Pt E 120 #[.slice kA k.length kc, .slice vA v.length vc, .int .i64 (seq:Int), .bool dead]*(Pt g8 5 #[.int .u8 (n:Int), .int .u8 (m:Int)]*(Row 5 1 (.slice A12 (putB seq 8).length c12) (putB seq 8).length ((putB seq 8).map bv)*(Row 5 1 (.slice A19 (putB v.length 2).length c19) (putB v.length 2).length ((putB v.length 2).map bv)*Emp)))) w19):=hs.of (by ac_rfl)
     clear hs
     refine hK.out _ _ ⟨HS.out.cell 0,HS.out.cell 1,HS.out.cell 2⟩ (fun hS0=>?_)
     clear hK K
     refine rck 14 fun K hK=>?_
     go_simp
     have hs:=HS.out.allocPt 5 #[.int .u8 (dn.toNat:Int)]
     revert hs
     generalize World.alloc w19 _=w14
     generalize w19.heap.size=g14
     intro hs
     replace HS:Hid (Sat w (Pt E 120 #[.slice kA k.length kc, .slice vA v.length vc, .int .i64 (seq:Int), .bool dead]*(Pt g8 5 #[.int .u8 (n:Int), .int .u8 (m:Int)]*(Row 5 1 (.slice A12 (putB seq 8).length c12) (putB seq 8).length ((putB seq 8).map bv)*(Pt g14 5 #[.int .u8 (dn.toNat:Int)]*(Row 5 1 (.slice A19 (putB v.length 2).length c19) (putB v.length 2).length ((putB v.length 2).map bv)*Emp))))) w14):=hs.of (by ac_rfl)
     clear hs
     refine hK.out _ _ ⟨HS.out.cell 0,HS.out.cell 1,HS.out.cell 2⟩ (fun hS0=>?_)
     clear hK K
     refine rck 26 fun K hK=>?_
     go_simp
     have hs:=HS.out.allocPt 41 #[.slice (some ⟨g8,0,none⟩) 2 2, .slice A12 (putB seq 8).length c12, .slice (some ⟨g14,0,none⟩) 1 1, .slice A19 (putB v.length 2).length c19, .slice (if kc=n then kA else Option.map (fun x=>x.add n) kA) (k.length - n) (kc - n), .slice vA v.length vc]
     revert hs
     generalize World.alloc w14 _=w26
     generalize w14.heap.size=g26
     intro hs
     replace HS:Hid (Sat w (Pt E 120 #[.slice kA k.length kc, .slice vA v.length vc, .int .i64 (seq:Int), .bool dead]*(Pt g8 5 #[.int .u8 (n:Int), .int .u8 (m:Int)]*(Row 5 1 (.slice A12 (putB seq 8).length c12) (putB seq 8).length ((putB seq 8).map bv)*(Pt g14 5 #[.int .u8 (dn.toNat:Int)]*(Row 5 1 (.slice A19 (putB v.length 2).length c19) (putB v.length 2).length ((putB v.length 2).map bv)*(Pt g26 41 #[.slice (some ⟨g8,0,none⟩) 2 2, .slice A12 (putB seq 8).length c12, .slice (some ⟨g14,0,none⟩) 1 1, .slice A19 (putB v.length 2).length c19, .slice (if kc=n then kA else Option.map (fun x=>x.add n) kA) (k.length - n) (kc - n), .slice vA v.length vc]*Emp)))))) w26):=hs.of (by ac_rfl)
     clear hs
     refine hK.out _ _ ⟨HS.out.cell 0,HS.out.cell 1,HS.out.cell 2⟩ (fun hS0=>?_)
     clear hK K
     refine rck 27 fun K hK=>?_
     go_simp
     have hrl:=entRdl n m seq dn kA kc k vA vc v hnk hkl HM.out hkc w w26 _ g8 g14 g26 A12 c12 A19 c19 HS.out (HK.out.new HS.out.chg) (HV.out.new HS.out.chg)
     go_at_call 61
     refine (join_any (some ⟨g26,0,none⟩) 6 (entKs n m seq dn kA kc k vA vc v g8 g14 A12 c12 A19 c19) w26 hrl (entLen n m seq dn kA kc k vA vc v g8 g14 A12 c12 A19 c19 hkl hvl) (show 6≤140737488355328 by omega)).mono ?_
     rintro x w27 ⟨vv,rfl,ho,k27⟩
     rw [entFlat a.2.2 n m seq dn kA kc k vA vc v g8 g14 A12 c12 A19 c19 dead HN.out HM.out HDn.out] at ho
     obtain ⟨A27,c27,rfl, -⟩:=own_sl ho
     have HS27:=Lib.hid ((Sat.start w).gotRow (HS.out.chg.tr k27) (own_base ho HS.out.chg.size))
     replace HS:=Lib.hid (HS.out.new k27)
     clear hrl ho k27
     refine hK.out _ _ ⟨HS.out.cell 0,HS.out.cell 1,HS.out.cell 2⟩ (fun hS0=>?_)
     clear hK K
     refine rtk 28 ?_
     refine wpAnyH_done (by kernel_rfl) ?_ _
     go_wp2_with fail
     all_goals
      go_ret
      obtain ⟨B,d,e,h1,h2⟩:=HS27.out.row_sl
      injection e with e1 _ e2
      subst e1
      subst e2
      exact ⟨A27,c27,rfl,h1,h2,HS27.out⟩
   ·
    go_simp
    have hs:=HS.out.allocPt 5 #[.int .u8 (dn.toNat:Int)]
    revert hs
    generalize World.alloc w12 _=w14
    generalize w12.heap.size=g14
    intro hs
    replace HS:Hid (Sat w (Pt E 120 #[.slice kA k.length kc, .slice vA v.length vc, .int .i64 (seq:Int), .bool dead]*(Row 5 1 (.slice A12 (putB seq 8).length c12) (putB seq 8).length ((putB seq 8).map bv)*(Pt g14 5 #[.int .u8 (dn.toNat:Int)]*Emp))) w14):=hs.of (by ac_rfl)
    clear hs
    refine hK.out _ _ ⟨HS.out.cell 0,HS.out.cell 1,HS.out.cell 2⟩ (fun hS0=>?_)
    clear hK K
    refine rgn_both (i:=8) (j:=19) rfl rfl (by kernel_rfl) (fun K hK=>?_) (fun K hK=>?_)
    ·
     go_simp
     have hs:=HS.out.allocPt 5 #[.int .u8 (n:Int), .int .u8 (m:Int)]
     revert hs
     generalize World.alloc w14 _=w8
     generalize w14.heap.size=g8
     intro hs
     replace HS:Hid (Sat w (Pt E 120 #[.slice kA k.length kc, .slice vA v.length vc, .int .i64 (seq:Int), .bool dead]*(Pt g8 5 #[.int .u8 (n:Int), .int .u8 (m:Int)]*(Row 5 1 (.slice A12 (putB seq 8).length c12) (putB seq 8).length ((putB seq 8).map bv)*(Pt g14 5 #[.int .u8 (dn.toNat:Int)]*Emp)))) w8):=hs.of (by ac_rfl)
     clear hs
     refine hK.out _ _ ⟨HS.out.cell 0,HS.out.cell 1,HS.out.cell 2⟩ (fun hS0=>?_)
     clear hK K
     refine rck 19 fun K hK=>?_
     go_simp
     go_at_call 117
     refine (oput_any v.length 2 (by omega) (by omega) (by omega) w _ _ HS.out).mono ?_
     rintro x w19 ⟨A19,c19,rfl, -, -,hs⟩
     replace HS:Hid (Sat w (Pt E 120 #[.slice kA k.length kc, .slice vA v.length vc, .int .i64 (seq:Int), .bool dead]*(Pt g8 5 #[.int .u8 (n:Int), .int .u8 (m:Int)]*(Row 5 1 (.slice A12 (putB seq 8).length c12) (putB seq 8).length ((putB seq 8).map bv)*(Pt g14 5 #[.int .u8 (dn.toNat:Int)]*(Row 5 1 (.slice A19 (putB v.length 2).length c19) (putB v.length 2).length ((putB v.length 2).map bv)*Emp))))) w19):=hs.of (by ac_rfl)
     clear hs
     refine hK.out _ _ ⟨HS.out.cell 0,HS.out.cell 1,HS.out.cell 2⟩ (fun hS0=>?_)
     clear hK K
     refine rck 26 fun K hK=>?_
     go_simp
     have hs:=HS.out.allocPt 41 #[.slice (some ⟨g8,0,none⟩) 2 2, .slice A12 (putB seq 8).length c12, .slice (some ⟨g14,0,none⟩) 1 1, .slice A19 (putB v.length 2).length c19, .slice (if kc=n then kA else Option.map (fun x=>x.add n) kA) (k.length - n) (kc - n), .slice vA v.length vc]
     revert hs
     generalize World.alloc w19 _=w26
     generalize w19.heap.size=g26
     intro hs
     replace HS:Hid (Sat w (Pt E 120 #[.slice kA k.length kc, .slice vA v.length vc, .int .i64 (seq:Int), .bool dead]*(Pt g8 5 #[.int .u8 (n:Int), .int .u8 (m:Int)]*(Row 5 1 (.slice A12 (putB seq 8).length c12) (putB seq 8).length ((putB seq 8).map bv)*(Pt g14 5 #[.int .u8 (dn.toNat:Int)]*(Row 5 1 (.slice A19 (putB v.length 2).length c19) (putB v.length 2).length ((putB v.length 2).map bv)*(Pt g26 41 #[.slice (some ⟨g8,0,none⟩) 2 2, .slice A12 (putB seq 8).length c12, .slice (some ⟨g14,0,none⟩) 1 1, .slice A19 (putB v.length 2).length c19, .slice (if kc=n then kA else Option.map (fun x=>x.add n) kA) (k.length - n) (kc - n), .slice vA v.length vc]*Emp)))))) w26):=hs.of (by ac_rfl)
     clear hs
     refine hK.out _ _ ⟨HS.out.cell 0,HS.out.cell 1,HS.out.cell 2⟩ (fun hS0=>?_)
     clear hK K
     refine rck 27 fun K hK=>?_
     go_simp
     have hrl:=entRdl n m seq dn kA kc k vA vc v hnk hkl HM.out hkc w w26 _ g8 g14 g26 A12 c12 A19 c19 HS.out (HK.out.new HS.out.chg) (HV.out.new HS.out.chg)
     go_at_call 61
     refine (join_any (some ⟨g26,0,none⟩) 6 (entKs n m seq dn kA kc k vA vc v g8 g14 A12 c12 A19 c19) w26 hrl (entLen n m seq dn kA kc k vA vc v g8 g14 A12 c12 A19 c19 hkl hvl) (show 6≤140737488355328 by omega)).mono ?_
     rintro x w27 ⟨vv,rfl,ho,k27⟩
     rw [entFlat a.2.2 n m seq dn kA kc k vA vc v g8 g14 A12 c12 A19 c19 dead HN.out HM.out HDn.out] at ho
     obtain ⟨A27,c27,rfl, -⟩:=own_sl ho
     have HS27:=Lib.hid ((Sat.start w).gotRow (HS.out.chg.tr k27) (own_base ho HS.out.chg.size))
     replace HS:=Lib.hid (HS.out.new k27)
     clear hrl ho k27
     refine hK.out _ _ ⟨HS.out.cell 0,HS.out.cell 1,HS.out.cell 2⟩ (fun hS0=>?_)
     clear hK K
     refine rtk 28 ?_
     refine wpAnyH_done (by kernel_rfl) ?_ _
     go_wp2_with fail
     all_goals
      go_ret
      obtain ⟨B,d,e,h1,h2⟩:=HS27.out.row_sl
      injection e with e1 _ e2
      subst e1
      subst e2
      exact ⟨A27,c27,rfl,h1,h2,HS27.out⟩
    ·
     go_simp
     go_at_call 117
     refine (oput_any v.length 2 (by omega) (by omega) (by omega) w _ _ HS.out).mono ?_
     rintro x w19 ⟨A19,c19,rfl, -, -,hs⟩
     replace HS:Hid (Sat w (Pt E 120 #[.slice kA k.length kc, .slice vA v.length vc, .int .i64 (seq:Int), .bool dead]*(Row 5 1 (.slice A12 (putB seq 8).length c12) (putB seq 8).length ((putB seq 8).map bv)*(Pt g14 5 #[.int .u8 (dn.toNat:Int)]*(Row 5 1 (.slice A19 (putB v.length 2).length c19) (putB v.length 2).length ((putB v.length 2).map bv)*Emp)))) w19):=hs.of (by ac_rfl)
     clear hs
     refine hK.out _ _ ⟨HS.out.cell 0,HS.out.cell 1,HS.out.cell 2⟩ (fun hS0=>?_)
     clear hK K
     refine rck 8 fun K hK=>?_
     go_simp
     have hs:=HS.out.allocPt 5 #[.int .u8 (n:Int), .int .u8 (m:Int)]
     revert hs
     generalize World.alloc w19 _=w8
     generalize w19.heap.size=g8
     intro hs
     replace HS:Hid (Sat w (Pt E 120 #[.slice kA k.length kc, .slice vA v.length vc, .int .i64 (seq:Int), .bool dead]*(Pt g8 5 #[.int .u8 (n:Int), .int .u8 (m:Int)]*(Row 5 1 (.slice A12 (putB seq 8).length c12) (putB seq 8).length ((putB seq 8).map bv)*(Pt g14 5 #[.int .u8 (dn.toNat:Int)]*(Row 5 1 (.slice A19 (putB v.length 2).length c19) (putB v.length 2).length ((putB v.length 2).map bv)*Emp))))) w8):=hs.of (by ac_rfl)
     clear hs
     refine hK.out _ _ ⟨HS.out.cell 0,HS.out.cell 1,HS.out.cell 2⟩ (fun hS0=>?_)
     clear hK K
     refine rck 26 fun K hK=>?_
     go_simp
     have hs:=HS.out.allocPt 41 #[.slice (some ⟨g8,0,none⟩) 2 2, .slice A12 (putB seq 8).length c12, .slice (some ⟨g14,0,none⟩) 1 1, .slice A19 (putB v.length 2).length c19, .slice (if kc=n then kA else Option.map (fun x=>x.add n) kA) (k.length - n) (kc - n), .slice vA v.length vc]
     revert hs
     generalize World.alloc w8 _=w26
     generalize w8.heap.size=g26
     intro hs
     replace HS:Hid (Sat w (Pt E 120 #[.slice kA k.length kc, .slice vA v.length vc, .int .i64 (seq:Int), .bool dead]*(Pt g8 5 #[.int .u8 (n:Int), .int .u8 (m:Int)]*(Row 5 1 (.slice A12 (putB seq 8).length c12) (putB seq 8).length ((putB seq 8).map bv)*(Pt g14 5 #[.int .u8 (dn.toNat:Int)]*(Row 5 1 (.slice A19 (putB v.length 2).length c19) (putB v.length 2).length ((putB v.length 2).map bv)*(Pt g26 41 #[.slice (some ⟨g8,0,none⟩) 2 2, .slice A12 (putB seq 8).length c12, .slice (some ⟨g14,0,none⟩) 1 1, .slice A19 (putB v.length 2).length c19, .slice (if kc=n then kA else Option.map (fun x=>x.add n) kA) (k.length - n) (kc - n), .slice vA v.length vc]*Emp)))))) w26):=hs.of (by ac_rfl)
     clear hs
     refine hK.out _ _ ⟨HS.out.cell 0,HS.out.cell 1,HS.out.cell 2⟩ (fun hS0=>?_)
     clear hK K
     refine rck 27 fun K hK=>?_
     go_simp
     have hrl:=entRdl n m seq dn kA kc k vA vc v hnk hkl HM.out hkc w w26 _ g8 g14 g26 A12 c12 A19 c19 HS.out (HK.out.new HS.out.chg) (HV.out.new HS.out.chg)
     go_at_call 61
     refine (join_any (some ⟨g26,0,none⟩) 6 (entKs n m seq dn kA kc k vA vc v g8 g14 A12 c12 A19 c19) w26 hrl (entLen n m seq dn kA kc k vA vc v g8 g14 A12 c12 A19 c19 hkl hvl) (show 6≤140737488355328 by omega)).mono ?_
     rintro x w27 ⟨vv,rfl,ho,k27⟩
     rw [entFlat a.2.2 n m seq dn kA kc k vA vc v g8 g14 A12 c12 A19 c19 dead HN.out HM.out HDn.out] at ho
     obtain ⟨A27,c27,rfl, -⟩:=own_sl ho
     have HS27:=Lib.hid ((Sat.start w).gotRow (HS.out.chg.tr k27) (own_base ho HS.out.chg.size))
     replace HS:=Lib.hid (HS.out.new k27)
     clear hrl ho k27
     refine hK.out _ _ ⟨HS.out.cell 0,HS.out.cell 1,HS.out.cell 2⟩ (fun hS0=>?_)
     clear hK K
     refine rtk 28 ?_
     refine wpAnyH_done (by kernel_rfl) ?_ _
     go_wp2_with fail
     all_goals
      go_ret
      obtain ⟨B,d,e,h1,h2⟩:=HS27.out.row_sl
      injection e with e1 _ e2
      subst e1
      subst e2
      exact ⟨A27,c27,rfl,h1,h2,HS27.out⟩
   ·
    go_simp
    go_at_call 117
    refine (oput_any v.length 2 (by omega) (by omega) (by omega) w _ _ HS.out).mono ?_
    rintro x w19 ⟨A19,c19,rfl, -, -,hs⟩
    replace HS:Hid (Sat w (Pt E 120 #[.slice kA k.length kc, .slice vA v.length vc, .int .i64 (seq:Int), .bool dead]*(Row 5 1 (.slice A12 (putB seq 8).length c12) (putB seq 8).length ((putB seq 8).map bv)*(Row 5 1 (.slice A19 (putB v.length 2).length c19) (putB v.length 2).length ((putB v.length 2).map bv)*Emp))) w19):=hs.of (by ac_rfl)
    clear hs
    refine hK.out _ _ ⟨HS.out.cell 0,HS.out.cell 1,HS.out.cell 2⟩ (fun hS0=>?_)
    clear hK K
    refine rgn_both (i:=8) (j:=14) rfl rfl (by kernel_rfl) (fun K hK=>?_) (fun K hK=>?_)
    ·
     go_simp
     have hs:=HS.out.allocPt 5 #[.int .u8 (n:Int), .int .u8 (m:Int)]
     revert hs
     generalize World.alloc w19 _=w8
     generalize w19.heap.size=g8
     intro hs
     replace HS:Hid (Sat w (Pt E 120 #[.slice kA k.length kc, .slice vA v.length vc, .int .i64 (seq:Int), .bool dead]*(Pt g8 5 #[.int .u8 (n:Int), .int .u8 (m:Int)]*(Row 5 1 (.slice A12 (putB seq 8).length c12) (putB seq 8).length ((putB seq 8).map bv)*(Row 5 1 (.slice A19 (putB v.length 2).length c19) (putB v.length 2).length ((putB v.length 2).map bv)*Emp)))) w8):=hs.of (by ac_rfl)
     clear hs
     refine hK.out _ _ ⟨HS.out.cell 0,HS.out.cell 1,HS.out.cell 2⟩ (fun hS0=>?_)
     clear hK K
     refine rck 14 fun K hK=>?_
     go_simp
     have hs:=HS.out.allocPt 5 #[.int .u8 (dn.toNat:Int)]
     revert hs
     generalize World.alloc w8 _=w14
     generalize w8.heap.size=g14
     intro hs
     replace HS:Hid (Sat w (Pt E 120 #[.slice kA k.length kc, .slice vA v.length vc, .int .i64 (seq:Int), .bool dead]*(Pt g8 5 #[.int .u8 (n:Int), .int .u8 (m:Int)]*(Row 5 1 (.slice A12 (putB seq 8).length c12) (putB seq 8).length ((putB seq 8).map bv)*(Pt g14 5 #[.int .u8 (dn.toNat:Int)]*(Row 5 1 (.slice A19 (putB v.length 2).length c19) (putB v.length 2).length ((putB v.length 2).map bv)*Emp))))) w14):=hs.of (by ac_rfl)
     clear hs
     refine hK.out _ _ ⟨HS.out.cell 0,HS.out.cell 1,HS.out.cell 2⟩ (fun hS0=>?_)
     clear hK K
     refine rck 26 fun K hK=>?_
     go_simp
     have hs:=HS.out.allocPt 41 #[.slice (some ⟨g8,0,none⟩) 2 2, .slice A12 (putB seq 8).length c12, .slice (some ⟨g14,0,none⟩) 1 1, .slice A19 (putB v.length 2).length c19, .slice (if kc=n then kA else Option.map (fun x=>x.add n) kA) (k.length - n) (kc - n), .slice vA v.length vc]
     revert hs
     generalize World.alloc w14 _=w26
     generalize w14.heap.size=g26
     intro hs
     replace HS:Hid (Sat w (Pt E 120 #[.slice kA k.length kc, .slice vA v.length vc, .int .i64 (seq:Int), .bool dead]*(Pt g8 5 #[.int .u8 (n:Int), .int .u8 (m:Int)]*(Row 5 1 (.slice A12 (putB seq 8).length c12) (putB seq 8).length ((putB seq 8).map bv)*(Pt g14 5 #[.int .u8 (dn.toNat:Int)]*(Row 5 1 (.slice A19 (putB v.length 2).length c19) (putB v.length 2).length ((putB v.length 2).map bv)*(Pt g26 41 #[.slice (some ⟨g8,0,none⟩) 2 2, .slice A12 (putB seq 8).length c12, .slice (some ⟨g14,0,none⟩) 1 1, .slice A19 (putB v.length 2).length c19, .slice (if kc=n then kA else Option.map (fun x=>x.add n) kA) (k.length - n) (kc - n), .slice vA v.length vc]*Emp)))))) w26):=hs.of (by ac_rfl)
     clear hs
     refine hK.out _ _ ⟨HS.out.cell 0,HS.out.cell 1,HS.out.cell 2⟩ (fun hS0=>?_)
     clear hK K
     refine rck 27 fun K hK=>?_
     go_simp
     have hrl:=entRdl n m seq dn kA kc k vA vc v hnk hkl HM.out hkc w w26 _ g8 g14 g26 A12 c12 A19 c19 HS.out (HK.out.new HS.out.chg) (HV.out.new HS.out.chg)
     go_at_call 61
     refine (join_any (some ⟨g26,0,none⟩) 6 (entKs n m seq dn kA kc k vA vc v g8 g14 A12 c12 A19 c19) w26 hrl (entLen n m seq dn kA kc k vA vc v g8 g14 A12 c12 A19 c19 hkl hvl) (show 6≤140737488355328 by omega)).mono ?_
     rintro x w27 ⟨vv,rfl,ho,k27⟩
     rw [entFlat a.2.2 n m seq dn kA kc k vA vc v g8 g14 A12 c12 A19 c19 dead HN.out HM.out HDn.out] at ho
     obtain ⟨A27,c27,rfl, -⟩:=own_sl ho
     have HS27:=Lib.hid ((Sat.start w).gotRow (HS.out.chg.tr k27) (own_base ho HS.out.chg.size))
     replace HS:=Lib.hid (HS.out.new k27)
     clear hrl ho k27
     refine hK.out _ _ ⟨HS.out.cell 0,HS.out.cell 1,HS.out.cell 2⟩ (fun hS0=>?_)
     clear hK K
     refine rtk 28 ?_
     refine wpAnyH_done (by kernel_rfl) ?_ _
     go_wp2_with fail
     all_goals
      go_ret
      obtain ⟨B,d,e,h1,h2⟩:=HS27.out.row_sl
      injection e with e1 _ e2
      subst e1
      subst e2
      exact ⟨A27,c27,rfl,h1,h2,HS27.out⟩
    ·
     go_simp
     have hs:=HS.out.allocPt 5 #[.int .u8 (dn.toNat:Int)]
     revert hs
     generalize World.alloc w19 _=w14
     generalize w19.heap.size=g14
     intro hs
     replace HS:Hid (Sat w (Pt E 120 #[.slice kA k.length kc, .slice vA v.length vc, .int .i64 (seq:Int), .bool dead]*(Row 5 1 (.slice A12 (putB seq 8).length c12) (putB seq 8).length ((putB seq 8).map bv)*(Pt g14 5 #[.int .u8 (dn.toNat:Int)]*(Row 5 1 (.slice A19 (putB v.length 2).length c19) (putB v.length 2).length ((putB v.length 2).map bv)*Emp)))) w14):=hs.of (by ac_rfl)
     clear hs
     refine hK.out _ _ ⟨HS.out.cell 0,HS.out.cell 1,HS.out.cell 2⟩ (fun hS0=>?_)
     clear hK K
     refine rck 8 fun K hK=>?_
     go_simp
     have hs:=HS.out.allocPt 5 #[.int .u8 (n:Int), .int .u8 (m:Int)]
     revert hs
     generalize World.alloc w14 _=w8
     generalize w14.heap.size=g8
     intro hs
     replace HS:Hid (Sat w (Pt E 120 #[.slice kA k.length kc, .slice vA v.length vc, .int .i64 (seq:Int), .bool dead]*(Pt g8 5 #[.int .u8 (n:Int), .int .u8 (m:Int)]*(Row 5 1 (.slice A12 (putB seq 8).length c12) (putB seq 8).length ((putB seq 8).map bv)*(Pt g14 5 #[.int .u8 (dn.toNat:Int)]*(Row 5 1 (.slice A19 (putB v.length 2).length c19) (putB v.length 2).length ((putB v.length 2).map bv)*Emp))))) w8):=hs.of (by ac_rfl)
     clear hs
     refine hK.out _ _ ⟨HS.out.cell 0,HS.out.cell 1,HS.out.cell 2⟩ (fun hS0=>?_)
     clear hK K
     refine rck 26 fun K hK=>?_
     go_simp
     have hs:=HS.out.allocPt 41 #[.slice (some ⟨g8,0,none⟩) 2 2, .slice A12 (putB seq 8).length c12, .slice (some ⟨g14,0,none⟩) 1 1, .slice A19 (putB v.length 2).length c19, .slice (if kc=n then kA else Option.map (fun x=>x.add n) kA) (k.length - n) (kc - n), .slice vA v.length vc]
     revert hs
     generalize World.alloc w8 _=w26
     generalize w8.heap.size=g26
     intro hs
     replace HS:Hid (Sat w (Pt E 120 #[.slice kA k.length kc, .slice vA v.length vc, .int .i64 (seq:Int), .bool dead]*(Pt g8 5 #[.int .u8 (n:Int), .int .u8 (m:Int)]*(Row 5 1 (.slice A12 (putB seq 8).length c12) (putB seq 8).length ((putB seq 8).map bv)*(Pt g14 5 #[.int .u8 (dn.toNat:Int)]*(Row 5 1 (.slice A19 (putB v.length 2).length c19) (putB v.length 2).length ((putB v.length 2).map bv)*(Pt g26 41 #[.slice (some ⟨g8,0,none⟩) 2 2, .slice A12 (putB seq 8).length c12, .slice (some ⟨g14,0,none⟩) 1 1, .slice A19 (putB v.length 2).length c19, .slice (if kc=n then kA else Option.map (fun x=>x.add n) kA) (k.length - n) (kc - n), .slice vA v.length vc]*Emp)))))) w26):=hs.of (by ac_rfl)
     clear hs
     refine hK.out _ _ ⟨HS.out.cell 0,HS.out.cell 1,HS.out.cell 2⟩ (fun hS0=>?_)
     clear hK K
     refine rck 27 fun K hK=>?_
     go_simp
     have hrl:=entRdl n m seq dn kA kc k vA vc v hnk hkl HM.out hkc w w26 _ g8 g14 g26 A12 c12 A19 c19 HS.out (HK.out.new HS.out.chg) (HV.out.new HS.out.chg)
     go_at_call 61
     refine (join_any (some ⟨g26,0,none⟩) 6 (entKs n m seq dn kA kc k vA vc v g8 g14 A12 c12 A19 c19) w26 hrl (entLen n m seq dn kA kc k vA vc v g8 g14 A12 c12 A19 c19 hkl hvl) (show 6≤140737488355328 by omega)).mono ?_
     rintro x w27 ⟨vv,rfl,ho,k27⟩
     rw [entFlat a.2.2 n m seq dn kA kc k vA vc v g8 g14 A12 c12 A19 c19 dead HN.out HM.out HDn.out] at ho
     obtain ⟨A27,c27,rfl, -⟩:=own_sl ho
     have HS27:=Lib.hid ((Sat.start w).gotRow (HS.out.chg.tr k27) (own_base ho HS.out.chg.size))
     replace HS:=Lib.hid (HS.out.new k27)
     clear hrl ho k27
     refine hK.out _ _ ⟨HS.out.cell 0,HS.out.cell 1,HS.out.cell 2⟩ (fun hS0=>?_)
     clear hK K
     refine rtk 28 ?_
     refine wpAnyH_done (by kernel_rfl) ?_ _
     go_wp2_with fail
     all_goals
      go_ret
      obtain ⟨B,d,e,h1,h2⟩:=HS27.out.row_sl
      injection e with e1 _ e2
      subst e1
      subst e2
      exact ⟨A27,c27,rfl,h1,h2,HS27.out⟩
  ·
   go_simp
   have hs:=HS.out.allocPt 5 #[.int .u8 (dn.toNat:Int)]
   revert hs
   generalize World.alloc wd _=w14
   generalize wd.heap.size=g14
   intro hs
   replace HS:Hid (Sat w (Pt E 120 #[.slice kA k.length kc, .slice vA v.length vc, .int .i64 (seq:Int), .bool dead]*(Pt g14 5 #[.int .u8 (dn.toNat:Int)]*Emp)) w14):=hs.of (by ac_rfl)
   clear hs
   refine hK.out _ _ ⟨HS.out.cell 0,HS.out.cell 1,HS.out.cell 2⟩ (fun hS0=>?_)
   clear hK K
   refine rgn_both (i:=8) (j:=12) rfl rfl (by kernel_rfl) (fun K hK=>?_) (fun K hK=>?_)
   ·
    go_simp
    have hs:=HS.out.allocPt 5 #[.int .u8 (n:Int), .int .u8 (m:Int)]
    revert hs
    generalize World.alloc w14 _=w8
    generalize w14.heap.size=g8
    intro hs
    replace HS:Hid (Sat w (Pt E 120 #[.slice kA k.length kc, .slice vA v.length vc, .int .i64 (seq:Int), .bool dead]*(Pt g8 5 #[.int .u8 (n:Int), .int .u8 (m:Int)]*(Pt g14 5 #[.int .u8 (dn.toNat:Int)]*Emp))) w8):=hs.of (by ac_rfl)
    clear hs
    refine hK.out _ _ ⟨HS.out.cell 0,HS.out.cell 1,HS.out.cell 2⟩ (fun hS0=>?_)
    clear hK K
    refine rck 12 fun K hK=>?_
    go_simp
    go_at_call 117
    refine (oput_any seq 8 (by omega) (by omega) (by omega) w _ _ HS.out).mono ?_
    rintro x w12 ⟨A12,c12,rfl, -, -,hs⟩
    replace HS:Hid (Sat w (Pt E 120 #[.slice kA k.length kc, .slice vA v.length vc, .int .i64 (seq:Int), .bool dead]*(Pt g8 5 #[.int .u8 (n:Int), .int .u8 (m:Int)]*(Row 5 1 (.slice A12 (putB seq 8).length c12) (putB seq 8).length ((putB seq 8).map bv)*(Pt g14 5 #[.int .u8 (dn.toNat:Int)]*Emp)))) w12):=hs.of (by ac_rfl)
    clear hs
    refine hK.out _ _ ⟨HS.out.cell 0,HS.out.cell 1,HS.out.cell 2⟩ (fun hS0=>?_)
    clear hK K
    refine rck 19 fun K hK=>?_
    go_simp
    go_at_call 117
    refine (oput_any v.length 2 (by omega) (by omega) (by omega) w _ _ HS.out).mono ?_
    rintro x w19 ⟨A19,c19,rfl, -, -,hs⟩
    replace HS:Hid (Sat w (Pt E 120 #[.slice kA k.length kc, .slice vA v.length vc, .int .i64 (seq:Int), .bool dead]*(Pt g8 5 #[.int .u8 (n:Int), .int .u8 (m:Int)]*(Row 5 1 (.slice A12 (putB seq 8).length c12) (putB seq 8).length ((putB seq 8).map bv)*(Pt g14 5 #[.int .u8 (dn.toNat:Int)]*(Row 5 1 (.slice A19 (putB v.length 2).length c19) (putB v.length 2).length ((putB v.length 2).map bv)*Emp))))) w19):=hs.of (by ac_rfl)
    clear hs
    refine hK.out _ _ ⟨HS.out.cell 0,HS.out.cell 1,HS.out.cell 2⟩ (fun hS0=>?_)
    clear hK K
    refine rck 26 fun K hK=>?_
    go_simp
    have hs:=HS.out.allocPt 41 #[.slice (some ⟨g8,0,none⟩) 2 2, .slice A12 (putB seq 8).length c12, .slice (some ⟨g14,0,none⟩) 1 1, .slice A19 (putB v.length 2).length c19, .slice (if kc=n then kA else Option.map (fun x=>x.add n) kA) (k.length - n) (kc - n), .slice vA v.length vc]
    revert hs
    generalize World.alloc w19 _=w26
    generalize w19.heap.size=g26
    intro hs
    replace HS:Hid (Sat w (Pt E 120 #[.slice kA k.length kc, .slice vA v.length vc, .int .i64 (seq:Int), .bool dead]*(Pt g8 5 #[.int .u8 (n:Int), .int .u8 (m:Int)]*(Row 5 1 (.slice A12 (putB seq 8).length c12) (putB seq 8).length ((putB seq 8).map bv)*(Pt g14 5 #[.int .u8 (dn.toNat:Int)]*(Row 5 1 (.slice A19 (putB v.length 2).length c19) (putB v.length 2).length ((putB v.length 2).map bv)*(Pt g26 41 #[.slice (some ⟨g8,0,none⟩) 2 2, .slice A12 (putB seq 8).length c12, .slice (some ⟨g14,0,none⟩) 1 1, .slice A19 (putB v.length 2).length c19, .slice (if kc=n then kA else Option.map (fun x=>x.add n) kA) (k.length - n) (kc - n), .slice vA v.length vc]*Emp)))))) w26):=hs.of (by ac_rfl)
    clear hs
    refine hK.out _ _ ⟨HS.out.cell 0,HS.out.cell 1,HS.out.cell 2⟩ (fun hS0=>?_)
    clear hK K
    refine rck 27 fun K hK=>?_
    go_simp
    have hrl:=entRdl n m seq dn kA kc k vA vc v hnk hkl HM.out hkc w w26 _ g8 g14 g26 A12 c12 A19 c19 HS.out (HK.out.new HS.out.chg) (HV.out.new HS.out.chg)
    go_at_call 61
    refine (join_any (some ⟨g26,0,none⟩) 6 (entKs n m seq dn kA kc k vA vc v g8 g14 A12 c12 A19 c19) w26 hrl (entLen n m seq dn kA kc k vA vc v g8 g14 A12 c12 A19 c19 hkl hvl) (show 6≤140737488355328 by omega)).mono ?_
    rintro x w27 ⟨vv,rfl,ho,k27⟩
    rw [entFlat a.2.2 n m seq dn kA kc k vA vc v g8 g14 A12 c12 A19 c19 dead HN.out HM.out HDn.out] at ho
    obtain ⟨A27,c27,rfl, -⟩:=own_sl ho
    have HS27:=Lib.hid ((Sat.start w).gotRow (HS.out.chg.tr k27) (own_base ho HS.out.chg.size))
    replace HS:=Lib.hid (HS.out.new k27)
    clear hrl ho k27
    refine hK.out _ _ ⟨HS.out.cell 0,HS.out.cell 1,HS.out.cell 2⟩ (fun hS0=>?_)
    clear hK K
    refine rtk 28 ?_
    refine wpAnyH_done (by kernel_rfl) ?_ _
    go_wp2_with fail
    all_goals
     go_ret
     obtain ⟨B,d,e,h1,h2⟩:=HS27.out.row_sl
     injection e with e1 _ e2
     subst e1
     subst e2
     exact ⟨A27,c27,rfl,h1,h2,HS27.out⟩
   ·
    go_simp
    go_at_call 117
    refine (oput_any seq 8 (by omega) (by omega) (by omega) w _ _ HS.out).mono ?_
    rintro x w12 ⟨A12,c12,rfl, -, -,hs⟩
    replace HS:Hid (Sat w (Pt E 120 #[.slice kA k.length kc, .slice vA v.length vc, .int .i64 (seq:Int), .bool dead]*(Row 5 1 (.slice A12 (putB seq 8).length c12) (putB seq 8).length ((putB seq 8).map bv)*(Pt g14 5 #[.int .u8 (dn.toNat:Int)]*Emp))) w12):=hs.of (by ac_rfl)
    clear hs
    refine hK.out _ _ ⟨HS.out.cell 0,HS.out.cell 1,HS.out.cell 2⟩ (fun hS0=>?_)
    clear hK K
    refine rgn_both (i:=8) (j:=19) rfl rfl (by kernel_rfl) (fun K hK=>?_) (fun K hK=>?_)
    ·
     go_simp
     have hs:=HS.out.allocPt 5 #[.int .u8 (n:Int), .int .u8 (m:Int)]
     revert hs
     generalize World.alloc w12 _=w8
     generalize w12.heap.size=g8
     intro hs
     replace HS:Hid (Sat w (Pt E 120 #[.slice kA k.length kc, .slice vA v.length vc, .int .i64 (seq:Int), .bool dead]*(Pt g8 5 #[.int .u8 (n:Int), .int .u8 (m:Int)]*(Row 5 1 (.slice A12 (putB seq 8).length c12) (putB seq 8).length ((putB seq 8).map bv)*(Pt g14 5 #[.int .u8 (dn.toNat:Int)]*Emp)))) w8):=hs.of (by ac_rfl)
     clear hs
     refine hK.out _ _ ⟨HS.out.cell 0,HS.out.cell 1,HS.out.cell 2⟩ (fun hS0=>?_)
     clear hK K
     refine rck 19 fun K hK=>?_
     go_simp
     go_at_call 117
     refine (oput_any v.length 2 (by omega) (by omega) (by omega) w _ _ HS.out).mono ?_
     rintro x w19 ⟨A19,c19,rfl, -, -,hs⟩
     replace HS:Hid (Sat w (Pt E 120 #[.slice kA k.length kc, .slice vA v.length vc, .int .i64 (seq:Int), .bool dead]*(Pt g8 5 #[.int .u8 (n:Int), .int .u8 (m:Int)]*(Row 5 1 (.slice A12 (putB seq 8).length c12) (putB seq 8).length ((putB seq 8).map bv)*(Pt g14 5 #[.int .u8 (dn.toNat:Int)]*(Row 5 1 (.slice A19 (putB v.length 2).length c19) (putB v.length 2).length ((putB v.length 2).map bv)*Emp))))) w19):=hs.of (by ac_rfl)
     clear hs
     refine hK.out _ _ ⟨HS.out.cell 0,HS.out.cell 1,HS.out.cell 2⟩ (fun hS0=>?_)
     clear hK K
     refine rck 26 fun K hK=>?_
     go_simp
     have hs:=HS.out.allocPt 41 #[.slice (some ⟨g8,0,none⟩) 2 2, .slice A12 (putB seq 8).length c12, .slice (some ⟨g14,0,none⟩) 1 1, .slice A19 (putB v.length 2).length c19, .slice (if kc=n then kA else Option.map (fun x=>x.add n) kA) (k.length - n) (kc - n), .slice vA v.length vc]
     revert hs
     generalize World.alloc w19 _=w26
     generalize w19.heap.size=g26
     intro hs
     replace HS:Hid (Sat w (Pt E 120 #[.slice kA k.length kc, .slice vA v.length vc, .int .i64 (seq:Int), .bool dead]*(Pt g8 5 #[.int .u8 (n:Int), .int .u8 (m:Int)]*(Row 5 1 (.slice A12 (putB seq 8).length c12) (putB seq 8).length ((putB seq 8).map bv)*(Pt g14 5 #[.int .u8 (dn.toNat:Int)]*(Row 5 1 (.slice A19 (putB v.length 2).length c19) (putB v.length 2).length ((putB v.length 2).map bv)*(Pt g26 41 #[.slice (some ⟨g8,0,none⟩) 2 2, .slice A12 (putB seq 8).length c12, .slice (some ⟨g14,0,none⟩) 1 1, .slice A19 (putB v.length 2).length c19, .slice (if kc=n then kA else Option.map (fun x=>x.add n) kA) (k.length - n) (kc - n), .slice vA v.length vc]*Emp)))))) w26):=hs.of (by ac_rfl)
     clear hs
     refine hK.out _ _ ⟨HS.out.cell 0,HS.out.cell 1,HS.out.cell 2⟩ (fun hS0=>?_)
     clear hK K
     refine rck 27 fun K hK=>?_
     go_simp
     have hrl:=entRdl n m seq dn kA kc k vA vc v hnk hkl HM.out hkc w w26 _ g8 g14 g26 A12 c12 A19 c19 HS.out (HK.out.new HS.out.chg) (HV.out.new HS.out.chg)
     go_at_call 61
     refine (join_any (some ⟨g26,0,none⟩) 6 (entKs n m seq dn kA kc k vA vc v g8 g14 A12 c12 A19 c19) w26 hrl (entLen n m seq dn kA kc k vA vc v g8 g14 A12 c12 A19 c19 hkl hvl) (show 6≤140737488355328 by omega)).mono ?_
     rintro x w27 ⟨vv,rfl,ho,k27⟩
     rw [entFlat a.2.2 n m seq dn kA kc k vA vc v g8 g14 A12 c12 A19 c19 dead HN.out HM.out HDn.out] at ho
     obtain ⟨A27,c27,rfl, -⟩:=own_sl ho
     have HS27:=Lib.hid ((Sat.start w).gotRow (HS.out.chg.tr k27) (own_base ho HS.out.chg.size))
     replace HS:=Lib.hid (HS.out.new k27)
     clear hrl ho k27
     refine hK.out _ _ ⟨HS.out.cell 0,HS.out.cell 1,HS.out.cell 2⟩ (fun hS0=>?_)
     clear hK K
     refine rtk 28 ?_
     refine wpAnyH_done (by kernel_rfl) ?_ _
     go_wp2_with fail
     all_goals
      go_ret
      obtain ⟨B,d,e,h1,h2⟩:=HS27.out.row_sl
      injection e with e1 _ e2
      subst e1
      subst e2
      exact ⟨A27,c27,rfl,h1,h2,HS27.out⟩
    ·
     go_simp
     go_at_call 117
     refine (oput_any v.length 2 (by omega) (by omega) (by omega) w _ _ HS.out).mono ?_
     rintro x w19 ⟨A19,c19,rfl, -, -,hs⟩
     replace HS:Hid (Sat w (Pt E 120 #[.slice kA k.length kc, .slice vA v.length vc, .int .i64 (seq:Int), .bool dead]*(Row 5 1 (.slice A12 (putB seq 8).length c12) (putB seq 8).length ((putB seq 8).map bv)*(Pt g14 5 #[.int .u8 (dn.toNat:Int)]*(Row 5 1 (.slice A19 (putB v.length 2).length c19) (putB v.length 2).length ((putB v.length 2).map bv)*Emp)))) w19):=hs.of (by ac_rfl)
     clear hs
     refine hK.out _ _ ⟨HS.out.cell 0,HS.out.cell 1,HS.out.cell 2⟩ (fun hS0=>?_)
     clear hK K
     refine rck 8 fun K hK=>?_
     go_simp
     have hs:=HS.out.allocPt 5 #[.int .u8 (n:Int), .int .u8 (m:Int)]
     revert hs
     generalize World.alloc w19 _=w8
     generalize w19.heap.size=g8
     intro hs
     replace HS:Hid (Sat w (Pt E 120 #[.slice kA k.length kc, .slice vA v.length vc, .int .i64 (seq:Int), .bool dead]*(Pt g8 5 #[.int .u8 (n:Int), .int .u8 (m:Int)]*(Row 5 1 (.slice A12 (putB seq 8).length c12) (putB seq 8).length ((putB seq 8).map bv)*(Pt g14 5 #[.int .u8 (dn.toNat:Int)]*(Row 5 1 (.slice A19 (putB v.length 2).length c19) (putB v.length 2).length ((putB v.length 2).map bv)*Emp))))) w8):=hs.of (by ac_rfl)
     clear hs
     refine hK.out _ _ ⟨HS.out.cell 0,HS.out.cell 1,HS.out.cell 2⟩ (fun hS0=>?_)
     clear hK K
     refine rck 26 fun K hK=>?_
     go_simp
     have hs:=HS.out.allocPt 41 #[.slice (some ⟨g8,0,none⟩) 2 2, .slice A12 (putB seq 8).length c12, .slice (some ⟨g14,0,none⟩) 1 1, .slice A19 (putB v.length 2).length c19, .slice (if kc=n then kA else Option.map (fun x=>x.add n) kA) (k.length - n) (kc - n), .slice vA v.length vc]
     revert hs
     generalize World.alloc w8 _=w26
     generalize w8.heap.size=g26
     intro hs
     replace HS:Hid (Sat w (Pt E 120 #[.slice kA k.length kc, .slice vA v.length vc, .int .i64 (seq:Int), .bool dead]*(Pt g8 5 #[.int .u8 (n:Int), .int .u8 (m:Int)]*(Row 5 1 (.slice A12 (putB seq 8).length c12) (putB seq 8).length ((putB seq 8).map bv)*(Pt g14 5 #[.int .u8 (dn.toNat:Int)]*(Row 5 1 (.slice A19 (putB v.length 2).length c19) (putB v.length 2).length ((putB v.length 2).map bv)*(Pt g26 41 #[.slice (some ⟨g8,0,none⟩) 2 2, .slice A12 (putB seq 8).length c12, .slice (some ⟨g14,0,none⟩) 1 1, .slice A19 (putB v.length 2).length c19, .slice (if kc=n then kA else Option.map (fun x=>x.add n) kA) (k.length - n) (kc - n), .slice vA v.length vc]*Emp)))))) w26):=hs.of (by ac_rfl)
     clear hs
     refine hK.out _ _ ⟨HS.out.cell 0,HS.out.cell 1,HS.out.cell 2⟩ (fun hS0=>?_)
     clear hK K
     refine rck 27 fun K hK=>?_
     go_simp
     have hrl:=entRdl n m seq dn kA kc k vA vc v hnk hkl HM.out hkc w w26 _ g8 g14 g26 A12 c12 A19 c19 HS.out (HK.out.new HS.out.chg) (HV.out.new HS.out.chg)
     go_at_call 61
     refine (join_any (some ⟨g26,0,none⟩) 6 (entKs n m seq dn kA kc k vA vc v g8 g14 A12 c12 A19 c19) w26 hrl (entLen n m seq dn kA kc k vA vc v g8 g14 A12 c12 A19 c19 hkl hvl) (show 6≤140737488355328 by omega)).mono ?_
     rintro x w27 ⟨vv,rfl,ho,k27⟩
     rw [entFlat a.2.2 n m seq dn kA kc k vA vc v g8 g14 A12 c12 A19 c19 dead HN.out HM.out HDn.out] at ho
     obtain ⟨A27,c27,rfl, -⟩:=own_sl ho
     have HS27:=Lib.hid ((Sat.start w).gotRow (HS.out.chg.tr k27) (own_base ho HS.out.chg.size))
     replace HS:=Lib.hid (HS.out.new k27)
     clear hrl ho k27
     refine hK.out _ _ ⟨HS.out.cell 0,HS.out.cell 1,HS.out.cell 2⟩ (fun hS0=>?_)
     clear hK K
     refine rtk 28 ?_
     refine wpAnyH_done (by kernel_rfl) ?_ _
     go_wp2_with fail
     all_goals
      go_ret
      obtain ⟨B,d,e,h1,h2⟩:=HS27.out.row_sl
      injection e with e1 _ e2
      subst e1
      subst e2
      exact ⟨A27,c27,rfl,h1,h2,HS27.out⟩
theorem entB_any (a:Slc) (e:En) (w0 w:World) (F:SP) (h:Sat w0 F w) (ha:Rd w a.1 a.2.2) (he:EnR w e) (hal:a.2.2.length≤128) (hkl:e.key.2.2.length≤128) (hkc:e.key.2.2.length≤e.key.2.1) (hkm:e.key.2.1≤maxLen) (hvl:e.value.2.2.length≤16384) (hsq:0≤e.seq∧e.seq<9223372036854775808):
  Calls Tryz.prog 179 #[.slice a.1 a.2.2.length a.2.1,enA e] w (NewB w0 F (entB a.2.2 e.ent)):=by
 obtain ⟨⟨kA,kc,k⟩,⟨vA,vc,v⟩,seq,dead⟩:=e
 obtain ⟨q,rfl⟩: ∃ q:Nat,seq=(q:Int):=⟨seq.toNat,(Int.toNat_of_nonneg hsq.1).symm⟩
 exact (entB0 a kA kc k vA vc v q dead w ha he.1 he.2 hal hkl hkc hkm hvl (by have h9:(q:Int)<9223372036854775808:=hsq.2;omega)).mono fun _ _ hx=>hx.lift h
theorem takeP_len' (n:Nat) (q:List UInt8) (s:Bool):(takeP n q s).1.length≤n:=by
 unfold takeP
 split
 ·simp;omega
 ·simp;omega
theorem takeP_len (n:Nat) (hn:n≤8) (q:List UInt8) (s:Bool):(takeP n q s).1.length≤n:=by
 unfold takeP
 split
 ·simp;omega
 ·simp;omega
theorem takeP_le (n:Nat) (q:List UInt8) (s:Bool):(takeP n q s).2.1.length≤q.length:=by
 unfold takeP
 split
 ·simp
 ·simp
theorem Rdr.allocP {w0 w:World} {R:Nat} {F:SP} {q:List UInt8} {s:Bool} (h:Rdr w0 R F q s w) (t:TypeId) (cs:Array Value):Rdr w0 R (Pt w.heap.size t cs*F) q s (w.alloc (.cells cs t)):=by
 obtain ⟨A,c,hs,h1,h2⟩:=h
 exact ⟨A,c,(hs.allocPt t cs).up2,h1,h2⟩
theorem wrap_num {n:Nat} (hn:n≤7) {q:List UInt8} {s:Bool} {T:List UInt8 × List UInt8 × Bool} (h:takeP n q s=T):IntKind.i64.wrap (getN T.1:Int)=(getN T.1:Int):=by
 have h1:=takeP_len n (by omega) q s
 rw [h] at h1
 have h2:=getN_lt56 T.1 (by omega)
 rw [IntKind.wrap_i64]
 omega
set_option maxHeartbeats 1000000 in
theorem number_any (n:Nat) (m:Int) (hm:m=n) (hn:n≤8) (R:Nat) (F:SP) (q:List UInt8) (s:Bool) (T:List UInt8 × List UInt8 × Bool) (z:Int) (w0 w:World) (h:Rdr w0 R F q s w) (hT:takeP n q s=T) (hz:IntKind.i64.wrap (getN T.1:Int)=z) (hql:q.length≤140737488355328):
  Calls Tryz.prog 140 #[.pointer (some ⟨R,0,none⟩), .int .i64 m] w fun e w'=>e = .returned (.int .i64 z)∧Rdr w0 R F T.2.1 T.2.2 w':=by
 subst hm
 have H:=Lib.hid h
 have HZ:=Lib.hid hz
 have hl:=takeP_len n hn q s
 have HT:=Lib.hid hT
 rw [hT] at hl
 clear h hz hT
 have hw:IntKind.i64.wrap (getN T.1:Int)=z:=HZ.out
 go_enter Tryz.func140, Tryz.ntmps140
 go_wp2_with (first
  | (go_at_call 139;refine (take_any n (by omega) R F q s w0 w H.out hql).mono ?_;rintro x w1 ⟨B,d,rfl,hr, -, -, -,hR⟩;rw [HT.out] at hr hR ⊢;have HR:=Lib.hid hr;have HW:=Lib.hid hR;clear hr hR)
  | (go_at_call 105;refine (oget_any B d T.1 w1 HR.out (by omega)).mono ?_;rintro x w2 ⟨rfl,rfl⟩))
 go_ret
 exact ⟨rfl,HW.out⟩
def entP (al:List UInt8) (q:List UInt8) (s:Bool):Ent × List UInt8 × Bool:=
 let t1:=takeP 1 q s
 let t2:=takeP 1 t1.2.1 t1.2.2
 let t3:=takeP 8 t2.2.1 t2.2.2
 let t4:=takeP 1 t3.2.1 t3.2.2
 let t5:=takeP 2 t4.2.1 t4.2.2
 let t6:=takeP (getN t2.1) t5.2.1 (t5.2.2 || decide (al.length<getN t1.1))
 let t7:=takeP (getN t5.1) t6.2.1 t6.2.2
 (⟨if t6.2.2 then [] else al.take (getN t1.1)++t6.1,t7.1,IntKind.i64.wrap (getN t3.1:Int),decide (getN t4.1=1)⟩,t7.2)
end Go.Proofs.YtmbaiglpgaoogaaGreat
