/- Joined, as they were built one by one: TabEnt TabRd2 TabRd3 TabFlt TabCont. -/
import Derived.Test.YtmbaiglpgaoogaaGreatW01
import Derived.Test.YtmbaiglpgaoogaaGreatW02
import Derived.Test.YtmbaiglpgaoogaaGreatW04
import Derived.Test.YtmbaiglpgaoogaaGreatW13
set_option maxHeartbeats 16000000
set_option linter.unusedVariables false
set_option maxRecDepth 100000
namespace Go.Proofs.YtmbaiglpgaoogaaGreat
open Go.RowKit Z
theorem Gr {w0 w:World} {S:SP} (a b:du) (h:Sat w0 S w) (ha:Rd w a.1 a.2.2) (hb:Rd w b.1 b.2.2) (hl:a.2.2.length<=1000000):
 Calls Tryz.prog 197 #[.slice a.1 a.2.2.length a.2.1,.slice b.1 b.2.2.length b.2.1] w fun x w'=>x = .returned (.int .i64 (bJ a.2.2 b.2.2:Nat))/\Sat w0 S w':=by
 refine(yI a b w ha hb hl).mono ?_;rintro x w' ⟨rfl,k⟩;exact⟨rfl,h.new k⟩
def mB (n m seq:Nat) (dn:UInt8) (kA:Option Addr) (kc:Nat) (k:List UInt8) (vA:Option Addr) (vc:Nat) (v:List UInt8) (g8 g14:Nat) (A12:Option Addr) (c12:Nat) (A19:Option Addr) (c19:Nat):bY:=
 [(some ⟨g8,0,none⟩,2,[UInt8.ofNat n,UInt8.ofNat m]),(A12,c12,ai seq 8),(some ⟨g14,0,none⟩,1,[dn]),(A19,c19,ai v.length 2),((if kc=n then kA else Option.map (fun x=>x.add n) kA),kc - n,k.drop n),(vA,vc,v)]
theorem I1 (n m seq:Nat) (dn:UInt8) (kA:Option Addr) (kc:Nat) (k:List UInt8) (vA:Option Addr) (vc:Nat) (v:List UInt8) (hnk:n<=k.length) (hkl:k.length<=128) (hm:m=k.length - n) (hkc:k.length<=kc) (w w26:World) (PE:SP) (g8 g14 g26:Nat) (A12:Option Addr) (c12:Nat) (A19:Option Addr) (c19:Nat)
 (hs:Sat w (PE*(Pt g8 5 #[.int .u8 (n:Int),.int .u8 (m:Int)]*(Row 5 1 (.slice A12 (ai seq 8).length c12) (ai seq 8).length ((ai seq 8).map bv)*(Pt g14 5 #[.int .u8 (dn.toNat:Int)]*(Row 5 1 (.slice A19 (ai v.length 2).length c19) (ai v.length 2).length ((ai v.length 2).map bv)*(Pt g26 41 #[.slice (some ⟨g8,0,none⟩) 2 2,.slice A12 (ai seq 8).length c12,.slice (some ⟨g14,0,none⟩) 1 1,.slice A19 (ai v.length 2).length c19,.slice (if kc=n then kA else Option.map (fun x=>x.add n) kA) (k.length - n) (kc - n),.slice vA v.length vc]*bF)))))) w26)
 (hk:Rd w26 kA k) (hv:Rd w26 vA v):rm w26 (some ⟨g26,0,none⟩) (mB n m seq dn kA kc k vA vc v g8 g14 A12 c12 A19 c19):=by
 refine⟨?_,fun x hx=>?_⟩
 .have e:(mB n m seq dn kA kc k vA vc v g8 g14 A12 c12 A19 c19).map aI=(#[.slice (some ⟨g8,0,none⟩) 2 2,.slice A12 (ai seq 8).length c12,.slice (some ⟨g14,0,none⟩) 1 1,.slice A19 (ai v.length 2).length c19,.slice (if kc=n then kA else Option.map (fun x=>x.add n) kA) (k.length - n) (kc - n),.slice vA v.length vc]:Array Value).toList:=by simp[mB,aI]
  rw[e];exact aF.je hs.Cd.at fun j hj=>by rw[<-Array.getElem?_toList,List.getElem?_eq_getElem hj]
 .have h8:Rd w26 (some ⟨g8,0,none⟩) [UInt8.ofNat n,UInt8.ofNat m]:=aF.je hs.ay.at fun j hj=>by
   have hn:((UInt8.ofNat n).toNat:Int)=n:=by rw[UInt8.toNat_ofNat',Nat.mod_eq_of_lt (by omega)]
   have hmm:((UInt8.ofNat m).toNat:Int)=m:=by rw[UInt8.toNat_ofNat',Nat.mod_eq_of_lt (by omega)]
   have e:([UInt8.ofNat n,UInt8.ofNat m].map bv)=[.int .u8 (n:Int),.int .u8 (m:Int)]:=by
    unfold bv;rw[List.map_cons,List.map_cons,List.map_nil,hn,hmm]
   simp only[e];rw[<-List.getElem?_eq_getElem (by rw[e] at hj;exact hj)];simp
  have h14:Rd w26 (some ⟨g14,0,none⟩) [dn]:=aF.je hs.bL.at fun j hj=>by
   simp at hj;subst hj;rfl
  have h12:Rd w26 A12 (ai seq 8):=aF.bG hs.bp.aO;have h19:Rd w26 A19 (ai v.length 2):=aF.bG hs.fN.aO;have hd:Rd w26 (if kc=n then kA else Option.map (fun x=>x.add n) kA) (k.drop n):=hk.drop hnk hkc;unfold mB at hx;simp only[List.mem_cons,List.not_mem_nil,or_false] at hx;rcases hx with rfl | rfl | rfl | rfl | rfl | rfl
  .exact h8
  .exact h12
  .exact h14
  .exact h19
  .exact hd
  .exact hv
theorem IV (n m seq:Nat) (dn:UInt8) (kA:Option Addr) (kc:Nat) (k:List UInt8) (vA:Option Addr) (vc:Nat) (v:List UInt8) (g8 g14:Nat) (A12:Option Addr) (c12:Nat) (A19:Option Addr) (c19:Nat) (hkl:k.length<=128) (hvl:v.length<=16384):
 (bK (mB n m seq dn kA kc k vA vc v g8 g14 A12 c12 A19 c19)).flatten.length<=140737488355328:=by
 simp[bK,mB,aw];omega
theorem GL (al:List UInt8) (n m seq:Nat) (dn:UInt8) (kA:Option Addr) (kc:Nat) (k:List UInt8) (vA:Option Addr) (vc:Nat) (v:List UInt8) (g8 g14:Nat) (A12:Option Addr) (c12:Nat) (A19:Option Addr) (c19:Nat) (dead:Bool) (hn:n=bJ al k) (hm:m=k.length - n) (hd:dn=if dead then 1 else 0):
 (bK (mB n m seq dn kA kc k vA vc v g8 g14 A12 c12 A19 c19)).flatten=jI al ⟨k,v,(seq:Int),dead⟩:=by
 subst hn;subst hm;subst hd;simp[bK,mB,jI]
theorem xz.lift {w0 w w':World} {F:SP} {l:List UInt8} {e:Ending} (h:Sat w0 F w) (k:xz w bF l e w'):xz w0 F l e w':=by
 obtain⟨A,c,rfl,h1,h2,hs⟩:=k;exact⟨A,c,rfl,h1,h2,h.dP hs.aL hs.aO⟩
def eA (g n m:Nat):SP:=Pt g 5 #[.int .u8 (n:Int),.int .u8 (m:Int)]
def eB (g:Nat) (dn:UInt8):SP:=Pt g 5 #[.int .u8 (dn.toNat:Int)]
def eR (A:Option Addr) (c:Nat) (l:List UInt8):SP:=Row 5 1 (.slice A l.length c) l.length (l.map bv)
theorem JU (a:du) (kA:Option Addr) (kc:Nat) (k:List UInt8) (vA:Option Addr) (vc:Nat) (v:List UInt8) (seq:Nat) (dead:Bool) (w:World) (ha:Rd w a.1 a.2.2) (hk:Rd w kA k) (hv:Rd w vA v)
 (hal:a.2.2.length<=128) (hkl:k.length<=128) (hkc:k.length<=kc) (hkm:kc<=maxLen) (hvl:v.length<=16384) (hsq:seq<9223372036854775808):
 Calls Tryz.prog 179 #[.slice a.1 a.2.2.length a.2.1,.agg #[.slice kA k.length kc,.slice vA v.length vc,.int .i64 (seq:Int),.bool dead]] w (xz w bF (jI a.2.2 ⟨k,v,seq,dead⟩)):=by
 have h:=Sat.start w;obtain⟨n,hn⟩: ∃ n,n=bJ a.2.2 k:=⟨_,rfl⟩;have hnk:n<=k.length:=by rw[hn];exact(mh _ _).2
 have hs0:=h.ab 120 #[.slice kA k.length kc,.slice vA v.length vc,.int .i64 (seq:Int),.bool dead];have c0:=hs0.cell 0;have c1:=hs0.cell 1;have c2:=hs0.cell 2;have c3:=hs0.cell 3;have K0:=(ao.refl No w).alloc (.cells #[.slice kA k.length kc,.slice vA v.length vc,.int .i64 (seq:Int),.bool dead] 120);have HA:=ah ha;have HK:=ah hk;have HV:=ah hv;have HA0:=ah (ha.new K0);have HK0:=ah (hk.new K0);have HS:=ah hs0;have HN:=ah hn;unfold maxLen at hkm;clear h ha hk hv hs0 K0 hn;go_enter Tryz.func179, Tryz.ntmps179;go_upto_if 12 with (go_at_call 197;refine(Gr a (kA,kc,k) HS.o HA0.o HK0.o (by omega)).mono ?_;rintro x w1 ⟨rfl,hs1⟩;have d3:=hs1.cell 3;have HS1:=ah hs1;clear hs1)
 rw[<-HN.o];obtain⟨E,hE⟩: ∃ E,E=w.heap.size:=⟨_,rfl⟩;rw[<-hE] at HS1 d3;rw[<-hE];have HE:=ah hE;clear hE HS c0 c1 c2 c3;obtain⟨dn,hdn⟩: ∃ dn:UInt8,dn=if dead then 1 else 0:=⟨_,rfl⟩;have HDn:=ah hdn;clear hdn;go_cut [6] from 7 (fun fv wx=>fv = .int .u8 (dn.toNat:Int)/\wx=w1)
 case first=>
  cases dead
  .go_wp2_with fail;go_meet
   exact⟨by rw[HDn.o];rfl,rfl⟩
  .go_wp2_with fail;go_meet
   exact⟨by rw[HDn.o];rfl,rfl⟩
 case rest=>
  obtain⟨rfl,rfl⟩:=hcut;obtain⟨m,hm⟩: ∃ m,m=k.length - n:=⟨_,rfl⟩;have hsub:(k.length:Int) - (n:Int)=(m:Int):=by omega
  have hw1:IntKind.u8.wrap (n:Int)=n:=by rw[IntKind.wrap_u8];omega
  have hw2:IntKind.u8.wrap (m:Int)=m:=by rw[IntKind.wrap_u8];omega
  have hw3:IntKind.u64.wrap (seq:Int)=seq:=by rw[IntKind.wrap_u64];omega
  have hw4:IntKind.u64.wrap (v.length:Int)=v.length:=by rw[IntKind.wrap_u64];omega
  have hw5:IntKind.i64.wrap (m:Int)=m:=by rw[IntKind.wrap_i64];omega
  have HM:=ah hm;have HSd:=ah HS1.o.drew;clear hm;go_upto_region 5 with fail;obtain⟨PE,hPE⟩: ∃ PE,PE=Pt E 120 #[.slice kA k.length kc,.slice vA v.length vc,.int .i64 (seq:Int),.bool dead]:=⟨_,rfl⟩;rw[<-hPE] at HSd;have HC:Hid (∀ X w',Sat w (PE*X) w'->w'.cell? ⟨E,0,none⟩=some (.slice kA k.length kc)/\w'.cell? ⟨E,1,none⟩=some (.slice vA v.length vc)/\w'.cell? ⟨E,2,none⟩=some (.int .i64 (seq:Int))):=ah fun X w' hW=>by rw[hPE] at hW;exact⟨hW.cell 0,hW.cell 1,hW.cell 2⟩
  clear hPE;refine wp_region_held_drew (S:=fun w'=>w'.cell? ⟨E,0,none⟩=some (.slice kA k.length kc)/\w'.cell? ⟨E,1,none⟩=some (.slice vA v.length vc)/\w'.cell? ⟨E,2,none⟩=some (.int .i64 (seq:Int))) (by kernel_rfl) (HC.o _ _ HSd.o) ?_;intro hS0;revert hS0 HSd;generalize wc.drew=wd;intro HS hS0;refine an 0 1 2 3 ?_;refine an 4 5 6 7 ?_;refine an 9 10 11 13 ?_;refine an 15 16 17 18 ?_;refine an 20 21 22 23 ?_;refine cw 24 25 ?_;refine lA (i:=8) (j:=12) (k:=14) rfl rfl rfl (by kernel_rfl) (fun K hK=>?_) (fun K hK=>?_) (fun K hK=>?_);go_simp;have hs:=HS.o.ab 5 #[.int .u8 (n:Int),.int .u8 (m:Int)];revert hs;generalize World.alloc wd _=w8;generalize wd.heap.size=g8;intro hs;replace HS:Hid (Sat w (PE*(eA g8 n m*bF)) w8):=hs.of (show eA g8 n m*_=_ by ac_rfl);clear hs;refine hK.out _ _ (HC.o _ _ HS.o) (fun hS0=>?_);clear hK K;refine bM (i:=12) (j:=14) rfl rfl (by kernel_rfl) (fun K hK=>?_) (fun K hK=>?_);go_simp;go_at_call 117
  refine(bS seq 8 (by omega) (by omega) (by omega) w _ _ HS.o).mono ?_;rintro x w12 ⟨A12,c12,rfl, -, -,hs⟩;replace HS:Hid (Sat w (PE*(eA g8 n m*(eR A12 c12 (ai seq 8)*bF))) w12):=hs.of (show eR A12 c12 (ai seq 8)*_=_ by ac_rfl);clear hs;refine hK.out _ _ (HC.o _ _ HS.o) (fun hS0=>?_);clear hK K;refine bM (i:=14) (j:=19) rfl rfl (by kernel_rfl) (fun K hK=>?_) (fun K hK=>?_);go_simp;have hs:=HS.o.ab 5 #[.int .u8 (dn.toNat:Int)];revert hs;generalize World.alloc w12 _=w14;generalize w12.heap.size=g14;intro hs;replace HS:Hid (Sat w (PE*(eA g8 n m*(eR A12 c12 (ai seq 8)*(eB g14 dn*bF)))) w14):=hs.of (show eB g14 dn*_=_ by ac_rfl);clear hs;refine hK.out _ _ (HC.o _ _ HS.o) (fun hS0=>?_);clear hK K;refine bC 19 fun K hK=>?_
  go_simp;go_at_call 117
  refine(bS v.length 2 (by omega) (by omega) (by omega) w _ _ HS.o).mono ?_;rintro x wz ⟨A19,c19,rfl, -, -,hs⟩;replace HS:Hid (Sat w (PE*(eA g8 n m*(eR A12 c12 (ai seq 8)*(eB g14 dn*(eR A19 c19 (ai v.length 2)*bF))))) wz):=hs.of (show eR A19 c19 (ai v.length 2)*_=_ by ac_rfl);clear hs;refine hK.out _ _ (HC.o _ _ HS.o) (fun hS0=>?_);clear hK K
  rotate_left
  go_simp;go_at_call 117
  refine(bS v.length 2 (by omega) (by omega) (by omega) w _ _ HS.o).mono ?_;rintro x w19 ⟨A19,c19,rfl, -, -,hs⟩;replace HS:Hid (Sat w (PE*(eA g8 n m*(eR A12 c12 (ai seq 8)*(eR A19 c19 (ai v.length 2)*bF)))) w19):=hs.of (show eR A19 c19 (ai v.length 2)*_=_ by ac_rfl);clear hs;refine hK.out _ _ (HC.o _ _ HS.o) (fun hS0=>?_);clear hK K;refine bC 14 fun K hK=>?_
  go_simp;have hs:=HS.o.ab 5 #[.int .u8 (dn.toNat:Int)];revert hs;generalize World.alloc w19 _=wz;generalize w19.heap.size=g14;intro hs;replace HS:Hid (Sat w (PE*(eA g8 n m*(eR A12 c12 (ai seq 8)*(eB g14 dn*(eR A19 c19 (ai v.length 2)*bF))))) wz):=hs.of (show eB g14 dn*_=_ by ac_rfl);clear hs;refine hK.out _ _ (HC.o _ _ HS.o) (fun hS0=>?_);clear hK K
  rotate_left
  go_simp;have hs:=HS.o.ab 5 #[.int .u8 (dn.toNat:Int)];revert hs;generalize World.alloc w8 _=w14;generalize w8.heap.size=g14;intro hs;replace HS:Hid (Sat w (PE*(eA g8 n m*(eB g14 dn*bF))) w14):=hs.of (show eB g14 dn*_=_ by ac_rfl);clear hs;refine hK.out _ _ (HC.o _ _ HS.o) (fun hS0=>?_);clear hK K;refine bC 12 fun K hK=>?_
  go_simp;go_at_call 117
  refine(bS seq 8 (by omega) (by omega) (by omega) w _ _ HS.o).mono ?_;rintro x w12 ⟨A12,c12,rfl, -, -,hs⟩;replace HS:Hid (Sat w (PE*(eA g8 n m*(eR A12 c12 (ai seq 8)*(eB g14 dn*bF)))) w12):=hs.of (show eR A12 c12 (ai seq 8)*_=_ by ac_rfl);clear hs;refine hK.out _ _ (HC.o _ _ HS.o) (fun hS0=>?_);clear hK K;refine bC 19 fun K hK=>?_
  go_simp;go_at_call 117
  refine(bS v.length 2 (by omega) (by omega) (by omega) w _ _ HS.o).mono ?_;rintro x wz ⟨A19,c19,rfl, -, -,hs⟩;replace HS:Hid (Sat w (PE*(eA g8 n m*(eR A12 c12 (ai seq 8)*(eB g14 dn*(eR A19 c19 (ai v.length 2)*bF))))) wz):=hs.of (show eR A19 c19 (ai v.length 2)*_=_ by ac_rfl);clear hs;refine hK.out _ _ (HC.o _ _ HS.o) (fun hS0=>?_);clear hK K
  rotate_left
  go_simp;go_at_call 117
  refine(bS seq 8 (by omega) (by omega) (by omega) w _ _ HS.o).mono ?_;rintro x w12 ⟨A12,c12,rfl, -, -,hs⟩;replace HS:Hid (Sat w (PE*(eR A12 c12 (ai seq 8)*bF)) w12):=hs.of (show eR A12 c12 (ai seq 8)*_=_ by ac_rfl);clear hs;refine hK.out _ _ (HC.o _ _ HS.o) (fun hS0=>?_);clear hK K;refine lA (i:=8) (j:=14) (k:=19) rfl rfl rfl (by kernel_rfl) (fun K hK=>?_) (fun K hK=>?_) (fun K hK=>?_);go_simp;have hs:=HS.o.ab 5 #[.int .u8 (n:Int),.int .u8 (m:Int)];revert hs;generalize World.alloc w12 _=w8;generalize w12.heap.size=g8;intro hs;replace HS:Hid (Sat w (PE*(eA g8 n m*(eR A12 c12 (ai seq 8)*bF))) w8):=hs.of (show eA g8 n m*_=_ by ac_rfl);clear hs;refine hK.out _ _ (HC.o _ _ HS.o) (fun hS0=>?_);clear hK K;refine bM (i:=14) (j:=19) rfl rfl (by kernel_rfl) (fun K hK=>?_) (fun K hK=>?_);go_simp;have hs:=HS.o.ab 5 #[.int .u8 (dn.toNat:Int)];revert hs;generalize World.alloc w8 _=w14;generalize w8.heap.size=g14;intro hs;replace HS:Hid (Sat w (PE*(eA g8 n m*(eR A12 c12 (ai seq 8)*(eB g14 dn*bF)))) w14):=hs.of (show eB g14 dn*_=_ by ac_rfl);clear hs;refine hK.out _ _ (HC.o _ _ HS.o) (fun hS0=>?_);clear hK K;refine bC 19 fun K hK=>?_
  go_simp;go_at_call 117
  refine(bS v.length 2 (by omega) (by omega) (by omega) w _ _ HS.o).mono ?_;rintro x wz ⟨A19,c19,rfl, -, -,hs⟩;replace HS:Hid (Sat w (PE*(eA g8 n m*(eR A12 c12 (ai seq 8)*(eB g14 dn*(eR A19 c19 (ai v.length 2)*bF))))) wz):=hs.of (show eR A19 c19 (ai v.length 2)*_=_ by ac_rfl);clear hs;refine hK.out _ _ (HC.o _ _ HS.o) (fun hS0=>?_);clear hK K
  rotate_left
  go_simp;go_at_call 117
  refine(bS v.length 2 (by omega) (by omega) (by omega) w _ _ HS.o).mono ?_;rintro x w19 ⟨A19,c19,rfl, -, -,hs⟩;replace HS:Hid (Sat w (PE*(eA g8 n m*(eR A12 c12 (ai seq 8)*(eR A19 c19 (ai v.length 2)*bF)))) w19):=hs.of (show eR A19 c19 (ai v.length 2)*_=_ by ac_rfl);clear hs;refine hK.out _ _ (HC.o _ _ HS.o) (fun hS0=>?_);clear hK K;refine bC 14 fun K hK=>?_
  go_simp;have hs:=HS.o.ab 5 #[.int .u8 (dn.toNat:Int)];revert hs;generalize World.alloc w19 _=wz;generalize w19.heap.size=g14;intro hs;replace HS:Hid (Sat w (PE*(eA g8 n m*(eR A12 c12 (ai seq 8)*(eB g14 dn*(eR A19 c19 (ai v.length 2)*bF))))) wz):=hs.of (show eB g14 dn*_=_ by ac_rfl);clear hs;refine hK.out _ _ (HC.o _ _ HS.o) (fun hS0=>?_);clear hK K
  rotate_left
  go_simp;have hs:=HS.o.ab 5 #[.int .u8 (dn.toNat:Int)];revert hs;generalize World.alloc w12 _=w14;generalize w12.heap.size=g14;intro hs;replace HS:Hid (Sat w (PE*(eR A12 c12 (ai seq 8)*(eB g14 dn*bF))) w14):=hs.of (show eB g14 dn*_=_ by ac_rfl);clear hs;refine hK.out _ _ (HC.o _ _ HS.o) (fun hS0=>?_);clear hK K;refine bM (i:=8) (j:=19) rfl rfl (by kernel_rfl) (fun K hK=>?_) (fun K hK=>?_);go_simp;have hs:=HS.o.ab 5 #[.int .u8 (n:Int),.int .u8 (m:Int)];revert hs;generalize World.alloc w14 _=w8;generalize w14.heap.size=g8;intro hs;replace HS:Hid (Sat w (PE*(eA g8 n m*(eR A12 c12 (ai seq 8)*(eB g14 dn*bF)))) w8):=hs.of (show eA g8 n m*_=_ by ac_rfl);clear hs;refine hK.out _ _ (HC.o _ _ HS.o) (fun hS0=>?_);clear hK K;refine bC 19 fun K hK=>?_
  go_simp;go_at_call 117
  refine(bS v.length 2 (by omega) (by omega) (by omega) w _ _ HS.o).mono ?_;rintro x wz ⟨A19,c19,rfl, -, -,hs⟩;replace HS:Hid (Sat w (PE*(eA g8 n m*(eR A12 c12 (ai seq 8)*(eB g14 dn*(eR A19 c19 (ai v.length 2)*bF))))) wz):=hs.of (show eR A19 c19 (ai v.length 2)*_=_ by ac_rfl);clear hs;refine hK.out _ _ (HC.o _ _ HS.o) (fun hS0=>?_);clear hK K
  rotate_left
  go_simp;go_at_call 117
  refine(bS v.length 2 (by omega) (by omega) (by omega) w _ _ HS.o).mono ?_;rintro x w19 ⟨A19,c19,rfl, -, -,hs⟩;replace HS:Hid (Sat w (PE*(eR A12 c12 (ai seq 8)*(eB g14 dn*(eR A19 c19 (ai v.length 2)*bF)))) w19):=hs.of (show eR A19 c19 (ai v.length 2)*_=_ by ac_rfl);clear hs;refine hK.out _ _ (HC.o _ _ HS.o) (fun hS0=>?_);clear hK K;refine bC 8 fun K hK=>?_
  go_simp;have hs:=HS.o.ab 5 #[.int .u8 (n:Int),.int .u8 (m:Int)];revert hs;generalize World.alloc w19 _=wz;generalize w19.heap.size=g8;intro hs;replace HS:Hid (Sat w (PE*(eA g8 n m*(eR A12 c12 (ai seq 8)*(eB g14 dn*(eR A19 c19 (ai v.length 2)*bF))))) wz):=hs.of (show eA g8 n m*_=_ by ac_rfl);clear hs;refine hK.out _ _ (HC.o _ _ HS.o) (fun hS0=>?_);clear hK K
  rotate_left
  go_simp;go_at_call 117
  refine(bS v.length 2 (by omega) (by omega) (by omega) w _ _ HS.o).mono ?_;rintro x w19 ⟨A19,c19,rfl, -, -,hs⟩;replace HS:Hid (Sat w (PE*(eR A12 c12 (ai seq 8)*(eR A19 c19 (ai v.length 2)*bF))) w19):=hs.of (show eR A19 c19 (ai v.length 2)*_=_ by ac_rfl);clear hs;refine hK.out _ _ (HC.o _ _ HS.o) (fun hS0=>?_);clear hK K;refine bM (i:=8) (j:=14) rfl rfl (by kernel_rfl) (fun K hK=>?_) (fun K hK=>?_);go_simp;have hs:=HS.o.ab 5 #[.int .u8 (n:Int),.int .u8 (m:Int)];revert hs;generalize World.alloc w19 _=w8;generalize w19.heap.size=g8;intro hs;replace HS:Hid (Sat w (PE*(eA g8 n m*(eR A12 c12 (ai seq 8)*(eR A19 c19 (ai v.length 2)*bF)))) w8):=hs.of (show eA g8 n m*_=_ by ac_rfl);clear hs;refine hK.out _ _ (HC.o _ _ HS.o) (fun hS0=>?_);clear hK K;refine bC 14 fun K hK=>?_
  go_simp;have hs:=HS.o.ab 5 #[.int .u8 (dn.toNat:Int)];revert hs;generalize World.alloc w8 _=wz;generalize w8.heap.size=g14;intro hs;replace HS:Hid (Sat w (PE*(eA g8 n m*(eR A12 c12 (ai seq 8)*(eB g14 dn*(eR A19 c19 (ai v.length 2)*bF))))) wz):=hs.of (show eB g14 dn*_=_ by ac_rfl);clear hs;refine hK.out _ _ (HC.o _ _ HS.o) (fun hS0=>?_);clear hK K
  rotate_left
  go_simp;have hs:=HS.o.ab 5 #[.int .u8 (dn.toNat:Int)];revert hs;generalize World.alloc w19 _=w14;generalize w19.heap.size=g14;intro hs;replace HS:Hid (Sat w (PE*(eR A12 c12 (ai seq 8)*(eB g14 dn*(eR A19 c19 (ai v.length 2)*bF)))) w14):=hs.of (show eB g14 dn*_=_ by ac_rfl);clear hs;refine hK.out _ _ (HC.o _ _ HS.o) (fun hS0=>?_);clear hK K;refine bC 8 fun K hK=>?_
  go_simp;have hs:=HS.o.ab 5 #[.int .u8 (n:Int),.int .u8 (m:Int)];revert hs;generalize World.alloc w14 _=wz;generalize w14.heap.size=g8;intro hs;replace HS:Hid (Sat w (PE*(eA g8 n m*(eR A12 c12 (ai seq 8)*(eB g14 dn*(eR A19 c19 (ai v.length 2)*bF))))) wz):=hs.of (show eA g8 n m*_=_ by ac_rfl);clear hs;refine hK.out _ _ (HC.o _ _ HS.o) (fun hS0=>?_);clear hK K
  rotate_left
  go_simp;have hs:=HS.o.ab 5 #[.int .u8 (dn.toNat:Int)];revert hs;generalize World.alloc wd _=w14;generalize wd.heap.size=g14;intro hs;replace HS:Hid (Sat w (PE*(eB g14 dn*bF)) w14):=hs.of (show eB g14 dn*_=_ by ac_rfl);clear hs;refine hK.out _ _ (HC.o _ _ HS.o) (fun hS0=>?_);clear hK K;refine bM (i:=8) (j:=12) rfl rfl (by kernel_rfl) (fun K hK=>?_) (fun K hK=>?_);go_simp;have hs:=HS.o.ab 5 #[.int .u8 (n:Int),.int .u8 (m:Int)];revert hs;generalize World.alloc w14 _=w8;generalize w14.heap.size=g8;intro hs;replace HS:Hid (Sat w (PE*(eA g8 n m*(eB g14 dn*bF))) w8):=hs.of (show eA g8 n m*_=_ by ac_rfl);clear hs;refine hK.out _ _ (HC.o _ _ HS.o) (fun hS0=>?_);clear hK K;refine bC 12 fun K hK=>?_
  go_simp;go_at_call 117
  refine(bS seq 8 (by omega) (by omega) (by omega) w _ _ HS.o).mono ?_;rintro x w12 ⟨A12,c12,rfl, -, -,hs⟩;replace HS:Hid (Sat w (PE*(eA g8 n m*(eR A12 c12 (ai seq 8)*(eB g14 dn*bF)))) w12):=hs.of (show eR A12 c12 (ai seq 8)*_=_ by ac_rfl);clear hs;refine hK.out _ _ (HC.o _ _ HS.o) (fun hS0=>?_);clear hK K;refine bC 19 fun K hK=>?_
  go_simp;go_at_call 117
  refine(bS v.length 2 (by omega) (by omega) (by omega) w _ _ HS.o).mono ?_;rintro x wz ⟨A19,c19,rfl, -, -,hs⟩;replace HS:Hid (Sat w (PE*(eA g8 n m*(eR A12 c12 (ai seq 8)*(eB g14 dn*(eR A19 c19 (ai v.length 2)*bF))))) wz):=hs.of (show eR A19 c19 (ai v.length 2)*_=_ by ac_rfl);clear hs;refine hK.out _ _ (HC.o _ _ HS.o) (fun hS0=>?_);clear hK K
  rotate_left
  go_simp;go_at_call 117
  refine(bS seq 8 (by omega) (by omega) (by omega) w _ _ HS.o).mono ?_;rintro x w12 ⟨A12,c12,rfl, -, -,hs⟩;replace HS:Hid (Sat w (PE*(eR A12 c12 (ai seq 8)*(eB g14 dn*bF))) w12):=hs.of (show eR A12 c12 (ai seq 8)*_=_ by ac_rfl);clear hs;refine hK.out _ _ (HC.o _ _ HS.o) (fun hS0=>?_);clear hK K;refine bM (i:=8) (j:=19) rfl rfl (by kernel_rfl) (fun K hK=>?_) (fun K hK=>?_);go_simp;have hs:=HS.o.ab 5 #[.int .u8 (n:Int),.int .u8 (m:Int)];revert hs;generalize World.alloc w12 _=w8;generalize w12.heap.size=g8;intro hs;replace HS:Hid (Sat w (PE*(eA g8 n m*(eR A12 c12 (ai seq 8)*(eB g14 dn*bF)))) w8):=hs.of (show eA g8 n m*_=_ by ac_rfl);clear hs;refine hK.out _ _ (HC.o _ _ HS.o) (fun hS0=>?_);clear hK K;refine bC 19 fun K hK=>?_
  go_simp;go_at_call 117
  refine(bS v.length 2 (by omega) (by omega) (by omega) w _ _ HS.o).mono ?_;rintro x wz ⟨A19,c19,rfl, -, -,hs⟩;replace HS:Hid (Sat w (PE*(eA g8 n m*(eR A12 c12 (ai seq 8)*(eB g14 dn*(eR A19 c19 (ai v.length 2)*bF))))) wz):=hs.of (show eR A19 c19 (ai v.length 2)*_=_ by ac_rfl);clear hs;refine hK.out _ _ (HC.o _ _ HS.o) (fun hS0=>?_);clear hK K
  rotate_left
  go_simp;go_at_call 117
  refine(bS v.length 2 (by omega) (by omega) (by omega) w _ _ HS.o).mono ?_;rintro x w19 ⟨A19,c19,rfl, -, -,hs⟩;replace HS:Hid (Sat w (PE*(eR A12 c12 (ai seq 8)*(eB g14 dn*(eR A19 c19 (ai v.length 2)*bF)))) w19):=hs.of (show eR A19 c19 (ai v.length 2)*_=_ by ac_rfl);clear hs;refine hK.out _ _ (HC.o _ _ HS.o) (fun hS0=>?_);clear hK K;refine bC 8 fun K hK=>?_
  go_simp;have hs:=HS.o.ab 5 #[.int .u8 (n:Int),.int .u8 (m:Int)];revert hs;generalize World.alloc w19 _=wz;generalize w19.heap.size=g8;intro hs;replace HS:Hid (Sat w (PE*(eA g8 n m*(eR A12 c12 (ai seq 8)*(eB g14 dn*(eR A19 c19 (ai v.length 2)*bF))))) wz):=hs.of (show eA g8 n m*_=_ by ac_rfl);clear hs;refine hK.out _ _ (HC.o _ _ HS.o) (fun hS0=>?_);clear hK K
  rotate_left
  all_goals
   refine bC 26 fun K hK=>?_
   go_simp;have hs:=HS.o.ab 41 #[.slice (some ⟨g8,0,none⟩) 2 2,.slice A12 (ai seq 8).length c12,.slice (some ⟨g14,0,none⟩) 1 1,.slice A19 (ai v.length 2).length c19,.slice (if kc=n then kA else Option.map (fun x=>x.add n) kA) (k.length - n) (kc - n),.slice vA v.length vc];revert hs;generalize World.alloc wz _=w26;generalize wz.heap.size=g26;intro hs;replace HS:Hid (Sat w (PE*(eA g8 n m*(eR A12 c12 (ai seq 8)*(eB g14 dn*(eR A19 c19 (ai v.length 2)*(Pt g26 41 #[.slice (some ⟨g8,0,none⟩) 2 2,.slice A12 (ai seq 8).length c12,.slice (some ⟨g14,0,none⟩) 1 1,.slice A19 (ai v.length 2).length c19,.slice (if kc=n then kA else Option.map (fun x=>x.add n) kA) (k.length - n) (kc - n),.slice vA v.length vc]*bF)))))) w26):=hs.of (show Pt g26 41 #[.slice (some ⟨g8,0,none⟩) 2 2,.slice A12 (ai seq 8).length c12,.slice (some ⟨g14,0,none⟩) 1 1,.slice A19 (ai v.length 2).length c19,.slice (if kc=n then kA else Option.map (fun x=>x.add n) kA) (k.length - n) (kc - n),.slice vA v.length vc]*_=_ by ac_rfl);clear hs;refine hK.out _ _ (HC.o _ _ HS.o) (fun hS0=>?_);clear hK K;refine bC 27 fun K hK=>?_
   go_simp;have hrl:=I1 n m seq dn kA kc k vA vc v hnk hkl HM.o hkc w w26 _ g8 g14 g26 A12 c12 A19 c19 HS.o (HK.o.new HS.o.aL) (HV.o.new HS.o.aL);go_at_call 61
   refine(eG (some ⟨g26,0,none⟩) 6 (mB n m seq dn kA kc k vA vc v g8 g14 A12 c12 A19 c19) w26 hrl (IV n m seq dn kA kc k vA vc v g8 g14 A12 c12 A19 c19 hkl hvl) (show 6<=140737488355328 by omega)).mono ?_;rintro x w27 ⟨vv,rfl,ho,k27⟩;rw[GL a.2.2 n m seq dn kA kc k vA vc v g8 g14 A12 c12 A19 c19 dead HN.o HM.o HDn.o] at ho;obtain⟨A27,c27,rfl, -⟩:=kt ho;have HS27:=ah ((Sat.start w).dP (HS.o.aL.tr k27) (iY ho HS.o.aL.size));replace HS:=ah (HS.o.new k27);clear hrl ho k27;refine hK.out _ _ (HC.o _ _ HS.o) (fun hS0=>?_);clear hK K;refine ca 28 ?_;refine wpAnyH_done (by kernel_rfl) ?_ _;go_wp2_with fail
   all_goals
    go_ret;obtain⟨B,d,e,h1,h2⟩:=HS27.o.bm;injection e with e1 _ e2
    subst e1;subst e2;exact⟨A27,c27,rfl,h1,h2,HS27.o⟩
theorem Ep (a:du) (e:En) (w0 w:World) (F:SP) (h:Sat w0 F w) (ha:Rd w a.1 a.2.2) (he:oD w e) (hal:a.2.2.length<=128) (hkl:e.key.2.2.length<=128) (hkc:e.key.2.2.length<=e.key.2.1) (hkm:e.key.2.1<=maxLen) (hvl:e.value.2.2.length<=16384) (hsq:0<=e.seq/\e.seq<9223372036854775808):
 Calls Tryz.prog 179 #[.slice a.1 a.2.2.length a.2.1,iN e] w (xz w0 F (jI a.2.2 e.ak)):=by
 obtain⟨⟨kA,kc,k⟩,⟨vA,vc,v⟩,seq,dead⟩:=e;obtain⟨q,rfl⟩: ∃ q:Nat,seq=(q:Int):=⟨seq.toNat,(Int.toNat_of_nonneg hsq.1).symm⟩;exact(JU a kA kc k vA vc v q dead w ha he.1 he.2 hal hkl hkc hkm hvl (by have h9:(q:Int)<9223372036854775808:=hsq.2;omega)).mono fun _ _ hx=>hx.lift h
theorem fe (n:Nat) (q:List UInt8) (s:Bool):(cm n q s).1.length<=n:=by
 unfold cm;split
 .simp;omega
 .simp;omega
theorem iK (n:Nat) (hn:n<=8) (q:List UInt8) (s:Bool):(cm n q s).1.length<=n:=by
 unfold cm;split
 .simp;omega
 .simp;omega
theorem cW (n:Nat) (q:List UInt8) (s:Bool):(cm n q s).2.1.length<=q.length:=by
 unfold cm;split
 .simp
 .simp
theorem uJ.ye {w0 w:World} {R:Nat} {F:SP} {q:List UInt8} {s:Bool} (h:uJ w0 R F q s w) (t:TypeId) (cs:Array Value):uJ w0 R (Pt w.heap.size t cs*F) q s (w.alloc (.cells cs t)):=by
 obtain⟨A,c,hs,h1,h2⟩:=h;exact⟨A,c,(hs.ab t cs).ay,h1,h2⟩
theorem kQ {n:Nat} (hn:n<=7) {q:List UInt8} {s:Bool} {T:List UInt8 × List UInt8 × Bool} (h:cm n q s=T):IntKind.i64.wrap (bu T.1:Int)=(bu T.1:Int):=by
 have h1:=iK n (by omega) q s;rw[h] at h1;have h2:=sC T.1 (by omega);rw[IntKind.wrap_i64];omega
theorem fj (n:Nat) (m:Int) (hm:m=n) (hn:n<=8) (R:Nat) (F:SP) (q:List UInt8) (s:Bool) (T:List UInt8 × List UInt8 × Bool) (z:Int) (w0 w:World) (h:uJ w0 R F q s w) (hT:cm n q s=T) (hz:IntKind.i64.wrap (bu T.1:Int)=z) (hql:q.length<=140737488355328):
 Calls Tryz.prog 140 #[.pointer (some ⟨R,0,none⟩),.int .i64 m] w fun e w'=>e = .returned (.int .i64 z)/\uJ w0 R F T.2.1 T.2.2 w':=by
 subst hm;have H:=ah h;have HZ:=ah hz;have hl:=iK n hn q s;have HT:=ah hT;rw[hT] at hl;clear h hz hT;have hw:IntKind.i64.wrap (bu T.1:Int)=z:=HZ.o;go_enter Tryz.func140, Tryz.ntmps140;go_wp2_with (first
  | (go_at_call 139;refine(kG n (by omega) R F q s w0 w H.o hql).mono ?_;rintro x w1 ⟨B,d,rfl,hr, -, -, -,hR⟩;rw[HT.o] at hr hR ⊢;have HR:=ah hr;have HW:=ah hR;clear hr hR)
  | (go_at_call 105;refine(xx B d T.1 w1 HR.o (by omega)).mono ?_;rintro x w2 ⟨rfl,rfl⟩))
 go_ret;exact⟨rfl,HW.o⟩
def dm (al:List UInt8) (q:List UInt8) (s:Bool):aq × List UInt8 × Bool:=
 let t1:=cm 1 q s;let t2:=cm 1 t1.2.1 t1.2.2;let t3:=cm 8 t2.2.1 t2.2.2;let t4:=cm 1 t3.2.1 t3.2.2;let t5:=cm 2 t4.2.1 t4.2.2;let t6:=cm (bu t2.1) t5.2.1 (t5.2.2 || decide (al.length<bu t1.1));let t7:=cm (bu t5.1) t6.2.1 t6.2.2
 (⟨if t6.2.2 then [] else al.take (bu t1.1)++t6.1,t7.1,IntKind.i64.wrap (bu t3.1:Int),decide (bu t4.1=1)⟩,t7.2)
def Kn (w0:World) (R:Nat) (F:SP) (p:aq × List UInt8 × Bool) (x:Ending) (w':World):Prop:=
 ∃ g:En,x = .returned (iN g)/\g.ak=p.1/\uJ w0 R (Row 5 1 (aJ g.key) g.key.2.2.length (g.key.2.2.map bv)*(Row 5 1 (aJ g.value) g.value.2.2.length (g.value.2.2.map bv)*F)) p.2.1 p.2.2 w'
theorem IP {w':World} {A B:Option Addr} {c d:Nat} {l m:List UInt8} (g:Nat) (h:aF w' (some ⟨g,0,none⟩) [.slice A l.length c,.slice B m.length d]) (h1:Rd w' A l) (h2:Rd w' B m):rm w' (some ⟨g,0,none⟩) [(A,c,l),(B,d,m)]:=by
 refine⟨h,fun x hx=>?_⟩;simp only[List.mem_cons,List.not_mem_nil,or_false] at hx;rcases hx with rfl | rfl
 .exact h1
 .exact h2
theorem jM (aA:Option Addr) (ac:Nat) (al:List UInt8) (R:Nat) (F:SP) (q:List UInt8) (s:Bool) (w0 w:World) (h:uJ w0 R F q s w) (hql:q.length<=140737488355328)
 (hal: ∀ (X:SP) (W:World),Sat w0 (X*F) W->Rd W aA al) (hac:al.length<=ac) (ham:ac<=maxLen) (hall:al.length<=100000000000000):
 Calls Tryz.prog 141 #[.pointer (some ⟨R,0,none⟩),.slice aA al.length ac] w (Kn w0 R F (dm al q s)):=by
 obtain⟨T1,hT1⟩: ∃ T,cm 1 q s=T:=⟨_,rfl⟩;obtain⟨T2,hT2⟩: ∃ T,cm 1 T1.2.1 T1.2.2=T:=⟨_,rfl⟩;obtain⟨T3,hT3⟩: ∃ T,cm 8 T2.2.1 T2.2.2=T:=⟨_,rfl⟩;obtain⟨T4,hT4⟩: ∃ T,cm 1 T3.2.1 T3.2.2=T:=⟨_,rfl⟩;obtain⟨T5,hT5⟩: ∃ T,cm 2 T4.2.1 T4.2.2=T:=⟨_,rfl⟩;obtain⟨s6,hs6⟩: ∃ b,(T5.2.2 || decide (al.length<bu T1.1))=b:=⟨_,rfl⟩;obtain⟨T6,hT6⟩: ∃ T,cm (bu T2.1) T5.2.1 s6=T:=⟨_,rfl⟩;obtain⟨T7,hT7⟩: ∃ T,cm (bu T5.1) T6.2.1 T6.2.2=T:=⟨_,rfl⟩;obtain⟨z3,hz3⟩: ∃ z,IntKind.i64.wrap (bu T3.1:Int)=z:=⟨_,rfl⟩;obtain⟨dd,hdd⟩: ∃ b,decide ((bu T4.1:Int)=1)=b:=⟨_,rfl⟩;have HP:Hid (dm al q s=(⟨if T6.2.2 then [] else al.take (bu T1.1)++T6.1,T7.1,z3,dd⟩,T7.2)):=by
  unfold Hid dm;simp only[hT1,hT2,hT3,hT4,hT5,hs6,hT6,hT7,hz3];rw[<-hdd];rw[show decide (bu T4.1=1)=decide ((bu T4.1:Int)=1) by apply decide_eq_decide.2;omega]
 have b1:bu T1.1<256:=by have:=iK 1 (by omega) q s;rw[hT1] at this;exact Nat.lt_of_lt_of_le (iB _) (Nat.pow_le_pow_right (by omega) this)
 have b2:bu T2.1<256:=by have:=iK 1 (by omega) T1.2.1 T1.2.2;rw[hT2] at this;exact Nat.lt_of_lt_of_le (iB _) (Nat.pow_le_pow_right (by omega) this)
 have b5:bu T5.1<65536:=by have:=iK 2 (by omega) T4.2.1 T4.2.2;rw[hT5] at this;exact Nat.lt_of_lt_of_le (iB _) (Nat.pow_le_pow_right (by omega) this)
 have y1:T1.2.1.length<=140737488355328:=by have:=cW 1 q s;rw[hT1] at this;omega
 have y2:T2.2.1.length<=140737488355328:=by have:=cW 1 T1.2.1 T1.2.2;rw[hT2] at this;omega
 have y3:T3.2.1.length<=140737488355328:=by have:=cW 8 T2.2.1 T2.2.2;rw[hT3] at this;omega
 have y4:T4.2.1.length<=140737488355328:=by have:=cW 1 T3.2.1 T3.2.2;rw[hT4] at this;omega
 have y5:T5.2.1.length<=140737488355328:=by have:=cW 2 T4.2.1 T4.2.2;rw[hT5] at this;omega
 have y6:T6.2.1.length<=140737488355328:=by have:=cW (bu T2.1) T5.2.1 s6;rw[hT6] at this;omega
 have HW1:=ah (kQ (by omega) hT1);have HW2:=ah (kQ (by omega) hT2);have HW4:=ah (kQ (by omega) hT4);have HW5:=ah (kQ (by omega) hT5);have HW3:=ah hz3;have HT1:=ah hT1;have HT2:=ah hT2;have HT3:=ah hT3;have HT4:=ah hT4;have HT5:=ah hT5;have HT6:=ah hT6;have HT7:=ah hT7;have HS6:=ah hs6;have HDD:=ah hdd;have HAL:=ah hal;obtain⟨n1,hn1⟩: ∃ n,bu T1.1=n:=⟨_,rfl⟩;obtain⟨n2,hn2⟩: ∃ n,bu T2.1=n:=⟨_,rfl⟩;obtain⟨n4,hn4⟩: ∃ n,bu T4.1=n:=⟨_,rfl⟩;obtain⟨n5,hn5⟩: ∃ n,bu T5.1=n:=⟨_,rfl⟩;rw[hn1] at HW1 HP HS6 b1;rw[hn2] at HW2 HT6 b2;rw[hn4] at HW4 HDD;rw[hn5] at HW5 HT7 b5;obtain⟨kk,hkk⟩: ∃ k,(if T6.2.2=true then [] else al.take n1++T6.1)=k:=⟨_,rfl⟩;rw[HP.o,hkk];have HKK:=ah hkk;clear hkk;have H0:=ah (h.ye 120 #[.slice none 0 0,.slice none 0 0,.int .i64 0,.bool false]);unfold maxLen at ham;clear h hT1 hT2 hT3 hT4 hT5 hs6 hT6 hT7 hz3 hdd hal;have HN1:=ah hn1;have HN2:=ah hn2;have HN4:=ah hn4;have HN5:=ah hn5;clear hn1 hn2 hn4 hn5;have hwa:IntKind.i64.wrap (n1:Int)=n1:=HW1.o;have hwb:IntKind.i64.wrap (n2:Int)=n2:=HW2.o;have hdz:((n4:Int)==1)=dd:=by rw[<-HDD.o];exact rfl
 go_enter Tryz.func141, Tryz.ntmps141;go_upto_if 25 with (first
  | (go_at_call 140;with_reducible refine(fj 1 1 rfl (by omega) R _ q s T1 n1 w0 _ H0.o HT1.o (by rw[HN1.o];exact HW1.o) hql).mono ?_;rintro x w1 ⟨rfl,h1⟩;have H1:=ah h1;clear h1)
  | (go_at_call 140;with_reducible refine(fj 1 1 rfl (by omega) R _ T1.2.1 T1.2.2 T2 n2 w0 _ H1.o HT2.o (by rw[HN2.o];exact HW2.o) y1).mono ?_;rintro x w2 ⟨rfl,h1⟩;have H2:=ah h1;clear h1)
  | (go_at_call 140;with_reducible refine(fj 8 8 rfl (by omega) R _ T2.2.1 T2.2.2 T3 z3 w0 _ H2.o HT3.o HW3.o y2).mono ?_;rintro x w3 ⟨rfl,h1⟩;have H3:=ah h1;clear h1)
  | (go_at_call 140;with_reducible refine(fj 1 1 rfl (by omega) R _ T3.2.1 T3.2.2 T4 n4 w0 _ H3.o HT4.o (by rw[HN4.o];exact HW4.o) y3).mono ?_;rintro x w4 ⟨rfl,h1⟩;have H4:=ah (h1.ye 120 #[.slice none 0 0,.slice none 0 0,.int .i64 z3,.bool dd]);clear h1)
  | (go_at_call 140;with_reducible refine(fj 2 2 rfl (by omega) R _ T4.2.1 T4.2.2 T5 n5 w0 _ H4.o HT5.o (by rw[HN5.o];exact HW5.o) y4).mono ?_;rintro x w5 ⟨rfl,h1⟩;have H5:=ah h1;clear h1))
 have H5a:=H5;revert H5a;generalize w4.heap.size=E;generalize w.heap.size=G;intro H5a;have HF:Hid (uJ w0 R (Pt E 120 #[.slice none 0 0,.slice none 0 0,.int .i64 z3,.bool dd]*(Pt G 120 #[.slice none 0 0,.slice none 0 0,.int .i64 0,.bool false]*F)) T5.2.1 T5.2.2 w5):=H5a;clear H5 H5a;have l6:T6.1.length<=n2:=by rw[<-HT6.o];exact fe _ _ _
 have l7:T7.1.length<=n5:=by rw[<-HT7.o];exact fe _ _ _
 go_cut [5] from 10 (fun nv wx=> ∃ m:Nat,nv = .int .i64 (m:Int)/\Hid (s6=false->m=n1/\n1<=al.length)/\Hid (uJ w0 R (Pt E 120 #[.slice none 0 0,.slice none 0 0,.int .i64 z3,.bool dd]*(Pt G 120 #[.slice none 0 0,.slice none 0 0,.int .i64 0,.bool false]*F)) T5.2.1 s6 wx))
 case first=>
  by_cases hlt:al.length<n1
  .obtain⟨A,c,hs,ho⟩:=HF.o;have f1:=hs.frozen 1;have c1:=hs.cell 1;have HSt:=ah hs;have HO:=ah ho;clear hs ho;go_wp2_with fail;go_meet
   refine⟨0,rfl,fun h=>?_,⟨A,c,?_,HO.o⟩⟩
   .rw[<-HS6.o] at h;simp[hlt] at h
   .have h9:=HSt.o.set 1 (.bool true);rw[<-HS6.o,decide_eq_true hlt,Bool.or_true];exact h9
  .go_wp2_with fail;go_meet
   refine⟨n1,rfl,fun h=>⟨rfl,by omega⟩,?_⟩;rw[<-HS6.o,decide_eq_false hlt,Bool.or_false];exact HF.o
 case rest=>
  obtain⟨m,rfl,HM,HX⟩:=hcut;have HX1:=HX;have k6:HX1=HX1:=rfl;clear k6 HX1;go_upto_region 8 with (go_at_call 139;(with_reducible refine(kG n2 (by omega) R _ T5.2.1 s6 w0 _ HX.o y5).mono ?_);rw[HT6.o];rintro x w6 ⟨B6,d6,rfl, -,hr6,hd6,hm6,h6⟩;have HR6:=ah hr6;have H6:=ah h6;clear hr6 h6)
  obtain⟨A6,c6,hs6,hq6⟩:=H6.o;have r1:=hs6.cell 1;have e0:=hs6.ay.cell 0;have e1:=hs6.ay.cell 1;have e2:=hs6.ay.cell 2;have e3:=hs6.ay.cell 3;have q0:=hs6.ay.frozen 0;have HS6':=ah hs6;have HQ6:=ah hq6;clear hs6 hq6;have hsb: ∃ b,T6.2.2=b:=⟨_,rfl⟩;obtain⟨b6,hb6⟩:=hsb;rw[hb6] at r1;have HB6:=ah hb6;clear hb6;go_upto_if 36 with fail
  go_cut [9] from 10 (fun kv wx=> ∃ kA kc,Hid (uJ w0 R (Row 5 1 (.slice kA kk.length kc) kk.length (kk.map bv)*(Pt E 120 #[.slice kA kk.length kc,.slice none 0 0,.int .i64 z3,.bool dd]*(Pt G 120 #[.slice none 0 0,.slice none 0 0,.int .i64 0,.bool false]*F))) T6.2.1 T6.2.2 wx))
  case first=>
   cases b6
   .have hm:=HM.o (by
     have h1:=HT6.o;have h2:=HB6.o
     cases hs:s6 with
     | false=>rfl
     | true=>rw[hs,oA (.inl rfl)] at h1;rw[<-h1] at h2;cases h2)
    obtain⟨rfl,hle⟩:=hm;have hle2:(m:Int)<=al.length:=by omega
    have hle3:(m:Int)<=ac:=by omega
    have htk:(al.take m).length=m:=by simp;omega
    have HTk:=ah htk;have HKe:Hid (kk=al.take m++T6.1):=by have h1:=HKK.o;rw[HB6.o] at h1;exact h1.symm
    have hkl:kk.length=m+T6.1.length:=by rw[HKe.o,List.length_append,htk]
    clear htk;have hc6:=HQ6.o.2.1;have HKl:Hid (kk.length<=140737488355328):=by unfold Hid;omega
    clear hkl hc6;have hjr:rm (w6.alloc (.cells #[.slice aA m ac,.slice B6 T6.1.length d6] 41)) (some ⟨w6.heap.size,0,none⟩) [(aA,ac,al.take m),(B6,d6,T6.1)]:=IP w6.heap.size (by rw[HTk.o];exact aR w6 #[.slice aA m ac,.slice B6 T6.1.length d6] 41) (Rd.take (HAL.o _ _ ((HS6'.o.aD _).of (show _=(Pt R 223 #[.slice A6 T6.2.1.length c6,.bool T6.2.2]*(Pt E 120 #[.slice none 0 0,.slice none 0 0,.int .i64 z3,.bool dd]*Pt G 120 #[.slice none 0 0,.slice none 0 0,.int .i64 0,.bool false]))*F by ac_rfl))) m) ((HR6.o HB6.o).new (HS6'.o.aD _).aL);have HJR:=ah hjr;clear hjr;go_wp2_with fail;go_at_call 61
    refine(eG (some ⟨w6.heap.size,0,none⟩) 2 [(aA,ac,al.take m),(B6,d6,T6.1)] _ HJR.o (by have:=HKl.o;rw[HKe.o] at this;simpa [bK] using this) (show 2<=140737488355328 by omega)).mono ?_;rintro x w7 ⟨vv,rfl,ho,k7⟩;rw[show (bK [(aA,ac,al.take m),(B6,d6,T6.1)]).flatten=kk by rw[HKe.o];simp[bK]] at ho;obtain⟨A7,c7,rfl, -⟩:=kt ho;have hs7:=(HS6'.o.aD _).dP k7 ho;have z0:=hs7.bp.frozen 0;have z1:=hs7.bp.cell 0;have HS7:=ah hs7;clear ho k7 hs7;go_wp2_with fail;go_meet
    have h9:=HS7.o.bp.set 0 (.slice A7 kk.length c7);exact⟨A7,c7,A6,c6,h9.of (by ac_rfl),HQ6.o⟩
   .go_wp2_with fail;go_meet
    have HKe:kk=[]:=by have h1:=HKK.o;rw[HB6.o] at h1;exact h1.symm
    subst HKe;refine⟨none,0,A6,c6,?_,HQ6.o⟩;exact(HS6'.o.aN 5 1).of (by ac_rfl)
  case rest=>
   obtain⟨kA,kc,HX7⟩:=hcut;go_upto_region 11 with (first
    | (go_at_call 139;(with_reducible refine(kG n5 (by omega) R _ T6.2.1 T6.2.2 w0 _ HX7.o y6).mono ?_);rw[HT7.o];rintro x w8 ⟨B8,d8,rfl,hr8, -,hd8,hm8,h8⟩;obtain⟨A8,c8,hs8,hq8⟩:=h8;have HQ8:=ah hq8;have HS8:=ah hs8;have HR8:=ah hr8;clear hs8 hr8 hq8)
    | (go_at_call 61;refine(eG (some ⟨w8.heap.size,0,none⟩) 1 [(B8,d8,T7.1)] _ ⟨aR w8 #[.slice B8 T7.1.length d8] 41,fun y hy=>by rw[List.mem_singleton] at hy;subst hy;exact HR8.o.alloc _⟩ (by simp[bK];omega) (show 1<=140737488355328 by omega)).mono ?_;rintro x w9 ⟨vv,rfl,ho,k9⟩;rw[show (bK [(B8,d8,T7.1)]).flatten=T7.1 by simp[bK]] at ho;obtain⟨A9,c9,rfl, -⟩:=kt ho;have hs9:=(HS8.o.aD _).dP k9 ho;have z0:=hs9.bL.frozen 1;have z1:=hs9.bL.cell 1;have HS9:=ah hs9;clear ho k9 hs9))
   have h10:=HS9.o.bL.set 1 (.slice A9 T7.1.length c9);clear z0 z1;revert h10;generalize World.setCell w9 _ _=w10;intro h10;have c0:=h10.cell 0;have c1:=h10.cell 1;have c2:=h10.cell 2;have c3:=h10.cell 3;have d0:=h10.fN.cell 0;have d1:=h10.fN.cell 1;have d2:=h10.fN.cell 2;have d3:=h10.fN.cell 3;have f0:=h10.fN.frozen 0;have f1:=h10.fN.frozen 1;have f2:=h10.fN.frozen 2;have f3:=h10.fN.frozen 3;have h11:=(((h10.fN.set 0 (.slice kA kk.length kc)).set 1 (.slice A9 T7.1.length c9)).set 2 (.int .i64 z3)).set 3 (.bool dd);have H11:=ah h11;clear h10 h11;go_wp2_with fail;have h12:=H11.o;revert h12;generalize World.setCell _ _ _=w12;intro h12;refine bodyPost_ret (results_cell_row (p:=4) (by kernel_rfl) _ _ G 120 _ (0,0) _ rfl h12.at Tryz.underlying120 rfl (by kernel_rfl)) rfl ?_;refine⟨⟨(kA,kc,kk),(A9,c9,T7.1),z3,dd⟩,rfl,rfl,A8,c8,?_,HQ8.o⟩;have h13:=h12.right.right;exact h13.of (by unfold aJ;ac_rfl)
theorem gQ (L:List aq): ∀ k,(cT L k).length<=k
 | 0=>by simp[cT]
 | k+1=>by
  have h:=gQ L k;unfold cT;split
  .omega
  .split
   .rw[List.length_append,List.length_singleton];omega
   .split
    .split
     .omega
     .rw[List.length_append,List.length_singleton];omega
    .rw[List.length_append,List.length_singleton];omega
def DZ (L:List aq) (w:World) (e:Ending) (w':World):Prop:= ∃ g h n,e = .returned (.pointer (some ⟨g,0,none⟩))/\dL w' g h n n (hU L)/\w.heap.size<=g/\w.heap.size<=h/\ao No w w'/\8<=n/\n<=262144
structure Kk (w:World) (es:List En) (i:Nat) (v:Value) (ks:bY) (wr:World):Prop where
 say:bK ks=cT (es.map En.ak) i
 mem: ∀ x ∈ ks, ∃ e ∈ es,x=e.key
 bP:ks.length<=i
 sat:Sat w (Row 41 1 v ks.length (ks.map aI)*bF) wr
theorem mI {es:List En} {i:Nat} (h:i<es.length):(es.map En.ak)[i]?=some es[i].ak:=by rw[List.getElem?_map,List.getElem?_eq_getElem h];rfl
theorem vm (es:List En) (h:0<es.length):cT (es.map En.ak) 1=[es[0].key.2.2]:=by
 unfold cT;rw[mI h];rfl
theorem vN (es:List En) (i:Nat) (h:i+1<es.length) (hk:es[i].key.2.2=es[i+1].key.2.2):cT (es.map En.ak) (i+2)=cT (es.map En.ak) (i+1):=by
 conv=>lhs;unfold cT
 rw[mI h];simp only[Nat.add_sub_cancel];rw[mI (show i<es.length by omega)];simp only;rw[if_neg (by omega),if_pos (show es[i].ak.key=es[i+1].ak.key from hk)]
theorem xO (es:List En) (i:Nat) (h:i+1<es.length) (hk:es[i].key.2.2≠es[i+1].key.2.2):cT (es.map En.ak) (i+2)=cT (es.map En.ak) (i+1)++[es[i+1].key.2.2]:=by
 conv=>lhs;unfold cT
 rw[mI h];simp only[Nat.add_sub_cancel];rw[mI (show i<es.length by omega)];simp only;rw[if_neg (by omega),if_neg (show ¬ es[i].ak.key=es[i+1].ak.key from hk)];rfl
theorem El {wr w8:World} {KA:Option Addr} {ks:bY} {h:Nat} (hk:rm wr KA ks) (k8:ao No wr w8) (hh:wr.heap.size<=h):JJ (One h) w8 (rm · KA ks):=fun w' k=>by
 have hno: ∀ b,b<wr.heap.size->¬ One h b:=fun b hb e=>by have e:b=h:=e;omega
 refine⟨(hk.1.new k8).aL k fun b o hx e=>?_,fun x hx=>((hk.2 x hx).new k8).aL k fun b o hx' e=>?_⟩
 .obtain⟨b',o',e',hlt⟩:=hk.1.lt hx;rw[e'] at e;injection e with e
  injection e with e1
  subst e1;exact hno _ hlt
 .obtain⟨b',o',e',hlt⟩:=(hk.2 x hx).lt hx';rw[e'] at e;injection e with e
  injection e with e1
  subst e1;exact hno _ hlt
theorem mQ (A:Option Addr) (c:Nat) (es:List En) (w:World) (h:aF w A (es.flatMap bV)) (hr:jG w es) (hc:es.length<=c) (hm:c<=maxLen) (hn:es.length<=65536) (hsh: ∀ e ∈ es,e.key.2.2.length<=140737488355328):
 Calls Tryz.prog 143 #[.slice A es.length c] w (DZ (es.map En.ak) w):=by
 obtain⟨i0,hi,hz0,hz1,hz2⟩:=info_parts oQ;have Hi:=ah hi;have Hz0:=ah hz0;have Hz1:=ah hz1;have Hz2:=ah hz2;have HL:=ah h;have HR:=ah hr;have HSh:=ah hsh;unfold maxLen at hm;clear h hr hsh hi hz0 hz1 hz2;go_enter Tryz.func143, Tryz.ntmps143;go_wp2_with fail;go_loopw [3,10] (fun v iv wr=> ∃ (i:Nat) (ks:bY),i<=es.length/\iv = .int .i64 i/\Hid (Kk w es i v ks wr)) (fun _ iv _=>es.length - (intOf iv).toNat)
 case atStart=>exact⟨0,[],by omega,rfl,⟨rfl,by simp,by simp,((Sat.start w).aN 41 1)⟩⟩
 case round=>
  obtain⟨i,ks,hi,rfl,HD⟩:=hrel;obtain⟨KA,kc,rfl,hk1,hk2⟩:=HD.o.sat.bm;unfold maxLen at hk2;have hfew:=HD.o.bP;by_cases hlt:i<es.length
  .obtain⟨lb,lo,rfl,hq⟩:=dU HL.o (by omega);obtain⟨z0,z1,z2,z3⟩:=hq i hlt;have a0:=HD.o.sat.aL.cell z0 id;have a1:=HD.o.sat.aL.cell z1 id;have a2:=HD.o.sat.aL.cell z2 id;have a3:=HD.o.sat.aL.cell z3 id;unfold aJ at a0 a1;have HE:=ah (HR.o _ (List.getElem_mem hlt));have HSE:=ah (HD.o.sat.ab 120 #[.slice es[i].key.1 es[i].key.2.2.length es[i].key.2.1,.slice es[i].value.1 es[i].value.2.2.length es[i].value.2.1,.int .i64 es[i].seq,.bool es[i].dead]);rcases i with _ | i
   .clear z0 z1 z2 z3 hq;simp only[Nat.zero_mul,Nat.add_zero] at a0 a1 a2 a3;go_upto_region 5 with fail;have HSV:=HSE;revert HSV;generalize World.alloc wr _=w5;generalize wr.heap.size=E;intro HSV;have HSW:Hid (Sat w (Pt E 120 #[.slice es[0].key.1 es[0].key.2.2.length es[0].key.2.1,.slice es[0].value.1 es[0].value.2.2.length es[0].value.2.1,.int .i64 es[0].seq,.bool es[0].dead]*(Row 41 1 (.slice KA ks.length kc) ks.length (ks.map aI)*bF)) w5):=HSV;clear HSV HSE a0 a1 a2 a3;refine wp_region_held_drew (S:=fun _=>True) (by kernel_rfl) trivial ?_;intro hS0;have HSD:=ah HSW.o.drew;revert HSD;generalize w5.drew=w6;intro HSD;refine cw 0 1 ?_;refine ca 2 ?_;refine cg 3 ?_;refine cg 4 ?_;refine cg 5 ?_;refine cg 6 ?_;refine cg 7 ?_;refine cg 8 ?_;refine cg 9 ?_;refine cg 10 ?_;refine cg 11 ?_;refine cg 12 ?_;refine ca 13 ?_;refine wpAnyH_done (by kernel_rfl) ?_ _;have e0:=HSD.o.cell 0;go_wp2_with (at_builtin;refine av rfl (.tmp 29) (.tmp 32) 87 rfl 41 i0 _ 1 24 Tryz.underlying87 Hi.o Hz0.o Hz1.o Hz2.o rfl (by decide) (.slice KA ks.length kc) ks.length (ks.map aI) rfl w _ (by exact(HSD.o.aD _).ay) (some ⟨w6.heap.size,0,none⟩) 1 1 [aI es[0].key] rfl (aR _ _ _) rfl (iV [es[0].key]) (by unfold maxLen;omega) (by omega) ?_;intro A7 c7 w7 hs7;have HS7:=ah hs7;clear hs7);go_roundw
    .refine⟨0+1,ks++[es[0].key],by omega,by push_cast;rfl,⟨?_,?_,by rw[List.length_append,List.length_singleton];omega,?_⟩⟩
     .rw[jH,HD.o.say,vm es hlt];rfl
     .intro x hx;rcases List.mem_append.1 hx with hx | hx
      .exact HD.o.mem x hx
      .exact⟨es[0],List.getElem_mem _,List.mem_singleton.1 hx⟩
     .have h9:=HS7.o.bo;rw[List.length_append,List.map_append];exact h9
    .simp[intOf];omega
   .obtain⟨y0,_,_,_⟩:=hq i (by omega);have b0:=HD.o.sat.aL.cell y0 id;unfold aJ at b0;have hpr:i<es.length:=by omega
    have HEp:=ah (HR.o _ (List.getElem_mem hpr));clear z0 z1 z2 z3 hq;have Y0:=ah y0;clear y0;have hii:((i+1:Nat):Int) - 1=(i:Int):=by omega
    have hwi:IntKind.i64.wrap (i:Int)=(i:Int):=by rw[IntKind.wrap_i64];omega
    have hpi:(i:Int)<es.length:=by omega
    have hne0:((i:Int)+1==0)=false:=by rw[beq_eq_false_iff_ne];omega
    have hne1:¬ (i:Int)+1=0:=by omega
    go_upto_region 5 with fail;have HSV:=HSE;revert HSV;generalize World.alloc wr _=w5;generalize wr.heap.size=E;intro HSV;have HSW:Hid (Sat w (Pt E 120 #[.slice es[i+1].key.1 es[i+1].key.2.2.length es[i+1].key.2.1,.slice es[i+1].value.1 es[i+1].value.2.2.length es[i+1].value.2.1,.int .i64 es[i+1].seq,.bool es[i+1].dead]*(Row 41 1 (.slice KA ks.length kc) ks.length (ks.map aI)*bF)) w5):=HSV;clear HSV HSE a0 a1 a2 a3 b0;by_cases hsame:es[i].key.2.2=es[i+1].key.2.2
    .have HDec:Hid (decide (es[i].key.2.2=es[i+1].key.2.2)=true):=decide_eq_true hsame;have HSm:=ah (vN es i hlt hsame);clear hsame;refine wp_region_held_drew (S:=fun w'=>w'.cell? ⟨lb,lo+i*4,none⟩=some (.slice es[i].key.1 es[i].key.2.2.length es[i].key.2.1)/\w'.cell? ⟨E,0,none⟩=some (.slice es[i+1].key.1 es[i+1].key.2.2.length es[i+1].key.2.1)) (by kernel_rfl) ⟨HSW.o.drew.aL.cell Y0.o id,HSW.o.drew.cell 0⟩ ?_;intro hS0;have HSD:=ah HSW.o.drew;revert HSD hS0;generalize w5.drew=w6;intro hS0 HSD;refine an 0 1 2 3 ?_;refine an 4 5 6 7 ?_;refine cw 8 9 ?_;refine ca 10 ?_;refine bC 11 fun K hK=>?_
     go_simp;go_at_call 126;refine(eH es[i].key es[i+1].key w6 (HEp.o.1.new HSD.o.aL) (HE.o.1.new HSD.o.aL)).mono ?_;rintro x w' ⟨rfl,hw'⟩;rw[hw',HDec.o];clear hw' w'
     refine hK.out _ _ ⟨HSD.o.aL.cell Y0.o id,HSD.o.cell 0⟩ (fun hS0=>?_);clear hK K;refine cw 12 13 ?_;refine wpAnyH_done (by kernel_rfl) ?_ _;go_wp2_with fail;go_roundw
     .exact⟨i+2,ks,by omega,by push_cast;rfl,⟨by rw[HD.o.say,HSm.o],HD.o.mem,by omega,HSD.o.right⟩⟩
     .simp[intOf];omega
    .have HDec:Hid (decide (es[i].key.2.2=es[i+1].key.2.2)=false):=decide_eq_false hsame;have HSm:=ah (xO es i hlt hsame);clear hsame;refine wp_region_held_drew (S:=fun w'=>w'.cell? ⟨lb,lo+i*4,none⟩=some (.slice es[i].key.1 es[i].key.2.2.length es[i].key.2.1)/\w'.cell? ⟨E,0,none⟩=some (.slice es[i+1].key.1 es[i+1].key.2.2.length es[i+1].key.2.1)) (by kernel_rfl) ⟨HSW.o.drew.aL.cell Y0.o id,HSW.o.drew.cell 0⟩ ?_;intro hS0;have HSD:=ah HSW.o.drew;revert HSD hS0;generalize w5.drew=w6;intro hS0 HSD;refine an 0 1 2 3 ?_;refine an 4 5 6 7 ?_;refine cw 8 9 ?_;refine ca 10 ?_;refine bC 11 fun K hK=>?_
     go_simp;go_at_call 126;refine(eH es[i].key es[i+1].key w6 (HEp.o.1.new HSD.o.aL) (HE.o.1.new HSD.o.aL)).mono ?_;rintro x w' ⟨rfl,hw'⟩;rw[hw',HDec.o];clear hw' w'
     refine hK.out _ _ ⟨HSD.o.aL.cell Y0.o id,HSD.o.cell 0⟩ (fun hS0=>?_);clear hK K;refine cw 12 13 ?_;refine wpAnyH_done (by kernel_rfl) ?_ _;have e0:=HSD.o.cell 0;go_wp2_with (at_builtin;refine av rfl (.tmp 29) (.tmp 32) 87 rfl 41 i0 _ 1 24 Tryz.underlying87 Hi.o Hz0.o Hz1.o Hz2.o rfl (by decide) (.slice KA ks.length kc) ks.length (ks.map aI) rfl w _ (by exact(HSD.o.aD _).ay) (some ⟨w6.heap.size,0,none⟩) 1 1 [aI es[i+1].key] rfl (aR _ _ _) rfl (iV [es[i+1].key]) (by unfold maxLen;omega) (by omega) ?_;intro A7 c7 w7 hs7;have HS7:=ah hs7;clear hs7);go_roundw
     .refine⟨i+2,ks++[es[i+1].key],by omega,by push_cast;rfl,⟨?_,?_,by rw[List.length_append,List.length_singleton];omega,?_⟩⟩
      .rw[jH,HD.o.say,HSm.o];rfl
      .intro x hx;rcases List.mem_append.1 hx with hx | hx
       .exact HD.o.mem x hx
       .exact⟨es[i+1],List.getElem_mem _,List.mem_singleton.1 hx⟩
      .have h9:=HS7.o.bo;rw[List.length_append,List.map_append];exact h9
     .simp[intOf];omega
  .have hie:i=es.length:=by omega
   subst hie;have hsay:=HD.o.say;have hul:=gQ (es.map En.ak) es.length;have hN:dF (ks.length:Int) 10=dF (cT (es.map En.ak) (es.map En.ak).length).length 10:=by
    rw[List.length_map, <-hsay];unfold bK;rw[List.length_map]
   have HN:=ah hN;have HB:=iJ (ks.length:Int) 10 ⟨by omega,by omega,by omega,by omega⟩;have HBs:=ah HB.2;have HKs:Hid (rm wr KA ks):=by
    obtain⟨A',c',e,h1,_⟩:=HD.o.sat.yK;injection e with e
    subst e;exact⟨h1,fun x hx=>by obtain⟨e,he,rfl⟩:=HD.o.mem x hx;exact(HR.o e he).1.new HD.o.sat.aL⟩
   have HKl:Hid (∀ x ∈ ks,x.2.2.length<=140737488355328):=fun x hx=>by obtain⟨e,he,rfl⟩:=HD.o.mem x hx;exact HSh.o e he
   clear hsay hul hN HB;go_wp2_with (go_at_call 181;refine(Gv (ks.length:Int) 10 wr ⟨by omega,by omega,by omega,by omega⟩).mono ?_;rintro x w8 ⟨g,h,rfl,hF,hg,hh,k8⟩;have HF:=ah hF;have HG:=ah hg;have HH:=ah hh;have HK8:=ah k8;clear hF hg hh k8);have hst:=El HKs.o HK8.o HH.o;have hkk:ks.length<=140737488355328:=by omega
   refine(GU g h (dF (ks.length:Int) 10) (dF (ks.length:Int) 10) kc (List.replicate (dF (ks.length:Int) 10) 0) KA ks w8 HF.o HBs.o hst HKl.o hkk).mono ?_;rintro x w9 ⟨rfl,hF9,k9⟩;have HF9:=ah hF9;have HK9:=ah k9;clear hF9 k9;go_wp2_with fail;go_ret;have hs:=HD.o.sat.aL;have hsz:=hs.size;refine⟨g,h,dF (ks.length:Int) 10,rfl,?_,by have:=HG.o;omega,by have:=HH.o;omega,(hs.tr HK8.o).own HK9.o (fun q hq=>by have e:q=h:=hq;have:=HH.o;omega),HBs.o⟩;have h9:=HF9.o;rw[HD.o.say] at h9;unfold hU;rw[<-HN.o,List.length_map];exact h9
theorem qg (e:En) (w:World) (hk:e.key.2.2.length<=140737488355328) (hv:e.value.2.2.length<=140737488355328):
 Calls Tryz.prog 176 #[.agg #[.slice e.key.1 e.key.2.2.length e.key.2.1,.slice e.value.1 e.value.2.2.length e.value.2.1,.int .i64 e.seq,.bool e.dead]] w fun x w'=>x = .returned (.bool (!fU e.ak))/\ao No w w':=by
 have hs:=(Sat.start w).ab 120 #[.slice e.key.1 e.key.2.2.length e.key.2.1,.slice e.value.1 e.value.2.2.length e.value.2.1,.int .i64 e.seq,.bool e.dead];have c0:=hs.cell 0;have c1:=hs.cell 1;have c2:=hs.cell 2;have c3:=hs.cell 3;have HS:=ah hs;clear hs;go_enter Tryz.func176, Tryz.ntmps176;go_wp2_with (go_at_call 177;refine(EH e _ hk hv).mono ?_;rintro x w1 ⟨rfl,k1⟩;have HK:=ah (HS.o.aL.tr k1);clear k1);go_ret;exact⟨rfl,HK.o⟩
theorem yG (A:Option Addr) (c:Nat) (es:List En) (w:World) (h:aF w A (es.flatMap bV)) (hc:es.length<=c) (hm:c<=maxLen) (hsh: ∀ e ∈ es,e.key.2.2.length<=140737488355328/\e.value.2.2.length<=140737488355328):
 Calls Tryz.prog 196 #[.slice A es.length c,.func (.func 176) #[] #[]] w fun x w'=>(∃ r:Int,x = .returned (.int .i64 r)/\decide (0<=r)=(es.map En.ak).any (fun e=> !fU e))/\ao No w w':=by
 have HL:=ah h;have HSh:=ah hsh;unfold maxLen at hm;clear h hsh;go_enter Tryz.func196, Tryz.ntmps196;go_wp2_with fail;go_loopw [8] (fun iv wr=> ∃ i:Nat,i<=es.length/\iv = .int .i64 i/\Hid ((∀ j (h:j<es.length),j<i->fU es[j].ak=true)/\ao No w wr)) (fun iv _=>es.length - (intOf iv).toNat)
 case atStart=>exact⟨0,by omega,rfl,fun j _ h=>by omega,ao.refl _ _⟩
 case round=>
  obtain⟨i,hi,rfl,HD⟩:=hrel;by_cases hlt:i<es.length
  .obtain⟨lb,lo,rfl,hq⟩:=dU HL.o (by omega);obtain⟨z0,z1,z2,z3⟩:=hq i hlt;have a0:=HD.o.2.cell z0 id;have a1:=HD.o.2.cell z1 id;have a2:=HD.o.2.cell z2 id;have a3:=HD.o.2.cell z3 id;unfold aJ at a0 a1;have hs:=HSh.o _ (List.getElem_mem hlt);clear z0 z1 z2 z3 hq;obtain⟨B,hB⟩: ∃ B,fU es[i].ak=B:=⟨_,rfl⟩;have HB:=ah hB;clear hB
   cases B
   .go_wp2_with (go_at_call 176;refine(qg es[i] _ hs.1 hs.2).mono ?_;rintro x w1 ⟨rfl,k1⟩;rw[HB.o];have HK:=ah (HD.o.2.tr k1);clear k1);go_ret;refine⟨⟨i,rfl,?_⟩,HK.o⟩;rw[decide_eq_true (by omega)];exact(List.any_eq_true.2 ⟨es[i].ak,List.mem_map.2 ⟨es[i],List.getElem_mem _,rfl⟩,by rw[HB.o];rfl⟩).symm
   .go_wp2_with (go_at_call 176;refine(qg es[i] _ hs.1 hs.2).mono ?_;rintro x w1 ⟨rfl,k1⟩;rw[HB.o];have HK:=ah (HD.o.2.tr k1);clear k1);go_roundw
    .refine⟨i+1,by omega,by push_cast;rfl,fun j h hj=>?_,HK.o⟩;by_cases e:j=i
     .subst e;exact HB.o
     .exact HD.o.1 j h (by omega)
    .simp[intOf];omega
  .go_wp2_with fail;go_ret;refine⟨⟨-1,rfl,?_⟩,HD.o.2⟩;rw[decide_eq_false (by omega)];symm;rw[List.any_eq_false];intro x hx;obtain⟨e,he,rfl⟩:=List.mem_map.1 hx;obtain⟨j,hj,rfl⟩:=List.getElem_of_mem he;rw[HD.o.1 j hj (by omega)];simp
theorem lK (A:Option Addr) (c:Nat) (es:List En) (w:World) (h:aF w A (es.flatMap bV)) (hc:es.length<=c) (hm:c<=maxLen) (hsh: ∀ e ∈ es,e.key.2.2.length<=140737488355328/\e.value.2.2.length<=140737488355328):
 Calls Tryz.prog 175 #[.slice A es.length c,.func (.func 176) #[] #[]] w fun x w'=>x = .returned (.bool ((es.map En.ak).any (fun e=> !fU e)))/\ao No w w':=by
 have HL:=ah h;have HM:=ah hm;have HSh:=ah hsh;clear h hsh hm;go_enter Tryz.func175, Tryz.ntmps175;go_wp2_with (go_at_call 196;refine(yG A c es _ HL.o hc HM.o HSh.o).mono ?_;rintro x w1 ⟨⟨r,rfl,hr⟩,k1⟩;have HR:=ah hr;have HK:=ah k1;clear hr k1);go_ret;refine⟨?_,HK.o⟩;rw[<-HR.o];rfl
end Go.Proofs.YtmbaiglpgaoogaaGreat
