/- Joined, as they were built one by one: Tab1 TabRd. -/
import Derived.Test.YtmbaiglpgaoogaaGreatS02
import Derived.Test.YtmbaiglpgaoogaaGreatS07
import Derived.Test.YtmbaiglpgaoogaaGreatS15
namespace Go.Proofs.YtmbaiglpgaoogaaGreat
open Go.RowKit
set_option linter.unusedVariables false
set_option maxRecDepth 100000
theorem four_any (n:Nat) (hn:n<9223372036854775808) (w0 w:World) (F:SP) (h:Sat w0 F w):Calls Tryz.prog 178 #[.int .i64 (n:Int)] w (NewB w0 F (putB n 4)):=by
 have H:=ah h;clear h;have hw:IntKind.u64.wrap (n:Int)=n:=by rw[IntKind.wrap_u64];omega
 go_enter Tryz.func178, Tryz.ntmps178;go_wp2_with (go_at_call 117;refine(oput_any n 4 (by omega) (by omega) (by omega) w0 _ F H.out).mono ?_;rintro x w1 ⟨A,c,rfl,h1,h2,hs⟩;have H1:=ah h1;have H2:=ah h2;have HS:=ah hs;clear h1 h2 hs);go_ret;exact⟨A,c,rfl,H1.out,H2.out,HS.out⟩
theorem common_any (a b:Slc) (w:World) (ha:Rd w a.1 a.2.2) (hb:Rd w b.1 b.2.2) (hl:a.2.2.length≤1000000):
  Calls Tryz.prog 197 #[.slice a.1 a.2.2.length a.2.1,.slice b.1 b.2.2.length b.2.1] w fun x w'=>x = .returned (.int .i64 (commonN a.2.2 b.2.2:Nat))∧Chg No w w':=by
 obtain⟨A,c,l⟩:=a;obtain⟨B,d,m⟩:=b;have HA:Hid (Rd w A l):=ha;have HB:Hid (Rd w B m):=hb;have hl:l.length≤1000000:=hl;clear ha hb;show Calls Tryz.prog 197 #[.slice A l.length c,.slice B m.length d] w fun x w'=>x = .returned (.int .i64 (commonN l m:Nat))∧Chg No w w'
 go_enter Tryz.func197, Tryz.ntmps197;go_wp2_with fail;go_loopw [5] (fun iv wr=> ∃ n:Nat,n≤l.length∧n≤m.length∧iv = .int .i64 n∧Hid ((∀ j (h:j<l.length) (h':j<m.length),j<n→l[j]=m[j])∧Chg No w wr)) (fun iv _=>l.length - (intOf iv).toNat)
 case atStart=>exact⟨0,by omega,by omega,rfl,fun j _ _ h=>by omega,Chg.refl _ _⟩
 case round=>
  obtain⟨n,hn1,hn2,rfl,HD⟩:=hrel;by_cases h1:n<l.length
  ·by_cases h2:n<m.length
   ·obtain⟨b1,o1,rfl,c1⟩:=(HA.out.new HD.out.2).get h1;obtain⟨b2,o2,rfl,c2⟩:=(HB.out.new HD.out.2).get h2;by_cases h3:l[n]=m[n]
    ·have HN:Hid (∀ j (h:j<l.length) (h':j<m.length),j<n+1→l[j]=m[j]):=fun j h h' hj=>by
      by_cases e:j=n
      ·subst e;exact h3
      ·exact HD.out.1 j h h' (by omega)
     rw[h3] at c1;clear h3;go_wp2_with fail;go_quiet (fail)
     go_wp2_with fail;go_roundw
     ·exact⟨n+1,by omega,by omega,by push_cast;rfl,HN.out,HD.out.2.drewN _⟩
     ·simp[intOf];omega
    ·have h4:((l[n].toNat:Int)==(m[n].toNat:Int))=false:=by
      rw[beq_eq_false_iff_ne];intro e;exact h3 (UInt8.toNat.inj (by omega))
     have HE:Hid (commonN l m=n):=commonN_eq hn1 hn2 HD.out.1 (fun _ _=>h3);clear h3;go_wp2_with fail;go_quiet (fail)
     go_wp2_with fail;go_ret;exact⟨by rw[HE.out];rfl,HD.out.2.drewN _⟩
   ·have HE:Hid (commonN l m=n):=commonN_eq hn1 hn2 HD.out.1 (fun _ h=>absurd h h2);go_wp2_with fail;go_quiet (fail)
    go_wp2_with fail;go_ret;exact⟨by rw[HE.out];rfl,HD.out.2.drewN _⟩
  ·have HE:Hid (commonN l m=n):=commonN_eq hn1 hn2 HD.out.1 (fun h=>absurd h h1);go_wp2_with fail;go_quiet (fail)
   go_wp2_with fail;go_ret;exact⟨by rw[HE.out];rfl,HD.out.2.drewN _⟩
theorem lmay_any (e:En) (w:World) (hk:e.key.2.2.length≤140737488355328) (hv:e.value.2.2.length≤140737488355328):
  Calls Tryz.prog 177 #[enA e] w fun x w'=>x = .returned (.bool (mayE e.ent))∧Chg No w w':=by
 obtain⟨⟨kA,kc,k⟩,⟨vA,vc,v⟩,seq,dead⟩:=e;have hk:k.length≤140737488355328:=hk;have hv:v.length≤140737488355328:=hv;have hs:=(Sat.start w).allocPt 120 #[.slice kA k.length kc,.slice vA v.length vc,.int .i64 seq,.bool dead];have c0:=hs.cell 0;have c1:=hs.cell 1;have c2:=hs.cell 2;have c3:=hs.cell 3;have HS:=ah hs;have HM:Hid (mayE ⟨k,v,seq,dead⟩=(decide (k.length≤128) && (decide (v.length≤16384) && ((!dead || decide (v.length=0)) && decide (0≤seq))))):=rfl;unfold enA;show Calls Tryz.prog _ _ w fun x w'=>x = .returned (.bool (mayE ⟨k,v,seq,dead⟩))∧Chg No w w'
 clear hs;by_cases h1:k.length≤128
 ·have q1:=decide_eq_true h1;have i1:(k.length:Int)≤128:=by omega
  by_cases h2:v.length≤16384
  ·have q2:=decide_eq_true h2;have i2:(v.length:Int)≤16384:=by omega
   by_cases h3:0≤seq
   ·have q3:=decide_eq_true h3;by_cases h4:v.length=0
    ·have q4:=decide_eq_true h4;have HE:Hid (mayE ⟨k,v,seq,dead⟩=true):=by unfold Hid;rw[HM.out,q1,q2,q3,q4];cases dead<;>rfl
     have i4:((v.length:Int)==0)=true:=by rw[h4];rfl
     clear q1 q2 q3 q4 h4
     cases dead<;>
     ·go_enter Tryz.func177, Tryz.ntmps177;go_wp2_with fail;go_ret;exact⟨by rw[HE.out];rfl,HS.out.chg⟩
    ·have q4:=decide_eq_false h4;have i4:((v.length:Int)==0)=false:=by rw[beq_eq_false_iff_ne];omega
     cases dead
     ·have HE:Hid (mayE ⟨k,v,seq,false⟩=true):=by unfold Hid;rw[HM.out,q1,q2,q3,q4];rfl
      clear q1 q2 q3 q4 h4;go_enter Tryz.func177, Tryz.ntmps177;go_wp2_with fail;go_ret;exact⟨by rw[HE.out];rfl,HS.out.chg⟩
     ·have HE:Hid (mayE ⟨k,v,seq,true⟩=false):=by unfold Hid;rw[HM.out,q1,q2,q3,q4];rfl
      clear q1 q2 q3 q4 h4;go_enter Tryz.func177, Tryz.ntmps177;go_wp2_with fail;go_ret;exact⟨by rw[HE.out];rfl,HS.out.chg⟩
   ·have q3:=decide_eq_false h3;have HE:Hid (mayE ⟨k,v,seq,dead⟩=false):=by unfold Hid;rw[HM.out,q1,q2,q3];simp
    by_cases h4:v.length=0
    ·have i4:((v.length:Int)==0)=true:=by rw[h4];rfl
     clear q1 q2 q3 h4
     cases dead<;>
     ·go_enter Tryz.func177, Tryz.ntmps177;go_wp2_with fail;go_ret;exact⟨by rw[HE.out];rfl,HS.out.chg⟩
    ·have i4:((v.length:Int)==0)=false:=by rw[beq_eq_false_iff_ne];omega
     clear q1 q2 q3 h4
     cases dead<;>
     ·go_enter Tryz.func177, Tryz.ntmps177;go_wp2_with fail;go_ret;exact⟨by rw[HE.out];rfl,HS.out.chg⟩
  ·have q2:=decide_eq_false h2;have i2:¬ (v.length:Int)≤16384:=by omega
   have HE:Hid (mayE ⟨k,v,seq,dead⟩=false):=by unfold Hid;rw[HM.out,q1,q2];rfl
   clear q1 q2;go_enter Tryz.func177, Tryz.ntmps177;go_wp2_with fail;go_ret;exact⟨by rw[HE.out];rfl,HS.out.chg⟩
 ·have q1:=decide_eq_false h1;have i1:¬ (k.length:Int)≤128:=by omega
  have HE:Hid (mayE ⟨k,v,seq,dead⟩=false):=by unfold Hid;rw[HM.out,q1];rfl
  clear q1;go_enter Tryz.func177, Tryz.ntmps177;go_wp2_with fail;go_ret;exact⟨by rw[HE.out];rfl,HS.out.chg⟩
def takeP (n:Nat) (q:List UInt8) (s:Bool):List UInt8 × List UInt8 × Bool:=if s=true∨q.length<n then (List.replicate (min n 8) 0,q,true) else (q.take n,q.drop n,false)
theorem takeP_short {n:Nat} {q:List UInt8} {s:Bool} (h:s=true∨q.length<n):takeP n q s=(List.replicate (min n 8) 0,q,true):=if_pos h
theorem takeP_ok {n:Nat} {q:List UInt8} (h:n≤q.length):takeP n q false=(q.take n,q.drop n,false):=by
 unfold takeP;rw[if_neg (by simp;omega)]
def Rdr (w0:World) (R:Nat) (F:SP) (q:List UInt8) (s:Bool) (w:World):Prop:= ∃ A c,Sat w0 (Pt R 223 #[.slice A q.length c,.bool s]*F) w∧Rd w0 A q∧q.length≤c∧c≤maxLen
theorem run_make_8 (n:Nat) (hn:n≤8) (W:World):(Instr.makeSlice 41 (.int .i64 (n:Int)) (.int .i64 (n:Int))).run Tryz.prog W=
  .ok (.slice (some ⟨W.heap.size,0,none⟩) n n) (W.alloc (.cells (madeCells #[.int .u8 0] n) 5)):=by
 obtain⟨i0,hi,hz0,hz1,hz2⟩:=info_parts info_u8o;have hr:=run_make (P:= Tryz.prog) W 41 5 i0 _ Tryz.underlying41 hi hz0 .i64 .i64 n n (by omega) (by omega) (by rw[hz2];omega) (by omega);have hc:(Value.int .u8 0).cells = #[.int .u8 0]:=rfl;simpa [hz1,hc] using hr
def Took (w0:World) (R:Nat) (F:SP) (p:List UInt8 × List UInt8 × Bool) (e:Ending) (w':World):Prop:=
 ∃ B d,e = .returned (.slice B p.1.length d)∧Rd w' B p.1∧(p.2.2=false→Rd w0 B p.1)∧p.1.length≤d∧d≤maxLen∧Rdr w0 R F p.2.1 p.2.2 w'
set_option maxHeartbeats 2000000 in
theorem take_any (n:Nat) (hn:n≤65536) (R:Nat) (F:SP) (q:List UInt8) (s:Bool) (w0 w:World) (h:Rdr w0 R F q s w) (hql:q.length≤140737488355328):
  Calls Tryz.prog 139 #[.pointer (some ⟨R,0,none⟩),.int .i64 (n:Int)] w (Took w0 R F (takeP n q s)):=by
 obtain⟨A,c,hs,hr,hc,hm⟩:=h;have c0:=hs.cell 0;have c1:=hs.cell 1;have f0:=hs.frozen 0;have f1:=hs.frozen 1;have HS:=ah hs;have HR:=ah hr;unfold maxLen at hm;clear hs hr;by_cases hsh:s=true∨q.length<n
 ·have HT:=ah (takeP_short hsh);have hmin:min (n:Int) 8=((min n 8:Nat):Int):=by omega
  obtain⟨k,hk⟩: ∃ k,min n 8=k:=⟨_,rfl⟩;have hk8:k≤8:=by omega
  have hmk:=run_make_8 k hk8;rw[HT.out,hk];rw[hk] at hmin;have HK:=ah hk;clear hk;have HD:Hid (∀ W,Sat w0 (Pt R 223 #[.slice A q.length c,.bool true]*F) W→Took w0 R F (List.replicate k 0,q,true) (.returned (.slice (some ⟨W.heap.size,0,none⟩) k k)) (W.alloc (.cells (madeCells #[.int .u8 0] k) 5))):=fun W hW=>
   ⟨some ⟨W.heap.size,0,none⟩,k,by simp,by
    have h0:=RdV.lit W (madeCells #[.int .u8 0] k) 5 (0,0);have e:(madeCells #[.int .u8 0] k).toList=(List.replicate k (0:UInt8)).map bv:=by
     rw[List.map_replicate];simp[madeCells,bv,Nat.mod_one,List.map_const']
    rw[e] at h0;exact h0,by simp,by simp,by unfold maxLen;omega,A,c,hW.alloc' _,HR.out,hc,by unfold maxLen;omega⟩
  have HTr:=HD;rcases Nat.lt_or_ge 8 n with h8 | h8
  case' inr=>
   have hkn:k=n:=by have:=HK.out;omega
   subst hkn;have hmz:=hmk;have hmi:¬ (8:Int)<k:=by omega
  case' inl=>
   have hkn:k=8:=by have:=HK.out;omega
   subst hkn;have hmz: ∀ W:World,(Instr.makeSlice 41 (.int .i64 8) (.int .i64 8)).run Tryz.prog W = .ok (.slice (some ⟨W.heap.size,0,none⟩) 8 8) (W.alloc (.cells (madeCells #[.int .u8 0] 8) 5)):=run_make_8 8 (by omega);have hmi:(8:Int)<n:=by omega
  all_goals
   clear hmk hmin HK
   cases s
   case true=>
    go_enter Tryz.func139, Tryz.ntmps139;go_wp2_with fail;go_ret;have h9:=HD.out _ (HS.out.set 1 (.bool true));rw[show (w.setCell ⟨R,1,none⟩ (.bool true)).heap.size=w.heap.size by simp] at h9;exact h9
   case false=>
    have hlt:=hsh.resolve_left (by decide);go_enter Tryz.func139, Tryz.ntmps139;go_wp2_with fail;go_ret;have h9:=HD.out _ (HS.out.set 1 (.bool true));rw[show (w.setCell ⟨R,1,none⟩ (.bool true)).heap.size=w.heap.size by simp] at h9;exact h9
 ·have hs:s=false:=by cases s;rfl;simp at hsh
  subst hs;have hle:n≤q.length:=by simp at hsh;omega
  have hlt:¬ (q.length:Int)<n:=by omega
  have hlt2:(n:Int)≤q.length:=by omega
  have HT:=ah (takeP_ok hle);rw[HT.out];have HD:Hid (∀ W A' c' cx,A'=(if c=n then A else A.map (·.add n))→c'=c - n→cx=c→Sat w0 (Pt R 223 #[.slice A' (q.drop n).length c',.bool false]*F) W→Took w0 R F (q.take n,q.drop n,false) (.returned (.slice A (q.take n).length cx)) W):=fun W A' c' cx e1 e2 e3 hW=>by
   subst e1 e2 e3;exact⟨A,cx,rfl,(HR.out.take n).new hW.chg,fun _=>HR.out.take n,by simp;omega,by unfold maxLen;omega,_,_,hW,HR.out.drop hle hc,by simp;omega,by unfold maxLen;omega⟩
  rw[show (q.take n).length=n by simp;omega,show (q.drop n).length=q.length - n by simp] at HD;clear hsh;go_enter Tryz.func139, Tryz.ntmps139;go_wp2_with fail
  all_goals
   go_ret;first
    | exact HD.out _ _ _ _ (by rw[if_pos ‹c=n›]) (by omega) (by omega) (HS.out.set 0 _)
    | exact HD.out _ _ _ _ (by rw[if_neg ‹¬ c=n›]) (by omega) (by omega) (HS.out.set 0 _)
end Go.Proofs.YtmbaiglpgaoogaaGreat
