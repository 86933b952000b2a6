/- Joined, as they were built one by one: Bytes OwnL. -/
import Derived.Test.YtmbaiglpgaoogaaGreatProg
import Derived.Lib.SlBytesConst
import Derived.Test.YtmbaiglpgaoogaaGreatW01
import Derived.Test.YtmbaiglpgaoogaaGreatW02
set_option linter.unusedVariables false
set_option maxRecDepth 100000
namespace Go.Proofs.YtmbaiglpgaoogaaGreat
open Go.RowKit Z
theorem M5 (A B:Option Addr) (c d:Nat) (l r:List UInt8) (w:World) (ha:Rd w A l) (hb:Rd w B r):
 Calls Tryz.prog 36 #[.slice A l.length c,.slice B r.length d] w fun e w'=>e = .returned (.bool (l==r))/\w=w':=by
 have h1:=ha.str (P:= Tryz.prog) 41 9 5 Tryz.underlying41 Tryz.underlying5 Tryz.underlying9 c;have h2:=hb.str (P:= Tryz.prog) 41 9 5 Tryz.underlying41 Tryz.underlying5 Tryz.underlying9 d;clear ha hb;go_enter Tryz.func36, Tryz.ntmps36;go_wp2;go_ret;exact⟨rfl,rfl⟩

def Twinned (l:List UInt8) (w:World) (e:Ending) (w':World):Prop:=
  ∃ v,e = .returned v/\w'.ownsRow w.heap.size 5 1 v l.length (l.map bv)/\ao No w w'
theorem twin_any (A:Option Addr) (c:Nat) (l:List UInt8) (w:World) (h:Rd w A l) (hl:l.length<=140737488355328):
    Calls Tryz.prog 46 #[.slice A l.length c] w (Twinned l w):=by
  obtain⟨i0,hi,hz0,hz1,hz2⟩:=info_parts iw
  have hmax:l.length<=maxLen:=by unfold maxLen;omega
  have HL:=ah h
  clear h
  go_enter Tryz.func46, Tryz.ntmps46
  go_wp2_with (at_builtin;refine fo rfl (.tmp 4) (.tmp 5) 41 rfl w.heap.size 5 i0 _ 1 1 Tryz.underlying41 hi hz0 hz1 hz2 rfl (by decide) (.slice none 0 0) 0 [] rfl (World.ownsRow_nil _ _ _ _) A l.length c (l.map bv) rfl HL.o (by simp) (dR l) (by omega) (by omega) (Nat.le_refl _) ?_;intro v1 w1 hap)
  go_ret
  have hown:=hap.own
  refine⟨v1,rfl,by simpa using hown,hap.JC (ao.refl No w) (World.ownsRow_nil w w.heap.size 5 1) (Nat.le_refl _)⟩
theorem LQ {P:Program} {f:FuncId} {args:Array Value} {w:World} {a n:Nat} {v:Value}
 (h:Calls P f args (w.drewN (a+n)) fun e w'=>e = .returned v/\w'=w.drewN (a+n)):Calls P f args (w.drewN (a+n)) fun e w''=>e = .returned v/\ ∃ m,w''=w.drewN (a+m):=
 h.mono fun _ _ ⟨he,hm⟩=>⟨he,n,hm⟩
end Go.Proofs.YtmbaiglpgaoogaaGreat
