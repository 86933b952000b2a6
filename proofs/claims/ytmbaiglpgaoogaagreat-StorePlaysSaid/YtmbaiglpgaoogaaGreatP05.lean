/- Joined, as they were built one by one: MapS. -/
import Derived.Test.YtmbaiglpgaoogaaGreatW03
set_option linter.unusedVariables false
set_option maxRecDepth 100000
namespace Go.Proofs.YtmbaiglpgaoogaaGreat
open Go.RowKit Z
def Nb (f:Int->Option Value) (i:Int):Int->Option Value:=fun j=>if j=i then none else f j
section
variable {P:Program} {k t e:TypeId} {b n:Nat} {f:List UInt8->Option Value} {w0 w w':World} {F:SP} {D:DataW Value}
theorem Sat.map_drop {f:Int->Option Value} (h:Sat w0 (bT P k b n f*F) w) (hk:P.underlying k=some (.int .i64)) (ht:P.underlying t=some (.map k e)) (i:Int) (hi: -9223372036854775808<=i/\i<=9223372036854775807) (ty:TypeId):
 ∃ w',(Builtin.delete_ #[t,k] ty #[.map (some b),.int .i64 i]).run P w = .ok (.tuple #[]) w'/\Sat w0 (bT P k b n (Nb f i)*F) w'/\ao (One b) w w':=by
 obtain⟨D,ho,hs⟩:=h.Bj;obtain⟨w',h1,h2,h3⟩:=ho.drop (Maps.int_keyed hk) ht (Maps.keyOf_int_mk hk (wf_i64 hi)) ty;refine⟨w',h1,h.wj h3 h2 fun j z=>?_,(ao.eD h3.grown).mono fun i _ hi=>Option.some.inj hi⟩;unfold Nb;by_cases e:j=i
 .subst e;rw[if_pos rfl];exact Maps.atKey_del_same _
 .rw[if_neg e];rw[Maps.atKey_del_other (fun q=>e (by injection q))];exact hs j z
end
end Go.Proofs.YtmbaiglpgaoogaaGreat
