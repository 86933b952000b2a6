/- Joined, as they were built one by one: Open. -/
import Derived.ProofKit
import Derived.SizedLaws
import Derived.OpenShut
import Derived.Deep.Slices
import Derived.Test.YtmbaiglpgaoogaaGreatW01
import Derived.Test.YtmbaiglpgaoogaaGreatW16
set_option linter.unusedVariables false
set_option maxRecDepth 100000
namespace Go.Proofs.YtmbaiglpgaoogaaGreat
open Go.ChangeShapes Go.WideShapes Go.ChangeAt Go.RowKit Go.Deep Z
section
variable {H:Type} {P:Program}
theorem LI {e:TypeId} {d:DataW H} {n:Nat} (hn:n ∈ d.weights P e): ∀ {l:List (DataW H)},d ∈ l->n ∈ DataW.weightsAll P e l
 | [],h=>by cases h
 | x::l,h=>by
  simp only[DataW.weightsAll,List.mem_append];rcases List.mem_cons.1 h with rfl | h
  .exact .inl hn
  .exact .inr (LI hn h)
theorem ql.elem {t e:TypeId} {elems spare:List (DataW H)} (h:ql P t (.slice elems spare)) (hu:P.underlying t=some (.slice e)) {d:DataW H} (hd:d ∈ elems):ql P e d:=fun n hn=>
 h n (by simp only[DataW.weights,hu];exact List.mem_cons_of_mem _ (List.mem_append_left _ (LI hn hd)))
variable {enc:TypeId × Value->H} {w:World} {base:Nat} {spare:Nat->Bool} {held:Bool}
end
end Go.Proofs.YtmbaiglpgaoogaaGreat
