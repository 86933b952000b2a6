/- Joined, as they were built one by one: OwnR. -/
import Derived.Test.YtmbaiglpgaoogaaGreatW02
import Derived.Test.YtmbaiglpgaoogaaGreatW04
import Derived.Test.YtmbaiglpgaoogaaGreatP01
set_option linter.unusedVariables false
set_option maxRecDepth 100000
namespace Go.Proofs.YtmbaiglpgaoogaaGreat
open Go.RowKit Z
theorem LM (x:Option Addr × Nat × List UInt8): ∀ ks:bY,iF (ks++[x])=Row 5 1 (aI x) x.2.2.length (x.2.2.map bv)*iF ks
 | []=>rfl
 | y::ks=>by
  show Row _ _ _ _ _*iF (ks++[x])=_;rw[LM x ks];show _=Row _ _ _ _ _*(Row _ _ _ _ _*iF ks)
  ac_rfl
end Go.Proofs.YtmbaiglpgaoogaaGreat
