/- Joined, as they were built one by one: OwnR. -/
import Derived.Test.YtmbaiglpgaoogaaGreatW02
import Derived.Test.YtmbaiglpgaoogaaGreatW04
import Derived.Test.YtmbaiglpgaoogaaGreatP01
namespace Go.Proofs.YtmbaiglpgaoogaaGreat
open Go.RowKit
set_option linter.unusedVariables false
set_option maxRecDepth 100000
theorem KN (x:Option Addr × Nat × List UInt8): ∀ ks:bW,iz (ks++[x])=Row 5 1 (aI x) x.2.2.length (x.2.2.map bv)*iz ks
 | []=>rfl
 | y::ks=>by
  show Row _ _ _ _ _*iz (ks++[x])=_;rw[KN x ks];show _=Row _ _ _ _ _*(Row _ _ _ _ _*iz ks)
  ac_rfl
end Go.Proofs.YtmbaiglpgaoogaaGreat
