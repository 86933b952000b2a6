/- Joined, as they were built one by one: Sto2. -/
import Derived.Test.YtmbaiglpgaoogaaGreatW05
import Derived.Test.YtmbaiglpgaoogaaGreatW07
import Derived.Test.YtmbaiglpgaoogaaGreatW12
import Derived.Test.YtmbaiglpgaoogaaGreatW15
import Derived.Test.YtmbaiglpgaoogaaGreatW16
import Derived.Test.YtmbaiglpgaoogaaGreatW18
import Derived.Test.YtmbaiglpgaoogaaGreatW19
import Derived.Test.YtmbaiglpgaoogaaGreatP01
import Derived.Test.YtmbaiglpgaoogaaGreatP02
import Derived.Test.YtmbaiglpgaoogaaGreatP03
set_option linter.unusedVariables false
set_option maxRecDepth 100000
namespace Go.Proofs.YtmbaiglpgaoogaaGreat
open Go.RowKit Z
theorem gZ.new {w w':World} {ps:List Pu} (h:gZ w ps) (k:ao No w w'):gZ w' ps:=fun p hp=>⟨(h p hp).1.new k,(h p hp).2.new k⟩
end Go.Proofs.YtmbaiglpgaoogaaGreat
