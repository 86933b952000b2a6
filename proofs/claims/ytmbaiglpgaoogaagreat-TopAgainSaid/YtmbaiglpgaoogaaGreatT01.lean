/- Joined, as they were built one by one: TabEnt. -/
import Derived.Test.YtmbaiglpgaoogaaGreatW01
import Derived.Test.YtmbaiglpgaoogaaGreatW04
import Derived.Test.YtmbaiglpgaoogaaGreatW13
import Derived.Test.YtmbaiglpgaoogaaGreatW14
set_option linter.unusedVariables false
set_option maxRecDepth 100000
namespace Go.Proofs.YtmbaiglpgaoogaaGreat
open Go.RowKit Z
def Lt (g n m:Nat):SP:=Pt g 5 #[.int .u8 (n:Int),.int .u8 (m:Int)]
end Go.Proofs.YtmbaiglpgaoogaaGreat
