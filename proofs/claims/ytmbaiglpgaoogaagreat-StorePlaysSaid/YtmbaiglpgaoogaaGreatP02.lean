/- Joined, as they were built one by one: Viw TabEnt. -/
import Derived.Test.YtmbaiglpgaoogaaGreatW01
import Derived.Test.YtmbaiglpgaoogaaGreatW04
import Derived.Test.YtmbaiglpgaoogaaGreatW05
import Derived.Test.YtmbaiglpgaoogaaGreatW13
import Derived.Test.YtmbaiglpgaoogaaGreatW14
import Derived.Test.YtmbaiglpgaoogaaGreatP01
import Derived.Test.YtmbaiglpgaoogaaGreatP03
set_option linter.unusedVariables false
set_option maxRecDepth 100000
namespace Go.Proofs.YtmbaiglpgaoogaaGreat
open Go.RowKit Z
theorem L6 {k v:List UInt8}: ∀ {M:List Kv},bI k M=some v->(k,v) ∈ M
 | [],h=>by cases h
 | p::M,h=>by
  unfold bI at h;split at h
  .rename_i h1;injection h with h
   exact List.mem_cons.2 (.inl (Prod.ext h1.symm h.symm))
  .exact List.mem_cons_of_mem _ (L6 h)
def Lt (g n m:Nat):SP:=Pt g 5 #[.int .u8 (n:Int),.int .u8 (m:Int)]
end Go.Proofs.YtmbaiglpgaoogaaGreat
