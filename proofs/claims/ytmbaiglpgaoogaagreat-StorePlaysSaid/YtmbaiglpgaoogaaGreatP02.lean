/- Joined, as they were built one by one: Viw. -/
import Derived.Test.YtmbaiglpgaoogaaGreatW05
import Derived.Test.YtmbaiglpgaoogaaGreatP01
namespace Go.Proofs.YtmbaiglpgaoogaaGreat
open Go.RowKit
set_option linter.unusedVariables false
set_option maxRecDepth 100000
theorem Lm {k v:List UInt8}: ∀ {M:List Kv},bH k M=some v->(k,v) ∈ M
 | [],h=>by cases h
 | p::M,h=>by
  unfold bH at h;split at h
  .rename_i h1;injection h with h
   exact List.mem_cons.2 (.inl (Prod.ext h1.symm h.symm))
  .exact List.mem_cons_of_mem _ (Lm h)
end Go.Proofs.YtmbaiglpgaoogaaGreat
