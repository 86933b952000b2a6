/- Joined, as they were built one by one: MemOpen. -/
import Derived.Test.YtmbaiglpgaoogaaGreatW05
import Derived.Test.YtmbaiglpgaoogaaGreatW16
set_option linter.unusedVariables false
set_option maxRecDepth 100000
namespace Go.Proofs.YtmbaiglpgaoogaaGreat
open Go.RowKit Go.ChangeShapes Go.WideShapes Go.Deep Z
instance:Inhabited En:=⟨⟨(none,0,[]),(none,0,[]),0,false⟩⟩
end Go.Proofs.YtmbaiglpgaoogaaGreat
