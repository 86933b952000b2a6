/- Joined, as they were built one by one: Lib. -/
import Derived.WalkKit
import Derived.WalkSpells
import Derived.WalkLawsBesides
import Derived.WalkSmall
import Derived.Outline
import Derived.KernelRfl
import Derived.Lib.Hide
import Derived.LoopTactic
import Derived.Below
import Derived.OneCell
import Derived.Laws.OwnMore
import Derived.Laws.BytesArg
import Derived.Laws.BitsAllLaws
import Derived.Laws.BitsLemmas
import Derived.Laws.MakeOwn
import Derived.Maps.AppendAt
import Derived.Deep.AppendLies
import Derived.Deep.Draws
import Derived.Deep.QuietTactic
import Derived.BigQuiet
import Derived.Deep.RegionHeld3
import Derived.Deep.RegionLaw
import Derived.Deep.DeepCutAuto
import Derived.Deep.DeepFit
import Derived.Deep.LoopGhost
import Derived.Test.YtmbaiglpgaoogaaGreatS01
namespace Go.Proofs.YtmbaiglpgaoogaaGreat
open Go.RowKit
set_option linter.unusedVariables false
set_option maxRecDepth 100000
section chg
variable {S T:Nat→Prop} {a w w' w'':World}
theorem Chg.below (h:Chg No a w):Below a.heap.size a w:=⟨h.os,h.tape,h.output,h.size,fun k hk=>h.block k hk id⟩
end chg
section at_
variable {w w':World} {g:Nat} {t:TypeId} {cs:Array Value}
end at_
section rdv
variable {w w':World} {A:Option Addr} {xs:List Value}
end rdv
section rd
variable {w w':World} {A:Option Addr} {l:List UInt8}
end rd
section rdl
variable {w w':World} {A:Option Addr} {ks:Rows_}
end rdl
section app
variable {P:Program} {w:World}
end app
section fit
variable {P:Program} {w:World}
end fit
end Go.Proofs.YtmbaiglpgaoogaaGreat
