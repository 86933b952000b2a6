/- A list of rows of bools that comes in. -/
import Derived.Test.YtjmapbhgjhlefaaQ15
namespace Go.Proofs.Ytjmapbhgjhlefaa
open Go.RowKit Go.ChangeShapes Go.WideShapes Go.Deep
set_option linter.unusedVariables false
set_option maxRecDepth 100000

abbrev Bools_ := List (Option Addr × Nat × List Bool)
def slB (k : Option Addr × Nat × List Bool) : List Value := [.slice k.1 k.2.2.length k.2.1]
def BoolsOk (w : World) (k : Option Addr × Nat × List Bool) : Prop := k.2.2.length ≤ k.2.1 ∧ k.2.1 ≤ maxLen ∧ RdV w k.1 (k.2.2.map Value.bool) ∧ k.2.2.length ≤ 140737488351232
section
variable {H : Type} {enc : TypeId × Value → H} {P : Program} {w : World} {base : Nat} {spare : Nat → Bool} {held : Bool}
theorem open_boolss {t e q : TypeId} {fuel : Nat} {cs : List Value} {x : DataW H × List MemPlace} (ht : P.underlying t = some (.slice e)) (he : P.underlying e = some (.slice q)) (hq : P.underlying q = some .bool) (ce : P.cellsOf e = 1) (be : P.bytesOf e = 24) (cq : P.cellsOf q = 1) (bq : P.bytesOf q = 1)
    (h : DataW.trod enc P w base spare held fuel t cs = some x) (hz : Sized P t x.1) :
    ∃ (A : Option Addr) (c : Nat) (l : Bools_), cs = [.slice A l.length c] ∧ l.length ≤ c ∧ c ≤ maxLen ∧ RdV w A (l.flatMap slB) ∧ l.length * 24 ≤ 140737488351232 ∧ ∀ y ∈ l, BoolsOk w y := by
  refine open_elems slB (BoolsOk w) 1 24 ht ce be (fun _ => rfl) (by decide) (fun n cs x hx hs => ?_) h hz
  obtain ⟨A, c, l, h1, h2⟩ := open_bools he hq cq bq hx hs
  exact ⟨(A, c, l), h1, h2⟩
end
end Go.Proofs.Ytjmapbhgjhlefaa
