/-
  No cell of these rows narrows 'for every input' (looked for: loops, veiled, ifaces, maps, wideKeys, modest, calm, conditions, laid).
  DERIVED. THE GIVEN ROWS OF THIS SEAT. 3 by the template 'for every input the law returns true; each argument reads behind the call as it read before'; 0 by the template 'total and deterministic' (their statements: YtndfgijdcanbaaaTotals.lean).
  GIVEN WITH THE SEED: the statements are not yours to turn. If you find one false, say at which input.
  Laid BY PROGRAM, IN A SANDBOX (cutbox-rows.mjs): the forced cells as the released guide's own fill.sh prints them over the translation 3bf7f78d4c7b01cc… (all of the seat's roots in one cut). By AI agents, Wed Nov 11 2026. No macro, syntax, notation, axiom, sorry.
-/
import Derived.Test.YtndfgijdcanbaaaChecked
import GoSem.Claim
import GoSem.ClaimJoined
import GoSem.ClaimMapViews
import Derived.JoinedTies
import Derived.KernelRfl
namespace Go.Proofs.Ytndfgijdcanbaaa
/- THE CELL 'sum', in the pinned program and in every row, IS THE sha256 OF THE DUMP (.gsa) THAT YtndfgijdcanbaaaProg.lean LOADS. Nothing in Lean hashes anything: it is a label: what it is worth is what the hold of that sum in a sandbox is worth. -/
noncomputable def Try.pinned : Pinned := { name := "ytndfgijdcanbaaa", sum := "3bf7f78d4c7b01cc25639bf176b8471b37d9b2e1973b0a3759965f49eff3af5d", checked := Try.checked }
namespace Rows
def none {H : Type} : Left H := { results := [], args := [] }

/-- 'tidingslaw04.WalFrames': WHATEVER THE INPUT: true; the input reads as it did. -/
def walFramesSpec : ChangeSpec := { name := "walFrames", fn := fun _ => fun
  | [d1, d2, d3, d4] => { results := [.lit (.bool true)], args := [d1, d2, d3, d4] }
  | _ => none }
def walFramesRow : OpenClaim := { program := "ytndfgijdcanbaaa", sum := "3bf7f78d4c7b01cc25639bf176b8471b37d9b2e1973b0a3759965f49eff3af5d", func := "tidings/tidingslaw04.WalFrames", spec := "walFrames", apart := false }
def WalFramesSaid : Prop := walFramesRow.holds Try.pinned (OpenSpec.ofChange walFramesSpec)

/-- ITS FALSE NEIGHBOUR: 'it returns false'. Refute it at one input. -/
def walFramesWrong : ChangeSpec := { name := "walFrames", fn := fun _ => fun
  | [d1, d2, d3, d4] => { results := [.lit (.bool false)], args := [d1, d2, d3, d4] }
  | _ => none }
def WalFramesWrongFalsely : Prop := walFramesRow.holds Try.pinned (OpenSpec.ofChange walFramesWrong)

/-- 'tidingslaw04.WalBeginning': WHATEVER THE INPUT: true; the input reads as it did. -/
def walBeginningSpec : ChangeSpec := { name := "walBeginning", fn := fun _ => fun
  | [d1, d2] => { results := [.lit (.bool true)], args := [d1, d2] }
  | _ => none }
def walBeginningRow : OpenClaim := { program := "ytndfgijdcanbaaa", sum := "3bf7f78d4c7b01cc25639bf176b8471b37d9b2e1973b0a3759965f49eff3af5d", func := "tidings/tidingslaw04.WalBeginning", spec := "walBeginning", apart := false }
def WalBeginningSaid : Prop := walBeginningRow.holds Try.pinned (OpenSpec.ofChange walBeginningSpec)

/-- ITS FALSE NEIGHBOUR: 'it returns false'. Refute it at one input. -/
def walBeginningWrong : ChangeSpec := { name := "walBeginning", fn := fun _ => fun
  | [d1, d2] => { results := [.lit (.bool false)], args := [d1, d2] }
  | _ => none }
def WalBeginningWrongFalsely : Prop := walBeginningRow.holds Try.pinned (OpenSpec.ofChange walBeginningWrong)

/-- 'tidingslaw04.WalDropped': WHATEVER THE INPUT: true; the input reads as it did. -/
def walDroppedSpec : ChangeSpec := { name := "walDropped", fn := fun _ => fun
  | [d1, d2, d3] => { results := [.lit (.bool true)], args := [d1, d2, d3] }
  | _ => none }
def walDroppedRow : OpenClaim := { program := "ytndfgijdcanbaaa", sum := "3bf7f78d4c7b01cc25639bf176b8471b37d9b2e1973b0a3759965f49eff3af5d", func := "tidings/tidingslaw04.WalDropped", spec := "walDropped", apart := false }
def WalDroppedSaid : Prop := walDroppedRow.holds Try.pinned (OpenSpec.ofChange walDroppedSpec)

/-- ITS FALSE NEIGHBOUR: 'it returns false'. Refute it at one input. -/
def walDroppedWrong : ChangeSpec := { name := "walDropped", fn := fun _ => fun
  | [d1, d2, d3] => { results := [.lit (.bool false)], args := [d1, d2, d3] }
  | _ => none }
def WalDroppedWrongFalsely : Prop := walDroppedRow.holds Try.pinned (OpenSpec.ofChange walDroppedWrong)

/- THE SECOND FORM. 'bulk': how many values and letters a reading holds, each counted each time it is reached (what is shared counts as often as it is met; a slice's spare places count too). A statement '..UptoSaid' is the law's where the arguments, and the package variables that the reading takes, are together of bulk at most 1048576: NARROWER than '..Said'. Prove '..Said' where nothing that the law and all that it calls make is longer than what came in: it says more and counts as full. Else prove '..UptoSaid'. A law counts once. -/
mutual
def uptoBulk {H : Type} : DataW H → Nat
  | .lit (.string bytes) => bytes.length + 1
  | .lit _ => 1
  | .nil => 1
  | .ptr d => uptoBulk d + 1
  | .slice elems spare => uptoBulkAll elems + uptoBulkAll spare + 1
  | .agg parts => uptoBulkAll parts + 1
  | .iface _ d => uptoBulk d + 1
  | .map entries => uptoBulkEntries entries + 1
  | .held _ => 1
def uptoBulkAll {H : Type} : List (DataW H) → Nat
  | [] => 0
  | d :: r => uptoBulk d + uptoBulkAll r
def uptoBulkEntries {H : Type} : List (Lit × DataW H) → Nat
  | [] => 0
  | x :: r => uptoBulkEntry x + uptoBulkEntries r
def uptoBulkEntry {H : Type} : Lit × DataW H → Nat
  | (.string bytes, d) => bytes.length + uptoBulk d + 1
  | (_, d) => uptoBulk d + 1
 end
def uptoSmall : (H : Type) → List (DataW H) → Bool := fun _ ds => decide (uptoBulkAll ds ≤ 1048576)
def OpenSpec.upto (s : _root_.Go.ChangeSpec) : _root_.Go.OpenSpec := { _root_.Go.OpenSpec.ofChange s with cond := some uptoSmall }

/-- 'tidingslaw04.WalFrames', WHERE WHAT IT READS IS OF BULK AT MOST 1048576: true; the input reads as it did. -/
def walFramesUptoRow : OpenClaim := { program := "ytndfgijdcanbaaa", sum := "3bf7f78d4c7b01cc25639bf176b8471b37d9b2e1973b0a3759965f49eff3af5d", func := "tidings/tidingslaw04.WalFrames", spec := "walFrames", apart := false, narrowed := true }
def WalFramesUptoSaid : Prop := walFramesUptoRow.holds Try.pinned (OpenSpec.upto walFramesSpec)

/-- 'tidingslaw04.WalBeginning', WHERE WHAT IT READS IS OF BULK AT MOST 1048576: true; the input reads as it did. -/
def walBeginningUptoRow : OpenClaim := { program := "ytndfgijdcanbaaa", sum := "3bf7f78d4c7b01cc25639bf176b8471b37d9b2e1973b0a3759965f49eff3af5d", func := "tidings/tidingslaw04.WalBeginning", spec := "walBeginning", apart := false, narrowed := true }
def WalBeginningUptoSaid : Prop := walBeginningUptoRow.holds Try.pinned (OpenSpec.upto walBeginningSpec)

/-- 'tidingslaw04.WalDropped', WHERE WHAT IT READS IS OF BULK AT MOST 1048576: true; the input reads as it did. -/
def walDroppedUptoRow : OpenClaim := { program := "ytndfgijdcanbaaa", sum := "3bf7f78d4c7b01cc25639bf176b8471b37d9b2e1973b0a3759965f49eff3af5d", func := "tidings/tidingslaw04.WalDropped", spec := "walDropped", apart := false, narrowed := true }
def WalDroppedUptoSaid : Prop := walDroppedUptoRow.holds Try.pinned (OpenSpec.upto walDroppedSpec)

end Rows
end Go.Proofs.Ytndfgijdcanbaaa
