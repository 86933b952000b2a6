/-
  No cell of these rows narrows 'for every input' (looked for: loops, veiled, ifaces, maps, wideKeys, modest, calm, conditions, laid).
  DERIVED. THE GIVEN ROWS OF THIS SEAT. 5 by the template 'for every input the law returns true; each argument reads behind the call as it read before'; 0 by the template 'total and deterministic' (their statements: YtiimlbkccoofmaaTotals.lean).
  GIVEN WITH THE SEED: the statements are not yours to turn. If you find one false, say at which input.
  Laid BY PROGRAM, IN A SANDBOX (cutbox-rows.mjs): the forced cells as the released guide's own fill.sh prints them over the translation 1d5ca06952f7b0d5… (all of the seat's roots in one cut). By AI agents, Wed Nov 11 2026. No macro, syntax, notation, axiom, sorry.
-/
import Derived.Test.YtiimlbkccoofmaaChecked
import GoSem.Claim
import GoSem.ClaimJoined
import GoSem.ClaimMapViews
import Derived.JoinedTies
import Derived.KernelRfl
namespace Go.Proofs.Ytiimlbkccoofmaa
/- THE CELL 'sum', in the pinned program and in every row, IS THE sha256 OF THE DUMP (.gsa) THAT YtiimlbkccoofmaaProg.lean LOADS. Nothing in Lean hashes anything: it is a label: what it is worth is what the hold of that sum in a sandbox is worth. -/
noncomputable def Try.pinned : Pinned := { name := "ytiimlbkccoofmaa", sum := "1d5ca06952f7b0d50435c181113a778284be87471eda6146810c3370f882bc07", checked := Try.checked }
namespace Rows
def none {H : Type} : Left H := { results := [], args := [] }

/-- 'tidingslaw02.BlockSafe': WHATEVER THE INPUT: true; the input reads as it did. -/
def blockSafeSpec : ChangeSpec := { name := "blockSafe", fn := fun _ => fun
  | [d1, d2] => { results := [.lit (.bool true)], args := [d1, d2] }
  | _ => none }
def blockSafeRow : OpenClaim := { program := "ytiimlbkccoofmaa", sum := "1d5ca06952f7b0d50435c181113a778284be87471eda6146810c3370f882bc07", func := "tidings/tidingslaw02.BlockSafe", spec := "blockSafe", apart := false }
def BlockSafeSaid : Prop := blockSafeRow.holds Try.pinned (OpenSpec.ofChange blockSafeSpec)

/-- ITS FALSE NEIGHBOUR: 'it returns false'. Refute it at one input. -/
def blockSafeWrong : ChangeSpec := { name := "blockSafe", fn := fun _ => fun
  | [d1, d2] => { results := [.lit (.bool false)], args := [d1, d2] }
  | _ => none }
def BlockSafeWrongFalsely : Prop := blockSafeRow.holds Try.pinned (OpenSpec.ofChange blockSafeWrong)

/-- 'tidingslaw02.BlockEnds': WHATEVER THE INPUT: true; the input reads as it did. -/
def blockEndsSpec : ChangeSpec := { name := "blockEnds", fn := fun _ => fun
  | [] => { results := [.lit (.bool true)], args := [] }
  | _ => none }
def blockEndsRow : OpenClaim := { program := "ytiimlbkccoofmaa", sum := "1d5ca06952f7b0d50435c181113a778284be87471eda6146810c3370f882bc07", func := "tidings/tidingslaw02.BlockEnds", spec := "blockEnds", apart := false }
def BlockEndsSaid : Prop := blockEndsRow.holds Try.pinned (OpenSpec.ofChange blockEndsSpec)

/-- ITS FALSE NEIGHBOUR: 'it returns false'. Refute it at one input. -/
def blockEndsWrong : ChangeSpec := { name := "blockEnds", fn := fun _ => fun
  | [] => { results := [.lit (.bool false)], args := [] }
  | _ => none }
def BlockEndsWrongFalsely : Prop := blockEndsRow.holds Try.pinned (OpenSpec.ofChange blockEndsWrong)

/-- 'tidingslaw02.BlockCrash': WHATEVER THE INPUT: true; the input reads as it did. -/
def blockCrashSpec : ChangeSpec := { name := "blockCrash", fn := fun _ => fun
  | [d1, d2, d3, d4, d5, d6] => { results := [.lit (.bool true)], args := [d1, d2, d3, d4, d5, d6] }
  | _ => none }
def blockCrashRow : OpenClaim := { program := "ytiimlbkccoofmaa", sum := "1d5ca06952f7b0d50435c181113a778284be87471eda6146810c3370f882bc07", func := "tidings/tidingslaw02.BlockCrash", spec := "blockCrash", apart := false }
def BlockCrashSaid : Prop := blockCrashRow.holds Try.pinned (OpenSpec.ofChange blockCrashSpec)

/-- ITS FALSE NEIGHBOUR: 'it returns false'. Refute it at one input. -/
def blockCrashWrong : ChangeSpec := { name := "blockCrash", fn := fun _ => fun
  | [d1, d2, d3, d4, d5, d6] => { results := [.lit (.bool false)], args := [d1, d2, d3, d4, d5, d6] }
  | _ => none }
def BlockCrashWrongFalsely : Prop := blockCrashRow.holds Try.pinned (OpenSpec.ofChange blockCrashWrong)

/-- 'tidingslaw02.BlockArms': WHATEVER THE INPUT: true; the input reads as it did. -/
def blockArmsSpec : ChangeSpec := { name := "blockArms", fn := fun _ => fun
  | [d1, d2] => { results := [.lit (.bool true)], args := [d1, d2] }
  | _ => none }
def blockArmsRow : OpenClaim := { program := "ytiimlbkccoofmaa", sum := "1d5ca06952f7b0d50435c181113a778284be87471eda6146810c3370f882bc07", func := "tidings/tidingslaw02.BlockArms", spec := "blockArms", apart := false }
def BlockArmsSaid : Prop := blockArmsRow.holds Try.pinned (OpenSpec.ofChange blockArmsSpec)

/-- ITS FALSE NEIGHBOUR: 'it returns false'. Refute it at one input. -/
def blockArmsWrong : ChangeSpec := { name := "blockArms", fn := fun _ => fun
  | [d1, d2] => { results := [.lit (.bool false)], args := [d1, d2] }
  | _ => none }
def BlockArmsWrongFalsely : Prop := blockArmsRow.holds Try.pinned (OpenSpec.ofChange blockArmsWrong)

/-- 'tidingslaw02.BlockPlays': WHATEVER THE INPUT: true; the input reads as it did. -/
def blockPlaysSpec : ChangeSpec := { name := "blockPlays", fn := fun _ => fun
  | [d1, d2] => { results := [.lit (.bool true)], args := [d1, d2] }
  | _ => none }
def blockPlaysRow : OpenClaim := { program := "ytiimlbkccoofmaa", sum := "1d5ca06952f7b0d50435c181113a778284be87471eda6146810c3370f882bc07", func := "tidings/tidingslaw02.BlockPlays", spec := "blockPlays", apart := false }
def BlockPlaysSaid : Prop := blockPlaysRow.holds Try.pinned (OpenSpec.ofChange blockPlaysSpec)

/-- ITS FALSE NEIGHBOUR: 'it returns false'. Refute it at one input. -/
def blockPlaysWrong : ChangeSpec := { name := "blockPlays", fn := fun _ => fun
  | [d1, d2] => { results := [.lit (.bool false)], args := [d1, d2] }
  | _ => none }
def BlockPlaysWrongFalsely : Prop := blockPlaysRow.holds Try.pinned (OpenSpec.ofChange blockPlaysWrong)

/- THE SECOND FORM. 'bulk': how many values and letters a reading holds, each counted each time it is reached (what is shared counts as often as it is met; a slice's spare places count too). A statement '..UptoSaid' is the law's where the arguments, and the package variables that the reading takes, are together of bulk at most 1048576: NARROWER than '..Said'. Prove '..Said' where nothing that the law and all that it calls make is longer than what came in: it says more and counts as full. Else prove '..UptoSaid'. A law counts once. -/
mutual
def uptoBulk {H : Type} : DataW H → Nat
  | .lit (.string bytes) => bytes.length + 1
  | .lit _ => 1
  | .nil => 1
  | .ptr d => uptoBulk d + 1
  | .slice elems spare => uptoBulkAll elems + uptoBulkAll spare + 1
  | .agg parts => uptoBulkAll parts + 1
  | .iface _ d => uptoBulk d + 1
  | .map entries => uptoBulkEntries entries + 1
  | .held _ => 1
def uptoBulkAll {H : Type} : List (DataW H) → Nat
  | [] => 0
  | d :: r => uptoBulk d + uptoBulkAll r
def uptoBulkEntries {H : Type} : List (Lit × DataW H) → Nat
  | [] => 0
  | x :: r => uptoBulkEntry x + uptoBulkEntries r
def uptoBulkEntry {H : Type} : Lit × DataW H → Nat
  | (.string bytes, d) => bytes.length + uptoBulk d + 1
  | (_, d) => uptoBulk d + 1
 end
def uptoSmall : (H : Type) → List (DataW H) → Bool := fun _ ds => decide (uptoBulkAll ds ≤ 1048576)
def OpenSpec.upto (s : _root_.Go.ChangeSpec) : _root_.Go.OpenSpec := { _root_.Go.OpenSpec.ofChange s with cond := some uptoSmall }

/-- 'tidingslaw02.BlockSafe', WHERE WHAT IT READS IS OF BULK AT MOST 1048576: true; the input reads as it did. -/
def blockSafeUptoRow : OpenClaim := { program := "ytiimlbkccoofmaa", sum := "1d5ca06952f7b0d50435c181113a778284be87471eda6146810c3370f882bc07", func := "tidings/tidingslaw02.BlockSafe", spec := "blockSafe", apart := false, narrowed := true }
def BlockSafeUptoSaid : Prop := blockSafeUptoRow.holds Try.pinned (OpenSpec.upto blockSafeSpec)

/-- 'tidingslaw02.BlockEnds', WHERE WHAT IT READS IS OF BULK AT MOST 1048576: true; the input reads as it did. -/
def blockEndsUptoRow : OpenClaim := { program := "ytiimlbkccoofmaa", sum := "1d5ca06952f7b0d50435c181113a778284be87471eda6146810c3370f882bc07", func := "tidings/tidingslaw02.BlockEnds", spec := "blockEnds", apart := false, narrowed := true }
def BlockEndsUptoSaid : Prop := blockEndsUptoRow.holds Try.pinned (OpenSpec.upto blockEndsSpec)

/-- 'tidingslaw02.BlockCrash', WHERE WHAT IT READS IS OF BULK AT MOST 1048576: true; the input reads as it did. -/
def blockCrashUptoRow : OpenClaim := { program := "ytiimlbkccoofmaa", sum := "1d5ca06952f7b0d50435c181113a778284be87471eda6146810c3370f882bc07", func := "tidings/tidingslaw02.BlockCrash", spec := "blockCrash", apart := false, narrowed := true }
def BlockCrashUptoSaid : Prop := blockCrashUptoRow.holds Try.pinned (OpenSpec.upto blockCrashSpec)

/-- 'tidingslaw02.BlockArms', WHERE WHAT IT READS IS OF BULK AT MOST 1048576: true; the input reads as it did. -/
def blockArmsUptoRow : OpenClaim := { program := "ytiimlbkccoofmaa", sum := "1d5ca06952f7b0d50435c181113a778284be87471eda6146810c3370f882bc07", func := "tidings/tidingslaw02.BlockArms", spec := "blockArms", apart := false, narrowed := true }
def BlockArmsUptoSaid : Prop := blockArmsUptoRow.holds Try.pinned (OpenSpec.upto blockArmsSpec)

/-- 'tidingslaw02.BlockPlays', WHERE WHAT IT READS IS OF BULK AT MOST 1048576: true; the input reads as it did. -/
def blockPlaysUptoRow : OpenClaim := { program := "ytiimlbkccoofmaa", sum := "1d5ca06952f7b0d50435c181113a778284be87471eda6146810c3370f882bc07", func := "tidings/tidingslaw02.BlockPlays", spec := "blockPlays", apart := false, narrowed := true }
def BlockPlaysUptoSaid : Prop := blockPlaysUptoRow.holds Try.pinned (OpenSpec.upto blockPlaysSpec)

end Rows
end Go.Proofs.Ytiimlbkccoofmaa
