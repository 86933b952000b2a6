/-
  No cell of these rows narrows 'for every input' (looked for: loops, veiled, ifaces, maps, wideKeys, modest, calm, conditions, laid).
  DERIVED. THE GIVEN ROWS OF THIS SEAT. 10 by the template 'for every input the law returns true; each argument reads behind the call as it read before'; 0 by the template 'total and deterministic' (their statements: YtjmapbhgjhlefaaTotals.lean).
  GIVEN WITH THE SEED: the statements are not yours to turn. If you find one false, say at which input.
  Laid BY PROGRAM, IN A SANDBOX (cutbox-rows.mjs): the forced cells as the released guide's own fill.sh prints them over the translation 8041206e25fe8f35… (all of the seat's roots in one cut). By AI agents, Wed Nov 11 2026. No macro, syntax, notation, axiom, sorry.
-/
import Derived.Test.YtjmapbhgjhlefaaChecked
import GoSem.Claim
import GoSem.ClaimJoined
import GoSem.ClaimMapViews
import Derived.JoinedTies
import Derived.KernelRfl
namespace Go.Proofs.Ytjmapbhgjhlefaa
/- THE CELL 'sum', in the pinned program and in every row, IS THE sha256 OF THE DUMP (.gsa) THAT YtjmapbhgjhlefaaProg.lean LOADS. Nothing in Lean hashes anything: it is a label: what it is worth is what the hold of that sum in a sandbox is worth. -/
noncomputable def Try.pinned : Pinned := { name := "ytjmapbhgjhlefaa", sum := "8041206e25fe8f353c14c20706f30ec98ab42b298a6cbf611faaae5dedf90a6e", checked := Try.checked }
namespace Rows
def none {H : Type} : Left H := { results := [], args := [] }

/-- 'tidingstop.TopLog': WHATEVER THE INPUT: true; the input reads as it did. -/
def topLogSpec : ChangeSpec := { name := "topLog", fn := fun _ => fun
  | [d1, d2, d3, d4] => { results := [.lit (.bool true)], args := [d1, d2, d3, d4] }
  | _ => none }
def topLogRow : OpenClaim := { program := "ytjmapbhgjhlefaa", sum := "8041206e25fe8f353c14c20706f30ec98ab42b298a6cbf611faaae5dedf90a6e", func := "tidings/tidingstop.TopLog", spec := "topLog", unfollowed := true, recurses := true, apart := false }
def TopLogSaid : Prop := topLogRow.holds Try.pinned (OpenSpec.ofChange topLogSpec)

/-- ITS FALSE NEIGHBOUR: 'it returns false'. Refute it at one input. -/
def topLogWrong : ChangeSpec := { name := "topLog", fn := fun _ => fun
  | [d1, d2, d3, d4] => { results := [.lit (.bool false)], args := [d1, d2, d3, d4] }
  | _ => none }
def TopLogWrongFalsely : Prop := topLogRow.holds Try.pinned (OpenSpec.ofChange topLogWrong)

/-- 'tidingslaw03.SpaceChurn': WHATEVER THE INPUT: true; the input reads as it did. -/
def spaceChurnSpec : ChangeSpec := { name := "spaceChurn", fn := fun _ => fun
  | [d1, d2] => { results := [.lit (.bool true)], args := [d1, d2] }
  | _ => none }
def spaceChurnRow : OpenClaim := { program := "ytjmapbhgjhlefaa", sum := "8041206e25fe8f353c14c20706f30ec98ab42b298a6cbf611faaae5dedf90a6e", func := "tidings/tidingslaw03.SpaceChurn", spec := "spaceChurn", unfollowed := true, recurses := true, apart := false }
def SpaceChurnSaid : Prop := spaceChurnRow.holds Try.pinned (OpenSpec.ofChange spaceChurnSpec)

/-- ITS FALSE NEIGHBOUR: 'it returns false'. Refute it at one input. -/
def spaceChurnWrong : ChangeSpec := { name := "spaceChurn", fn := fun _ => fun
  | [d1, d2] => { results := [.lit (.bool false)], args := [d1, d2] }
  | _ => none }
def SpaceChurnWrongFalsely : Prop := spaceChurnRow.holds Try.pinned (OpenSpec.ofChange spaceChurnWrong)

/-- 'tidingslaw03.SpaceFits': WHATEVER THE INPUT: true; the input reads as it did. -/
def spaceFitsSpec : ChangeSpec := { name := "spaceFits", fn := fun _ => fun
  | [d] => { results := [.lit (.bool true)], args := [d] }
  | _ => none }
def spaceFitsRow : OpenClaim := { program := "ytjmapbhgjhlefaa", sum := "8041206e25fe8f353c14c20706f30ec98ab42b298a6cbf611faaae5dedf90a6e", func := "tidings/tidingslaw03.SpaceFits", spec := "spaceFits", unfollowed := true, recurses := true, apart := false }
def SpaceFitsSaid : Prop := spaceFitsRow.holds Try.pinned (OpenSpec.ofChange spaceFitsSpec)

/-- ITS FALSE NEIGHBOUR: 'it returns false'. Refute it at one input. -/
def spaceFitsWrong : ChangeSpec := { name := "spaceFits", fn := fun _ => fun
  | [d] => { results := [.lit (.bool false)], args := [d] }
  | _ => none }
def SpaceFitsWrongFalsely : Prop := spaceFitsRow.holds Try.pinned (OpenSpec.ofChange spaceFitsWrong)

/-- 'tidingslaw03.SpaceEnds': WHATEVER THE INPUT: true; the input reads as it did. -/
def spaceEndsSpec : ChangeSpec := { name := "spaceEnds", fn := fun _ => fun
  | [] => { results := [.lit (.bool true)], args := [] }
  | _ => none }
def spaceEndsRow : OpenClaim := { program := "ytjmapbhgjhlefaa", sum := "8041206e25fe8f353c14c20706f30ec98ab42b298a6cbf611faaae5dedf90a6e", func := "tidings/tidingslaw03.SpaceEnds", spec := "spaceEnds", unfollowed := true, recurses := true, apart := false }
def SpaceEndsSaid : Prop := spaceEndsRow.holds Try.pinned (OpenSpec.ofChange spaceEndsSpec)

/-- ITS FALSE NEIGHBOUR: 'it returns false'. Refute it at one input. -/
def spaceEndsWrong : ChangeSpec := { name := "spaceEnds", fn := fun _ => fun
  | [] => { results := [.lit (.bool false)], args := [] }
  | _ => none }
def SpaceEndsWrongFalsely : Prop := spaceEndsRow.holds Try.pinned (OpenSpec.ofChange spaceEndsWrong)

/-- 'tidingslaw03.SpacePlays': WHATEVER THE INPUT: true; the input reads as it did. -/
def spacePlaysSpec : ChangeSpec := { name := "spacePlays", fn := fun _ => fun
  | [d1, d2] => { results := [.lit (.bool true)], args := [d1, d2] }
  | _ => none }
def spacePlaysRow : OpenClaim := { program := "ytjmapbhgjhlefaa", sum := "8041206e25fe8f353c14c20706f30ec98ab42b298a6cbf611faaae5dedf90a6e", func := "tidings/tidingslaw03.SpacePlays", spec := "spacePlays", unfollowed := true, recurses := true, apart := false }
def SpacePlaysSaid : Prop := spacePlaysRow.holds Try.pinned (OpenSpec.ofChange spacePlaysSpec)

/-- ITS FALSE NEIGHBOUR: 'it returns false'. Refute it at one input. -/
def spacePlaysWrong : ChangeSpec := { name := "spacePlays", fn := fun _ => fun
  | [d1, d2] => { results := [.lit (.bool false)], args := [d1, d2] }
  | _ => none }
def SpacePlaysWrongFalsely : Prop := spacePlaysRow.holds Try.pinned (OpenSpec.ofChange spacePlaysWrong)

/-- 'tidingslaw03.SpaceSwitch': WHATEVER THE INPUT: true; the input reads as it did. -/
def spaceSwitchSpec : ChangeSpec := { name := "spaceSwitch", fn := fun _ => fun
  | [d1, d2, d3, d4, d5, d6] => { results := [.lit (.bool true)], args := [d1, d2, d3, d4, d5, d6] }
  | _ => none }
def spaceSwitchRow : OpenClaim := { program := "ytjmapbhgjhlefaa", sum := "8041206e25fe8f353c14c20706f30ec98ab42b298a6cbf611faaae5dedf90a6e", func := "tidings/tidingslaw03.SpaceSwitch", spec := "spaceSwitch", unfollowed := true, recurses := true, apart := false }
def SpaceSwitchSaid : Prop := spaceSwitchRow.holds Try.pinned (OpenSpec.ofChange spaceSwitchSpec)

/-- ITS FALSE NEIGHBOUR: 'it returns false'. Refute it at one input. -/
def spaceSwitchWrong : ChangeSpec := { name := "spaceSwitch", fn := fun _ => fun
  | [d1, d2, d3, d4, d5, d6] => { results := [.lit (.bool false)], args := [d1, d2, d3, d4, d5, d6] }
  | _ => none }
def SpaceSwitchWrongFalsely : Prop := spaceSwitchRow.holds Try.pinned (OpenSpec.ofChange spaceSwitchWrong)

/-- 'tidingslaw03.SpaceCrash': WHATEVER THE INPUT: true; the input reads as it did. -/
def spaceCrashSpec : ChangeSpec := { name := "spaceCrash", fn := fun _ => fun
  | [d1, d2] => { results := [.lit (.bool true)], args := [d1, d2] }
  | _ => none }
def spaceCrashRow : OpenClaim := { program := "ytjmapbhgjhlefaa", sum := "8041206e25fe8f353c14c20706f30ec98ab42b298a6cbf611faaae5dedf90a6e", func := "tidings/tidingslaw03.SpaceCrash", spec := "spaceCrash", unfollowed := true, recurses := true, apart := false }
def SpaceCrashSaid : Prop := spaceCrashRow.holds Try.pinned (OpenSpec.ofChange spaceCrashSpec)

/-- ITS FALSE NEIGHBOUR: 'it returns false'. Refute it at one input. -/
def spaceCrashWrong : ChangeSpec := { name := "spaceCrash", fn := fun _ => fun
  | [d1, d2] => { results := [.lit (.bool false)], args := [d1, d2] }
  | _ => none }
def SpaceCrashWrongFalsely : Prop := spaceCrashRow.holds Try.pinned (OpenSpec.ofChange spaceCrashWrong)

/-- 'tidingslaw04.WalEnds': WHATEVER THE INPUT: true; the input reads as it did. -/
def walEndsSpec : ChangeSpec := { name := "walEnds", fn := fun _ => fun
  | [] => { results := [.lit (.bool true)], args := [] }
  | _ => none }
def walEndsRow : OpenClaim := { program := "ytjmapbhgjhlefaa", sum := "8041206e25fe8f353c14c20706f30ec98ab42b298a6cbf611faaae5dedf90a6e", func := "tidings/tidingslaw04.WalEnds", spec := "walEnds", unfollowed := true, recurses := true, apart := false }
def WalEndsSaid : Prop := walEndsRow.holds Try.pinned (OpenSpec.ofChange walEndsSpec)

/-- ITS FALSE NEIGHBOUR: 'it returns false'. Refute it at one input. -/
def walEndsWrong : ChangeSpec := { name := "walEnds", fn := fun _ => fun
  | [] => { results := [.lit (.bool false)], args := [] }
  | _ => none }
def WalEndsWrongFalsely : Prop := walEndsRow.holds Try.pinned (OpenSpec.ofChange walEndsWrong)

/-- 'tidingslaw04.WalAppends': WHATEVER THE INPUT: true; the input reads as it did. -/
def walAppendsSpec : ChangeSpec := { name := "walAppends", fn := fun _ => fun
  | [d1, d2] => { results := [.lit (.bool true)], args := [d1, d2] }
  | _ => none }
def walAppendsRow : OpenClaim := { program := "ytjmapbhgjhlefaa", sum := "8041206e25fe8f353c14c20706f30ec98ab42b298a6cbf611faaae5dedf90a6e", func := "tidings/tidingslaw04.WalAppends", spec := "walAppends", unfollowed := true, recurses := true, apart := false }
def WalAppendsSaid : Prop := walAppendsRow.holds Try.pinned (OpenSpec.ofChange walAppendsSpec)

/-- ITS FALSE NEIGHBOUR: 'it returns false'. Refute it at one input. -/
def walAppendsWrong : ChangeSpec := { name := "walAppends", fn := fun _ => fun
  | [d1, d2] => { results := [.lit (.bool false)], args := [d1, d2] }
  | _ => none }
def WalAppendsWrongFalsely : Prop := walAppendsRow.holds Try.pinned (OpenSpec.ofChange walAppendsWrong)

/-- 'tidingslaw04.WalCrash': WHATEVER THE INPUT: true; the input reads as it did. -/
def walCrashSpec : ChangeSpec := { name := "walCrash", fn := fun _ => fun
  | [d1, d2] => { results := [.lit (.bool true)], args := [d1, d2] }
  | _ => none }
def walCrashRow : OpenClaim := { program := "ytjmapbhgjhlefaa", sum := "8041206e25fe8f353c14c20706f30ec98ab42b298a6cbf611faaae5dedf90a6e", func := "tidings/tidingslaw04.WalCrash", spec := "walCrash", unfollowed := true, recurses := true, apart := false }
def WalCrashSaid : Prop := walCrashRow.holds Try.pinned (OpenSpec.ofChange walCrashSpec)

/-- ITS FALSE NEIGHBOUR: 'it returns false'. Refute it at one input. -/
def walCrashWrong : ChangeSpec := { name := "walCrash", fn := fun _ => fun
  | [d1, d2] => { results := [.lit (.bool false)], args := [d1, d2] }
  | _ => none }
def WalCrashWrongFalsely : Prop := walCrashRow.holds Try.pinned (OpenSpec.ofChange walCrashWrong)

/- THE SECOND FORM. 'bulk': how many values and letters a reading holds, each counted each time it is reached (what is shared counts as often as it is met; a slice's spare places count too). A statement '..UptoSaid' is the law's where the arguments, and the package variables that the reading takes, are together of bulk at most 1048576: NARROWER than '..Said'. Prove '..Said' where nothing that the law and all that it calls make is longer than what came in: it says more and counts as full. Else prove '..UptoSaid'. A law counts once. -/
mutual
def uptoBulk {H : Type} : DataW H → Nat
  | .lit (.string bytes) => bytes.length + 1
  | .lit _ => 1
  | .nil => 1
  | .ptr d => uptoBulk d + 1
  | .slice elems spare => uptoBulkAll elems + uptoBulkAll spare + 1
  | .agg parts => uptoBulkAll parts + 1
  | .iface _ d => uptoBulk d + 1
  | .map entries => uptoBulkEntries entries + 1
  | .held _ => 1
def uptoBulkAll {H : Type} : List (DataW H) → Nat
  | [] => 0
  | d :: r => uptoBulk d + uptoBulkAll r
def uptoBulkEntries {H : Type} : List (Lit × DataW H) → Nat
  | [] => 0
  | x :: r => uptoBulkEntry x + uptoBulkEntries r
def uptoBulkEntry {H : Type} : Lit × DataW H → Nat
  | (.string bytes, d) => bytes.length + uptoBulk d + 1
  | (_, d) => uptoBulk d + 1
 end
def uptoSmall : (H : Type) → List (DataW H) → Bool := fun _ ds => decide (uptoBulkAll ds ≤ 1048576)
def OpenSpec.upto (s : _root_.Go.ChangeSpec) : _root_.Go.OpenSpec := { _root_.Go.OpenSpec.ofChange s with cond := some uptoSmall }

/-- 'tidingstop.TopLog', WHERE WHAT IT READS IS OF BULK AT MOST 1048576: true; the input reads as it did. -/
def topLogUptoRow : OpenClaim := { program := "ytjmapbhgjhlefaa", sum := "8041206e25fe8f353c14c20706f30ec98ab42b298a6cbf611faaae5dedf90a6e", func := "tidings/tidingstop.TopLog", spec := "topLog", unfollowed := true, recurses := true, apart := false, narrowed := true }
def TopLogUptoSaid : Prop := topLogUptoRow.holds Try.pinned (OpenSpec.upto topLogSpec)

/-- 'tidingslaw03.SpaceChurn', WHERE WHAT IT READS IS OF BULK AT MOST 1048576: true; the input reads as it did. -/
def spaceChurnUptoRow : OpenClaim := { program := "ytjmapbhgjhlefaa", sum := "8041206e25fe8f353c14c20706f30ec98ab42b298a6cbf611faaae5dedf90a6e", func := "tidings/tidingslaw03.SpaceChurn", spec := "spaceChurn", unfollowed := true, recurses := true, apart := false, narrowed := true }
def SpaceChurnUptoSaid : Prop := spaceChurnUptoRow.holds Try.pinned (OpenSpec.upto spaceChurnSpec)

/-- 'tidingslaw03.SpaceFits', WHERE WHAT IT READS IS OF BULK AT MOST 1048576: true; the input reads as it did. -/
def spaceFitsUptoRow : OpenClaim := { program := "ytjmapbhgjhlefaa", sum := "8041206e25fe8f353c14c20706f30ec98ab42b298a6cbf611faaae5dedf90a6e", func := "tidings/tidingslaw03.SpaceFits", spec := "spaceFits", unfollowed := true, recurses := true, apart := false, narrowed := true }
def SpaceFitsUptoSaid : Prop := spaceFitsUptoRow.holds Try.pinned (OpenSpec.upto spaceFitsSpec)

/-- 'tidingslaw03.SpaceEnds', WHERE WHAT IT READS IS OF BULK AT MOST 1048576: true; the input reads as it did. -/
def spaceEndsUptoRow : OpenClaim := { program := "ytjmapbhgjhlefaa", sum := "8041206e25fe8f353c14c20706f30ec98ab42b298a6cbf611faaae5dedf90a6e", func := "tidings/tidingslaw03.SpaceEnds", spec := "spaceEnds", unfollowed := true, recurses := true, apart := false, narrowed := true }
def SpaceEndsUptoSaid : Prop := spaceEndsUptoRow.holds Try.pinned (OpenSpec.upto spaceEndsSpec)

/-- 'tidingslaw03.SpacePlays', WHERE WHAT IT READS IS OF BULK AT MOST 1048576: true; the input reads as it did. -/
def spacePlaysUptoRow : OpenClaim := { program := "ytjmapbhgjhlefaa", sum := "8041206e25fe8f353c14c20706f30ec98ab42b298a6cbf611faaae5dedf90a6e", func := "tidings/tidingslaw03.SpacePlays", spec := "spacePlays", unfollowed := true, recurses := true, apart := false, narrowed := true }
def SpacePlaysUptoSaid : Prop := spacePlaysUptoRow.holds Try.pinned (OpenSpec.upto spacePlaysSpec)

/-- 'tidingslaw03.SpaceSwitch', WHERE WHAT IT READS IS OF BULK AT MOST 1048576: true; the input reads as it did. -/
def spaceSwitchUptoRow : OpenClaim := { program := "ytjmapbhgjhlefaa", sum := "8041206e25fe8f353c14c20706f30ec98ab42b298a6cbf611faaae5dedf90a6e", func := "tidings/tidingslaw03.SpaceSwitch", spec := "spaceSwitch", unfollowed := true, recurses := true, apart := false, narrowed := true }
def SpaceSwitchUptoSaid : Prop := spaceSwitchUptoRow.holds Try.pinned (OpenSpec.upto spaceSwitchSpec)

/-- 'tidingslaw03.SpaceCrash', WHERE WHAT IT READS IS OF BULK AT MOST 1048576: true; the input reads as it did. -/
def spaceCrashUptoRow : OpenClaim := { program := "ytjmapbhgjhlefaa", sum := "8041206e25fe8f353c14c20706f30ec98ab42b298a6cbf611faaae5dedf90a6e", func := "tidings/tidingslaw03.SpaceCrash", spec := "spaceCrash", unfollowed := true, recurses := true, apart := false, narrowed := true }
def SpaceCrashUptoSaid : Prop := spaceCrashUptoRow.holds Try.pinned (OpenSpec.upto spaceCrashSpec)

/-- 'tidingslaw04.WalEnds', WHERE WHAT IT READS IS OF BULK AT MOST 1048576: true; the input reads as it did. -/
def walEndsUptoRow : OpenClaim := { program := "ytjmapbhgjhlefaa", sum := "8041206e25fe8f353c14c20706f30ec98ab42b298a6cbf611faaae5dedf90a6e", func := "tidings/tidingslaw04.WalEnds", spec := "walEnds", unfollowed := true, recurses := true, apart := false, narrowed := true }
def WalEndsUptoSaid : Prop := walEndsUptoRow.holds Try.pinned (OpenSpec.upto walEndsSpec)

/-- 'tidingslaw04.WalAppends', WHERE WHAT IT READS IS OF BULK AT MOST 1048576: true; the input reads as it did. -/
def walAppendsUptoRow : OpenClaim := { program := "ytjmapbhgjhlefaa", sum := "8041206e25fe8f353c14c20706f30ec98ab42b298a6cbf611faaae5dedf90a6e", func := "tidings/tidingslaw04.WalAppends", spec := "walAppends", unfollowed := true, recurses := true, apart := false, narrowed := true }
def WalAppendsUptoSaid : Prop := walAppendsUptoRow.holds Try.pinned (OpenSpec.upto walAppendsSpec)

/-- 'tidingslaw04.WalCrash', WHERE WHAT IT READS IS OF BULK AT MOST 1048576: true; the input reads as it did. -/
def walCrashUptoRow : OpenClaim := { program := "ytjmapbhgjhlefaa", sum := "8041206e25fe8f353c14c20706f30ec98ab42b298a6cbf611faaae5dedf90a6e", func := "tidings/tidingslaw04.WalCrash", spec := "walCrash", unfollowed := true, recurses := true, apart := false, narrowed := true }
def WalCrashUptoSaid : Prop := walCrashUptoRow.holds Try.pinned (OpenSpec.upto walCrashSpec)

end Rows
end Go.Proofs.Ytjmapbhgjhlefaa
