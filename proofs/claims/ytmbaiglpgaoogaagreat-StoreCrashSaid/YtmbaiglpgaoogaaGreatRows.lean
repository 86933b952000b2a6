/-
  No cell of these rows narrows 'for every input' (looked for: loops, veiled, ifaces, maps, wideKeys, modest, calm, conditions, laid).
  DERIVED. THE GIVEN ROWS OF THIS SEAT. 13 by the template 'for every input the law returns true; each argument reads behind the call as it read before'; 0 by the template 'total and deterministic' (their statements: YtmbaiglpgaoogaaGreatTotals.lean).
  GIVEN WITH THE SEED: the statements are not yours to turn. If you find one false, say at which input.
  Laid BY PROGRAM, IN A SANDBOX (cutbox-rows.mjs): the forced cells as the released guide's own fill.sh prints them over the translation 3e839b258886b69e… (all of the seat's roots in one cut). By AI agents, Wed Nov 11 2026. No macro, syntax, notation, axiom, sorry.
-/
import Derived.Test.YtmbaiglpgaoogaaGreatChecked
import GoSem.Claim
import GoSem.ClaimJoined
import GoSem.ClaimMapViews
import Derived.JoinedTies
import Derived.KernelRfl
namespace Go.Proofs.YtmbaiglpgaoogaaGreat
/- THE CELL 'sum', in the pinned program and in every row, IS THE sha256 OF THE DUMP (.gsa) THAT YtmbaiglpgaoogaaGreatProg.lean LOADS. Nothing in Lean hashes anything: it is a label: what it is worth is what the hold of that sum in a sandbox is worth. -/
noncomputable def Tryz.pinned : Pinned := { name := "ytmbaiglpgaoogaagreat", sum := "3e839b258886b69ec8591a8c51dc345d42e1274384a3a10c86654feae04728d0", checked := Tryz.checked }
namespace Rows
def none {H : Type} : Left H := { results := [], args := [] }

/-- 'tidingstop.TopAgain': WHATEVER THE INPUT: true; the input reads as it did. -/
def topAgainSpec : ChangeSpec := { name := "topAgain", fn := fun _ => fun
  | [d1, d2, d3] => { results := [.lit (.bool true)], args := [d1, d2, d3] }
  | _ => none }
def topAgainRow : OpenClaim := { program := "ytmbaiglpgaoogaagreat", sum := "3e839b258886b69ec8591a8c51dc345d42e1274384a3a10c86654feae04728d0", func := "tidings/tidingstop.TopAgain", spec := "topAgain", inPlace := ["internal/bytealg.Compare"], unfollowed := true, recurses := true, apart := false }
def TopAgainSaid : Prop := topAgainRow.holds Tryz.pinned (OpenSpec.ofChange topAgainSpec)

/-- ITS FALSE NEIGHBOUR: 'it returns false'. Refute it at one input. -/
def topAgainWrong : ChangeSpec := { name := "topAgain", fn := fun _ => fun
  | [d1, d2, d3] => { results := [.lit (.bool false)], args := [d1, d2, d3] }
  | _ => none }
def TopAgainWrongFalsely : Prop := topAgainRow.holds Tryz.pinned (OpenSpec.ofChange topAgainWrong)

/-- 'tidingslaw10.StoreRoom': WHATEVER THE INPUT: true; the input reads as it did. -/
def storeRoomSpec : ChangeSpec := { name := "storeRoom", fn := fun _ => fun
  | [d1, d2] => { results := [.lit (.bool true)], args := [d1, d2] }
  | _ => none }
def storeRoomRow : OpenClaim := { program := "ytmbaiglpgaoogaagreat", sum := "3e839b258886b69ec8591a8c51dc345d42e1274384a3a10c86654feae04728d0", func := "tidings/tidingslaw10.StoreRoom", spec := "storeRoom", inPlace := ["internal/bytealg.Compare"], unfollowed := true, recurses := true, apart := false }
def StoreRoomSaid : Prop := storeRoomRow.holds Tryz.pinned (OpenSpec.ofChange storeRoomSpec)

/-- ITS FALSE NEIGHBOUR: 'it returns false'. Refute it at one input. -/
def storeRoomWrong : ChangeSpec := { name := "storeRoom", fn := fun _ => fun
  | [d1, d2] => { results := [.lit (.bool false)], args := [d1, d2] }
  | _ => none }
def StoreRoomWrongFalsely : Prop := storeRoomRow.holds Tryz.pinned (OpenSpec.ofChange storeRoomWrong)

/-- 'tidingslaw10.StoreEnds': WHATEVER THE INPUT: true; the input reads as it did. -/
def storeEndsSpec : ChangeSpec := { name := "storeEnds", fn := fun _ => fun
  | [] => { results := [.lit (.bool true)], args := [] }
  | _ => none }
def storeEndsRow : OpenClaim := { program := "ytmbaiglpgaoogaagreat", sum := "3e839b258886b69ec8591a8c51dc345d42e1274384a3a10c86654feae04728d0", func := "tidings/tidingslaw10.StoreEnds", spec := "storeEnds", inPlace := ["internal/bytealg.Compare"], unfollowed := true, recurses := true, apart := false }
def StoreEndsSaid : Prop := storeEndsRow.holds Tryz.pinned (OpenSpec.ofChange storeEndsSpec)

/-- ITS FALSE NEIGHBOUR: 'it returns false'. Refute it at one input. -/
def storeEndsWrong : ChangeSpec := { name := "storeEnds", fn := fun _ => fun
  | [] => { results := [.lit (.bool false)], args := [] }
  | _ => none }
def StoreEndsWrongFalsely : Prop := storeEndsRow.holds Tryz.pinned (OpenSpec.ofChange storeEndsWrong)

/-- 'tidingslaw10.StoreMany': WHATEVER THE INPUT: true; the input reads as it did. -/
def storeManySpec : ChangeSpec := { name := "storeMany", fn := fun _ => fun
  | [d1, d2, d3] => { results := [.lit (.bool true)], args := [d1, d2, d3] }
  | _ => none }
def storeManyRow : OpenClaim := { program := "ytmbaiglpgaoogaagreat", sum := "3e839b258886b69ec8591a8c51dc345d42e1274384a3a10c86654feae04728d0", func := "tidings/tidingslaw10.StoreMany", spec := "storeMany", inPlace := ["internal/bytealg.Compare"], unfollowed := true, recurses := true, apart := false }
def StoreManySaid : Prop := storeManyRow.holds Tryz.pinned (OpenSpec.ofChange storeManySpec)

/-- ITS FALSE NEIGHBOUR: 'it returns false'. Refute it at one input. -/
def storeManyWrong : ChangeSpec := { name := "storeMany", fn := fun _ => fun
  | [d1, d2, d3] => { results := [.lit (.bool false)], args := [d1, d2, d3] }
  | _ => none }
def StoreManyWrongFalsely : Prop := storeManyRow.holds Tryz.pinned (OpenSpec.ofChange storeManyWrong)

/-- 'tidingslaw10.StoreFormats': WHATEVER THE INPUT: true; the input reads as it did. -/
def storeFormatsSpec : ChangeSpec := { name := "storeFormats", fn := fun _ => fun
  | [d1, d2] => { results := [.lit (.bool true)], args := [d1, d2] }
  | _ => none }
def storeFormatsRow : OpenClaim := { program := "ytmbaiglpgaoogaagreat", sum := "3e839b258886b69ec8591a8c51dc345d42e1274384a3a10c86654feae04728d0", func := "tidings/tidingslaw10.StoreFormats", spec := "storeFormats", inPlace := ["internal/bytealg.Compare"], unfollowed := true, recurses := true, apart := false }
def StoreFormatsSaid : Prop := storeFormatsRow.holds Tryz.pinned (OpenSpec.ofChange storeFormatsSpec)

/-- ITS FALSE NEIGHBOUR: 'it returns false'. Refute it at one input. -/
def storeFormatsWrong : ChangeSpec := { name := "storeFormats", fn := fun _ => fun
  | [d1, d2] => { results := [.lit (.bool false)], args := [d1, d2] }
  | _ => none }
def StoreFormatsWrongFalsely : Prop := storeFormatsRow.holds Tryz.pinned (OpenSpec.ofChange storeFormatsWrong)

/-- 'tidingslaw10.StoreScans': WHATEVER THE INPUT: true; the input reads as it did. -/
def storeScansSpec : ChangeSpec := { name := "storeScans", fn := fun _ => fun
  | [d1, d2, d3, d4] => { results := [.lit (.bool true)], args := [d1, d2, d3, d4] }
  | _ => none }
def storeScansRow : OpenClaim := { program := "ytmbaiglpgaoogaagreat", sum := "3e839b258886b69ec8591a8c51dc345d42e1274384a3a10c86654feae04728d0", func := "tidings/tidingslaw10.StoreScans", spec := "storeScans", inPlace := ["internal/bytealg.Compare"], unfollowed := true, recurses := true, apart := false }
def StoreScansSaid : Prop := storeScansRow.holds Tryz.pinned (OpenSpec.ofChange storeScansSpec)

/-- ITS FALSE NEIGHBOUR: 'it returns false'. Refute it at one input. -/
def storeScansWrong : ChangeSpec := { name := "storeScans", fn := fun _ => fun
  | [d1, d2, d3, d4] => { results := [.lit (.bool false)], args := [d1, d2, d3, d4] }
  | _ => none }
def StoreScansWrongFalsely : Prop := storeScansRow.holds Tryz.pinned (OpenSpec.ofChange storeScansWrong)

/-- 'tidingslaw10.StoreLast': WHATEVER THE INPUT: true; the input reads as it did. -/
def storeLastSpec : ChangeSpec := { name := "storeLast", fn := fun _ => fun
  | [d1, d2] => { results := [.lit (.bool true)], args := [d1, d2] }
  | _ => none }
def storeLastRow : OpenClaim := { program := "ytmbaiglpgaoogaagreat", sum := "3e839b258886b69ec8591a8c51dc345d42e1274384a3a10c86654feae04728d0", func := "tidings/tidingslaw10.StoreLast", spec := "storeLast", inPlace := ["internal/bytealg.Compare"], unfollowed := true, recurses := true, apart := false }
def StoreLastSaid : Prop := storeLastRow.holds Tryz.pinned (OpenSpec.ofChange storeLastSpec)

/-- ITS FALSE NEIGHBOUR: 'it returns false'. Refute it at one input. -/
def storeLastWrong : ChangeSpec := { name := "storeLast", fn := fun _ => fun
  | [d1, d2] => { results := [.lit (.bool false)], args := [d1, d2] }
  | _ => none }
def StoreLastWrongFalsely : Prop := storeLastRow.holds Tryz.pinned (OpenSpec.ofChange storeLastWrong)

/-- 'tidingslaw10.StoreWhole': WHATEVER THE INPUT: true; the input reads as it did. -/
def storeWholeSpec : ChangeSpec := { name := "storeWhole", fn := fun _ => fun
  | [d1, d2, d3, d4] => { results := [.lit (.bool true)], args := [d1, d2, d3, d4] }
  | _ => none }
def storeWholeRow : OpenClaim := { program := "ytmbaiglpgaoogaagreat", sum := "3e839b258886b69ec8591a8c51dc345d42e1274384a3a10c86654feae04728d0", func := "tidings/tidingslaw10.StoreWhole", spec := "storeWhole", inPlace := ["internal/bytealg.Compare"], unfollowed := true, recurses := true, apart := false }
def StoreWholeSaid : Prop := storeWholeRow.holds Tryz.pinned (OpenSpec.ofChange storeWholeSpec)

/-- ITS FALSE NEIGHBOUR: 'it returns false'. Refute it at one input. -/
def storeWholeWrong : ChangeSpec := { name := "storeWhole", fn := fun _ => fun
  | [d1, d2, d3, d4] => { results := [.lit (.bool false)], args := [d1, d2, d3, d4] }
  | _ => none }
def StoreWholeWrongFalsely : Prop := storeWholeRow.holds Tryz.pinned (OpenSpec.ofChange storeWholeWrong)

/-- 'tidingslaw10.StoreOpens': WHATEVER THE INPUT: true; the input reads as it did. -/
def storeOpensSpec : ChangeSpec := { name := "storeOpens", fn := fun _ => fun
  | [d1, d2, d3] => { results := [.lit (.bool true)], args := [d1, d2, d3] }
  | _ => none }
def storeOpensRow : OpenClaim := { program := "ytmbaiglpgaoogaagreat", sum := "3e839b258886b69ec8591a8c51dc345d42e1274384a3a10c86654feae04728d0", func := "tidings/tidingslaw10.StoreOpens", spec := "storeOpens", inPlace := ["internal/bytealg.Compare"], unfollowed := true, recurses := true, apart := false }
def StoreOpensSaid : Prop := storeOpensRow.holds Tryz.pinned (OpenSpec.ofChange storeOpensSpec)

/-- ITS FALSE NEIGHBOUR: 'it returns false'. Refute it at one input. -/
def storeOpensWrong : ChangeSpec := { name := "storeOpens", fn := fun _ => fun
  | [d1, d2, d3] => { results := [.lit (.bool false)], args := [d1, d2, d3] }
  | _ => none }
def StoreOpensWrongFalsely : Prop := storeOpensRow.holds Tryz.pinned (OpenSpec.ofChange storeOpensWrong)

/-- 'tidingslaw10.StoreSnaps': WHATEVER THE INPUT: true; the input reads as it did. -/
def storeSnapsSpec : ChangeSpec := { name := "storeSnaps", fn := fun _ => fun
  | [d1, d2, d3] => { results := [.lit (.bool true)], args := [d1, d2, d3] }
  | _ => none }
def storeSnapsRow : OpenClaim := { program := "ytmbaiglpgaoogaagreat", sum := "3e839b258886b69ec8591a8c51dc345d42e1274384a3a10c86654feae04728d0", func := "tidings/tidingslaw10.StoreSnaps", spec := "storeSnaps", inPlace := ["internal/bytealg.Compare"], unfollowed := true, recurses := true, apart := false }
def StoreSnapsSaid : Prop := storeSnapsRow.holds Tryz.pinned (OpenSpec.ofChange storeSnapsSpec)

/-- ITS FALSE NEIGHBOUR: 'it returns false'. Refute it at one input. -/
def storeSnapsWrong : ChangeSpec := { name := "storeSnaps", fn := fun _ => fun
  | [d1, d2, d3] => { results := [.lit (.bool false)], args := [d1, d2, d3] }
  | _ => none }
def StoreSnapsWrongFalsely : Prop := storeSnapsRow.holds Tryz.pinned (OpenSpec.ofChange storeSnapsWrong)

/-- 'tidingslaw10.StoreOld': WHATEVER THE INPUT: true; the input reads as it did. -/
def storeOldSpec : ChangeSpec := { name := "storeOld", fn := fun _ => fun
  | [d1, d2, d3] => { results := [.lit (.bool true)], args := [d1, d2, d3] }
  | _ => none }
def storeOldRow : OpenClaim := { program := "ytmbaiglpgaoogaagreat", sum := "3e839b258886b69ec8591a8c51dc345d42e1274384a3a10c86654feae04728d0", func := "tidings/tidingslaw10.StoreOld", spec := "storeOld", inPlace := ["internal/bytealg.Compare"], unfollowed := true, recurses := true, apart := false }
def StoreOldSaid : Prop := storeOldRow.holds Tryz.pinned (OpenSpec.ofChange storeOldSpec)

/-- ITS FALSE NEIGHBOUR: 'it returns false'. Refute it at one input. -/
def storeOldWrong : ChangeSpec := { name := "storeOld", fn := fun _ => fun
  | [d1, d2, d3] => { results := [.lit (.bool false)], args := [d1, d2, d3] }
  | _ => none }
def StoreOldWrongFalsely : Prop := storeOldRow.holds Tryz.pinned (OpenSpec.ofChange storeOldWrong)

/-- 'tidingslaw10.StorePlays': WHATEVER THE INPUT: true; the input reads as it did. -/
def storePlaysSpec : ChangeSpec := { name := "storePlays", fn := fun _ => fun
  | [d] => { results := [.lit (.bool true)], args := [d] }
  | _ => none }
def storePlaysRow : OpenClaim := { program := "ytmbaiglpgaoogaagreat", sum := "3e839b258886b69ec8591a8c51dc345d42e1274384a3a10c86654feae04728d0", func := "tidings/tidingslaw10.StorePlays", spec := "storePlays", inPlace := ["internal/bytealg.Compare"], unfollowed := true, recurses := true, apart := false }
def StorePlaysSaid : Prop := storePlaysRow.holds Tryz.pinned (OpenSpec.ofChange storePlaysSpec)

/-- ITS FALSE NEIGHBOUR: 'it returns false'. Refute it at one input. -/
def storePlaysWrong : ChangeSpec := { name := "storePlays", fn := fun _ => fun
  | [d] => { results := [.lit (.bool false)], args := [d] }
  | _ => none }
def StorePlaysWrongFalsely : Prop := storePlaysRow.holds Tryz.pinned (OpenSpec.ofChange storePlaysWrong)

/-- 'tidingslaw10.StoreCrash': WHATEVER THE INPUT: true; the input reads as it did. -/
def storeCrashSpec : ChangeSpec := { name := "storeCrash", fn := fun _ => fun
  | [d] => { results := [.lit (.bool true)], args := [d] }
  | _ => none }
def storeCrashRow : OpenClaim := { program := "ytmbaiglpgaoogaagreat", sum := "3e839b258886b69ec8591a8c51dc345d42e1274384a3a10c86654feae04728d0", func := "tidings/tidingslaw10.StoreCrash", spec := "storeCrash", inPlace := ["internal/bytealg.Compare"], unfollowed := true, recurses := true, apart := false }
def StoreCrashSaid : Prop := storeCrashRow.holds Tryz.pinned (OpenSpec.ofChange storeCrashSpec)

/-- ITS FALSE NEIGHBOUR: 'it returns false'. Refute it at one input. -/
def storeCrashWrong : ChangeSpec := { name := "storeCrash", fn := fun _ => fun
  | [d] => { results := [.lit (.bool false)], args := [d] }
  | _ => none }
def StoreCrashWrongFalsely : Prop := storeCrashRow.holds Tryz.pinned (OpenSpec.ofChange storeCrashWrong)

/- THE SECOND FORM. 'bulk': how many values and letters a reading holds, each counted each time it is reached (what is shared counts as often as it is met; a slice's spare places count too). A statement '..UptoSaid' is the law's where the arguments, and the package variables that the reading takes, are together of bulk at most 1048576: NARROWER than '..Said'. Prove '..Said' where nothing that the law and all that it calls make is longer than what came in: it says more and counts as full. Else prove '..UptoSaid'. A law counts once. -/
mutual
def uptoBulk {H : Type} : DataW H → Nat
  | .lit (.string bytes) => bytes.length + 1
  | .lit _ => 1
  | .nil => 1
  | .ptr d => uptoBulk d + 1
  | .slice elems spare => uptoBulkAll elems + uptoBulkAll spare + 1
  | .agg parts => uptoBulkAll parts + 1
  | .iface _ d => uptoBulk d + 1
  | .map entries => uptoBulkEntries entries + 1
  | .held _ => 1
def uptoBulkAll {H : Type} : List (DataW H) → Nat
  | [] => 0
  | d :: r => uptoBulk d + uptoBulkAll r
def uptoBulkEntries {H : Type} : List (Lit × DataW H) → Nat
  | [] => 0
  | x :: r => uptoBulkEntry x + uptoBulkEntries r
def uptoBulkEntry {H : Type} : Lit × DataW H → Nat
  | (.string bytes, d) => bytes.length + uptoBulk d + 1
  | (_, d) => uptoBulk d + 1
 end
def uptoSmall : (H : Type) → List (DataW H) → Bool := fun _ ds => decide (uptoBulkAll ds ≤ 1048576)
def OpenSpec.upto (s : _root_.Go.ChangeSpec) : _root_.Go.OpenSpec := { _root_.Go.OpenSpec.ofChange s with cond := some uptoSmall }

/-- 'tidingstop.TopAgain', WHERE WHAT IT READS IS OF BULK AT MOST 1048576: true; the input reads as it did. -/
def topAgainUptoRow : OpenClaim := { program := "ytmbaiglpgaoogaagreat", sum := "3e839b258886b69ec8591a8c51dc345d42e1274384a3a10c86654feae04728d0", func := "tidings/tidingstop.TopAgain", spec := "topAgain", inPlace := ["internal/bytealg.Compare"], unfollowed := true, recurses := true, apart := false, narrowed := true }
def TopAgainUptoSaid : Prop := topAgainUptoRow.holds Tryz.pinned (OpenSpec.upto topAgainSpec)

/-- 'tidingslaw10.StoreRoom', WHERE WHAT IT READS IS OF BULK AT MOST 1048576: true; the input reads as it did. -/
def storeRoomUptoRow : OpenClaim := { program := "ytmbaiglpgaoogaagreat", sum := "3e839b258886b69ec8591a8c51dc345d42e1274384a3a10c86654feae04728d0", func := "tidings/tidingslaw10.StoreRoom", spec := "storeRoom", inPlace := ["internal/bytealg.Compare"], unfollowed := true, recurses := true, apart := false, narrowed := true }
def StoreRoomUptoSaid : Prop := storeRoomUptoRow.holds Tryz.pinned (OpenSpec.upto storeRoomSpec)

/-- 'tidingslaw10.StoreEnds', WHERE WHAT IT READS IS OF BULK AT MOST 1048576: true; the input reads as it did. -/
def storeEndsUptoRow : OpenClaim := { program := "ytmbaiglpgaoogaagreat", sum := "3e839b258886b69ec8591a8c51dc345d42e1274384a3a10c86654feae04728d0", func := "tidings/tidingslaw10.StoreEnds", spec := "storeEnds", inPlace := ["internal/bytealg.Compare"], unfollowed := true, recurses := true, apart := false, narrowed := true }
def StoreEndsUptoSaid : Prop := storeEndsUptoRow.holds Tryz.pinned (OpenSpec.upto storeEndsSpec)

/-- 'tidingslaw10.StoreMany', WHERE WHAT IT READS IS OF BULK AT MOST 1048576: true; the input reads as it did. -/
def storeManyUptoRow : OpenClaim := { program := "ytmbaiglpgaoogaagreat", sum := "3e839b258886b69ec8591a8c51dc345d42e1274384a3a10c86654feae04728d0", func := "tidings/tidingslaw10.StoreMany", spec := "storeMany", inPlace := ["internal/bytealg.Compare"], unfollowed := true, recurses := true, apart := false, narrowed := true }
def StoreManyUptoSaid : Prop := storeManyUptoRow.holds Tryz.pinned (OpenSpec.upto storeManySpec)

/-- 'tidingslaw10.StoreFormats', WHERE WHAT IT READS IS OF BULK AT MOST 1048576: true; the input reads as it did. -/
def storeFormatsUptoRow : OpenClaim := { program := "ytmbaiglpgaoogaagreat", sum := "3e839b258886b69ec8591a8c51dc345d42e1274384a3a10c86654feae04728d0", func := "tidings/tidingslaw10.StoreFormats", spec := "storeFormats", inPlace := ["internal/bytealg.Compare"], unfollowed := true, recurses := true, apart := false, narrowed := true }
def StoreFormatsUptoSaid : Prop := storeFormatsUptoRow.holds Tryz.pinned (OpenSpec.upto storeFormatsSpec)

/-- 'tidingslaw10.StoreScans', WHERE WHAT IT READS IS OF BULK AT MOST 1048576: true; the input reads as it did. -/
def storeScansUptoRow : OpenClaim := { program := "ytmbaiglpgaoogaagreat", sum := "3e839b258886b69ec8591a8c51dc345d42e1274384a3a10c86654feae04728d0", func := "tidings/tidingslaw10.StoreScans", spec := "storeScans", inPlace := ["internal/bytealg.Compare"], unfollowed := true, recurses := true, apart := false, narrowed := true }
def StoreScansUptoSaid : Prop := storeScansUptoRow.holds Tryz.pinned (OpenSpec.upto storeScansSpec)

/-- 'tidingslaw10.StoreLast', WHERE WHAT IT READS IS OF BULK AT MOST 1048576: true; the input reads as it did. -/
def storeLastUptoRow : OpenClaim := { program := "ytmbaiglpgaoogaagreat", sum := "3e839b258886b69ec8591a8c51dc345d42e1274384a3a10c86654feae04728d0", func := "tidings/tidingslaw10.StoreLast", spec := "storeLast", inPlace := ["internal/bytealg.Compare"], unfollowed := true, recurses := true, apart := false, narrowed := true }
def StoreLastUptoSaid : Prop := storeLastUptoRow.holds Tryz.pinned (OpenSpec.upto storeLastSpec)

/-- 'tidingslaw10.StoreWhole', WHERE WHAT IT READS IS OF BULK AT MOST 1048576: true; the input reads as it did. -/
def storeWholeUptoRow : OpenClaim := { program := "ytmbaiglpgaoogaagreat", sum := "3e839b258886b69ec8591a8c51dc345d42e1274384a3a10c86654feae04728d0", func := "tidings/tidingslaw10.StoreWhole", spec := "storeWhole", inPlace := ["internal/bytealg.Compare"], unfollowed := true, recurses := true, apart := false, narrowed := true }
def StoreWholeUptoSaid : Prop := storeWholeUptoRow.holds Tryz.pinned (OpenSpec.upto storeWholeSpec)

/-- 'tidingslaw10.StoreOpens', WHERE WHAT IT READS IS OF BULK AT MOST 1048576: true; the input reads as it did. -/
def storeOpensUptoRow : OpenClaim := { program := "ytmbaiglpgaoogaagreat", sum := "3e839b258886b69ec8591a8c51dc345d42e1274384a3a10c86654feae04728d0", func := "tidings/tidingslaw10.StoreOpens", spec := "storeOpens", inPlace := ["internal/bytealg.Compare"], unfollowed := true, recurses := true, apart := false, narrowed := true }
def StoreOpensUptoSaid : Prop := storeOpensUptoRow.holds Tryz.pinned (OpenSpec.upto storeOpensSpec)

/-- 'tidingslaw10.StoreSnaps', WHERE WHAT IT READS IS OF BULK AT MOST 1048576: true; the input reads as it did. -/
def storeSnapsUptoRow : OpenClaim := { program := "ytmbaiglpgaoogaagreat", sum := "3e839b258886b69ec8591a8c51dc345d42e1274384a3a10c86654feae04728d0", func := "tidings/tidingslaw10.StoreSnaps", spec := "storeSnaps", inPlace := ["internal/bytealg.Compare"], unfollowed := true, recurses := true, apart := false, narrowed := true }
def StoreSnapsUptoSaid : Prop := storeSnapsUptoRow.holds Tryz.pinned (OpenSpec.upto storeSnapsSpec)

/-- 'tidingslaw10.StoreOld', WHERE WHAT IT READS IS OF BULK AT MOST 1048576: true; the input reads as it did. -/
def storeOldUptoRow : OpenClaim := { program := "ytmbaiglpgaoogaagreat", sum := "3e839b258886b69ec8591a8c51dc345d42e1274384a3a10c86654feae04728d0", func := "tidings/tidingslaw10.StoreOld", spec := "storeOld", inPlace := ["internal/bytealg.Compare"], unfollowed := true, recurses := true, apart := false, narrowed := true }
def StoreOldUptoSaid : Prop := storeOldUptoRow.holds Tryz.pinned (OpenSpec.upto storeOldSpec)

/-- 'tidingslaw10.StorePlays', WHERE WHAT IT READS IS OF BULK AT MOST 1048576: true; the input reads as it did. -/
def storePlaysUptoRow : OpenClaim := { program := "ytmbaiglpgaoogaagreat", sum := "3e839b258886b69ec8591a8c51dc345d42e1274384a3a10c86654feae04728d0", func := "tidings/tidingslaw10.StorePlays", spec := "storePlays", inPlace := ["internal/bytealg.Compare"], unfollowed := true, recurses := true, apart := false, narrowed := true }
def StorePlaysUptoSaid : Prop := storePlaysUptoRow.holds Tryz.pinned (OpenSpec.upto storePlaysSpec)

/-- 'tidingslaw10.StoreCrash', WHERE WHAT IT READS IS OF BULK AT MOST 1048576: true; the input reads as it did. -/
def storeCrashUptoRow : OpenClaim := { program := "ytmbaiglpgaoogaagreat", sum := "3e839b258886b69ec8591a8c51dc345d42e1274384a3a10c86654feae04728d0", func := "tidings/tidingslaw10.StoreCrash", spec := "storeCrash", inPlace := ["internal/bytealg.Compare"], unfollowed := true, recurses := true, apart := false, narrowed := true }
def StoreCrashUptoSaid : Prop := storeCrashUptoRow.holds Tryz.pinned (OpenSpec.upto storeCrashSpec)

end Rows
end Go.Proofs.YtmbaiglpgaoogaaGreat
