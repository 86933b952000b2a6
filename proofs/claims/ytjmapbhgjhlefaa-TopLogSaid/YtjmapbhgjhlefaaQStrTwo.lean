/- Strings made of bytes, compared. -/
import Derived.Test.YtjmapbhgjhlefaaQ02
namespace Go.Proofs.Ytjmapbhgjhlefaa
open Go.RowKit
set_option linter.unusedVariables false
set_option maxRecDepth 100000

theorem str_beq (l m : List UInt8) : ((ByteArray.mk l.toArray).toList == (ByteArray.mk m.toArray).toList) = decide (l = m) := by
  by_cases h : l = m
  · subst h; simp
  · simp [h]
theorem str_two (l m : List UInt8) : ∃ (SA SB : ByteArray) (B : Bool), SA = ByteArray.mk l.toArray ∧ SB = ByteArray.mk m.toArray ∧ (SA.toList == SB.toList) = B ∧ B = decide (l = m) := ⟨_, _, _, rfl, rfl, rfl, str_beq l m⟩
theorem str_any {w : World} {A : Option Addr} {l : List UInt8} (h : Rd w A l) (c : Nat) : (convert 39 9 (.slice A l.length c)).run Try.prog w = .ok (.string ⟨l.toArray⟩) w :=
  h.str (P := Try.prog) 39 9 5 Try.underlying39 Try.underlying5 Try.underlying9 c
end Go.Proofs.Ytjmapbhgjhlefaa
