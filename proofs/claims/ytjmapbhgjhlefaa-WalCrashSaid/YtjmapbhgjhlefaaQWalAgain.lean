/- tidingslaw04.again: a crash, and the space anew. -/
import Derived.Test.YtjmapbhgjhlefaaQWalEnds
namespace Go.Proofs.Ytjmapbhgjhlefaa
open Go.RowKit
set_option linter.unusedVariables false
set_option maxRecDepth 100000

section
variable {w0 w : World} {F : SP} {d : Nat} {D : Dk} {T : Spc}
theorem again4_any (Kp : Option Addr) (kc : Nat) (keep : List Bool) (torn : Int) (h : Sat w0 (Disk d D * (Ro Kp (keep.map Value.bool) * F)) w) (hw : D.pend.length ≤ 1000000000) (hkc : keep.length ≤ 9223372036854775807)
    (h2 : 2 ≤ D.cells.length) (hN : D.cells.length ≤ 65536) (ho : openX (D.crash keep torn 100) = (some T, 0)) :
    Calls Try.prog 54 #[.pointer (some ⟨d, 0, none⟩), .slice Kp keep.length kc, .int .i64 torn] w fun e w' => ∃ t, e = .returned (.pointer (some ⟨t, 0, none⟩)) ∧ Sat w0 (SpaceP t d T * (Disk d (D.crash keep torn 100) * (Ro Kp (keep.map Value.bool) * F))) w' := by
  have HCu := Lib.hid (cut_any d D w0 w _ h)
  have HOn : Hid (∀ W, Sat w0 (Disk d { D with off := true } * (Ro Kp (keep.map Value.bool) * F)) W → Calls Try.prog 22 #[.pointer (some ⟨d, 0, none⟩), .slice Kp keep.length kc, .int .i64 torn, .int .i64 100] W fun e w' => e = .returned (.tuple #[]) ∧ Sat w0 (Disk d (D.crash keep torn 100) * (Ro Kp (keep.map Value.bool) * F)) w') := fun W hW => on_any d { D with off := true } Kp kc keep torn 100 w0 W _ hW hw hkc
  have HOp : Hid (∀ W, Sat w0 (Disk d (D.crash keep torn 100) * (Ro Kp (keep.map Value.bool) * F)) W → Calls Try.prog 16 #[.pointer (some ⟨d, 0, none⟩)] W fun e w' => ∃ t, e = .returned (.tuple #[.pointer (some ⟨t, 0, none⟩), .int .i64 0]) ∧ Sat w0 (SpaceP t d T * (Disk d (D.crash keep torn 100) * (Ro Kp (keep.map Value.bool) * F))) w') := fun W hW => by
    refine (open_any hW (by rw [crash_len]; exact h2) (by rw [crash_len]; exact hN)).mono ?_
    rintro e w' ⟨p, h1, h2⟩
    rw [ho] at h1 h2
    obtain ⟨t, rfl⟩ := opt_some h2
    exact ⟨t, h1, h2⟩
  clear h hw hkc h2 hN ho
  go_enter Try.func54, Try.ntmps54
  go_wp2_with (first
    | (go_at_call 21; (with_reducible refine HCu.out.mono ?_); rintro e w1 ⟨rfl, hs⟩; have HS1 := Lib.hid hs; clear hs)
    | (go_at_call 22; (with_reducible refine (HOn.out _ HS1.out).mono ?_); rintro e w2 ⟨rfl, hs⟩; have HS2 := Lib.hid hs; clear hs)
    | (go_at_call 16; (with_reducible refine (HOp.out _ HS2.out).mono ?_); rintro e w3 ⟨t, rfl, hs⟩; have HS3 := Lib.hid hs; clear hs)
    | (go_at_call 49; (with_reducible refine (num4_any _ _).mono ?_); rintro e wx ⟨rfl, rfl⟩))
  go_ret
  exact ⟨t, rfl, HS3.out⟩
end
end Go.Proofs.Ytjmapbhgjhlefaa
