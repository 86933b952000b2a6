/- tidingslaw02.BlockEnds -/
import Derived.Test.YtiimlbkccoofmaaBlk8
import Derived.Test.YtiimlbkccoofmaaOpen
namespace Go.Proofs.Ytiimlbkccoofmaa
open Go.RowKit
set_option linter.unusedVariables false

theorem ends_read2 : (Dk.new 2).read 2 = ([], 22) := rfl
theorem ends_readm : (Dk.new 2).read (-1) = ([], 22) := rfl
theorem ends_read1 : (Dk.new 2).read 1 = (List.replicate 512 0, 0) := rfl
theorem ends_write2 (b : List UInt8) : (Dk.new 2).write 2 b = (Dk.new 2, 22) := rfl
theorem ends_write0 (b : List UInt8) (h : b.length ≠ 512) : (Dk.new 2).write 0 b = (Dk.new 2, 23) := by
  unfold Dk.write
  rw [if_pos (show (Dk.new 2).ask 0 = 0 from rfl), if_neg h]
theorem new_no (n : Int) (h : ¬ (2 ≤ n ∧ n ≤ 65536)) (w0 w : World) (F : SP) (hs : Sat w0 F w) : Calls Try.prog 8 #[.int .i64 n] w fun e w' => e = .returned (.tuple #[.pointer none, .int .i64 20]) ∧ Sat w0 F w' := by
  refine (new_any n w0 w F hs).mono ?_
  intro e w1 h1
  unfold NewD at h1
  rwa [if_neg h] at h1
theorem new_yes (n : Nat) (h : 2 ≤ n ∧ n ≤ 65536) (w0 w : World) (F : SP) (hs : Sat w0 F w) : Calls Try.prog 8 #[.int .i64 n] w fun e w' => ∃ d, e = .returned (.tuple #[.pointer (some ⟨d, 0, none⟩), .int .i64 0]) ∧ Sat w0 (Disk d (Dk.new n) * F) w' := by
  refine (new_any n w0 w F hs).mono ?_
  intro e w1 h1
  unfold NewD at h1
  rw [if_pos (by omega)] at h1
  exact h1
/-- What make gives, for all to read. -/
theorem Sat.made {w0 w : World} {F : SP} {b n : Nat} (h : Sat w0 F w) (hb : b = w.heap.size) (hn : n ≤ 1000000) : Sat w0 (Rb (some ⟨b, 0, none⟩) (List.replicate n (0 : UInt8)) * F) (w.alloc (.cells (noughts n) 5)) := by
  have h1 := bytes_row (h.allocAt 5 (noughts n) hb) (by unfold maxLen; omega)
  rw [List.length_replicate] at h1
  exact h1.row_rb
set_option maxHeartbeats 1000000 in
theorem blockEnds_walk (w : World) : Calls Try.prog 4 #[] w (Asked true w) := by
  have hm1 := make_512
  have hm2 : ∀ W : World, (Instr.makeSlice 30 (.int .i64 511) (.int .i64 511)).run Try.prog W = .ok (.slice (some ⟨W.heap.size, 0, none⟩) 511 511) (W.alloc (.cells (noughts 511) 5)) := fun W => make_bytes 511 (by omega) W
  have hm3 : ∀ W : World, (Instr.makeSlice 30 (.int .i64 513) (.int .i64 513)).run Try.prog W = .ok (.slice (some ⟨W.heap.size, 0, none⟩) 513 513) (W.alloc (.cells (noughts 513) 5)) := fun W => make_bytes 513 (by omega) W
  go_enter Try.func4, Try.ntmps4
  go_wp2_with fail
  refine (new_no 1 (by omega) w w _ (Sat.start w)).mono ?_
  rintro e w1 ⟨rfl, hs⟩
  have HS1 := Lib.hid hs
  clear hs
  go_wp2_with fail
  refine (new_no 65537 (by omega) w w1 _ HS1.out).mono ?_
  rintro e w2 ⟨rfl, hs⟩
  have HS2 := Lib.hid hs
  clear hs
  go_wp2_with fail
  refine (new_yes 2 (by omega) w w2 _ HS2.out).mono ?_
  rintro e w3 ⟨d, rfl, hs⟩
  have HS3 := Lib.hid hs
  clear hs
  go_wp2_with (go_at_call 9; refine (num_any _ _).mono ?_; rintro e w' ⟨rfl, rfl⟩)
  refine (read_at HS3.out ends_read2).mono ?_
  rintro e w4 ⟨A4, c4, rfl, hs⟩
  have HS4 := Lib.hid hs.row_rb.right
  clear hs
  go_wp2_with fail
  refine (read_at HS4.out ends_readm).mono ?_
  rintro e w5 ⟨A5, c5, rfl, hs⟩
  have HS5 := Lib.hid hs.row_rb.right
  clear hs
  go_wp2_with fail
  have HQ := Lib.hid (HS5.out.made (b := w5.heap.size) (n := 512) rfl (by decide)).up2
  refine (write_at HQ.out HQ.out.up2.rd (List.length_replicate ..) (ends_write2 _) (by decide) (by decide) (by decide) (by decide)).mono ?_
  rintro e w6 ⟨rfl, hs⟩
  have HS6 := Lib.hid hs.drop2
  clear hs
  go_wp2_with fail
  have HQ2 := Lib.hid (HS6.out.made (b := w6.heap.size) (n := 511) rfl (by decide)).up2
  refine (write_at HQ2.out HQ2.out.up2.rd (List.length_replicate ..) (ends_write0 _ (by rw [List.length_replicate]; decide)) (by decide) (by decide) (by decide) (by decide)).mono ?_
  rintro e w7 ⟨rfl, hs⟩
  have HS7 := Lib.hid hs.drop2
  clear hs
  go_wp2_with fail
  have HQ3 := Lib.hid (HS7.out.made (b := w7.heap.size) (n := 513) rfl (by decide)).up2
  refine (write_at HQ3.out HQ3.out.up2.rd (List.length_replicate ..) (ends_write0 _ (by rw [List.length_replicate]; decide)) (by decide) (by decide) (by decide) (by decide)).mono ?_
  rintro e w8 ⟨rfl, hs⟩
  have HS8 := Lib.hid hs.drop2
  clear hs
  go_wp2_with fail
  refine (read_at HS8.out ends_read1).mono ?_
  rintro e w9 ⟨A9, c9, rfl, hs⟩
  have HS9 := Lib.hid hs.row_rb.right
  clear hs
  have hl : (List.replicate 512 (0 : UInt8)).length = 512 := List.length_replicate ..
  rw [hl]
  clear hl
  go_wp2_with (first
    | (go_at_call 9; refine (num_any _ _).mono ?_; rintro e w' ⟨rfl, rfl⟩)
    | (go_at_call 19; refine (writes_any d _ w w9 _ HS9.out).mono ?_; rintro e w' ⟨rfl, rfl⟩)
    | (go_at_call 10; refine (wakes_any w w9 _ HS9.out).mono ?_; rintro e w10 ⟨rfl, hs10⟩; have HS10 := Lib.hid hs10; clear hs10))
  go_ret
  exact ⟨rfl, HS10.out.chg⟩
end Go.Proofs.Ytiimlbkccoofmaa
