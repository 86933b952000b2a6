/- The statements' wakes; BlockEnds. -/
import Derived.Test.YtiimlbkccoofmaaBlk7
namespace Go.Proofs.Ytiimlbkccoofmaa
open Go.RowKit
set_option linter.unusedVariables false

theorem ask0 (n : Nat) (h : 0 < n) : (Dk.new n).ask 0 = 0 := Dk.ask_ok rfl (by omega) (by simp [Dk.new]; omega)
def wk1 (a : List UInt8) : Dk := ⟨[([], false), ([], false)], [(0, a)], 0, 1, false⟩
def wk2 (a : List UInt8) : Dk := ⟨[(a, false), ([], false)], [], 0, 1, false⟩
def wk3 (a b : List UInt8) : Dk := ⟨[(a, false), ([], false)], [(0, b)], 0, 2, false⟩
def wk4 (a : List UInt8) : Dk := ⟨[(a, false), ([], false)], [], 0, 2, false⟩
theorem wk_write1 (a : List UInt8) (h : a.length = 512) : (Dk.new 2).write 0 a = (wk1 a, 0) := by
  unfold Dk.write
  rw [if_pos (ask0 2 (by omega)), if_pos h]; rfl
theorem wk_flush (a : List UInt8) : (wk1 a).flush = (wk2 a, 0) := rfl
theorem wk_write2 (a b : List UInt8) (h : b.length = 512) : (wk2 a).write 0 b = (wk3 a b, 0) := by
  unfold Dk.write
  rw [if_pos (show (wk2 a).ask 0 = 0 from rfl), if_pos h]; rfl
theorem wk_on (a b : List UInt8) : ({ wk3 a b with off := true } : Dk).on [] (-1) 0 = wk4 a := rfl
theorem wk_read (a : List UInt8) (h : a ≠ []) : (wk4 a).read 0 = (a, 0) := by
  unfold Dk.read
  rw [if_pos (show (wk4 a).ask 0 = 0 from rfl)]
  show (if false = true then _ else if a = [] then _ else _) = _
  rw [if_neg (by decide), if_neg h]
/-- A row given to all, ahead of the disk again. -/
theorem Sat.rowGive {w0 w : World} {F : SP} {d n : Nat} {D : Dk} {A : Option Addr} {c : Nat} {l : List UInt8} (h : Sat w0 (Row 5 1 (.slice A n c) n (l.map bv) * (Disk d D * F)) w) : Sat w0 (Disk d D * (Rb A l * F)) w := by
  obtain ⟨A', c', e, _, _, h1⟩ := h.row_ro
  injection e with e1 _ e2
  subst e1
  exact h1.up2
theorem Sat.row_rb {w0 w : World} {F : SP} {n : Nat} {A : Option Addr} {c : Nat} {l : List UInt8} (h : Sat w0 (Row 5 1 (.slice A n c) n (l.map bv) * F) w) : Sat w0 (Rb A l * F) w := by
  obtain ⟨A', c', e, _, _, h1⟩ := h.row_ro
  injection e with e1 _ e2
  subst e1
  exact h1
/-! The disk's methods, their answers named. -/
section
variable {w0 w : World} {F : SP} {d : Nat} {D D' : Dk} {i r : Int}
theorem write_at {A : Option Addr} {c n : Nat} {b : List UInt8} (h : Sat w0 (Disk d D * F) w) (hb : Rd w A b) (hn : b.length = n) (hr : D.write i b = (D', r)) (h1 : n ≤ 140737488355328) (hw1 : D.writes ≤ 1000000000) (hw2 : D.pend.length ≤ 1000000000) (hw3 : D.armed ≤ 9223372036854775807) :
    Calls Try.prog 11 #[.pointer (some ⟨d, 0, none⟩), .int .i64 i, .slice A n c] w fun e w' => e = .returned (.int .i64 r) ∧ Sat w0 (Disk d D' * F) w' := by
  subst hn
  have := write_any d D i A c b w0 w F h hb h1 hw1 hw2 hw3
  unfold WriteD at this
  rw [hr] at this
  exact this
theorem flush_at (h : Sat w0 (Disk d D * F) w) (hr : D.flush = (D', r)) (hw2 : D.pend.length ≤ 1000000000) :
    Calls Try.prog 13 #[.pointer (some ⟨d, 0, none⟩)] w fun e w' => e = .returned (.int .i64 r) ∧ Sat w0 (Disk d D' * F) w' := by
  have := flush_any d D w0 w F h hw2
  rw [hr] at this
  exact this
theorem read_at {l : List UInt8} (h : Sat w0 (Disk d D * F) w) (hr : D.read i = (l, r)) :
    Calls Try.prog 17 #[.pointer (some ⟨d, 0, none⟩), .int .i64 i] w fun e w' => ∃ A c, e = .returned (.tuple #[.slice A l.length c, .int .i64 r]) ∧ Sat w0 (Row 5 1 (.slice A l.length c) l.length (l.map bv) * (Disk d D * F)) w' := by
  refine (read_any d D i w0 w F h).mono ?_
  rintro e w' ⟨v, rfl, hs⟩
  rw [hr] at hs
  obtain ⟨A, c, rfl, _⟩ := hs.row_sl
  exact ⟨A, c, by rw [hr], hs⟩
theorem on_nil (h : Sat w0 (Disk d D * F) w) (torn bytes : Int) (hr : D.on [] torn bytes = D') (hw2 : D.pend.length ≤ 1000000000) (A : Option Addr) (c : Nat) :
    Calls Try.prog 16 #[.pointer (some ⟨d, 0, none⟩), .slice A 0 c, .int .i64 torn, .int .i64 bytes] w fun e w' => e = .returned (.tuple #[]) ∧ Sat w0 (Disk d D' * F) w' := by
  refine (on_any d D A c [] torn bytes w0 w F (h.roNil A).up2 hw2 (by simp)).mono ?_
  rintro e w' ⟨rfl, hs⟩
  rw [hr] at hs
  exact ⟨rfl, hs.drop2⟩
theorem same_at {A B : Option Addr} {c d' n m : Nat} {l r' : List UInt8} {b : Bool} (ha : Rd w A l) (hb : Rd w B r') (hn : l.length = n) (hm : r'.length = m) (he : (l == r') = b) :
    Calls Try.prog 18 #[.slice A n c, .slice B m d'] w fun e w' => e = .returned (.bool b) ∧ w = w' := by
  subst hn; subst hm; subst he
  exact same_any A B c d' l r' w ha hb
end
def Wakes (w0 : World) (F : SP) (e : Ending) (w' : World) : Prop := e = .returned (.bool true) ∧ Sat w0 F w'
set_option maxHeartbeats 1000000 in
theorem wakes_any (w0 w : World) (F : SP) (h : Sat w0 F w) : Calls Try.prog 10 #[] w (Wakes w0 F) := by
  have HS := Lib.hid h
  clear h
  have HC1 := Lib.hid (length_fill 1)
  have HC2 := Lib.hid (length_fill 2)
  have HC3 := Lib.hid (fill_ne 1)
  go_enter Try.func10, Try.ntmps10
  go_wp2_with fail
  refine (new_any 2 w0 w F HS.out).mono ?_
  intro e w1 h1
  unfold NewD at h1
  rw [if_pos (by omega)] at h1
  obtain ⟨d, rfl, hs⟩ := h1
  have HS1 := Lib.hid hs
  clear hs
  go_wp2_with (go_at_call 9; refine (num_any _ _).mono ?_; rintro e w' ⟨rfl, rfl⟩)
  refine (fill_any 1 w0 w1 _ HS1.out).mono ?_
  rintro e w2 ⟨A1, c1, rfl, hs⟩
  have HS2 := Lib.hid hs.rowGive
  clear hs
  go_wp2_with fail
  refine (write_at HS2.out HS2.out.up2.rd HC1.out (wk_write1 _ HC1.out) (by decide) (by decide) (by decide) (by decide)).mono ?_
  rintro e w3 ⟨rfl, hs⟩
  have HS3 := Lib.hid hs.drop2
  clear hs
  go_wp2_with fail
  refine (flush_at HS3.out (wk_flush _) (by decide)).mono ?_
  rintro e w4 ⟨rfl, hs⟩
  have HS4 := Lib.hid hs
  clear hs
  go_wp2_with fail
  refine (fill_any 2 w0 w4 _ HS4.out).mono ?_
  rintro e w5 ⟨A2, c2, rfl, hs⟩
  have HS5 := Lib.hid hs.rowGive
  clear hs
  go_wp2_with fail
  refine (write_at HS5.out HS5.out.up2.rd HC2.out (wk_write2 _ _ HC2.out) (by decide) (by decide) (by decide) (by decide)).mono ?_
  rintro e w6 ⟨rfl, hs⟩
  have HS6 := Lib.hid hs.drop2
  clear hs
  go_wp2_with fail
  refine (cut_any d _ w0 w6 _ HS6.out).mono ?_
  rintro e w7 ⟨rfl, hs⟩
  have HS7 := Lib.hid hs
  clear hs
  go_wp2_with fail
  refine (on_nil HS7.out (-1) 0 (wk_on _ _) (by decide) none 0).mono ?_
  rintro e w8 ⟨rfl, hs⟩
  have HS8 := Lib.hid hs
  clear hs
  go_wp2_with fail
  refine (read_at HS8.out (wk_read _ HC3.out)).mono ?_
  rintro e w9 ⟨A3, c3, rfl, hs⟩
  have HS9 := Lib.hid hs.row_rb
  clear hs
  go_wp2_with (go_at_call 9; refine (num_any _ _).mono ?_; rintro e w' ⟨rfl, rfl⟩)
  refine (fill_any 1 w0 w9 _ HS9.out).mono ?_
  rintro e w10 ⟨A4, c4, rfl, hs⟩
  have HS10 := Lib.hid hs.row_rb
  clear hs
  go_wp2_with fail
  refine (same_at HS10.out.up2.rd HS10.out.rd rfl HC1.out (beq_self_eq_true _)).mono ?_
  rintro e w' ⟨rfl, rfl⟩
  go_wp2_with fail
  go_ret
  exact ⟨rfl, HS10.out.right.right.right⟩
end Go.Proofs.Ytiimlbkccoofmaa
