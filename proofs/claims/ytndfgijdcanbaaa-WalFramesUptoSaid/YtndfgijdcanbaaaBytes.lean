/- The helpers of the statements on rows of bytes: Same, Twin. -/
import Derived.Test.YtndfgijdcanbaaaProg
import Derived.Test.YtndfgijdcanbaaaLib
import Derived.Lib.SlBytesConst
namespace Go.Proofs.Ytndfgijdcanbaaa
open Go.RowKit
set_option linter.unusedVariables false

theorem info_u8 : (Try.prog.info? 5).map (fun i => (i.zero, i.size, i.bytes)) = some (some (.int .u8 0), 1, 1) := by kernel_rfl

/-- n noughts, as cells. -/
def noughts (n : Nat) : Array Value := ((List.replicate n (0 : UInt8)).map bv).toArray
theorem noughts_made (n : Nat) : madeCells #[.int .u8 0] n = noughts n := by
  apply Array.ext'
  apply List.ext_getElem?
  intro j
  simp [madeCells, noughts, List.getElem?_replicate]
  by_cases h : j < n
  · simp [h, bv]
    rw [Nat.mod_one]
    rfl
  · simp [h]
theorem make_bytes (n : Nat) (hn : n ≤ 140737488355330) (W : World) : (Instr.makeSlice 24 (.int .i64 (n : Int)) (.int .i64 (n : Int))).run Try.prog W =
    .ok (.slice (some ⟨W.heap.size, 0, none⟩) n n) (W.alloc (.cells (noughts n) 5)) := by
  obtain ⟨i0, hi, hz0, hz1, hz2⟩ := info_parts info_u8
  have hr := run_make (P := Try.prog) W 24 5 i0 _ Try.underlying24 hi hz0 .i64 .i64 n n (by omega) (by omega) (by rw [hz2]; omega) (by omega)
  have hc : (Value.int .u8 0).cells = #[.int .u8 0] := rfl
  simpa [hz1, hc, noughts_made] using hr
theorem make_512 (W : World) : (Instr.makeSlice 24 (.int .i64 512) (.int .i64 512)).run Try.prog W = .ok (.slice (some ⟨W.heap.size, 0, none⟩) 512 512) (W.alloc (.cells (noughts 512) 5)) := make_bytes 512 (by omega) W

theorem same_any (A B : Option Addr) (c d : Nat) (l r : List UInt8) (w : World) (ha : Rd w A l) (hb : Rd w B r) :
    Calls Try.prog 21 #[.slice A l.length c, .slice B r.length d] w fun e w' => e = .returned (.bool (l == r)) ∧ w = w' := by
  have h1 := ha.str (P := Try.prog) 24 9 5 Try.underlying24 Try.underlying5 Try.underlying9 c
  have h2 := hb.str (P := Try.prog) 24 9 5 Try.underlying24 Try.underlying5 Try.underlying9 d
  clear ha hb
  go_enter Try.func21, Try.ntmps21
  go_wp2
  go_ret
  exact ⟨rfl, rfl⟩

/-- Twin: a row of its own. -/
def Twinned (l : List UInt8) (w : World) (e : Ending) (w' : World) : Prop :=
  ∃ v, e = .returned v ∧ w'.ownsRow w.heap.size 5 1 v l.length (l.map bv) ∧ Chg No w w'
theorem twin_any (A : Option Addr) (c : Nat) (l : List UInt8) (w : World) (h : Rd w A l) (hl : l.length ≤ 140737488355328) :
    Calls Try.prog 23 #[.slice A l.length c] w (Twinned l w) := by
  obtain ⟨i0, hi, hz0, hz1, hz2⟩ := info_parts info_u8
  have hmax : l.length ≤ maxLen := by unfold maxLen; omega
  have HL := Lib.hid h
  clear h
  go_enter Try.func23, Try.ntmps23
  go_wp2_with (at_builtin; refine wpList_app rfl (.tmp 4) (.tmp 5) 24 rfl w.heap.size 5 i0 _ 1 1 Try.underlying24 hi hz0 hz1 hz2 rfl (by decide) (.slice none 0 0) 0 [] rfl (World.ownsRow_nil _ _ _ _) A l.length c (l.map bv) rfl HL.out (by simp) (bv_one l) (by omega) (by omega) (Nat.le_refl _) ?_; intro v1 w1 hap)
  go_ret
  have hown := hap.own
  refine ⟨v1, rfl, by simpa using hown, hap.old (Chg.refl No w) (World.ownsRow_nil w w.heap.size 5 1) (Nat.le_refl _)⟩
end Go.Proofs.Ytndfgijdcanbaaa
