/- tidingslaw06.BloomPlays: a filter of any size, any keys added: its bits, and what it has, are the document's. -/
import Derived.Test.YtghgmecaebheoaaBloomKeeps
import Derived.Test.YtghgmecaebheoaaBloomRef3
import Derived.Test.YtghgmecaebheoaaBook4
namespace Go.Proofs.Ytghgmecaebheoaa
open Go.RowKit
set_option linter.unusedVariables false

theorem rfilt_fresh (w : World) (n : Nat) : RFilt ((w.alloc (.cells (madeCells #[.int .u8 0] n) 5)).alloc (.cells #[.slice (some ⟨w.heap.size, 0, none⟩) n n] 36)) (w.heap.size + 1) w.heap.size n n (List.replicate n 0) :=
  ⟨by simpa using At.new (w.alloc (.cells (madeCells #[.int .u8 0] n) 5)) _ _, _, (At.new w _ _).alloc _, by simp, by simp [madeCells], fun j hj => by
    simp at hj
    simp [madeCells, hj, bv, Nat.mod_one]⟩

set_option maxRecDepth 100000 in
set_option maxHeartbeats 2000000 in
theorem plays_no (keys each : Int) (A A' : Option Addr) (c c' : Nat) (ks0 ls0 : Rows_) (w : World) (h : ¬ (0 ≤ keys ∧ keys ≤ 65536 ∧ 1 ≤ each ∧ each ≤ 32)) :
    Calls Try.prog 3 #[.int .i64 keys, .int .i64 each, .slice A ks0.length c, .slice A' ls0.length c'] w (Asked true w) := by
  have HH := Lib.hid h
  clear h
  go_enter Try.func3, Try.ntmps3
  go_wp2_with (first
    | (go_at_call 8; refine (size_no keys each w HH.out).mono ?_; rintro e w' ⟨rfl, rfl⟩)
    | (go_at_call 9; refine (refSize_no keys each w HH.out).mono ?_; rintro e w' ⟨rfl, rfl⟩)
    | (go_at_call 10; refine (num_any _ _).mono ?_; rintro e w3 ⟨rfl, rfl⟩)
    | (go_at_call 11; refine (wakes_any _).mono ?_; rintro e w2 ⟨rfl, k2⟩; have K2 := Lib.hid k2; clear k2)
    | (go_at_call 12; refine (new_no keys each _ HH.out).mono ?_; rintro e w3 ⟨rfl, rfl⟩))
  go_ret
  exact ⟨rfl, K2.out⟩

end Go.Proofs.Ytghgmecaebheoaa
