/- tidingslaw06.BloomEnds: sizes at their ends. -/
import Derived.Test.YtghgmecaebheoaaBloomWakes
namespace Go.Proofs.Ytghgmecaebheoaa
open Go.RowKit
set_option linter.unusedVariables false

theorem from_yes_n (n : Nat) (A : Option Addr) (c : Nat) (B : List UInt8) (w : World) (hn : B.length = n) (hk : Rd w A B) (h8 : 8 ≤ n) (h9 : n ≤ 262144) :
    Calls Try.prog 23 #[.slice A n c] w (FromOk B w) := by subst hn; exact from_yes A c B w hk h8 h9
theorem from_no_n (n : Nat) (A : Option Addr) (c : Nat) (w : World) (h : n < 8 ∨ 262144 < n) (hmax : n ≤ 9223372036854775807) :
    Calls Try.prog 23 #[.slice A n c] w fun x w' => x = .returned (.tuple #[.pointer none, .int .i64 61]) ∧ w = w' := by
  have := from_no A c (List.replicate n 0) w (by simpa using h) (by simpa using hmax)
  rwa [List.length_replicate] at this
theorem rd_made (w : World) (n : Nat) : Rd (w.alloc (.cells (madeCells #[.int .u8 0] n) 5)) (some ⟨w.heap.size, 0, none⟩) (List.replicate n 0) := by
  have h := RdV.lit w (madeCells #[.int .u8 0] n) 5 (0, 0)
  rw [toList_madeCells_one] at h
  have e : (List.replicate n (0 : UInt8)).map bv = List.replicate n (Value.int .u8 0) := by rw [List.map_replicate]; rfl
  unfold Rd
  rw [e]
  exact h

theorem ends_walk (w : World) : Calls Try.prog 7 #[] w (Asked true w) := by
  have hm1 : ∀ W : World, (Instr.makeSlice 34 (.int .i64 262145) (.int .i64 262145)).run Try.prog W = .ok (.slice (some ⟨W.heap.size, 0, none⟩) 262145 262145) (W.alloc (.cells (madeCells #[.int .u8 0] 262145) 5)) := fun W => run_make_u8 262145 (by omega) W
  have hm2 : ∀ W : World, (Instr.makeSlice 34 (.int .i64 262144) (.int .i64 262144)).run Try.prog W = .ok (.slice (some ⟨W.heap.size, 0, none⟩) 262144 262144) (W.alloc (.cells (madeCells #[.int .u8 0] 262144) 5)) := fun W => run_make_u8 262144 (by omega) W
  have e1 : nbytes 0 1 = 8 := by decide
  have e2 : nbytes 65536 32 = 262144 := by decide
  have s1 := fun W => size_yes 0 1 W (by omega)
  have s2 := fun W => size_yes 65536 32 W (by omega)
  rw [e1] at s1
  rw [e2] at s2
  have S1 := Lib.hid s1
  have S2 := Lib.hid s2
  clear e1 e2 s1 s2
  generalize hz : madeCells #[Value.int .u8 0] 262144 = Z2 at hm2
  generalize hz1 : madeCells #[Value.int .u8 0] 262145 = Z1 at hm1
  have HZ := Lib.hid hz
  clear hz hz1
  go_enter Try.func7, Try.ntmps7
  go_wp2_with fail
  refine (S1.out _).mono ?_
  rintro e w1 ⟨rfl, rfl⟩
  go_wp2_with fail
  refine (S2.out _).mono ?_
  rintro e w1 ⟨rfl, rfl⟩
  go_wp2_with fail
  refine (size_no 65537 1 _ (by omega)).mono ?_
  rintro e w1 ⟨rfl, rfl⟩
  go_wp2_with fail
  refine (size_no 1 33 _ (by omega)).mono ?_
  rintro e w1 ⟨rfl, rfl⟩
  go_wp2_with fail
  refine (size_no (-1) 1 _ (by omega)).mono ?_
  rintro e w1 ⟨rfl, rfl⟩
  go_wp2_with fail
  refine (new_no 1 0 _ (by omega)).mono ?_
  rintro e w1 ⟨rfl, rfl⟩
  go_wp2_with fail
  refine (from_no_n 262145 _ _ _ (by omega) (by omega)).mono ?_
  rintro e w1 ⟨rfl, rfl⟩
  go_wp2_with fail
  have q := rd_made (w.alloc (.cells Z1 5)) 262144
  have hs : (w.alloc (.cells Z1 5)).heap.size = w.heap.size + 1 := by simp
  rw [HZ.out, hs] at q
  refine (from_yes_n 262144 _ _ (List.replicate 262144 0) _ List.length_replicate q (by omega) (by omega)).mono ?_
  clear q hs
  rintro e w1 ⟨g, h, c, rfl, _, _, _, k1⟩
  have K1 := Lib.hid (((Chg.refl No w).alloc (.cells Z1 5)).tr (((Chg.refl No _).alloc (.cells Z2 5)).tr k1))
  clear k1
  go_wp2_with (go_at_call 10; refine (num_any _ _).mono ?_; rintro e w3 ⟨rfl, rfl⟩)
  refine (wakes_any _).mono ?_
  rintro e w3 ⟨rfl, k3⟩
  have K3 := Lib.hid k3
  clear k3
  go_wp2
  go_ret
  exact ⟨rfl, K1.out.tr K3.out⟩
end Go.Proofs.Ytghgmecaebheoaa
