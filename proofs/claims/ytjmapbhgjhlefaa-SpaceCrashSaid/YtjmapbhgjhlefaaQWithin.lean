/- The statements' Within. -/
import Derived.Test.YtjmapbhgjhlefaaQ02
namespace Go.Proofs.Ytjmapbhgjhlefaa
open Go.RowKit
set_option linter.unusedVariables false
set_option maxRecDepth 100000

theorem within_mod (n w : Int) (hw : 0 < w) : (if n.tmod w < 0 then n.tmod w + w else n.tmod w) = n % w := by
  have h1 := Int.emod_nonneg n (show w ≠ 0 by omega)
  have h2 := Int.emod_lt_of_pos n hw
  rw [Int.tmod_eq_emod]
  by_cases h : 0 ≤ n ∨ w ∣ n
  · rw [if_pos h]
    split <;> omega
  · rw [if_neg h]
    have hz : n % w ≠ 0 := fun e => h (.inr (Int.dvd_of_emod_eq_zero e))
    have ha : (w.natAbs : Int) = w := by omega
    split <;> omega
theorem kwithin_any (n lo hi : Int) (w : World) (h0 : 0 ≤ lo) (h1 : lo ≤ hi) (h2 : hi ≤ 1099511627776) :
    Calls Try.prog 28 #[.int .i64 n, .int .i64 lo, .int .i64 hi] w fun e w' => e = .returned (.int .i64 (lo + n % (hi - lo + 1))) ∧ w = w' := by
  have hm := within_mod n (hi - lo + 1) (by omega)
  have b1 := Int.emod_nonneg n (show hi - lo + 1 ≠ 0 by omega)
  have b2 := Int.emod_lt_of_pos n (show 0 < hi - lo + 1 by omega)
  by_cases hn : 0 ≤ n
  · clear hm
    go_enter Try.func28, Try.ntmps28
    go_wp2
    go_ret
    exact ⟨rfl, rfl⟩
  · by_cases hr : n.tmod (hi - lo + 1) < 0
    · rw [if_pos hr] at hm
      have hlo : -(hi - lo + 1) ≤ n.tmod (hi - lo + 1) := by omega
      have H := Lib.hid hm
      clear hm
      go_enter Try.func28, Try.ntmps28
      go_wp2
      go_ret
      exact ⟨by rw [← H.out]; rfl, rfl⟩
    · rw [if_neg hr] at hm
      have hlo : n.tmod (hi - lo + 1) ≤ hi - lo := by omega
      have H := Lib.hid hm
      clear hm
      go_enter Try.func28, Try.ntmps28
      go_wp2
      go_ret
      exact ⟨by rw [← H.out]; rfl, rfl⟩

def wi (n hi : Int) : Nat := (n % (hi + 1)).toNat
theorem wi_le (n hi : Int) (h : 0 ≤ hi) : (wi n hi : Int) ≤ hi := by
  have h1 := Int.emod_nonneg n (show hi + 1 ≠ 0 by omega)
  have h2 := Int.emod_lt_of_pos n (show 0 < hi + 1 by omega)
  unfold wi
  omega
theorem within0 (n hi : Int) (w : World) (h1 : 0 ≤ hi) (h2 : hi ≤ 1099511627776) :
    Calls Try.prog 28 #[.int .i64 n, .int .i64 0, .int .i64 hi] w fun e w' => e = .returned (.int .i64 (wi n hi)) ∧ w = w' := by
  have h := kwithin_any n 0 hi w (by omega) h1 h2
  have h3 := Int.emod_nonneg n (show hi + 1 ≠ 0 by omega)
  have e : 0 + n % (hi - 0 + 1) = (wi n hi : Int) := by
    have e1 : hi - 0 + 1 = hi + 1 := by omega
    rw [e1]
    unfold wi
    omega
  rwa [e] at h
theorem i64_and_le (a : Int) (m : Nat) (hm : m < 9223372036854775808) : 0 ≤ bits .and .i64 a (m : Int) ∧ bits .and .i64 a (m : Int) ≤ m := by
  have hb : (BitVec.ofInt 64 (m : Int)).toNat = m := by
    rw [BitVec.ofInt_natCast, BitVec.toNat_ofNat]; exact Nat.mod_eq_of_lt (by omega)
  have e : bits .and .i64 a (m : Int) = IntKind.i64.wrap ((BitVec.ofInt 64 a &&& BitVec.ofInt 64 (m : Int)).toNat : Int) := rfl
  rw [e, BitVec.toNat_and, hb, IntKind.wrap_i64]
  have := Nat.and_le_right (n := (BitVec.ofInt 64 a).toNat) (m := m)
  omega
end Go.Proofs.Ytjmapbhgjhlefaa
