/- The document's Need. -/
import Derived.Test.YtjmapbhgjhlefaaQWalWalk
namespace Go.Proofs.Ytjmapbhgjhlefaa
open Go.RowKit
set_option linter.unusedVariables false
set_option maxRecDepth 100000

theorem rneed_any (n : Int) (w : World) (hn : -9223372036854775808 ≤ n ∧ n ≤ 9223372036854775807) :
    Calls Try.prog 52 #[.int .i64 n] w fun e w' => e = .returned (.int .i64 (needI n)) ∧ w' = w := by
  by_cases h0 : n < 0
  · have e : needI n = 0 := if_neg (show ¬ 0 ≤ n by omega)
    rw [e]
    go_enter Try.func52, Try.ntmps52
    go_wp2_with fail
    go_ret
    exact ⟨rfl, rfl⟩
  · by_cases h1 : 262144 < n
    · have e : needI n = 0 := by
        unfold needI needN
        rw [if_pos (by omega), if_neg (by omega)]
        rfl
      rw [e]
      go_enter Try.func52, Try.ntmps52
      go_wp2_with fail
      go_ret
      exact ⟨rfl, rfl⟩
    · by_cases h2 : n = 0
      · subst h2
        go_enter Try.func52, Try.ntmps52
        go_wp2_with fail
        go_ret
        exact ⟨rfl, rfl⟩
      · have e : needI n = (n + 479 - 1) / 479 := by
          unfold needI needN
          rw [if_pos (by omega), if_pos (by omega)]
          omega
        have e1 : IntKind.i64.wrap (n + 479) = n + 479 := by rw [IntKind.wrap_i64]; omega
        have e2 : IntKind.i64.wrap (n + 479 - 1) = n + 479 - 1 := by rw [IntKind.wrap_i64]; omega
        have e3 : Int.tdiv (n + 479 - 1) 479 = (n + 479 - 1) / 479 := Int.tdiv_eq_ediv_of_nonneg (by omega)
        have e4 : IntKind.i64.wrap ((n + 479 - 1) / 479) = (n + 479 - 1) / 479 := by rw [IntKind.wrap_i64]; omega
        have h3 : ¬ n = 0 := h2
        have h4 : (n == 0) = false := by simpa using h2
        rw [e]
        clear e
        go_enter Try.func52, Try.ntmps52
        go_wp2_with fail
        go_ret
        exact ⟨rfl, rfl⟩
end Go.Proofs.Ytjmapbhgjhlefaa
