/- A row of one's own, cut short. -/
import Derived.Test.YtaoenbjfkahdjaaQ02
namespace Go.Proofs.Ytaoenbjfkahdjaa
open Go.RowKit
set_option linter.unusedVariables false
set_option maxRecDepth 100000

section
variable {w0 w : World} {F : SP}
theorem Sat.row_cut {e : TypeId} {size n c : Nat} {A : Option Addr} {xs : List Value} (h : Sat w0 (Row e size (.slice A n c) n xs * F) w) (m : Nat) (hm : m ≤ n) : Sat w0 (Row e size (.slice A m c) m (xs.take (m * size)) * F) w := by
  obtain ⟨hl, ⟨e1, e2, h1⟩ | ⟨g, cap, cur, e1, h1, h2, h3, h4, h5⟩⟩ := h.row_cases
  · injection e1 with e1 _ e3
    subst e1; subst e3; subst e2
    obtain rfl : m = 0 := by omega
    rw [Nat.zero_mul, List.take_zero]
    exact h1.row_nil e size
  · injection e1 with e1 _ e3
    subst e1; subst e3
    have h6 := h5.row_pt (n := m) (cap := c) (size := size) (by omega) h2 h3
    rw [← h4, List.take_take, Nat.min_eq_left (Nat.mul_le_mul_right _ hm)]
    exact h6
end
end Go.Proofs.Ytaoenbjfkahdjaa
