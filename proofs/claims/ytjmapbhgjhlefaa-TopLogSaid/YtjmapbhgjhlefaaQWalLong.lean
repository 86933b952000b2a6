/- What Long makes, as a part of memory. -/
import Derived.Test.YtjmapbhgjhlefaaQWalWakes
import Derived.Test.YtjmapbhgjhlefaaQGot
namespace Go.Proofs.Ytjmapbhgjhlefaa
open Go.RowKit
set_option linter.unusedVariables false
set_option maxRecDepth 100000

theorem Sat.longed {w0 w w' : World} {F : SP} {l : List UInt8} {e : Ending} (h : Sat w0 F w) (hl : Longed l w e w') : ∃ A, e = .returned (.slice A l.length l.length) ∧ Sat w0 (RoL [(A, l.length, l)] * F) w' := by
  obtain ⟨g, rfl, h1, h2, k⟩ := hl
  refine ⟨_, rfl, Sat.gather h k (A := RoL [(some ⟨g, 0, none⟩, l.length, l)]) (one1 g (true, .cells (l.map bv).toArray 5 (0, 0))) ⟨fun i x hx => ?_, fun r hr hne => ?_⟩ fun i x hx => ?_⟩
  · unfold one1 at hx
    split at hx
    · injection hx with hx; subst hx; rfl
    · cases hx
  · rw [List.mem_singleton.1 hr]
    refine ⟨g, 0, _, _, _, rfl, by unfold one1; rw [if_pos rfl], fun j hj => ?_⟩
    simp only [List.getElem?_toArray, Nat.zero_add, List.getElem?_map]
    rw [List.getElem?_eq_getElem hj]
    rfl
  · unfold one1 at hx
    split at hx
    · rename_i e1
      injection hx with hx
      subst hx
      subst e1
      exact ⟨h2, h1⟩
    · cases hx
end Go.Proofs.Ytjmapbhgjhlefaa
