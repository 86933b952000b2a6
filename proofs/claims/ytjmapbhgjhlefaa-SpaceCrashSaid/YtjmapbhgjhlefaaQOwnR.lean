/- Rows of one's own as a part of memory. Nothing here is of the program but types. -/
import Derived.Test.YtjmapbhgjhlefaaQ02
import Derived.Test.YtjmapbhgjhlefaaQ06
namespace Go.Proofs.Ytjmapbhgjhlefaa
open Go.RowKit
set_option linter.unusedVariables false
set_option maxRecDepth 100000

def OwnR : Rows_ → SP
  | [] => Emp
  | x :: ks => Row 5 1 (slOf x) x.2.2.length (x.2.2.map bv) * OwnR ks
theorem ownR_snoc (x : Option Addr × Nat × List UInt8) : ∀ ks : Rows_, OwnR (ks ++ [x]) = Row 5 1 (slOf x) x.2.2.length (x.2.2.map bv) * OwnR ks
  | [] => rfl
  | y :: ks => by
    show Row _ _ _ _ _ * OwnR (ks ++ [x]) = _
    rw [ownR_snoc x ks]
    show _ = Row _ _ _ _ _ * (Row _ _ _ _ _ * OwnR ks)
    ac_rfl
theorem row_block {e : TypeId} {size n : Nat} {v : Value} {xs : List Value} {h : Hp} (hr : Row e size v n xs h) {g : Nat} (hg : v.ownBlock = some g) : ∃ o, h g = some (false, o) := by
  rcases hr.2 with ⟨rfl, _⟩ | ⟨g', cap, cur, rfl, _, _, _, _, hp⟩
  · simp [Value.ownBlock] at hg
  · simp [Value.ownBlock] at hg
    subst hg
    unfold Pt Ow at hp
    exact ⟨.cells cur e (0, 0), by rw [hp]; unfold one1; simp⟩
theorem ownR_block : ∀ {ks : Rows_} {h : Hp}, OwnR ks h → ∀ x ∈ ks, ∀ g, (slOf x).ownBlock = some g → ∃ o, h g = some (false, o)
  | [], _, _, x, hx, _, _ => by simp at hx
  | y :: ks, h, hh, x, hx, g, hg => by
    obtain ⟨a, b, h1, rfl, h3, h4⟩ := hh
    rcases List.mem_cons.1 hx with rfl | hx
    · obtain ⟨o, ho⟩ := row_block h3 hg
      exact ⟨o, by unfold Hp.un; rw [ho]; rfl⟩
    · obtain ⟨o, ho⟩ := ownR_block h4 x hx g hg
      refine ⟨o, ?_⟩
      unfold Hp.un
      rcases h1 g with q | q | ⟨o', q, q'⟩
      · rw [q]; exact ho
      · rw [ho] at q; cases q
      · rw [ho] at q'; injection q' with q'; injection q' with q' _; cases q'
section
variable {w0 w w' : World} {F : SP} {ks : Rows_}
theorem ownR_ownL : ∀ {ks : Rows_} {F : SP}, Sat w0 (OwnR ks * F) w → OwnL w0.heap.size w ks
  | [], _, _ => OwnL.nil _ _
  | x :: ks, F, h => by
    have h1 : Sat w0 (Row 5 1 (slOf x) x.2.2.length (x.2.2.map bv) * (OwnR ks * F)) w := h.of (star_assoc _ _ _)
    have ih := ownR_ownL h1.right
    refine ⟨fun y hy => ?_, List.pairwise_cons.2 ⟨fun y hy g hg hg' => ?_, ih.apart⟩⟩
    · rcases List.mem_cons.1 hy with rfl | hy
      · exact h1.row_own
      · exact ih.own y hy
    · obtain ⟨c, z, z1, a, f, z2, rfl, z4, b, f', z5, rfl, z6, z7⟩ := h1
      obtain ⟨o, ho⟩ := row_block z4 hg
      obtain ⟨o', ho'⟩ := ownR_block z6 y hy g hg'
      have e : (b.un f') g = some (false, o') := by unfold Hp.un; rw [ho']; rfl
      rcases z2 g with q | q | ⟨o'', q, q'⟩
      · rw [ho] at q; cases q
      · rw [e] at q; cases q
      · rw [ho] at q; injection q with q; injection q with q _; cases q
end
end Go.Proofs.Ytjmapbhgjhlefaa
