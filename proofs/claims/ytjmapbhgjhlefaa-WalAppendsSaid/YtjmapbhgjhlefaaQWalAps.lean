/- WalAppends: the plain part (and, later, the walk). -/
import Derived.Test.YtjmapbhgjhlefaaQWalLaw
import Derived.Test.YtjmapbhgjhlefaaQWalEnds
import Derived.Test.YtjmapbhgjhlefaaQSpChurn
namespace Go.Proofs.Ytjmapbhgjhlefaa
open Go.RowKit
set_option linter.unusedVariables false
set_option maxRecDepth 100000

/-- The space of the law: two files, what they hold. -/
def waS (bl : Nat) (f0 f1 : List (List UInt8)) : Spc := ⟨0, 2, [⟨3, 2, bl, 2, 1, f0⟩, ⟨4, 2 + bl, 20, 2, 1, f1⟩]⟩
theorem wa_find3 (bl : Nat) (f0 f1 : List (List UInt8)) : (waS bl f0 f1).find 3 = some ⟨3, 2, bl, 2, 1, f0⟩ := rfl
theorem wa_find4 (bl : Nat) (f0 f1 : List (List UInt8)) : (waS bl f0 f1).find 4 = some ⟨4, 2 + bl, 20, 2, 1, f1⟩ := rfl
theorem wa_find9 (bl : Nat) (f0 f1 : List (List UInt8)) : (waS bl f0 f1).find 9 = none := rfl
theorem wa_grow3 (bl : Nat) (f0 f1 ps : List (List UInt8)) : (waS bl f0 f1).growL 3 ps = waS bl (f0 ++ ps) f1 := rfl
theorem wa_grow4 (bl : Nat) (f0 f1 ps : List (List UInt8)) : (waS bl f0 f1).growL 4 ps = waS bl f0 (f1 ++ ps) := rfl
section
variable {D : Dk} {S : Spc} {sf : Nat → Nat} {lim n m bl : Nat} {f0 f1 : List (List UInt8)} {b : List UInt8}
theorem wa_begin (hg : Good D ⟨1, 1, []⟩ sf lim) (hlim : lim + 1 ≤ 1000000000) (ha : D.armed = 0) (hl : D.cells.length = 64) (hb : 1 ≤ bl ∧ bl ≤ 16) :
    ∃ D', (Spc.mk 1 1 []).switch [⟨3, 0, bl⟩, ⟨4, 0, 20⟩] [] D = (waS bl [] [], D', 0) ∧ Good D' (waS bl [] []) (lenAt (waS bl [] []).files) (lim + 1) ∧ (∀ n, Cnt D n → Cnt D' (n + 1)) ∧ D'.cells.length = 64 ∧ D'.armed = 0 := by
  have hfind : ∀ x, (Spc.mk 1 1 []).find x = none := fun x => rfl
  have hmay : (Spc.mk 1 1 []).may [⟨3, 0, bl⟩, ⟨4, 0, 20⟩] [] = true := by
    have h3 : (1 : Int) ≤ bl := by omega
    simp [Spc.may, Spc.mayDrop, Spc.mayAdd, hfind, h3]
  have hadd : addX D.cells.length 2 [⟨3, 0, bl⟩, ⟨4, 0, 20⟩] (Spc.mk 1 1 []).lie ((Spc.mk 1 1 []).files.filter fun f => !([] : List Int).contains (f.num : Int)) = some (waS bl [] []).files := by
    show addX D.cells.length 2 [⟨3, 0, bl⟩, ⟨4, 0, 20⟩] [] [] = _
    rw [hl, addX_yes (place_one (by show (1 : Int) ≤ (bl : Int); omega) (by show (bl : Int) ≤ _; omega))]
    show addX 64 2 [⟨4, 0, 20⟩] [(2, bl)] [⟨3, 2, bl, 2, 1, []⟩] = _
    rw [addX_yes (place_two (n := bl) (by show (1 : Int) ≤ 20; omega) (by show (20 : Int) ≤ _; omega))]
    rfl
  obtain ⟨D', e, g, c, l, r⟩ := sw_ok hg hlim (by omega) hmay (by show (0 : Int) + 2 - 0 ≤ 24; decide) hadd
  exact ⟨D', e, g, c, l.trans hl, by rw [r, ha]⟩
/-- A batch for the first file, and one for the second. -/
theorem wa_put3 (hg : Good D (waS bl f0 f1) sf lim) (hb : b.length ≤ 3000) (ha : D.armed = 0) :
    if bl < f0.length + needN b.length then (waS bl f0 f1).wapp 3 b D = (waS bl f0 f1, D, 41)
    else ∃ D', (waS bl f0 f1).wapp 3 b D = (waS bl (f0 ++ split b) f1, D', 0) ∧ Good D' (waS bl (f0 ++ split b) f1) sf lim ∧ (∀ m, Cnt D m → Cnt D' (m + 548)) ∧ D'.cells.length = D.cells.length ∧ D'.armed = 0 := by
  split
  · rename_i h
    exact wapp_no (wa_find3 bl f0 f1) (by omega) h
  · rename_i h
    exact wapp_yes hg (wa_find3 bl f0 f1) (by omega) (by show f0.length + _ ≤ bl; omega) ha
theorem wa_put4 (hg : Good D (waS bl f0 f1) sf lim) (hb : b.length ≤ 3000) (ha : D.armed = 0) :
    if 20 < f1.length + needN b.length then (waS bl f0 f1).wapp 4 b D = (waS bl f0 f1, D, 41)
    else ∃ D', (waS bl f0 f1).wapp 4 b D = (waS bl f0 (f1 ++ split b), D', 0) ∧ Good D' (waS bl f0 (f1 ++ split b)) sf lim ∧ (∀ m, Cnt D m → Cnt D' (m + 548)) ∧ D'.cells.length = D.cells.length ∧ D'.armed = 0 := by
  split
  · rename_i h
    exact wapp_no (wa_find4 bl f0 f1) (by omega) h
  · rename_i h
    exact wapp_yes hg (wa_find4 bl f0 f1) (by omega) (by show f1.length + _ ≤ 20; omega) ha
end
end Go.Proofs.Ytjmapbhgjhlefaa
