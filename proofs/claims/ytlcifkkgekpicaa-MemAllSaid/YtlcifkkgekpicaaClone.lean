/- slices.Clone at bytes. -/
import Derived.Test.YtlcifkkgekpicaaBytes
namespace Go.Proofs.Ytlcifkkgekpicaa
open Go.RowKit
set_option linter.unusedVariables false

/-- What slices.Clone gives: a row of its own; nil of nil alone. -/
def Cloned (l : List UInt8) (A : Option Addr) (w : World) (e : Ending) (w' : World) : Prop :=
  ∃ v, e = .returned v ∧ w'.ownsRow w.heap.size 5 1 v l.length (l.map bv) ∧ (v = .slice none 0 0 ↔ A = none) ∧ Chg No w w'

theorem clone_any (A : Option Addr) (c : Nat) (l : List UInt8) (w : World) (h : Rd w A l) (hl : l.length ≤ 140737488355328) :
    Calls Try.prog 51 #[.slice A l.length c] w (Cloned l A w) := by
  have hmax : l.length ≤ maxLen := by unfold maxLen; omega
  rcases A with _ | ad
  · have hl0 : l = [] := by
      rcases l with _ | ⟨x, l⟩
      · rfl
      · obtain ⟨b, o, e, _⟩ := h (by simp); cases e
    subst hl0
    have hnil := fun (W : World) (A : Option Addr) (n c : Nat) => Lib.run_eql_slice_nil (P := Try.prog) W 22 5 A n c 0 0 Try.underlying22
    go_enter Try.func51, Try.ntmps51
    go_wp2
    go_ret
    exact ⟨_, rfl, World.ownsRow_nil _ _ _ _, by simp, Chg.refl _ _⟩
  · obtain ⟨i0, hi, hz0, hz1, hz2⟩ := info_parts info_u8
    have hnil := fun (W : World) (A : Option Addr) (n c : Nat) => Lib.run_eql_slice_nil (P := Try.prog) W 22 5 A n c 0 0 Try.underlying22
    go_enter Try.func51, Try.ntmps51
    have HL := Lib.hid h
    clear h
    go_wp2_with (at_builtin; refine wpList_app rfl (.tmp 5) (.tmp 6) 22 rfl w.heap.size 5 i0 _ 1 1 Try.underlying22 hi hz0 hz1 hz2 rfl (by decide) (.slice (some ⟨w.heap.size, 0, none⟩) 0 0) 0 [] rfl (own_lit w 5 #[] (Nat.zero_le _)) (some ad) l.length c (l.map bv) rfl ((HL.out).alloc _) (by simp) (bv_one l) (by omega) (by omega) (by simp) ?_; intro v1 w1 hap)
    go_ret
    have hown := hap.own
    have hn := hap.nil
    refine ⟨v1, rfl, by simpa using hown, by simpa using hn, hap.old ((Chg.refl No w).alloc _) (own_lit w 5 #[] (Nat.zero_le _)) (Nat.le_refl _)⟩

end Go.Proofs.Ytlcifkkgekpicaa
