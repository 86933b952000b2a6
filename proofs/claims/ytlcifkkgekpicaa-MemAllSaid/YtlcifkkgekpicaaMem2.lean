/- The order of entries: plain. -/
import Derived.Test.YtlcifkkgekpicaaMem1
namespace Go.Proofs.Ytlcifkkgekpicaa
open Go.RowKit
set_option linter.unusedVariables false

theorem cb_refl : ∀ a : List UInt8, Lib.compareBytes a a = 0
  | [] => rfl
  | x :: a => by unfold Lib.compareBytes; rw [if_neg (UInt8.lt_irrefl x), if_neg (UInt8.lt_irrefl x)]; exact cb_refl a
theorem u8_tri (x y : UInt8) (h1 : ¬ x < y) (h2 : ¬ y < x) : x = y := UInt8.le_antisymm (UInt8.not_lt.1 h2) (UInt8.not_lt.1 h1)
theorem cb_eq : ∀ {a b : List UInt8}, Lib.compareBytes a b = 0 → a = b
  | [], [], _ => rfl
  | [], _ :: _, h => by simp [Lib.compareBytes] at h
  | _ :: _, [], h => by simp [Lib.compareBytes] at h
  | x :: a, y :: b, h => by
    unfold Lib.compareBytes at h
    by_cases h1 : x < y
    · rw [if_pos h1] at h; omega
    · rw [if_neg h1] at h
      by_cases h2 : y < x
      · rw [if_pos h2] at h; omega
      · rw [if_neg h2] at h
        rw [u8_tri x y h1 h2, cb_eq h]
theorem cb_swap : ∀ (a b : List UInt8), Lib.compareBytes b a = - Lib.compareBytes a b
  | [], [] => rfl
  | [], _ :: _ => rfl
  | _ :: _, [] => rfl
  | x :: a, y :: b => by
    unfold Lib.compareBytes
    by_cases h1 : x < y
    · rw [if_pos h1, if_neg (UInt8.lt_asymm h1), if_pos h1]; rfl
    · rw [if_neg h1]
      by_cases h2 : y < x
      · rw [if_pos h2, if_neg h1, if_pos h2]
      · rw [if_neg h2, if_neg h2, if_neg h1]; exact cb_swap a b
theorem cb_less : ∀ (a b : List UInt8), Op.bytesLess a b = decide (Lib.compareBytes a b < 0)
  | [], [] => rfl
  | [], _ :: _ => rfl
  | _ :: _, [] => rfl
  | x :: a, y :: b => by
    unfold Lib.compareBytes Op.bytesLess
    by_cases h1 : x < y
    · rw [if_pos h1]; simp [h1]
    · rw [if_neg h1]
      by_cases h2 : y < x
      · have : ¬ x = y := fun e => by subst e; exact UInt8.lt_irrefl _ h2
        rw [if_pos h2]; simp [h1, this]
      · rw [if_neg h2, u8_tri x y h1 h2, cb_less a b]; simp
theorem cb_trans : ∀ {a b c : List UInt8}, Lib.compareBytes a b < 0 → Lib.compareBytes b c < 0 → Lib.compareBytes a c < 0
  | [], [], _, h, _ => by simp [Lib.compareBytes] at h
  | _ :: _, [], _, h, _ => by simp [Lib.compareBytes] at h
  | [], _ :: _, [], _, h => by simp [Lib.compareBytes] at h
  | [], _ :: _, _ :: _, _, _ => by simp [Lib.compareBytes]
  | _ :: _, _ :: _, [], _, h => by simp [Lib.compareBytes] at h
  | x :: a, y :: b, z :: c, h, k => by
    unfold Lib.compareBytes at h k ⊢
    by_cases h1 : x < y
    · by_cases k1 : y < z
      · rw [if_pos (UInt8.lt_trans h1 k1)]; omega
      · rw [if_neg k1] at k
        by_cases k2 : z < y
        · rw [if_pos k2] at k; omega
        · rw [← u8_tri y z k1 k2, if_pos h1]; omega
    · rw [if_neg h1] at h
      by_cases h2 : y < x
      · rw [if_pos h2] at h; omega
      · rw [if_neg h2] at h
        rw [u8_tri x y h1 h2]
        by_cases k1 : y < z
        · rw [if_pos k1]; omega
        · rw [if_neg k1] at k ⊢
          by_cases k2 : z < y
          · rw [if_pos k2] at k; omega
          · rw [if_neg k2] at k ⊢
            exact cb_trans h k
section
variable {a b c : Ent}
/-- a stands ahead of b. -/
def LTE (a b : Ent) : Prop := lessE a b = true
theorem lte_iff : LTE a b ↔ Lib.compareBytes a.key b.key < 0 ∨ (a.key = b.key ∧ b.seq < a.seq) := by
  unfold LTE lessE ordE
  by_cases h : Lib.compareBytes a.key b.key = 0
  · rw [if_pos h]
    have := cb_eq h
    have h0 : ¬ Lib.compareBytes a.key b.key < 0 := by omega
    by_cases h1 : b.seq < a.seq
    · rw [if_pos h1]; simp [this, h1]
    · rw [if_neg h1]
      by_cases h2 : a.seq < b.seq
      · rw [if_pos h2]; simp [h0, h1]
      · rw [if_neg h2]; simp [h0, h1]
  · rw [if_neg h]
    have : ¬ a.key = b.key := fun e => h (by rw [e]; exact cb_refl _)
    simp [this]
theorem lte_trans (h : LTE a b) (k : LTE b c) : LTE a c := by
  rw [lte_iff] at *
  rcases h with h | ⟨h, h'⟩ <;> rcases k with k | ⟨k, k'⟩
  · exact .inl (cb_trans h k)
  · rw [← k]; exact .inl h
  · rw [h]; exact .inl k
  · exact .inr ⟨h.trans k, by omega⟩
theorem lte_irr (a : Ent) : ¬ LTE a a := by rw [lte_iff, cb_refl]; simp
/-- One key, one number: no two of these may be in a table. -/
def same1 (a b : Ent) : Prop := a.key = b.key ∧ a.seq = b.seq
theorem ord_zero : ordE a b = 0 ↔ same1 a b := by
  unfold ordE same1
  by_cases h : Lib.compareBytes a.key b.key = 0
  · rw [if_pos h]
    have := cb_eq h
    by_cases h1 : b.seq < a.seq
    · rw [if_pos h1]; simp; intro _; omega
    · rw [if_neg h1]
      by_cases h2 : a.seq < b.seq
      · rw [if_pos h2]; simp; intro _; omega
      · rw [if_neg h2]; simp [this]; omega
  · rw [if_neg h]
    have : ¬ a.key = b.key := fun e => h (by rw [e]; exact cb_refl _)
    simp [this, h]
theorem lte_tri (a b : Ent) : LTE a b ∨ LTE b a ∨ same1 a b := by
  rw [lte_iff, lte_iff, cb_swap a.key b.key]
  unfold same1
  by_cases h : Lib.compareBytes a.key b.key = 0
  · have := cb_eq h
    rw [this]
    rcases Int.lt_trichotomy a.seq b.seq with q | q | q
    · exact .inr (.inl (.inr ⟨rfl, q⟩))
    · exact .inr (.inr ⟨rfl, q⟩)
    · exact .inl (.inr ⟨rfl, q⟩)
  · by_cases h1 : Lib.compareBytes a.key b.key < 0
    · exact .inl (.inl h1)
    · exact .inr (.inl (.inl (by omega)))
theorem same1_not (h : same1 a b) : ¬ LTE a b := by
  rw [lte_iff, h.1, h.2, cb_refl]; simp
theorem same1.symm (h : same1 a b) : same1 b a := ⟨h.1.symm, h.2.symm⟩
theorem lte_asymm (h : LTE a b) : ¬ LTE b a := fun k => lte_irr _ (lte_trans h k)
instance (a b : Ent) : Decidable (LTE a b) := inferInstanceAs (Decidable (_ = _))
end
end Go.Proofs.Ytlcifkkgekpicaa
