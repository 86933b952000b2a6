/- merge.Merge over rows that are the parts of one row in order: it is that row. -/
import Derived.Test.YtaoenbjfkahdjaaQMrgS
namespace Go.Proofs.Ytaoenbjfkahdjaa
open Go.RowKit
set_option linter.unusedVariables false
set_option maxRecDepth 100000

/-- What f gives to the k-th part of a row. -/
def prt {α : Type} (f : Nat → Nat) (k : Nat) : Nat → List α → List α
  | _, [] => []
  | i, x :: l => if f i = k then x :: prt f k (i + 1) l else prt f k (i + 1) l
theorem prt_cons {α : Type} (f : Nat → Nat) (k i : Nat) (x : α) (l : List α) : prt f k i (x :: l) = if f i = k then x :: prt f k (i + 1) l else prt f k (i + 1) l := rfl
theorem prt_map {α β : Type} (g : α → β) (f : Nat → Nat) (k : Nat) : ∀ (l : List α) (i : Nat), (prt f k i l).map g = prt f k i (l.map g)
  | [], i => rfl
  | x :: l, i => by
    rw [prt_cons, List.map_cons, prt_cons]
    split
    · rw [List.map_cons, prt_map g f k l]
    · rw [prt_map g f k l]
theorem prt_sub {α : Type} (f : Nat → Nat) (k : Nat) : ∀ (l : List α) (i : Nat), (prt f k i l).Sublist l
  | [], i => List.Sublist.refl _
  | x :: l, i => by
    unfold prt
    split
    · exact (prt_sub f k l _).cons_cons _
    · exact (prt_sub f k l _).cons _
theorem prt_snoc {α : Type} (f : Nat → Nat) (k : Nat) (x : α) : ∀ (l : List α) (i : Nat), prt f k i (l ++ [x]) = prt f k i l ++ (if f (i + l.length) = k then [x] else [])
  | [], i => by
    show (if f i = k then x :: [] else []) = _
    rw [List.length_nil, Nat.add_zero]
    rfl
  | y :: l, i => by
    rw [List.cons_append]
    unfold prt
    rw [prt_snoc f k x l (i + 1), List.length_cons, show i + 1 + l.length = i + (l.length + 1) by omega]
    split <;> rfl
/-- The head of a part: the first place that is its own. -/
theorem prt_head {f : Nat → Nat} {k : Nat} {x : Ent} {T : List Ent} : ∀ {l : List Ent} {i : Nat}, prt f k i l = x :: T → ∃ s, ∃ h : s < l.length, l[s] = x ∧ f (i + s) = k
  | [], i, h => by cases h
  | y :: l, i, h => by
    unfold prt at h
    split at h
    · rename_i hk
      injection h with h1 h2
      exact ⟨0, by simp, h1, hk⟩
    · obtain ⟨s, hs, h1, h2⟩ := prt_head h
      exact ⟨s + 1, by simp; omega, by simpa using h1, by rw [show i + (s + 1) = i + 1 + s by omega]; exact h2⟩
/-- The row with the least head, of the first i. -/
def BestAt (Rs : List (List Ent)) (i : Nat) : Option Nat → Prop
  | none => ∀ j, j < i → ∀ R, Rs[j]? = some R → R = []
  | some b => b < i ∧ ∃ x T, Rs[b]? = some (x :: T) ∧ ∀ j, j < i → ∀ y U, Rs[j]? = some (y :: U) → lessE y x = false
theorem best_zero (Rs : List (List Ent)) : BestAt Rs 0 none := fun j hj => absurd hj (by omega)
theorem best_skip {Rs : List (List Ent)} {i : Nat} {o : Option Nat} (h : BestAt Rs i o) (hi : Rs[i]? = some []) : BestAt Rs (i + 1) o := by
  cases o with
  | none =>
    intro j hj R hR
    rcases Nat.lt_or_ge j i with h1 | h1
    · exact h j h1 R hR
    · obtain rfl : j = i := by omega
      rw [hi] at hR; injection hR with hR; exact hR.symm
  | some b =>
    obtain ⟨h1, x, T, h2, h3⟩ := h
    refine ⟨by omega, x, T, h2, fun j hj y U hy => ?_⟩
    rcases Nat.lt_or_ge j i with h4 | h4
    · exact h3 j h4 y U hy
    · obtain rfl : j = i := by omega
      rw [hi] at hy; cases hy
theorem best_first {Rs : List (List Ent)} {i : Nat} {x : Ent} {T : List Ent} (h : BestAt Rs i none) (hi : Rs[i]? = some (x :: T)) : BestAt Rs (i + 1) (some i) := by
  refine ⟨by omega, x, T, hi, fun j hj y U hy => ?_⟩
  rcases Nat.lt_or_ge j i with h4 | h4
  · cases h j h4 _ hy
  · obtain rfl : j = i := by omega
    rw [hi] at hy
    injection hy with hy
    injection hy with h5 h6
    subst h5
    cases hq : lessE x x with
    | false => rfl
    | true => exact absurd hq (lte_irr x)
theorem best_less {Rs : List (List Ent)} {i b : Nat} {x y : Ent} {T U : List Ent} (h : BestAt Rs i (some b)) (hb : Rs[b]? = some (y :: U)) (hi : Rs[i]? = some (x :: T)) (hl : lessE x y = true) : BestAt Rs (i + 1) (some i) := by
  obtain ⟨h1, z, V, h2, h3⟩ := h
  rw [hb] at h2
  injection h2 with h2
  injection h2 with e1 e2
  subst e1
  refine ⟨by omega, x, T, hi, fun j hj u W hu => ?_⟩
  rcases Nat.lt_or_ge j i with h4 | h4
  · cases hq : lessE u x with
    | false => rfl
    | true =>
      have h5 : LTE u y := lte_trans hq hl
      have h6 := h3 j h4 u W hu
      rw [show lessE u y = true from h5] at h6
      cases h6
  · obtain rfl : j = i := by omega
    rw [hi] at hu
    injection hu with hu
    injection hu with h5 h6
    subst h5
    cases hq : lessE x x with
    | false => rfl
    | true => exact absurd hq (lte_irr x)
theorem best_not {Rs : List (List Ent)} {i b : Nat} {x y : Ent} {T U : List Ent} (h : BestAt Rs i (some b)) (hb : Rs[b]? = some (y :: U)) (hi : Rs[i]? = some (x :: T)) (hl : lessE x y = false) : BestAt Rs (i + 1) (some b) := by
  obtain ⟨h1, z, V, h2, h3⟩ := h
  refine ⟨by omega, z, V, h2, fun j hj u W hu => ?_⟩
  rcases Nat.lt_or_ge j i with h4 | h4
  · exact h3 j h4 u W hu
  · obtain rfl : j = i := by omega
    rw [hb] at h2
    injection h2 with h2
    injection h2 with e1 e2
    subst e1
    rw [hi] at hu
    injection hu with hu
    injection hu with h5 h6
    subst h5
    exact hl
/-- The parts of what is left of a row. -/
def partsOf (f : Nat → Nat) (m t : Nat) (L : List Ent) : List (List Ent) := (List.range m).map fun k => prt f k t (L.drop t)
theorem parts_at {f : Nat → Nat} {m t k : Nat} {L : List Ent} (h : k < m) : (partsOf f m t L)[k]? = some (prt f k t (L.drop t)) := by
  unfold partsOf
  rw [List.getElem?_map, List.getElem?_range h]
  rfl
theorem parts_len (f : Nat → Nat) (m t : Nat) (L : List Ent) : (partsOf f m t L).length = m := by unfold partsOf; simp
theorem prt_now {f : Nat → Nat} {t k : Nat} {L : List Ent} (ht : t < L.length) : prt f k t (L.drop t) = if f t = k then L[t] :: prt f k (t + 1) (L.drop (t + 1)) else prt f k (t + 1) (L.drop (t + 1)) := by
  rw [List.drop_eq_getElem_cons ht]
  rfl
/-- The least head is the next of the row. -/
theorem best_next {f : Nat → Nat} {m t : Nat} {L : List Ent} {o : Option Nat} (hs : L.Pairwise LTE) (ht : t < L.length) (hf : f t < m) (h : BestAt (partsOf f m t L) m o) : o = some (f t) := by
  have hft : (partsOf f m t L)[f t]? = some (L[t] :: prt f (f t) (t + 1) (L.drop (t + 1))) := by rw [parts_at hf, prt_now ht, if_pos rfl]
  cases o with
  | none => exact absurd (h _ hf _ hft) (by simp)
  | some b =>
    obtain ⟨h1, x, T, h2, h3⟩ := h
    have h4 := h3 _ hf _ _ hft
    rw [parts_at h1] at h2
    injection h2 with h2
    obtain ⟨s, hsl, e1, e2⟩ := prt_head h2
    rw [List.getElem_drop] at e1
    cases s with
    | zero => rw [Nat.add_zero] at e2; rw [e2]
    | succ s =>
      exfalso
      have hsl2 : t + (s + 1) < L.length := by rw [List.length_drop] at hsl; omega
      have h5 := List.pairwise_iff_getElem.1 hs t (t + (s + 1)) ht hsl2 (by omega)
      rw [e1] at h5
      rw [show lessE L[t] x = true from h5] at h4
      cases h4
theorem best_end {f : Nat → Nat} {m t : Nat} {L : List Ent} {o : Option Nat} (ht : L.length ≤ t) (h : BestAt (partsOf f m t L) m o) : o = none := by
  cases o with
  | none => rfl
  | some b =>
    obtain ⟨h1, x, T, h2, h3⟩ := h
    rw [parts_at h1, List.drop_of_length_le ht] at h2
    injection h2 with h2
    cases h2
end Go.Proofs.Ytaoenbjfkahdjaa
