/- MemNewest's plain law: which entry is the newest one up to a number. No program here. -/
import Derived.Test.YtlcifkkgekpicaaMemTab
namespace Go.Proofs.Ytlcifkkgekpicaa
open Go.RowKit
set_option linter.unusedVariables false

section
variable {key : List UInt8} {seq : Int} {L : List Ent}
def getL (key : List UInt8) (seq : Int) (L : List Ent) : Option Ent := match L.dropWhile (fun x => lessE x (seekE key seq)) with
  | x :: _ => if x.key = key then some x else none
  | [] => none
theorem get_list (key : List UInt8) (seq : Int) (ns : List Nd) : getE key seq ns = getL key seq ((absL ns).map (·.1)) := by
  have e : (absL ns).map (·.1) = ns.map fun n => n.e.ent := by unfold absL; rw [List.map_map]; rfl
  rw [e]
  have h : (ns.map fun n => n.e.ent).dropWhile (fun x => lessE x (seekE key seq)) = (behind (seekE key seq) ns).map fun n => n.e.ent := by
    unfold behind
    induction ns with
    | nil => rfl
    | cons n ns ih =>
      rw [List.map_cons, List.dropWhile_cons, List.dropWhile_cons]
      show (if lessE n.e.ent (seekE key seq) = true then _ else _) = List.map _ (if lessE n.e.ent (seekE key seq) = true then _ else _)
      split
      · exact ih (by unfold absL; rw [List.map_map]; rfl)
      · rfl
  unfold getE getL
  rw [h]
  cases behind (seekE key seq) ns <;> rfl
def plN (key : List UInt8) (seq : Int) (L : List Ent) : Nat := (L.takeWhile fun x => lessE x (seekE key seq)).length
def mtE (key : List UInt8) (seq : Int) (x : Ent) : Prop := x.key = key ∧ x.seq ≤ seq
def bst (key : List UInt8) (seq : Int) (L : List Ent) (k : Nat) : Int := if (getL key seq L).isSome = true ∧ plN key seq L < k then (plN key seq L : Int) else -1
theorem mt_not {x : Ent} (h : mtE key seq x) : lessE x (seekE key seq) = false := by
  cases hq : lessE x (seekE key seq) with
  | false => rfl
  | true =>
    have h2 : LTE x (seekE key seq) := hq
    rw [lte_iff] at h2
    rcases h2 with h2 | ⟨_, h2⟩
    · have h3 : Lib.compareBytes x.key key < 0 := h2
      rw [h.1, cb_refl] at h3
      omega
    · have h2 : seq < x.seq := h2
      have := h.2
      omega
theorem not_mt {x : Ent} (h : lessE x (seekE key seq) = false) (hk : x.key = key) : mtE key seq x := by
  refine ⟨hk, ?_⟩
  rcases Int.lt_or_le seq x.seq with h1 | h1
  · have h2 : LTE x (seekE key seq) := lte_iff.2 (.inr ⟨hk, h1⟩)
    unfold LTE at h2
    rw [h] at h2
    cases h2
  · exact h1
theorem split_at (f : Ent → Bool) (L : List Ent) : L = L.takeWhile f ++ L.dropWhile f := (List.takeWhile_append_dropWhile).symm
theorem tw_mem {f : Ent → Bool} : ∀ {L : List Ent} {x : Ent}, x ∈ L.takeWhile f → f x = true
  | [], _, h => by simp at h
  | y :: L, x, h => by
    rw [List.takeWhile_cons] at h
    split at h
    · rename_i hy
      rcases List.mem_cons.1 h with rfl | h
      · exact hy
      · exact tw_mem h
    · simp at h
/-- Ahead of the place all stand ahead. -/
theorem pl_low {k : Nat} (hk : k < L.length) (h : k < plN key seq L) : lessE L[k] (seekE key seq) = true := by
  have h1 : (L.takeWhile fun x => lessE x (seekE key seq))[k]'h ∈ L.takeWhile fun x => lessE x (seekE key seq) := List.getElem_mem _
  have h2 := tw_mem h1
  have h3 : L[k] = (L.takeWhile fun x => lessE x (seekE key seq))[k]'h := by
    have e := split_at (fun x => lessE x (seekE key seq)) L
    have h4 : L[k]? = (L.takeWhile fun x => lessE x (seekE key seq))[k]? := by
      conv => lhs; rw [e]
      rw [List.getElem?_append_left h]
    rw [List.getElem?_eq_getElem hk, List.getElem?_eq_getElem h] at h4
    exact Option.some.inj h4
  rw [h3]
  exact h2
theorem pl_at (h : plN key seq L < L.length) : ∃ s, L.dropWhile (fun x => lessE x (seekE key seq)) = L[plN key seq L] :: s ∧ lessE L[plN key seq L] (seekE key seq) = false := by
  have e := split_at (fun x => lessE x (seekE key seq)) L
  cases hd : L.dropWhile (fun x => lessE x (seekE key seq)) with
  | nil =>
    rw [hd, List.append_nil] at e
    have := congrArg List.length e
    unfold plN at h
    omega
  | cons x s =>
    have h2 : L[plN key seq L]? = some x := by
      obtain ⟨q, hq⟩ : ∃ q, q = plN key seq L := ⟨_, rfl⟩
      rw [← hq]
      have hq2 : (L.takeWhile fun x => lessE x (seekE key seq)).length = q := hq.symm
      conv => lhs; rw [e, hd]
      rw [List.getElem?_append_right (by omega), hq2]
      simp
    rw [List.getElem?_eq_getElem h] at h2
    have h2 := Option.some.inj h2
    have h3 := List.head?_dropWhile_not (fun x => lessE x (seekE key seq)) L
    rw [hd] at h3
    simp at h3
    exact ⟨s, by rw [h2], by rw [h2]; exact h3⟩
theorem get_pl (hs : L.Pairwise LTE) {k : Nat} (hk : k < L.length) (hm : mtE key seq L[k]) : plN key seq L ≤ k ∧ ∃ h : plN key seq L < L.length, getL key seq L = some L[plN key seq L] ∧ (plN key seq L < k → L[k].seq < L[plN key seq L].seq) := by
  have h1 : plN key seq L ≤ k := by
    rcases Nat.lt_or_ge k (plN key seq L) with q | q
    · have := pl_low hk q
      rw [mt_not hm] at this
      cases this
    · exact q
  refine ⟨h1, by omega, ?_⟩
  obtain ⟨s, e1, e2⟩ := pl_at (key := key) (seq := seq) (L := L) (by omega)
  have hkey : L[plN key seq L].key = key := by
    rcases Nat.eq_or_lt_of_le h1 with q | q
    · have : L[plN key seq L] = L[k] := by congr
      rw [this]; exact hm.1
    · have h2 := List.pairwise_iff_getElem.1 hs _ _ (by omega) hk q
      rw [lte_iff] at h2
      rcases h2 with h2 | ⟨h2, _⟩
      · exfalso
        have h3 : LTE L[plN key seq L] (seekE key seq) := lte_iff.2 (.inl (by have h4 := h2; rw [hm.1] at h4; exact h4))
        unfold LTE at h3
        rw [e2] at h3
        cases h3
      · rw [h2]; exact hm.1
  refine ⟨by unfold getL; rw [e1]; simp [hkey], fun q => ?_⟩
  have h2 := List.pairwise_iff_getElem.1 hs _ _ (by omega) hk q
  rw [lte_iff] at h2
  rcases h2 with h2 | ⟨_, h2⟩
  · exfalso; rw [hkey, hm.1, cb_refl] at h2; omega
  · exact h2
theorem bst_no (hs : L.Pairwise LTE) {k : Nat} (hk : k < L.length) (hm : ¬ mtE key seq L[k]) : bst key seq L (k + 1) = bst key seq L k := by
  unfold bst
  by_cases hp : plN key seq L = k
  · have : getL key seq L = none := by
      obtain ⟨s, e1, e2⟩ := pl_at (key := key) (seq := seq) (L := L) (by omega)
      unfold getL
      rw [e1]
      have : L[plN key seq L] = L[k] := by congr
      rw [this] at e2 ⊢
      simp only []
      rw [if_neg (fun e => hm (not_mt e2 e))]
    rw [this]
    simp
  · by_cases h : plN key seq L < k
    · have h1 : plN key seq L < k + 1 := by omega
      simp [h, h1]
    · have h1 : ¬ plN key seq L < k + 1 := by omega
      simp [h, h1]
theorem bst_cases (key : List UInt8) (seq : Int) (L : List Ent) (k : Nat) : bst key seq L k = -1 ∨ ∃ q : Nat, q < k ∧ q = plN key seq L ∧ bst key seq L k = q := by
  unfold bst
  split
  · rename_i h; exact .inr ⟨_, h.2, rfl, rfl⟩
  · exact .inl rfl
theorem bst_first (hs : L.Pairwise LTE) {k : Nat} (hk : k < L.length) (hm : mtE key seq L[k]) (hb : bst key seq L k = -1) : bst key seq L (k + 1) = k := by
  obtain ⟨h1, h2, h3, _⟩ := get_pl hs hk hm
  unfold bst at hb ⊢
  rw [h3] at hb ⊢
  have : ¬ plN key seq L < k := fun q => by rw [if_pos ⟨rfl, q⟩] at hb; omega
  rw [if_pos ⟨rfl, by omega⟩]
  omega
theorem bst_next (hs : L.Pairwise LTE) {k q : Nat} (hk : k < L.length) (hm : mtE key seq L[k]) (hq : q < k) (hp : q = plN key seq L) : ¬ L[q].seq < L[k].seq ∧ bst key seq L (k + 1) = q := by
  obtain ⟨h1, h2, h3, h4⟩ := get_pl hs hk hm
  subst hp
  have := h4 hq
  refine ⟨by omega, ?_⟩
  unfold bst
  rw [h3, if_pos ⟨rfl, by omega⟩]
theorem bst_end (key : List UInt8) (seq : Int) (L : List Ent) : (getL key seq L = none ∧ bst key seq L L.length = -1) ∨ ∃ h : plN key seq L < L.length, getL key seq L = some L[plN key seq L] ∧ bst key seq L L.length = (plN key seq L : Int) := by
  by_cases h : plN key seq L < L.length
  · obtain ⟨s, e1, e2⟩ := pl_at h
    by_cases hk : L[plN key seq L].key = key
    · have hg : getL key seq L = some L[plN key seq L] := by unfold getL; rw [e1]; simp [hk]
      exact .inr ⟨h, hg, by unfold bst; rw [hg, if_pos ⟨rfl, h⟩]⟩
    · have hg : getL key seq L = none := by unfold getL; rw [e1]; simp [hk]
      exact .inl ⟨hg, by unfold bst; rw [hg]; simp⟩
  · have hg : getL key seq L = none := by
      have e := split_at (fun x => lessE x (seekE key seq)) L
      have h1 := congrArg List.length e
      rw [List.length_append] at h1
      unfold plN at h
      have h2 : L.dropWhile (fun x => lessE x (seekE key seq)) = [] := List.eq_nil_of_length_eq_zero (by omega)
      unfold getL
      rw [h2]
    exact .inl ⟨hg, by unfold bst; rw [hg]; simp⟩
end
end Go.Proofs.Ytlcifkkgekpicaa
