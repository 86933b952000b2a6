/- MemHeights' plain law: the order in which entries come, and levels. No program here. -/
import Derived.Test.YtlcifkkgekpicaaMemLev
namespace Go.Proofs.Ytlcifkkgekpicaa
open Go.RowKit
set_option linter.unusedVariables false

theorem sorted_eq : ∀ {a b : List Ent}, a.Pairwise LTE → b.Pairwise LTE → (∀ x, x ∈ a ↔ x ∈ b) → a = b
  | [], [], _, _, _ => rfl
  | [], y :: b, _, _, h => by have := (h y).2 (by simp); simp at this
  | x :: a, [], _, _, h => by have := (h x).1 (by simp); simp at this
  | x :: a, y :: b, ha, hb, h => by
    rw [List.pairwise_cons] at ha hb
    have hxy : x = y := by
      rcases List.mem_cons.1 ((h x).1 (by simp)) with e | e
      · exact e
      · rcases List.mem_cons.1 ((h y).2 (by simp)) with e2 | e2
        · exact e2.symm
        · exact absurd (ha.1 y e2) (lte_asymm (hb.1 x e))
    subst hxy
    have : a = b := sorted_eq ha.2 hb.2 fun z => by
      have hz := h z
      rw [List.mem_cons, List.mem_cons] at hz
      constructor
      · intro k
        rcases hz.1 (.inr k) with e | e
        · subst e; exact absurd (ha.1 z k) (lte_irr z)
        · exact e
      · intro k
        rcases hz.2 (.inr k) with e | e
        · subst e; exact absurd (hb.1 z k) (lte_irr z)
        · exact e
    rw [this]
/-- The i-th entry, with its own number. -/
def cutI (l : List PuD) (i : Nat) : Ent := match l[i]? with
  | some p => { (cutN p.e).ent with seq := (i : Int) }
  | none => noE
theorem cutI_seq {l : List PuD} {i : Nat} (h : i < l.length) : (cutI l i).seq = i := by unfold cutI; rw [List.getElem?_eq_getElem h]
def fsts (ns : List Nd) : List Ent := (absL ns).map (·.1)
theorem twice_no {e : Ent} {L : List Pr} (h : ∀ p ∈ L, p.1.seq ≠ e.seq) : twiceM e L = false := by
  unfold twiceM
  cases hb : behindM e L with
  | nil => rfl
  | cons p s =>
    have hp : p ∈ L := by
      have : p ∈ behindM e L := by rw [hb]; simp
      unfold behindM at this
      exact (List.dropWhile_suffix _).sublist.subset this
    show decide (ordE p.1 e = 0) = false
    rw [decide_eq_false_iff_not]
    intro h0
    exact h p hp (ord_zero.1 h0).2
theorem ins_mem {e : Ent} {h : Nat} {L : List Pr} (ht : twiceM e L = false) (x : Ent) : x ∈ (insM e h L).map (·.1) ↔ x = e ∨ x ∈ L.map (·.1) := by
  unfold insM
  rw [ht]
  have e1 : L = aheadM e L ++ behindM e L := (List.takeWhile_append_dropWhile).symm
  have e2 : x ∈ L.map (·.1) ↔ x ∈ (aheadM e L ++ behindM e L).map (·.1) := by rw [← e1]
  rw [e2]
  simp only [Bool.false_eq_true, if_false, List.map_append, List.map_cons, List.mem_append, List.mem_cons]
  constructor
  · rintro (h | h | h)
    · exact .inr (.inl h)
    · exact .inl h
    · exact .inr (.inr h)
  · rintro (h | h | h)
    · exact .inr (.inl h)
    · exact .inl h
    · exact .inr (.inr h)
theorem ins_len {e : Ent} {h : Nat} {L : List Pr} (ht : twiceM e L = false) : (insM e h L).length = L.length + 1 := by
  unfold insM
  rw [ht]
  have e1 : L.length = (aheadM e L ++ behindM e L).length := by rw [show aheadM e L ++ behindM e L = L from List.takeWhile_append_dropWhile]
  rw [List.length_append] at e1
  simp only [Bool.false_eq_true, if_false, List.length_append, List.length_cons]
  omega
/-- What a table holds of a list: the entries of these places. -/
def Holds (l : List PuD) (lo hi : Nat) (ns : List Nd) : Prop := ns.length = hi - lo ∧ ∀ x, x ∈ fsts ns ↔ ∃ i, lo ≤ i ∧ i < hi ∧ x = cutI l i
theorem holds_none (l : List PuD) (k : Nat) : Holds l k k [] := ⟨by simp, fun x => ⟨fun h => by simp [fsts, absL] at h, fun ⟨i, h1, h2, _⟩ => by omega⟩⟩
theorem holds_twice {l : List PuD} {lo hi k : Nat} {ns : List Nd} (h : Holds l lo hi ns) (hh : hi ≤ l.length) (hk : k < l.length) (hno : k < lo ∨ hi ≤ k) : twiceM (cutI l k) (absL ns) = false := by
  refine twice_no fun p hp => ?_
  obtain ⟨i, h1, h2, h3⟩ := (h.2 p.1).1 (List.mem_map.2 ⟨p, hp, rfl⟩)
  rw [h3, cutI_seq (by omega), cutI_seq hk]
  omega
theorem holds_up {l : List PuD} {lo k h : Nat} {ns ns' : List Nd} (hd : Holds l lo k ns) (hk : k < l.length) (hlo : lo ≤ k) (ha : absL ns' = insM (cutI l k) h (absL ns)) : Holds l lo (k + 1) ns' := by
  have ht := holds_twice hd (by omega) hk (.inr (Nat.le_refl _))
  refine ⟨?_, fun x => ?_⟩
  · have h1 := congrArg List.length ha
    rw [ins_len ht] at h1
    have h2 := hd.1
    unfold absL at h1
    simp only [List.length_map] at h1
    omega
  · have : fsts ns' = (insM (cutI l k) h (absL ns)).map (·.1) := by unfold fsts; rw [ha]
    rw [this, ins_mem ht]
    constructor
    · rintro (e | e)
      · exact ⟨k, hlo, by omega, e⟩
      · obtain ⟨i, h1, h2, h3⟩ := (hd.2 x).1 e
        exact ⟨i, h1, by omega, h3⟩
    · rintro ⟨i, h1, h2, h3⟩
      by_cases e : i = k
      · subst e; exact .inl h3
      · exact .inr ((hd.2 x).2 ⟨i, h1, by omega, h3⟩)
theorem holds_dn {l : List PuD} {k hi h : Nat} {ns ns' : List Nd} (hd : Holds l (k + 1) hi ns) (hk : k < hi) (hh : hi ≤ l.length) (ha : absL ns' = insM (cutI l k) h (absL ns)) : Holds l k hi ns' := by
  have ht := holds_twice hd hh (by omega) (.inl (Nat.lt_succ_self _))
  refine ⟨?_, fun x => ?_⟩
  · have h1 := congrArg List.length ha
    rw [ins_len ht] at h1
    have h2 := hd.1
    unfold absL at h1
    simp only [List.length_map] at h1
    omega
  · have : fsts ns' = (insM (cutI l k) h (absL ns)).map (·.1) := by unfold fsts; rw [ha]
    rw [this, ins_mem ht]
    constructor
    · rintro (e | e)
      · exact ⟨k, by omega, by omega, e⟩
      · obtain ⟨i, h1, h2, h3⟩ := (hd.2 x).1 e
        exact ⟨i, by omega, h2, h3⟩
    · rintro ⟨i, h1, h2, h3⟩
      by_cases e : i = k
      · subst e; exact .inl h3
      · exact .inr ((hd.2 x).2 ⟨i, by omega, h2, h3⟩)
theorem fsts_sort {ns : List Nd} (h : NOk ns) : (fsts ns).Pairwise LTE := by
  have : fsts ns = ns.map fun n => n.e.ent := by unfold fsts absL; rw [List.map_map]; rfl
  rw [this, List.pairwise_map]
  exact h.sort
theorem holds_eq {l : List PuD} {n : Nat} {ns ms : List Nd} (h : Holds l 0 n ns) (k : Holds l 0 n ms) (ho : NOk ns) (ko : NOk ms) : fsts ns = fsts ms :=
  sorted_eq (fsts_sort ho) (fsts_sort ko) fun x => by rw [h.2, k.2]
theorem sortedB_of {L : List Ent} (h : L.Pairwise LTE) : sortedB L = true := (sortedB_iff L).2 fun i hi => List.pairwise_iff_getElem.1 h i (i + 1) (by omega) hi (by omega)
/-- The rows of the levels, the one below each. -/
def prevL (k : Nat) (L : List Pr) : List Ent := if k = 0 then L.map (·.1) else levM ((k : Int) - 1) L
theorem filter_sub {α : Type} {p q : α → Bool} (h : ∀ x, q x = true → p x = true) : ∀ l : List α, (l.filter q).Sublist (l.filter p)
  | [] => by simp
  | x :: l => by
    rw [List.filter_cons, List.filter_cons]
    by_cases hq : q x = true
    · rw [if_pos hq, if_pos (h x hq)]
      exact (filter_sub h l).cons_cons x
    · rw [if_neg hq]
      split
      · exact (filter_sub h l).cons x
      · exact filter_sub h l
theorem lev_sub (k : Nat) (hk : k < 8) (L : List Pr) : (levM (k : Int) L).Sublist (prevL k L) := by
  unfold prevL levM
  rw [if_pos (by omega)]
  by_cases h : k = 0
  · rw [if_pos h]
    exact List.filter_sublist.map _
  · rw [if_neg h, if_pos (by omega)]
    refine (filter_sub (fun x hx => ?_) L).map _
    simp at hx ⊢
    omega
theorem lev_zero {ns : List Nd} (h : NOk ns) : levM 0 (absL ns) = fsts ns := by
  unfold levM fsts
  rw [if_pos (by omega), List.filter_eq_self.2]
  intro p hp
  obtain ⟨n, hn, rfl⟩ := List.mem_map.1 hp
  have := (h.full n hn)
  show decide ((0 : Int) < (n.h : Int)) = true
  simp
  omega
/-- The way through two rows. -/
theorem sub_some {now below : List Ent} {j k : Nat} (h : (now.drop j).Sublist (below.drop k)) (hj : j < now.length) : k < below.length := by
  rcases Nat.lt_or_ge k below.length with q | q
  · exact q
  · rw [List.drop_eq_nil_of_le q] at h
    have h2 := h.length_le
    simp at h2
    omega
theorem sub_ne {x y : Ent} {a b : List Ent} (h : (x :: a).Sublist (y :: b)) (hne : y ≠ x) : (x :: a).Sublist b := by
  cases h with
  | cons _ h => exact h
  | cons_cons _ h => exact absurd rfl hne
theorem sub_skip {now below : List Ent} {j k : Nat} (h : (now.drop j).Sublist (below.drop k)) (hj : j < now.length) (hk : k < below.length) (hne : below[k] ≠ now[j]) : (now.drop j).Sublist (below.drop (k + 1)) := by
  rw [List.drop_eq_getElem_cons hj, List.drop_eq_getElem_cons hk] at h
  rw [List.drop_eq_getElem_cons hj]
  exact sub_ne h hne
theorem sub_both {now below : List Ent} {j k : Nat} (h : (now.drop j).Sublist (below.drop k)) (hj : j < now.length) (hk : k < below.length) (he : below[k] = now[j]) : (now.drop (j + 1)).Sublist (below.drop (k + 1)) := by
  rw [List.drop_eq_getElem_cons hj, List.drop_eq_getElem_cons hk, he] at h
  exact List.cons_sublist_cons.1 h
end Go.Proofs.Ytlcifkkgekpicaa
