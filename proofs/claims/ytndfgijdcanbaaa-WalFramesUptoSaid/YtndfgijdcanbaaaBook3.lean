/- The book's rows are written full and grown: what stays. No program in sight. -/
import Derived.Test.YtndfgijdcanbaaaBook2
namespace Go.Proofs.Ytndfgijdcanbaaa
open Go.RowKit
set_option linter.unusedVariables false

/-- The blocks of the rows. -/
def EntB (es : Rows_) : Nat → Prop := fun g => ∃ x ∈ es, (slOf x).ownBlock = some g
def fb (i : Nat) : UInt8 := UInt8.ofNat i
theorem ent_shape {es es' : Rows_} (h : es'.map slOf = es.map slOf) {g : Nat} (hg : EntB es' g) : EntB es g := by
  obtain ⟨x, hx, e⟩ := hg
  have : slOf x ∈ es.map slOf := h ▸ List.mem_map_of_mem (f := slOf) hx
  obtain ⟨y, hy, e'⟩ := List.mem_map.1 this
  exact ⟨y, hy, by rw [e', e]⟩
theorem ent_at {w : World} {b : Nat} {es : Rows_} (h : OwnL b w es) {t' : TypeId} (hne : 5 ≠ t') : ∀ g, EntB es g → ∃ t cs, At w g t cs ∧ t ≠ t' := fun g ⟨x, hx, hg⟩ => by
  obtain ⟨cur, hc⟩ := own_type (h.own x hx) hg
  exact ⟨_, cur, hc, hne⟩
theorem ent_not {w : World} {b k t : Nat} {cs : Array Value} {es : Rows_} (h : OwnL b w es) (hk : At w k t cs) (hne : 5 ≠ t) : ¬ EntB es k := fun hg => by
  obtain ⟨t', cs', ha, hn⟩ := ent_at h hne k hg
  exact ha.ne hk hn rfl

theorem own_set {w : World} {b e n g cap : Nat} {A : Option Addr} {xs : List Value} (h : w.ownsRow b e 1 (.slice (some ⟨g, 0, none⟩) n cap) n xs) (j : Nat) (hj : j < n) (u : Value) :
    (w.setCell ⟨g, j, none⟩ u).ownsRow b e 1 (.slice (some ⟨g, 0, none⟩) n cap) n (xs.set j u) := by
  rcases h.2 with ⟨h1, _⟩ | ⟨g', cap', cur, hv, hb, hh, hnc, hcm, hcs, htake⟩
  · cases h1
  · injection hv with h1 _ h2
    injection h1 with h1
    injection h1 with h1
    subst h1; subst h2
    refine ⟨by simpa using h.1, .inr ⟨g, cap, cur.setIfInBounds j u, rfl, hb, ?_, hnc, hcm, by simpa using hcs, ?_⟩⟩
    · exact At.set hh j u
    · rw [Array.toList_setIfInBounds, List.take_set, htake]

/-- A cell of a row is written. -/
theorem OwnL.put {w : World} {b : Nat} {es : Rows_} (h : OwnL b w es) {i : Nat} (hi : i < es.length) {j : Nat} (hj : j < es[i].2.2.length) :
    ∃ g, es[i].1 = some ⟨g, 0, none⟩ ∧ w.cell? ⟨g, j, none⟩ = some (bv es[i].2.2[j]) ∧ w.frozen? ⟨g, j, none⟩ = false ∧
      ∀ c : UInt8, OwnL b (w.setCell ⟨g, j, none⟩ (bv c)) (es.set i (es[i].1, es[i].2.1, es[i].2.2.set j c)) ∧ Chg (EntB es) w (w.setCell ⟨g, j, none⟩ (bv c)) := by
  have hx := h.own es[i] (List.getElem_mem hi)
  have hne : slOf es[i] ≠ .slice none 0 0 := fun e => by
    rw [e] at hx
    obtain ⟨h1, _⟩ := own_nil hx
    omega
  obtain ⟨g, cap, cur, hv, hb, hat, hnc, hcm, hcs, hcell⟩ := own_form hx hne
  unfold slOf at hv
  injection hv with h1 _ h2
  refine ⟨g, h1, ?_, hat.frozen j, fun c => ⟨⟨fun y hy => ?_, ?_⟩, ?_⟩⟩
  · rw [hat.cell, hcell j (by simpa using hj)]; simp
  · obtain ⟨q, hq, rfl⟩ := List.mem_iff_getElem.1 hy
    rw [List.getElem_set]
    simp at hq
    split
    · rename_i e
      subst e
      have hx' := hx
      unfold slOf at hx'
      rw [h1, h2] at hx'
      have h3 := own_set (A := none) hx' j hj (bv c)
      simp only [slOf, List.length_set, List.map_set]
      rw [h1, h2]
      exact h3
    · rename_i e
      refine own_chg (h.own es[q] (List.getElem_mem hq)) (chg_set w g j (bv c)) fun b' hb' hg => ?_
      cases hg
      have hp := List.pairwise_iff_getElem.1 h.apart
      rcases Nat.lt_or_gt_of_ne e with hlt | hlt
      · exact hp i q hi hq hlt g (by rw [slOf, h1]; rfl) hb'
      · exact hp q i hq hi hlt g hb' (by rw [slOf, h1]; rfl)
  · refine List.pairwise_iff_getElem.2 fun p q hp hq hpq => ?_
    simp at hp hq
    have := List.pairwise_iff_getElem.1 h.apart p q hp hq hpq
    have hs : ∀ r (hr : r < es.length), (slOf ((es.set i (es[i].1, es[i].2.1, es[i].2.2.set j c))[r]'(by simpa using hr))).ownBlock = (slOf es[r]).ownBlock := fun r hr => by
      rw [List.getElem_set]
      split
      · rename_i e; subst e; simp [slOf]
      · rfl
    intro g' hg'
    rw [hs q hq]
    rw [hs p hp] at hg'
    exact this g' hg'
  · exact (chg_set w g j (bv c)).mono fun b' _ hb' => by cases hb'; exact ⟨es[i], List.getElem_mem hi, by rw [slOf, h1]; rfl⟩
theorem shape_set {es : Rows_} {i : Nat} (hi : i < es.length) (l : List UInt8) (hl : l.length = es[i].2.2.length) : (es.set i (es[i].1, es[i].2.1, l)).map slOf = es.map slOf := by
  rw [List.map_set]
  have : slOf (es[i].1, es[i].2.1, l) = (es.map slOf)[i]'(by simpa using hi) := by simp [slOf, hl]
  rw [this, List.set_getElem_self]

theorem shape_get {es es' : Rows_} (h : es'.map slOf = es.map slOf) {q : Nat} (hq : q < es.length) : ∃ hq' : q < es'.length, es'[q].1 = es[q].1 ∧ es'[q].2.2.length = es[q].2.2.length ∧ es'[q].2.1 = es[q].2.1 := by
  have hl : es'.length = es.length := by simpa using congrArg List.length h
  refine ⟨by omega, ?_⟩
  have h1 : (es'.map slOf)[q]? = (es.map slOf)[q]? := by rw [h]
  rw [List.getElem?_map, List.getElem?_map, List.getElem?_eq_getElem hq, List.getElem?_eq_getElem (by omega)] at h1
  simp only [Option.map_some, slOf, Option.some.injEq] at h1
  injection h1 with a b c
  exact ⟨a, b, c⟩

/-- A row grows by two: it is read on, its fellows too. -/
theorem grow2 {w wA w1 wB w2 : World} {b : Nat} {es : Rows_} (h : OwnL b w es) {i : Nat} (hi : i < es.length) {v1 v2 : Value} {c1 c2 : UInt8} (hb : b ≤ w.heap.size)
    (kA : Chg No w wA) (a1 : Appd b 5 1 wA (slOf es[i]) es[i].2.2.length 1 (es[i].2.2.map bv ++ [bv c1]) v1 w1)
    (kB : Chg No w1 wB) (a2 : Appd b 5 1 wB v1 (es[i].2.2.length + 1) 1 (es[i].2.2.map bv ++ [bv c1] ++ [bv c2]) v2 w2) :
    OwnL b w2 es ∧ Chg (fun g => some g = (slOf es[i]).ownBlock) w w2 ∧ (∀ g, v2.ownBlock = some g → (slOf es[i]).ownBlock = some g ∨ w.heap.size ≤ g) := by
  have hA : w.heap.size ≤ wA.heap.size := kA.size
  have h1B : w1.heap.size ≤ wB.heap.size := kB.size
  have hA1 : wA.heap.size ≤ w1.heap.size := a1.chg.size
  have hv1 : ∀ g, v1.ownBlock = some g → (slOf es[i]).ownBlock = some g ∨ w.heap.size ≤ g := fun g hg => by
    rcases a1.at_ with e | e
    · exact .inl (e ▸ hg)
    · have h2 := hg.symm.trans e; injection h2 with h2; exact .inr (by omega)
  have kk : Chg (fun g => some g = (slOf es[i]).ownBlock) w w2 := by
    refine ((((kA.no).tr a1.chg).new kB).trans a2.chg fun g hg e => ?_)
    rcases hv1 g e.symm with h' | h'
    · exact h'.symm
    · omega
  refine ⟨⟨fun y hy => ?_, h.apart⟩, kk, fun g hg => ?_⟩
  · obtain ⟨q, hq, rfl⟩ := List.mem_iff_getElem.1 hy
    by_cases e : q = i
    · subst e
      have hk1 : w1.ownsRow b 5 1 (slOf es[q]) es[q].2.2.length (es[q].2.2.map bv) := by
        have := a1.keep
        simpa [List.take_append] using this
      have hkB := own_chg hk1 kB fun _ _ => id
      by_cases hs : ∃ g, (slOf es[q]).ownBlock = some g ∧ v1.ownBlock = some g
      · obtain ⟨g, hs1, hs2⟩ := hs
        have hvB := own_chg a1.own kB fun _ _ => id
        have hk2 := a2.keep
        rcases hkB.2 with ⟨e0, _⟩ | ⟨g', cap, cur, hv, hbg, hat, hnc, hcm, hcs, htake⟩
        · rw [e0] at hs1; simp [Value.ownBlock] at hs1
        · have hgg : g' = g := by rw [hv] at hs1; simpa [Value.ownBlock] using hs1
          subst hgg
          rcases hvB.2 with ⟨e0, _⟩ | ⟨g2, cap2, cur2, hv2, _, hat2, _, _, hcs2, _⟩
          · rw [e0] at hs2; simp [Value.ownBlock] at hs2
          · have hgg : g2 = g' := by rw [hv2] at hs2; simpa [Value.ownBlock] using hs2
            subst hgg
            have hcc := At.inj hat hat2
            subst hcc
            have hcap : cap = cap2 := by omega
            subst hcap
            rcases hk2.2 with ⟨e0, _⟩ | ⟨g3, cap3, cur3, hv3, _, hat3, _, _, hcs3, htake3⟩
            · rw [e0] at hs2; simp [Value.ownBlock] at hs2
            · rw [hv2] at hv3
              injection hv3 with e1 _ e2
              injection e1 with e1
              injection e1 with e1
              subst e1; subst e2
              refine ⟨by simp, .inr ⟨g2, cap, cur3, hv, hbg, hat3, hnc, hcm, hcs3, ?_⟩⟩
              have h5 := congrArg (List.take es[q].2.2.length) htake3
              have h6 : List.take (es[q].2.2.length + 1) (es[q].2.2.map bv) = es[q].2.2.map bv := List.take_of_length_le (by simp)
              simpa [List.take_take, List.take_append, h6] using h5
      · exact own_chg hkB a2.chg fun g hg e => hs ⟨g, hg, e.symm⟩
    · refine own_chg (h.own es[q] (List.getElem_mem hq)) kk fun g hg hg' => ?_
      have hp := List.pairwise_iff_getElem.1 h.apart
      rcases Nat.lt_or_gt_of_ne e with hlt | hlt
      · exact hp q i hq hi hlt g hg hg'.symm
      · exact hp i q hi hq hlt g hg'.symm hg
  · rcases a2.at_ with e | e
    · exact hv1 g (e ▸ hg)
    · have h2 := hg.symm.trans e; injection h2 with h2; exact .inr (by omega)
end Go.Proofs.Ytndfgijdcanbaaa
