/- Rows in new memory, taken as parts of one's own. Nothing here is of the program. -/
import Derived.Test.YtjmapbhgjhlefaaQOwnR
namespace Go.Proofs.Ytjmapbhgjhlefaa
open Go.RowKit
set_option linter.unusedVariables false
set_option maxRecDepth 100000

theorem Sat.gather {w0 w w' : World} {A F : SP} (h : Sat w0 F w) (k : Chg No w w') (a : Hp) (hA : A a) (ha : ∀ i x, a i = some x → w'.heap[i]? = some x.2 ∧ w.heap.size ≤ i) : Sat w0 (A * F) w' := by
  obtain ⟨f, h1, hf⟩ := h.hp
  have hs := h.size
  refine ⟨h.chg.tr k, a.un f, fun i x hx => ?_, a, f, fun i => ?_, rfl, hA, hf⟩
  · unfold Hp.un jn at hx
    cases hq : a i with
    | some y =>
      rw [hq] at hx
      injection hx with hx
      subst hx
      have h2 := ha i y hq
      exact ⟨h2.1, fun _ => Nat.le_trans hs h2.2⟩
    | none =>
      rw [hq] at hx
      have h2 := h1 i x hx
      refine ⟨?_, h2.2⟩
      rw [k.block i (lt_of_block h2.1) id]
      exact h2.1
  · cases hq : a i with
    | none => exact .inl rfl
    | some y =>
      cases hr : f i with
      | none => exact .inr (.inl rfl)
      | some z =>
        have h2 := lt_of_block (h1 i z hr).1
        have h3 := (ha i y hq).2
        omega
theorem row_hp {w : World} {base e size n : Nat} {v : Value} {xs : List Value} (h : w.ownsRow base e size v n xs) : ∃ a : Hp, Row e size v n xs a ∧ ∀ i x, a i = some x → w.heap[i]? = some x.2 ∧ base ≤ i ∧ v.ownBlock = some i := by
  obtain ⟨hl, ⟨rfl, rfl⟩ | ⟨g, cap, cur, rfl, h1, h2, h3, h4, h5, h6⟩⟩ := h
  · exact ⟨fun _ => none, ⟨hl, .inl ⟨rfl, rfl, rfl⟩⟩, fun i x hx => by cases hx⟩
  · refine ⟨one1 g (false, .cells cur e (0, 0)), ⟨hl, .inr ⟨g, cap, cur, rfl, h3, h4, h5, h6, rfl⟩⟩, fun i x hx => ?_⟩
    unfold one1 at hx
    split at hx
    · rename_i e1
      injection hx with hx
      subst hx
      subst e1
      exact ⟨h2, h1, rfl⟩
    · cases hx
theorem rows_hp {w : World} {base : Nat} : ∀ {rs : Rows_}, OwnL base w rs → ∃ a : Hp, OwnR rs a ∧ ∀ i x, a i = some x → w.heap[i]? = some x.2 ∧ base ≤ i ∧ ∃ y ∈ rs, (slOf y).ownBlock = some i
  | [], _ => ⟨fun _ => none, rfl, fun i x hx => by cases hx⟩
  | y :: rs, h => by
    obtain ⟨a, ha, hf⟩ := rows_hp (rs := rs) ⟨fun x hx => h.own x (List.mem_cons_of_mem _ hx), (List.pairwise_cons.1 h.apart).2⟩
    obtain ⟨b, hb, hg⟩ := row_hp (h.own y List.mem_cons_self)
    refine ⟨b.un a, ⟨b, a, fun i => ?_, rfl, hb, ha⟩, fun i x hx => ?_⟩
    · cases hq : b i with
      | none => exact .inl rfl
      | some u =>
        cases hr : a i with
        | none => exact .inr (.inl rfl)
        | some z =>
          obtain ⟨_, _, y', hy', e'⟩ := hf i z hr
          exact absurd e' ((List.pairwise_cons.1 h.apart).1 y' hy' i (hg i u hq).2.2)
    · unfold Hp.un jn at hx
      cases hq : b i with
      | some u =>
        rw [hq] at hx
        injection hx with hx
        subst hx
        have h2 := hg i u hq
        exact ⟨h2.1, h2.2.1, y, List.mem_cons_self, h2.2.2⟩
      | none =>
        rw [hq] at hx
        obtain ⟨h2, h3, y', hy', e'⟩ := hf i x hx
        exact ⟨h2, h3, y', List.mem_cons_of_mem _ hy', e'⟩
/-- A list of rows that a call has made. -/
theorem Sat.gotLL {w0 w w' : World} {F : SP} {v : Value} {rs : Rows_} (h : Sat w0 F w) (k : Chg No w w') (hv : OwnLL w.heap.size w' v rs) : Sat w0 (Row 39 1 v rs.length (rs.map slOf) * (OwnR rs * F)) w' := by
  obtain ⟨a, ha, hf⟩ := rows_hp hv.each
  obtain ⟨b, hb, hg⟩ := row_hp hv.row
  refine (Sat.gather h k (A := Row 39 1 v rs.length (rs.map slOf) * OwnR rs) (b.un a) ⟨b, a, fun i => ?_, rfl, hb, ha⟩ fun i x hx => ?_).of (star_assoc _ _ _)
  · cases hq : b i with
    | none => exact .inl rfl
    | some u =>
      cases hr : a i with
      | none => exact .inr (.inl rfl)
      | some z =>
        obtain ⟨_, _, y', hy', e'⟩ := hf i z hr
        exact absurd (hg i u hq).2.2 (fun e2 => own_ne (hv.each.own y' hy') hv.row (by decide) i e' e2)
  · unfold Hp.un jn at hx
    cases hq : b i with
    | some u =>
      rw [hq] at hx
      injection hx with hx
      subst hx
      have h2 := hg i u hq
      exact ⟨h2.1, h2.2.1⟩
    | none =>
      rw [hq] at hx
      obtain ⟨h2, h3, _⟩ := hf i x hx
      exact ⟨h2, h3⟩
theorem OwnR_rd {w0 w : World} {F : SP} {ks : Rows_} (h : Sat w0 (OwnR ks * F) w) {x : Option Addr × Nat × List UInt8} (hx : x ∈ ks) : Rd w x.1 x.2.2 := (ownR_ownL h).rd hx
end Go.Proofs.Ytjmapbhgjhlefaa
