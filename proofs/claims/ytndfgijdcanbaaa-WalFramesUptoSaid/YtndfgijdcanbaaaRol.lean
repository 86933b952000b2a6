/- Rows of bytes that may be read for good; rows of two cells an element. -/
import Derived.Test.YtndfgijdcanbaaaSep
import Derived.Test.YtndfgijdcanbaaaBytes
namespace Go.Proofs.Ytndfgijdcanbaaa
open Go.RowKit
set_option linter.unusedVariables false

/-- A slice of bytes: where it lies, its room, what it reads as. -/
abbrev Slc := Option Addr × Nat × List UInt8
/-- All of these may be read, for good. -/
def RoL (rs : List Slc) : SP := fun h => (∀ k x, h k = some x → x.1 = true) ∧ ∀ r ∈ rs, r.2.2 ≠ [] → ∃ b o cs t fr, r.1 = some ⟨b, o, none⟩ ∧ h b = some (true, .cells cs t fr) ∧ ∀ j (hj : j < r.2.2.length), cs[o + j]? = some (bv r.2.2[j])
section
variable {w0 w : World} {F : SP} {rs rs' : List Slc}
theorem rol_nil : RoL [] = fun h => ∀ k x, h k = some x → x.1 = true := by funext h; simp [RoL]
theorem rol_sub {h : Hp} (hr : RoL rs h) (hs : ∀ r ∈ rs', r ∈ rs) : RoL rs' h := ⟨hr.1, fun r hx => hr.2 r (hs r hx)⟩
theorem Sat.rol_sub (h : Sat w0 (RoL rs * F) w) (hs : ∀ r ∈ rs', r ∈ rs) : Sat w0 (RoL rs' * F) w := h.mono fun x ⟨a, f, h1, h2, h3, h4⟩ => ⟨a, f, h1, h2, Proofs.Ytndfgijdcanbaaa.rol_sub h3 hs, h4⟩
theorem rol_dup (rs : List Slc) : RoL rs * RoL rs = RoL rs := by
  funext h
  refine propext ⟨?_, fun hh => ⟨h, h, fun k => ?_, funext fun k => ?_, hh, hh⟩⟩
  · rintro ⟨a, b, h1, rfl, ⟨h2, h3⟩, h4, h5⟩
    refine ⟨fun k x hx => ?_, fun r hr hx => ?_⟩
    · unfold Hp.un jn at hx
      cases ha : a k with
      | none => rw [ha] at hx; exact h4 k x hx
      | some y => rw [ha] at hx; injection hx with hx; subst hx; exact h2 k _ ha
    · obtain ⟨b', o, cs, t, fr, e, hb, hc⟩ := h3 r hr hx
      exact ⟨b', o, cs, t, fr, e, by unfold Hp.un; rw [hb]; rfl, hc⟩
  · cases hk : h k with
    | none => exact .inl rfl
    | some x => have := hh.1 k x hk; obtain ⟨q, o⟩ := x; cases this; exact .inr (.inr ⟨o, rfl, rfl⟩)
  · unfold Hp.un jn; cases h k <;> rfl
theorem rol_app (rs rs' : List Slc) : RoL rs * RoL rs' = RoL (rs ++ rs') := by
  funext h
  refine propext ⟨?_, fun hh => ?_⟩
  · rintro ⟨a, b, h1, rfl, ⟨h2, h3⟩, h4, h5⟩
    refine ⟨fun k x hx => ?_, fun r hr hx => ?_⟩
    · unfold Hp.un jn at hx
      cases ha : a k with
      | none => rw [ha] at hx; exact h4 k x hx
      | some y => rw [ha] at hx; injection hx with hx; subst hx; exact h2 k _ ha
    · rcases List.mem_append.1 hr with hr | hr
      · obtain ⟨b', o, cs, t, fr, e, hb, hc⟩ := h3 r hr hx
        exact ⟨b', o, cs, t, fr, e, by unfold Hp.un; rw [hb]; rfl, hc⟩
      · obtain ⟨b', o, cs, t, fr, e, hb, hc⟩ := h5 r hr hx
        refine ⟨b', o, cs, t, fr, e, ?_, hc⟩
        unfold Hp.un
        rcases h1 b' with q | q | ⟨ob, q1, q2⟩
        · rw [q, hb]; rfl
        · rw [q] at hb; cases hb
        · rw [q1, ← hb, q2]; rfl
  · have e := rol_dup (rs ++ rs')
    rw [← e] at hh
    obtain ⟨a, b, h1, h2, h3, h4⟩ := hh
    exact ⟨a, b, h1, h2, rol_sub h3 (fun r hr => List.mem_append_left _ hr), rol_sub h4 (fun r hr => List.mem_append_right _ hr)⟩
theorem Sat.rol (h : Sat w0 (RoL rs * F) w) {r : Slc} (hr : r ∈ rs) : Rd w r.1 r.2.2 := fun hx => by
  obtain ⟨_, h1, a, f, h2, rfl, ⟨ha, ha2⟩, hf⟩ := h.hp
  obtain ⟨b, o, cs, t, fr, e, hb, hc⟩ := ha2 r hr (by simpa using hx)
  refine ⟨b, o, e, fun j hj => ?_⟩
  have := (h1 b (true, .cells cs t fr) (by unfold Hp.un; rw [hb]; rfl)).1
  rw [cell_of_row w b (o + j) cs t fr this]
  simpa using hc j (by simpa using hj)
theorem Sat.rolNil (h : Sat w0 F w) (rs : List Slc) (hn : ∀ r ∈ rs, r.2.2 = []) : Sat w0 (RoL rs * F) w :=
  (h.of (emp_star F).symm).mono fun x ⟨a, f, h1, h2, h3, h4⟩ => ⟨a, f, h1, h2, ⟨fun k y hy => (by unfold Emp at h3; rw [h3] at hy; cases hy), fun r hr hx => absurd (hn r hr) hx⟩, h4⟩
theorem rb_rol (r : Slc) : Rb r.1 r.2.2 = RoL [r] := by
  funext h
  unfold Rb Ro RoL
  refine propext ⟨fun ⟨h1, h2⟩ => ⟨h1, fun q hq hx => ?_⟩, fun ⟨h1, h2⟩ => ⟨h1, fun hx => ?_⟩⟩
  · simp at hq
    subst hq
    obtain ⟨b, o, cs, t, fr, e, hb, hc⟩ := h2 (by simpa using hx)
    exact ⟨b, o, cs, t, fr, e, hb, fun j hj => by have := hc j (by simpa using hj); rwa [List.getElem_map] at this⟩
  · obtain ⟨b, o, cs, t, fr, e, hb, hc⟩ := h2 r (by simp) (by simpa using hx)
    exact ⟨b, o, cs, t, fr, e, hb, fun j hj => by rw [List.getElem_map]; exact hc j (by simpa using hj)⟩
theorem Sat.rol_add (h : Sat w0 (RoL rs * (RoL rs' * F)) w) : Sat w0 (RoL (rs ++ rs') * F) w := h.of (by rw [← star_assoc, rol_app])
theorem Sat.rol_split (h : Sat w0 (RoL rs * F) w) : Sat w0 (RoL rs * (RoL rs * F)) w := h.of (by rw [← star_assoc, rol_dup])
end

theorem Sat.allocAt {w0 w : World} {F : SP} {b : Nat} (h : Sat w0 F w) (t : TypeId) (cs : Array Value) (hb : b = w.heap.size) : Sat w0 (Pt b t cs * F) (w.alloc (.cells cs t)) := by subst hb; exact h.allocPt t cs
/-- A row that make has made. -/
theorem bytes_row {w0 w : World} {F : SP} {g n : Nat} (h : Sat w0 (Pt g 5 (noughts n) * F) w) (hn : n ≤ maxLen) : Sat w0 (Row 5 1 (.slice (some ⟨g, 0, none⟩) n n) (List.replicate n (0 : UInt8)).length ((List.replicate n (0 : UInt8)).map bv) * F) w := by
  have h1 := h.row_pt (n := n) (cap := n) (size := 1) (Nat.le_refl _) hn (by simp [noughts])
  have e : (noughts n).toList.take (n * 1) = (List.replicate n (0 : UInt8)).map bv := by
    unfold noughts
    rw [Nat.mul_one]
    exact List.take_of_length_le (by simp)
  rw [e] at h1
  rw [List.length_replicate]
  exact h1
theorem flat2 {α : Type} {f : α → List Value} (hf : ∀ x, (f x).length = 2) : ∀ (l : List α) (i j : Nat) (hi : i < l.length) (hj : j < 2), (l.flatMap f)[i * 2 + j]? = (f l[i])[j]?
  | [], i, j, hi, hj => by simp at hi
  | x :: l, 0, j, hi, hj => by
    rw [List.flatMap_cons, Nat.zero_mul, Nat.zero_add, List.getElem?_append_left (by rw [hf]; exact hj)]; rfl
  | x :: l, i + 1, j, hi, hj => by
    rw [List.flatMap_cons, List.getElem?_append_right (by rw [hf]; omega), hf]
    have := flat2 hf l i j (by simpa using hi) hj
    rw [show (i + 1) * 2 + j - 2 = i * 2 + j by omega, this]
    rfl
theorem flat2_len {α : Type} {f : α → List Value} (hf : ∀ x, (f x).length = 2) : ∀ (l : List α), (l.flatMap f).length = l.length * 2
  | [] => rfl
  | x :: l => by rw [List.flatMap_cons, List.length_append, hf, flat2_len hf l, List.length_cons]; omega
theorem flat2_set {α : Type} {f : α → List Value} (hf : ∀ x, (f x).length = 2) : ∀ (l : List α) (i : Nat) (x : α) (u v : Value), f x = [u, v] → i < l.length →
    ((l.flatMap f).toArray.setIfInBounds (i * 2) u).setIfInBounds (i * 2 + 1) v = ((l.set i x).flatMap f).toArray := by
  intro l i x u v hx hi
  apply Array.ext'
  apply List.ext_getElem?
  intro j
  have hl := flat2_len hf l
  have hl2 := flat2_len hf (l.set i x)
  rw [List.length_set] at hl2
  by_cases hj : j < l.length * 2
  · have h1 := flat2 hf l (j / 2) (j % 2) (by omega) (by omega)
    have h2 := flat2 hf (l.set i x) (j / 2) (j % 2) (by rw [List.length_set]; omega) (by omega)
    rw [show j / 2 * 2 + j % 2 = j by omega] at h1 h2
    simp only [List.setIfInBounds_toArray, List.getElem?_set, List.length_set, hl]
    rw [h2, h1, List.getElem_set]
    by_cases e : i = j / 2
    · rw [if_pos e, hx]
      rcases Nat.mod_two_eq_zero_or_one j with q | q
      · rw [if_neg (by omega), if_pos (by omega), if_pos (by omega), q]; rfl
      · rw [if_pos (by omega), if_pos (by omega), q]; rfl
    · rw [if_neg e, if_neg (by omega), if_neg (by omega)]
  · simp only [List.setIfInBounds_toArray]
    rw [List.getElem?_eq_none (by simp only [List.length_set]; omega), List.getElem?_eq_none (by omega)]
end Go.Proofs.Ytndfgijdcanbaaa
