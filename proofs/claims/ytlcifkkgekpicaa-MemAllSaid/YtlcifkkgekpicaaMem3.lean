/- Rows of entries; mem's Sorted. -/
import Derived.Test.YtlcifkkgekpicaaMem2
namespace Go.Proofs.Ytlcifkkgekpicaa
open Go.RowKit
set_option linter.unusedVariables false

theorem flatK {α : Type} {f : α → List Value} {K : Nat} (hf : ∀ x, (f x).length = K) : ∀ (l : List α) (i j : Nat) (hi : i < l.length) (hj : j < K), (l.flatMap f)[i * K + j]? = (f l[i])[j]?
  | [], i, j, hi, hj => by simp at hi
  | x :: l, 0, j, hi, hj => by
    rw [List.flatMap_cons, Nat.zero_mul, Nat.zero_add, List.getElem?_append_left (by rw [hf]; exact hj)]; rfl
  | x :: l, i + 1, j, hi, hj => by
    have e : (i + 1) * K + j = K + (i * K + j) := by rw [Nat.add_mul, Nat.one_mul]; omega
    rw [List.flatMap_cons, List.getElem?_append_right (by rw [hf, e]; omega), hf, e]
    have := flatK hf l i j (by simpa using hi) hj
    rw [show K + (i * K + j) - K = i * K + j by omega, this]
    rfl
theorem flatK_len {α : Type} {f : α → List Value} {K : Nat} (hf : ∀ x, (f x).length = K) : ∀ (l : List α), (l.flatMap f).length = l.length * K
  | [] => by simp
  | x :: l => by rw [List.flatMap_cons, List.length_append, hf, flatK_len hf l, List.length_cons, Nat.add_mul, Nat.one_mul]; omega
theorem enV_len (e : En) : (enV e).length = 4 := rfl
section
variable {w w' : World} {A : Option Addr} {es : List En}
/-- A row of entries, where it lies. -/
theorem ents_at (h : RdV w A (es.flatMap enV)) (hn : 0 < es.length) : ∃ b o, A = some ⟨b, o, none⟩ ∧ ∀ i (hi : i < es.length),
    w.cell? ⟨b, o + i * 4, none⟩ = some (slv' es[i].key) ∧ w.cell? ⟨b, o + i * 4 + 1, none⟩ = some (slv' es[i].value) ∧ w.cell? ⟨b, o + i * 4 + 2, none⟩ = some (.int .i64 es[i].seq) ∧ w.cell? ⟨b, o + i * 4 + 3, none⟩ = some (.bool es[i].dead) := by
  have hl := flatK_len enV_len es
  obtain ⟨b, o, rfl, _⟩ := RdV.get h (j := 0) (by omega)
  refine ⟨b, o, rfl, fun i hi => ?_⟩
  have key : ∀ j, j < 4 → w.cell? ⟨b, o + i * 4 + j, none⟩ = (enV es[i])[j]? := fun j hj => by
    have hij : i * 4 + j < (es.flatMap enV).length := by omega
    obtain ⟨b', o', e, hc⟩ := RdV.get h hij
    injection e with e
    injection e with e1 e2
    subst e1; subst e2
    rw [Nat.add_assoc, hc, ← flatK enV_len es i j hi hj, List.getElem?_eq_getElem hij]
  exact ⟨key 0 (by omega), key 1 (by omega), key 2 (by omega), key 3 (by omega)⟩
/-- All of these may be read. -/
def EnsR (w : World) (es : List En) : Prop := ∀ e ∈ es, EnR w e
theorem EnsR.new (h : EnsR w es) (k : Chg No w w') : EnsR w' es := fun e he => (h e he).new k
end
def sortedB (l : List Ent) : Bool := (List.range (l.length - 1)).all fun i => match l[i]?, l[i + 1]? with | some a, some b => lessE a b | _, _ => true
theorem sortedB_iff (l : List Ent) : sortedB l = true ↔ ∀ i (hi : i + 1 < l.length), LTE (l[i]'(by omega)) l[i + 1] := by
  unfold sortedB
  rw [List.all_eq_true]
  constructor
  · intro h i hi
    have := h i (List.mem_range.2 (by omega))
    rw [List.getElem?_eq_getElem (by omega), List.getElem?_eq_getElem hi] at this
    exact this
  · intro h i hi
    have hi : i + 1 < l.length := by have := List.mem_range.1 hi; omega
    rw [List.getElem?_eq_getElem (by omega), List.getElem?_eq_getElem hi]
    exact h i hi
theorem sortedB_no (l : List Ent) (i : Nat) (hi : i + 1 < l.length) (h : lessE (l[i]'(by omega)) l[i + 1] = false) : sortedB l = false := by
  cases hs : sortedB l with
  | false => rfl
  | true => have := (sortedB_iff l).1 hs i hi; unfold LTE at this; rw [h] at this; cases this
set_option maxHeartbeats 1000000 in
theorem sorted_any (A : Option Addr) (c : Nat) (es : List En) (w : World) (h : RdV w A (es.flatMap enV)) (hr : EnsR w es) (hc : es.length ≤ c) (hm : c ≤ maxLen) :
    Calls Try.prog 10 #[.slice A es.length c] w fun e w' => e = .returned (.bool (sortedB (es.map En.ent))) ∧ Chg No w w' := by
  have HL := Lib.hid h
  have HR := Lib.hid hr
  have HE : Hid (∀ e : En, enA e = .agg #[.slice e.key.1 e.key.2.2.length e.key.2.1, .slice e.value.1 e.value.2.2.length e.value.2.1, .int .i64 e.seq, .bool e.dead]) := fun _ => rfl
  unfold maxLen at hm
  clear h hr
  go_enter Try.func10, Try.ntmps10
  go_wp2_with fail
  go_loopw [3] (fun i wr => ∃ k : Nat, 1 ≤ k ∧ (k ≤ es.length ∨ k = 1) ∧ i = .int .i64 k ∧ Hid (Chg No w wr ∧ ∀ i (hi : i + 1 < k) (hk : i + 1 < es.length), lessE (es[i]'(by omega)).ent es[i + 1].ent = true)) (fun i _ => es.length - (intOf i).toNat)
  case atStart => exact ⟨1, by omega, by omega, rfl, Chg.refl _ _, fun i hi => by omega⟩
  case round =>
    obtain ⟨k, hk1, hk2, rfl, HD⟩ := hrel
    by_cases hlt : k < es.length
    · obtain ⟨b, o, rfl, hq⟩ := ents_at (RdV.new HL.out HD.out.1) (by omega)
      obtain ⟨j, rfl⟩ : ∃ j, k = j + 1 := ⟨k - 1, by omega⟩
      obtain ⟨a0, a1, a2, a3⟩ := hq j (by omega)
      obtain ⟨b0, b1, b2, b3⟩ := hq (j + 1) hlt
      clear hq
      unfold slv' at a0 a1 b0 b1
      have HI := Lib.hid HD.out.1
      have HLs := HD.out.2
      clear HD
      have hwj : IntKind.i64.wrap (j : Int) = j := by rw [IntKind.wrap_i64]; omega
      have hc2 : (0 : Int) ≤ (j : Int) + 1 := by omega
      have hc3 : j < es.length := by omega
      go_wp2_with fail
      go_region_law (first
        | (go_simp; go_at_call 8; rw [← HE.out, ← HE.out]; refine (less_any es[j] es[j + 1] _ ((HR.out _ (List.getElem_mem _)).new HI.out.drew) ((HR.out _ (List.getElem_mem _)).new HI.out.drew)).mono ?_; rintro e w5 ⟨rfl, k5⟩)
        | (simp only [hwj, hc2, hc3]; go_simp))
      all_goals
        have k6 : Hid (Chg No w w5) := HI.out.drew.tr k5
        cases hb : lessE es[j].ent es[j + 1].ent with
        | false =>
          have HQ : Hid (sortedB (es.map En.ent) = false) := sortedB_no _ j (by simpa using hlt) (by simpa using hb)
          go_wp2_with fail
          go_ret
          exact ⟨by rw [HQ.out]; rfl, k6.out⟩
        | true =>
          go_wp2_with fail
          go_roundw
          · exact ⟨j + 1 + 1, by omega, by omega, by push_cast; rfl, k6.out, fun i hi hk => if e : i = j then by subst e; exact hb else HLs i (by omega) hk⟩
          · simp [intOf]; omega
    · have HQ : Hid (sortedB (es.map En.ent) = true) := (sortedB_iff _).2 fun i hi => by
        have := HD.out.2 i (by simp at hi; omega) (by simpa using hi)
        simpa [LTE] using this
      go_wp2_with fail
      go_ret
      exact ⟨by rw [HQ.out]; rfl, HD.out.1⟩
end Go.Proofs.Ytlcifkkgekpicaa
