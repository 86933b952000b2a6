/- The document's Less and Sorted. -/
import Derived.Test.YtlcifkkgekpicaaMem3
namespace Go.Proofs.Ytlcifkkgekpicaa
open Go.RowKit
set_option linter.unusedVariables false

theorem less_cases (a b : Ent) : lessE a b = if a.key = b.key then decide (b.seq < a.seq) else Op.bytesLess a.key b.key := by
  rw [cb_less]
  by_cases h : a.key = b.key
  · rw [if_pos h]
    unfold lessE ordE
    rw [h, cb_refl, if_pos rfl]
    by_cases h1 : b.seq < a.seq
    · rw [if_pos h1]; simp [h1]
    · rw [if_neg h1]; by_cases h2 : a.seq < b.seq
      · rw [if_pos h2]; simp [h1]
      · rw [if_neg h2]; simp [h1]
  · rw [if_neg h]
    unfold lessE ordE
    rw [if_neg (fun e => h (cb_eq e))]
set_option maxHeartbeats 1000000 in
theorem rless_any (a b : En) (w : World) (h : EnR w a) (k : EnR w b) :
    Calls Try.prog 9 #[enA a, enA b] w fun e w' => e = .returned (.bool (lessE a.ent b.ent)) ∧ Chg No w w' := by
  have HQ : Hid (lessE a.ent b.ent = if a.key.2.2 = b.key.2.2 then decide (b.seq < a.seq) else Op.bytesLess a.key.2.2 b.key.2.2) := less_cases _ _
  unfold enA
  have k0 : Chg No w ((w.alloc (.cells #[.slice a.key.1 a.key.2.2.length a.key.2.1, .slice a.value.1 a.value.2.2.length a.value.2.1, .int .i64 a.seq, .bool a.dead] 24)).alloc (.cells #[.slice b.key.1 b.key.2.2.length b.key.2.1, .slice b.value.1 b.value.2.2.length b.value.2.1, .int .i64 b.seq, .bool b.dead] 24)) := ((Chg.refl No w).alloc _).alloc _
  have s1 := (h.1.new k0).str (P := Try.prog) 22 9 5 Try.underlying22 Try.underlying5 Try.underlying9 a.key.2.1
  have s2 := (k.1.new k0).str (P := Try.prog) 22 9 5 Try.underlying22 Try.underlying5 Try.underlying9 b.key.2.1
  clear h k
  go_enter Try.func9, Try.ntmps9
  go_wp2_with fail
  · go_ret
    have hn : ¬ a.key.2.2 = b.key.2.2 := by first | assumption | simp_all
    exact ⟨by rw [HQ.out, if_neg hn]; rfl, k0⟩
  · go_ret
    have hn : a.key.2.2 = b.key.2.2 := by first | assumption | simp_all
    exact ⟨by rw [HQ.out, if_pos hn]; rfl, k0⟩
set_option maxHeartbeats 1000000 in
theorem rsorted_any (A : Option Addr) (c : Nat) (es : List En) (w : World) (h : RdV w A (es.flatMap enV)) (hr : EnsR w es) (hc : es.length ≤ c) (hm : c ≤ maxLen) :
    Calls Try.prog 11 #[.slice A es.length c] w fun e w' => e = .returned (.bool (sortedB (es.map En.ent))) ∧ Chg No w w' := by
  have HL := Lib.hid h
  have HR := Lib.hid hr
  have HE : Hid (∀ e : En, enA e = .agg #[.slice e.key.1 e.key.2.2.length e.key.2.1, .slice e.value.1 e.value.2.2.length e.value.2.1, .int .i64 e.seq, .bool e.dead]) := fun _ => rfl
  unfold maxLen at hm
  clear h hr
  go_enter Try.func11, Try.ntmps11
  go_wp2_with fail
  go_loopw [3] (fun i wr => ∃ k : Nat, 1 ≤ k ∧ (k ≤ es.length ∨ k = 1) ∧ i = .int .i64 k ∧ Hid (Chg No w wr ∧ ∀ i (hi : i + 1 < k) (hk : i + 1 < es.length), lessE (es[i]'(by omega)).ent es[i + 1].ent = true)) (fun i _ => es.length - (intOf i).toNat)
  case atStart => exact ⟨1, by omega, by omega, rfl, Chg.refl _ _, fun i hi => by omega⟩
  case round =>
    obtain ⟨k, hk1, hk2, rfl, HD⟩ := hrel
    by_cases hlt : k < es.length
    · obtain ⟨b, o, rfl, hq⟩ := ents_at (RdV.new HL.out HD.out.1) (by omega)
      obtain ⟨j, rfl⟩ : ∃ j, k = j + 1 := ⟨k - 1, by omega⟩
      obtain ⟨a0, a1, a2, a3⟩ := hq j (by omega)
      obtain ⟨b0, b1, b2, b3⟩ := hq (j + 1) hlt
      clear hq
      unfold slv' at a0 a1 b0 b1
      have HI := Lib.hid HD.out.1
      have HLs := HD.out.2
      clear HD
      have hwj : IntKind.i64.wrap (j : Int) = j := by rw [IntKind.wrap_i64]; omega
      have hc2 : (0 : Int) ≤ (j : Int) + 1 := by omega
      have hc3 : j < es.length := by omega
      go_wp2_with fail
      go_region_law (first
        | (go_simp; go_at_call 9; rw [← HE.out, ← HE.out]; refine (rless_any es[j] es[j + 1] _ ((HR.out _ (List.getElem_mem _)).new HI.out.drew) ((HR.out _ (List.getElem_mem _)).new HI.out.drew)).mono ?_; rintro e w5 ⟨rfl, k5⟩)
        | (simp only [hwj, hc2, hc3]; go_simp))
      all_goals
        have k6 : Hid (Chg No w w5) := HI.out.drew.tr k5
        cases hb : lessE es[j].ent es[j + 1].ent with
        | false =>
          have HQ : Hid (sortedB (es.map En.ent) = false) := sortedB_no _ j (by simpa using hlt) (by simpa using hb)
          go_wp2_with fail
          go_ret
          exact ⟨by rw [HQ.out]; rfl, k6.out⟩
        | true =>
          go_wp2_with fail
          go_roundw
          · exact ⟨j + 1 + 1, by omega, by omega, by push_cast; rfl, k6.out, fun i hi hk => if e : i = j then by subst e; exact hb else HLs i (by omega) hk⟩
          · simp [intOf]; omega
    · have HQ : Hid (sortedB (es.map En.ent) = true) := (sortedB_iff _).2 fun i hi => by
        have := HD.out.2 i (by simp at hi; omega) (by simpa using hi)
        simpa [LTE] using this
      go_wp2_with fail
      go_ret
      exact ⟨by rw [HQ.out]; rfl, HD.out.1⟩
end Go.Proofs.Ytlcifkkgekpicaa
