/- Joined, as they were built one by one: TabCont. -/
import Derived.Test.YtaoenbjfkahdjaaQ08
namespace Go.Proofs.Ytaoenbjfkahdjaa
open Go.RowKit
set_option linter.unusedVariables false
set_option maxRecDepth 100000

theorem notmay_any (e : En) (w : World) (hk : e.key.2.2.length ≤ 140737488355328) (hv : e.value.2.2.length ≤ 140737488355328) :
    Calls Try.prog 51 #[.agg #[.slice e.key.1 e.key.2.2.length e.key.2.1, .slice e.value.1 e.value.2.2.length e.value.2.1, .int .i64 e.seq, .bool e.dead]] w fun x w' => x = .returned (.bool (!mayE e.ent)) ∧ Chg No w w' := by
  have hs := (Sat.start w).allocPt 34 #[.slice e.key.1 e.key.2.2.length e.key.2.1, .slice e.value.1 e.value.2.2.length e.value.2.1, .int .i64 e.seq, .bool e.dead]
  have c0 := hs.cell 0; have c1 := hs.cell 1; have c2 := hs.cell 2; have c3 := hs.cell 3
  have HS := Lib.hid hs
  clear hs
  go_enter Try.func51, Try.ntmps51
  go_wp2_with (go_at_call 52; refine (may_any e _ hk hv).mono ?_; rintro x w1 ⟨rfl, k1⟩; have HK := Lib.hid (HS.out.chg.tr k1); clear k1)
  go_ret
  exact ⟨rfl, HK.out⟩
theorem index_any (A : Option Addr) (c : Nat) (es : List En) (w : World) (h : RdV w A (es.flatMap enV)) (hc : es.length ≤ c) (hm : c ≤ maxLen) (hsh : ∀ e ∈ es, e.key.2.2.length ≤ 140737488355328 ∧ e.value.2.2.length ≤ 140737488355328) :
    Calls Try.prog 90 #[.slice A es.length c, .func (.func 51) #[] #[]] w fun x w' => (∃ r : Int, x = .returned (.int .i64 r) ∧ decide (0 ≤ r) = (es.map En.ent).any (fun e => !mayE e)) ∧ Chg No w w' := by
  have HL := Lib.hid h
  have HSh := Lib.hid hsh
  unfold maxLen at hm
  clear h hsh
  go_enter Try.func90, Try.ntmps90
  go_wp2_with fail
  go_loopw [8] (fun iv wr => ∃ i : Nat, i ≤ es.length ∧ iv = .int .i64 i ∧ Hid ((∀ j (h : j < es.length), j < i → mayE es[j].ent = true) ∧ Chg No w wr)) (fun iv _ => es.length - (intOf iv).toNat)
  case atStart => exact ⟨0, by omega, rfl, fun j _ h => by omega, Chg.refl _ _⟩
  case round =>
    obtain ⟨i, hi, rfl, HD⟩ := hrel
    by_cases hlt : i < es.length
    · obtain ⟨lb, lo, rfl, hq⟩ := ents_at HL.out (by omega)
      obtain ⟨z0, z1, z2, z3⟩ := hq i hlt
      have a0 := HD.out.2.cell z0 id; have a1 := HD.out.2.cell z1 id; have a2 := HD.out.2.cell z2 id; have a3 := HD.out.2.cell z3 id
      unfold slv' at a0 a1
      have hs := HSh.out _ (List.getElem_mem hlt)
      clear z0 z1 z2 z3 hq
      obtain ⟨B, hB⟩ : ∃ B, mayE es[i].ent = B := ⟨_, rfl⟩
      have HB := Lib.hid hB
      clear hB
      cases B
      · go_wp2_with (go_at_call 51; refine (notmay_any es[i] _ hs.1 hs.2).mono ?_; rintro x w1 ⟨rfl, k1⟩; rw [HB.out]; have HK := Lib.hid (HD.out.2.tr k1); clear k1)
        go_ret
        refine ⟨⟨i, rfl, ?_⟩, HK.out⟩
        rw [decide_eq_true (by omega)]
        exact (List.any_eq_true.2 ⟨es[i].ent, List.mem_map.2 ⟨es[i], List.getElem_mem _, rfl⟩, by rw [HB.out]; rfl⟩).symm
      · go_wp2_with (go_at_call 51; refine (notmay_any es[i] _ hs.1 hs.2).mono ?_; rintro x w1 ⟨rfl, k1⟩; rw [HB.out]; have HK := Lib.hid (HD.out.2.tr k1); clear k1)
        go_roundw
        · refine ⟨i + 1, by omega, by push_cast; rfl, fun j h hj => ?_, HK.out⟩
          by_cases e : j = i
          · subst e; exact HB.out
          · exact HD.out.1 j h (by omega)
        · simp [intOf]; omega
    · go_wp2_with fail
      go_ret
      refine ⟨⟨-1, rfl, ?_⟩, HD.out.2⟩
      rw [decide_eq_false (by omega)]
      symm
      rw [List.any_eq_false]
      intro x hx
      obtain ⟨e, he, rfl⟩ := List.mem_map.1 hx
      obtain ⟨j, hj, rfl⟩ := List.getElem_of_mem he
      rw [HD.out.1 j hj (by omega)]
      simp
theorem contains_any (A : Option Addr) (c : Nat) (es : List En) (w : World) (h : RdV w A (es.flatMap enV)) (hc : es.length ≤ c) (hm : c ≤ maxLen) (hsh : ∀ e ∈ es, e.key.2.2.length ≤ 140737488355328 ∧ e.value.2.2.length ≤ 140737488355328) :
    Calls Try.prog 50 #[.slice A es.length c, .func (.func 51) #[] #[]] w fun x w' => x = .returned (.bool ((es.map En.ent).any (fun e => !mayE e))) ∧ Chg No w w' := by
  have HL := Lib.hid h
  have HM := Lib.hid hm
  have HSh := Lib.hid hsh
  clear h hsh hm
  go_enter Try.func50, Try.ntmps50
  go_wp2_with (go_at_call 90; refine (index_any A c es _ HL.out hc HM.out HSh.out).mono ?_; rintro x w1 ⟨⟨r, rfl, hr⟩, k1⟩; have HR := Lib.hid hr; have HK := Lib.hid k1; clear hr k1)
  go_ret
  refine ⟨?_, HK.out⟩
  rw [← HR.out]
  rfl
end Go.Proofs.Ytaoenbjfkahdjaa
