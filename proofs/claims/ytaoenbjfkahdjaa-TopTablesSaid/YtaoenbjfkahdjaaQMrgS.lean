/- merge.See: the newest entry of a key up to a number. -/
import Derived.Test.YtaoenbjfkahdjaaQMrg3
namespace Go.Proofs.Ytaoenbjfkahdjaa
open Go.RowKit
set_option linter.unusedVariables false
set_option maxRecDepth 100000

theorem lk_drop {k : List UInt8} {s : Int} {L : List Ent} {i : Nat} (hi : i < L.length) : lkE k s (L.drop i) = if L[i].key = k ∧ L[i].seq ≤ s then some L[i] else lkE k s (L.drop (i + 1)) := by
  rw [List.drop_eq_getElem_cons hi]
  split
  · rename_i h; exact lk_yes h
  · rename_i h; exact lk_no h
set_option maxHeartbeats 2000000 in
theorem see_any (A : Option Addr) (c : Nat) (es : List En) (K : Slc) (seq : Int) (w : World) (h : RdV w A (es.flatMap enV)) (hr : EnsR w es) (hn : es.length ≤ 1000000) (hsz : ∀ e ∈ es, e.key.2.2.length ≤ 1000000000 ∧ e.value.2.2.length ≤ 1000000000) (hk : Rd w K.1 K.2.2) :
    Calls Try.prog 22 #[.slice A es.length c, .slice K.1 K.2.2.length K.2.1, .int .i64 seq] w (GotE w (lkE K.2.2 seq (es.map En.ent))) := by
  have HR := Lib.hid hr; have HSz := Lib.hid hsz; have HK := Lib.hid hk; have HL := Lib.hid h
  have h1 := (Sat.start w).allocAt (b := w.heap.size) 34 #[.slice none 0 0, .slice none 0 0, .int .i64 0, .bool false] rfl
  have HS1 := Lib.hid h1
  clear h hr hsz hk h1
  go_enter Try.func22, Try.ntmps22
  go_wp2_with fail
  generalize w.heap.size = O at *
  go_loopw [12] (fun iv wr => ∃ i : Nat, i ≤ es.length ∧ iv = .int .i64 (i : Int) ∧ Hid (lkE K.2.2 seq (es.map En.ent) = lkE K.2.2 seq ((es.map En.ent).drop i) ∧ Sat w (Pt O 34 #[.slice none 0 0, .slice none 0 0, .int .i64 0, .bool false] * Emp) wr)) (fun iv _ => es.length - (intOf iv).toNat)
  case atStart => exact ⟨0, by omega, rfl, rfl, HS1.out⟩
  case round =>
    obtain ⟨i, hi, rfl, HD⟩ := hrel
    by_cases hlt : i < es.length
    · obtain ⟨lb, lo, rfl, hq⟩ := ents_at (HL.out.new HD.out.2.chg) (by omega)
      obtain ⟨y0, y1, y2, y3⟩ := hq i hlt
      have HRi := Lib.hid (HR.out _ (List.getElem_mem hlt))
      have HRj := Lib.hid (HSz.out _ (List.getElem_mem hlt))
      have HN : Hid (lkE K.2.2 seq (es.map En.ent) = if es[i].ent.key = K.2.2 ∧ es[i].ent.seq ≤ seq then some es[i].ent else lkE K.2.2 seq ((es.map En.ent).drop (i + 1))) := by
        have h9 := HD.out.1
        rw [lk_drop (by simpa using hlt)] at h9
        simp only [List.getElem_map] at h9
        exact h9
      have hii : (i : Int) < es.length := by omega
      generalize es[i] = x at *
      unfold slv' at y0 y1
      have s2 := HD.out.2.allocPt 34 #[.slice x.key.1 x.key.2.2.length x.key.2.1, .slice x.value.1 x.value.2.2.length x.value.2.1, .int .i64 x.seq, .bool x.dead]
      have HS2 := Lib.hid s2
      have HEq0 : Hid (Calls Try.prog 60 #[.slice x.key.1 x.key.2.2.length x.key.2.1, .slice K.1 K.2.2.length K.2.1] (wr.alloc (.cells #[.slice x.key.1 x.key.2.2.length x.key.2.1, .slice x.value.1 x.value.2.2.length x.value.2.1, .int .i64 x.seq, .bool x.dead] 34)) fun e w' => e = .returned (.bool (decide (x.key.2.2 = K.2.2))) ∧ w' = (wr.alloc (.cells #[.slice x.key.1 x.key.2.2.length x.key.2.1, .slice x.value.1 x.value.2.2.length x.value.2.1, .int .i64 x.seq, .bool x.dead] 34))) := beq_any x.key K _ (HRi.out.1.new s2.chg) (HK.out.new s2.chg)
      obtain ⟨kb, hkb⟩ : ∃ kb, decide (x.key.2.2 = K.2.2) = kb := ⟨_, rfl⟩
      have HKb := Lib.hid hkb
      clear s2 hq hkb
      by_cases hh : x.ent.key = K.2.2 ∧ x.ent.seq ≤ seq
      · have HN2 : Hid (lkE K.2.2 seq (es.map En.ent) = some x.ent) := by have h9 := HN.out; rw [if_pos hh] at h9; exact h9
        have e1 : kb = true := by rw [← HKb.out]; exact decide_eq_true hh.1
        have e2 : x.seq ≤ seq := hh.2
        subst e1
        clear hh HN
        go_upto_region 5 with (go_at_call 60; (with_reducible refine HEq0.out.mono ?_); rintro y wx ⟨rfl, rfl⟩; rw [HKb.out])
        have z0 := HS2.out.cell 0; have z1 := HS2.out.cell 1; have z2 := HS2.out.cell 2; have z3 := HS2.out.cell 3
        have HCo : Hid (∀ W, Sat w (Pt wr.heap.size 34 #[.slice x.key.1 x.key.2.2.length x.key.2.1, .slice x.value.1 x.value.2.2.length x.value.2.1, .int .i64 x.seq, .bool x.dead] * (Pt O 34 #[.slice none 0 0, .slice none 0 0, .int .i64 0, .bool false] * Emp)) W → Calls Try.prog 70 #[.agg #[.slice x.key.1 x.key.2.2.length x.key.2.1, .slice x.value.1 x.value.2.2.length x.value.2.1, .int .i64 x.seq, .bool x.dead]] W fun y w' => CopiedS w (Pt wr.heap.size 34 #[.slice x.key.1 x.key.2.2.length x.key.2.1, .slice x.value.1 x.value.2.2.length x.value.2.1, .int .i64 x.seq, .bool x.dead] * (Pt O 34 #[.slice none 0 0, .slice none 0 0, .int .i64 0, .bool false] * Emp)) x y w' ∧ Chg No W w') := fun W hW => gcopied_any x w W _ hW ⟨HRi.out.1.new hW.chg, HRi.out.2.new hW.chg⟩ (by have := HRj.out.1; omega) (by have := HRj.out.2; omega)
        go_wp2_with (go_at_call 70; (with_reducible refine (HCo.out _ HS2.out).mono ?_); rintro y w6 ⟨⟨A2, c2, B2, d2, rfl, hs6⟩, k6⟩; have z0 := hs6.up4.cell 0; have z1 := hs6.up4.cell 1; have z2 := hs6.up4.cell 2; have z3 := hs6.up4.cell 3; have f0 := hs6.up4.frozen 0; have f1 := hs6.up4.frozen 1; have f2 := hs6.up4.frozen 2; have f3 := hs6.up4.frozen 3; have h9 := (((hs6.up4.set 0 (.slice A2 x.key.2.2.length c2)).set 1 (.slice B2 x.value.2.2.length d2)).set 2 (.int .i64 x.seq)).set 3 (.bool x.dead); have HS9 := Lib.hid h9; clear hs6 k6 h9; simp only [enA])
        have h9 := HS9.out
        revert h9
        generalize World.setCell _ _ _ = w4
        intro h9
        refine bodyPost_ret (results_cell_tmp (p := 6) (q := 7) (by kernel_rfl) _ _ O 34 _ (0, 0) _ _ rfl rfl h9.at Try.underlying34 rfl (by kernel_rfl)) rfl ?_
        rw [HN2.out]
        exact ⟨⟨(A2, c2, x.key.2.2), (B2, d2, x.value.2.2), x.seq, x.dead⟩, rfl, rfl, Sat.right (A := Pt wr.heap.size 34 #[.slice x.key.1 x.key.2.2.length x.key.2.1, .slice x.value.1 x.value.2.2.length x.value.2.1, .int .i64 x.seq, .bool x.dead]) (h9.right.of (by
          show Row _ _ _ _ _ * (Row _ _ _ _ _ * (Pt _ _ _ * Emp)) = Pt _ _ _ * (Row _ _ _ _ _ * (Row _ _ _ _ _ * Emp))
          ac_rfl))⟩
      · have HN2 : Hid (lkE K.2.2 seq (es.map En.ent) = lkE K.2.2 seq ((es.map En.ent).drop (i + 1))) := by have h9 := HN.out; rw [if_neg hh] at h9; exact h9
        have HD2 : Hid (Sat w (Pt O 34 #[.slice none 0 0, .slice none 0 0, .int .i64 0, .bool false] * Emp) (wr.alloc (.cells #[.slice x.key.1 x.key.2.2.length x.key.2.1, .slice x.value.1 x.value.2.2.length x.value.2.1, .int .i64 x.seq, .bool x.dead] 34))) := HS2.out.right
        have hx : kb = false ∨ (kb = true ∧ ¬ x.seq ≤ seq) := by
          cases kb with
          | false => exact .inl rfl
          | true => exact .inr ⟨rfl, fun h => hh ⟨of_decide_eq_true HKb.out, h⟩⟩
        clear hh HN
        rcases hx with rfl | ⟨rfl, hx⟩
        all_goals
          go_wp2_with (go_at_call 60; (with_reducible refine HEq0.out.mono ?_); rintro y wx ⟨rfl, rfl⟩; rw [HKb.out]; have z2 := HS2.out.cell 2)
          go_roundw
        · exact ⟨i + 1, by omega, by go_num, HN2.out, HD2.out⟩
        · simp [intOf]; omega
        · exact ⟨i + 1, by omega, by go_num, HN2.out, HD2.out⟩
        · simp [intOf]; omega
    · have HN2 : Hid (lkE K.2.2 seq (es.map En.ent) = none) := by
        have h9 := HD.out.1
        rw [List.drop_of_length_le (by rw [List.length_map]; omega)] at h9
        exact h9
      have hs6 := HD.out.2
      have f0 := hs6.frozen 0; have f1 := hs6.frozen 1; have f2 := hs6.frozen 2; have f3 := hs6.frozen 3
      have z0 := hs6.cell 0; have z1 := hs6.cell 1; have z2 := hs6.cell 2; have z3 := hs6.cell 3
      have h6 := (((hs6.set 0 (.slice none 0 0)).set 1 (.slice none 0 0)).set 2 (.int .i64 0)).set 3 (.bool false)
      clear hs6
      go_wp2_with fail
      revert h6
      generalize World.setCell _ _ _ = w4
      intro h6
      refine bodyPost_ret (results_cell_tmp (p := 6) (q := 7) (by kernel_rfl) _ _ O 34 _ (0, 0) _ _ rfl rfl h6.at Try.underlying34 rfl (by kernel_rfl)) rfl ?_
      rw [HN2.out]
      refine ⟨⟨(none, 0, []), (none, 0, []), 0, false⟩, rfl, rfl, ?_⟩
      exact ((h6.right.row_nil 5 1).row_nil 5 1)
end Go.Proofs.Ytaoenbjfkahdjaa
