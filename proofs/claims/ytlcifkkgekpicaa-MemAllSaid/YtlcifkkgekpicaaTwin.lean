/- The document's twin of an entry. (Written in part by gen_twin.py.) -/
import Derived.Test.YtlcifkkgekpicaaMemHt
namespace Go.Proofs.Ytlcifkkgekpicaa
open Go.RowKit
set_option linter.unusedVariables false

theorem info_u8t : (Try.prog.info? 5).map (fun i => (i.zero, i.size, i.bytes)) = some (some (.int .u8 0), 1, 1) := by kernel_rfl
theorem empty_row {w0 w : World} {F : SP} {b : Nat} (h : Sat w0 F w) (hb : b = w.heap.size) : Sat w0 (Row 5 1 (.slice (some ⟨b, 0, none⟩) 0 0) 0 [] * F) (w.alloc (.cells #[] 5)) := by
  subst hb
  exact (h.allocPt 5 #[]).row_pt (n := 0) (cap := 0) (size := 1) (Nat.le_refl _) (Nat.zero_le _) rfl
set_option maxHeartbeats 1000000 in
theorem twin0 (e : En) (w : World) (hr : EnR w e) (hk : e.key.2.2.length ≤ 140737488355328) (hv : e.value.2.2.length ≤ 140737488355328) :
    Calls Try.prog 42 #[enA e] w (CopiedS w Emp e) := by
  have h := Sat.start w
  obtain ⟨⟨kA, kc, k⟩, ⟨vA, vc, v⟩, seq, dead⟩ := e
  have HRk : Hid (Rd w kA k) := hr.1
  have HRv : Hid (Rd w vA v) := hr.2
  have hk' : k.length ≤ 140737488355328 := hk
  have hv' : v.length ≤ 140737488355328 := hv
  obtain ⟨j0, hj0, hy0, hy1, hy2⟩ := info_parts info_u8t
  have h1 := h.allocAt (b := w.heap.size) 24 #[.slice kA k.length kc, .slice vA v.length vc, .int .i64 seq, .bool dead] rfl
  have h2 := h1.allocAt (b := w.heap.size + 1) 24 #[.slice none 0 0, .slice none 0 0, .int .i64 0, .bool false] (by simp)
  clear hr h h1
  unfold enA
  go_enter Try.func42, Try.ntmps42
  go_wp2_with fail
  revert h2
  generalize (w.alloc _).alloc _ = W
  intro h2
  generalize w.heap.size + 1 = B at *
  generalize w.heap.size = E at *
  have c0 := h2.up2.cell 0; have c1 := h2.up2.cell 1; have c2 := h2.up2.cell 2; have c3 := h2.up2.cell 3
  have HS0 : Hid (Sat w (Pt B 24 #[.slice none 0 0, .slice none 0 0, .int .i64 0, .bool false] * (Pt E 24 #[.slice kA k.length kc, .slice vA v.length vc, .int .i64 seq, .bool dead] * Emp)) W.drew) := h2.drew
  have Hj0 := Lib.hid hj0; have Hy0 := Lib.hid hy0; have Hy1 := Lib.hid hy1; have Hy2 := Lib.hid hy2
  clear h2 hj0 hy0 hy1 hy2
  refine wp_region_held_drew (S := fun w' => w'.cell? ⟨E, 0, none⟩ = some (.slice kA k.length kc) ∧ w'.cell? ⟨E, 1, none⟩ = some (.slice vA v.length vc) ∧ w'.cell? ⟨E, 2, none⟩ = some (.int .i64 seq) ∧ w'.cell? ⟨E, 3, none⟩ = some (.bool dead)) (by kernel_rfl) ⟨c0, c1, c2, c3⟩ ?_
  intro hS0
  refine rgn_take (i := 1) (v := ?rv1) rfl (by kernel_rfl) (by kernel_rfl) (by kernel_rfl) (fun _ _ _ h => h) (by rfl) ?rh1 (by assumption) ?rr1
  case rh1 => (intro w hSw; (try dsimp only at hSw); go_simp; try with_reducible rfl)
  simp only [Act.put, List.setIfInBounds_toArray, List.set_cons_zero, List.set_cons_succ]
  refine rgn_take (i := 2) (v := ?rv2) rfl (by kernel_rfl) (by kernel_rfl) (by kernel_rfl) (fun _ _ _ h => h) (by rfl) ?rh2 (by assumption) ?rr2
  case rh2 => (intro w hSw; (try dsimp only at hSw); go_simp; try with_reducible rfl)
  simp only [Act.put, List.setIfInBounds_toArray, List.set_cons_zero, List.set_cons_succ]
  refine rgn_take (i := 5) (v := ?rv3) rfl (by kernel_rfl) (by kernel_rfl) (by kernel_rfl) (fun _ _ _ h => h) (by rfl) ?rh3 (by assumption) ?rr3
  case rh3 => (intro w hSw; (try dsimp only at hSw); go_simp; try with_reducible rfl)
  simp only [Act.put, List.setIfInBounds_toArray, List.set_cons_zero, List.set_cons_succ]
  refine rgn_take (i := 6) (v := ?rv4) rfl (by kernel_rfl) (by kernel_rfl) (by kernel_rfl) (fun _ _ _ h => h) (by rfl) ?rh4 (by assumption) ?rr4
  case rh4 => (intro w hSw; (try dsimp only at hSw); go_simp; try with_reducible rfl)
  simp only [Act.put, List.setIfInBounds_toArray, List.set_cons_zero, List.set_cons_succ]
  refine rgn_take (i := 8) (v := ?rv5) rfl (by kernel_rfl) (by kernel_rfl) (by kernel_rfl) (fun _ _ _ h => h) (by rfl) ?rh5 (by assumption) ?rr5
  case rh5 => (intro w hSw; (try dsimp only at hSw); go_simp; try with_reducible rfl)
  simp only [Act.put, List.setIfInBounds_toArray, List.set_cons_zero, List.set_cons_succ]
  refine rgn_take (i := 9) (v := ?rv6) rfl (by kernel_rfl) (by kernel_rfl) (by kernel_rfl) (fun _ _ _ h => h) (by rfl) ?rh6 (by assumption) ?rr6
  case rh6 => (intro w hSw; (try dsimp only at hSw); go_simp; try with_reducible rfl)
  simp only [Act.put, List.setIfInBounds_toArray, List.set_cons_zero, List.set_cons_succ]
  refine rgn_take (i := 10) (v := ?rv7) rfl (by kernel_rfl) (by kernel_rfl) (by kernel_rfl) (fun _ _ _ h => h) (by rfl) ?rh7 (by assumption) ?rr7
  case rh7 => (intro w hSw; (try dsimp only at hSw); go_simp; try with_reducible rfl)
  simp only [Act.put, List.setIfInBounds_toArray, List.set_cons_zero, List.set_cons_succ]
  refine rgn_take (i := 11) (v := ?rv8) rfl (by kernel_rfl) (by kernel_rfl) (by kernel_rfl) (fun _ _ _ h => h) (by rfl) ?rh8 (by assumption) ?rr8
  case rh8 => (intro w hSw; (try dsimp only at hSw); go_simp; try with_reducible rfl)
  simp only [Act.put, List.setIfInBounds_toArray, List.set_cons_zero, List.set_cons_succ]
  refine rgn_both (i := 0) (j := 4) rfl rfl (by kernel_rfl) (fun K hK => ?_) (fun K hK => ?_)
  ·
    go_simp
    have HA := Lib.hid (empty_row (b := W.heap.size) HS0.out rfl)
    refine hK.out _ _ ⟨HA.out.up3.cell 0, HA.out.up3.cell 1, HA.out.up3.cell 2, HA.out.up3.cell 3⟩ (fun hS0 => ?_)
    clear hK K
    try simp only [Act.put, List.setIfInBounds_toArray, List.set_cons_zero, List.set_cons_succ]
    refine rgn_both (i := 3) (j := 4) rfl rfl (by kernel_rfl) (fun K hK => ?_) (fun K hK => ?_)
    ·
      refine step_appS rfl (.tmp 3) (.tmp 5) 22 rfl 5 j0 _ 1 1 Try.underlying22 Hj0.out Hy0.out Hy1.out Hy2.out rfl (by decide) (.slice (some ⟨W.heap.size, 0, none⟩) 0 0) 0 [] rfl w _ (by exact HA.out) kA k.length kc (k.map bv) rfl (by exact HRk.out.new HA.out.chg) (by simp) (bv_one k) (by unfold maxLen; omega) (by omega) ?_; intro A1 d1 w1 hs1; rw [Nat.zero_add] at hs1; rw [Nat.zero_add]; rw [List.nil_append] at hs1; have HS1 := Lib.hid hs1; clear hs1
      refine hK.out _ _ ⟨HS1.out.up3.cell 0, HS1.out.up3.cell 1, HS1.out.up3.cell 2, HS1.out.up3.cell 3⟩ (fun hS0 => ?_)
      clear hK K
      try simp only [Act.put, List.setIfInBounds_toArray, List.set_cons_zero, List.set_cons_succ]
      refine rgn_call (i := 4) rfl (by kernel_rfl) (fun K hK => ?_)
      go_simp
      have HB := Lib.hid (empty_row (b := w1.heap.size) HS1.out rfl)
      refine hK.out _ _ ⟨HB.out.up4.cell 0, HB.out.up4.cell 1, HB.out.up4.cell 2, HB.out.up4.cell 3⟩ (fun hS0 => ?_)
      clear hK K
      try simp only [Act.put, List.setIfInBounds_toArray, List.set_cons_zero, List.set_cons_succ]
      refine rgn_call (i := 7) rfl (by kernel_rfl) (fun K hK => ?_)
      refine step_appS rfl (.tmp 7) (.tmp 9) 22 rfl 5 j0 _ 1 1 Try.underlying22 Hj0.out Hy0.out Hy1.out Hy2.out rfl (by decide) (.slice (some ⟨w1.heap.size, 0, none⟩) 0 0) 0 [] rfl w _ (by exact HB.out) vA v.length vc (v.map bv) rfl (by exact HRv.out.new HB.out.chg) (by simp) (bv_one v) (by unfold maxLen; omega) (by omega) ?_; intro A2 d2 w2 hs2; rw [Nat.zero_add] at hs2; rw [Nat.zero_add]; rw [List.nil_append] at hs2; have HS2 := Lib.hid hs2; clear hs2; have z0 := HS2.out.up3.cell 0; have z1 := HS2.out.up3.cell 1; have z2 := HS2.out.up3.cell 2; have z3 := HS2.out.up3.cell 3; have f0 := HS2.out.up3.frozen 0; have f1 := HS2.out.up3.frozen 1; have f2 := HS2.out.up3.frozen 2; have f3 := HS2.out.up3.frozen 3
      refine hK.out _ _ ⟨HS2.out.up4.cell 0, HS2.out.up4.cell 1, HS2.out.up4.cell 2, HS2.out.up4.cell 3⟩ (fun hS0 => ?_)
      clear hK K
      try simp only [Act.put, List.setIfInBounds_toArray, List.set_cons_zero, List.set_cons_succ]
      refine rgn_take (i := 12) (v := ?rv13) rfl (by kernel_rfl) (by kernel_rfl) (by kernel_rfl) (fun _ _ _ h => h) (by rfl) ?rh13 (by assumption) ?rr13
      case rh13 => (intro w hSw; (try dsimp only at hSw); go_simp; try with_reducible rfl)
      simp only [Act.put, List.setIfInBounds_toArray, List.set_cons_zero, List.set_cons_succ]
      refine rgn_call (i := 13) rfl (by kernel_rfl) (fun K hK => ?_)
      go_simp
      have h9 := (((HS2.out.up3.set 0 (.slice A1 k.length d1)).set 1 (.slice A2 v.length d2)).set 2 (.int .i64 seq)).set 3 (.bool dead)
      refine hK.out _ _ ⟨h9.up4.cell 0, h9.up4.cell 1, h9.up4.cell 2, h9.up4.cell 3⟩ (fun hS0 => ?_)
      clear hK K
      try simp only [Act.put, List.setIfInBounds_toArray, List.set_cons_zero, List.set_cons_succ]
      refine wpAnyH_done (by kernel_rfl) ?_ _
      go_wp2_with fail
      revert h9
      generalize World.setCell _ _ _ = w4
      intro h9
      refine bodyPost_ret (results_cell_row (p := 2) (by kernel_rfl) _ _ B 24 _ (0, 0) _ rfl h9.at Try.underlying24 rfl (by kernel_rfl)) rfl ?_
      exact ⟨A1, d1, A2, d2, rfl, h9.right.up2.up3.right⟩
    ·
      go_simp
      have HB := Lib.hid (empty_row (b := W.heap.size + 1) HA.out (by simp))
      refine hK.out _ _ ⟨HB.out.up4.cell 0, HB.out.up4.cell 1, HB.out.up4.cell 2, HB.out.up4.cell 3⟩ (fun hS0 => ?_)
      clear hK K
      try simp only [Act.put, List.setIfInBounds_toArray, List.set_cons_zero, List.set_cons_succ]
      refine rgn_call (i := 3) rfl (by kernel_rfl) (fun K hK => ?_)
      refine step_appS rfl (.tmp 3) (.tmp 5) 22 rfl 5 j0 _ 1 1 Try.underlying22 Hj0.out Hy0.out Hy1.out Hy2.out rfl (by decide) (.slice (some ⟨W.heap.size, 0, none⟩) 0 0) 0 [] rfl w _ (by exact HB.out.up2) kA k.length kc (k.map bv) rfl (by exact HRk.out.new HB.out.up2.chg) (by simp) (bv_one k) (by unfold maxLen; omega) (by omega) ?_; intro A1 d1 w1 hs1; rw [Nat.zero_add] at hs1; rw [Nat.zero_add]; rw [List.nil_append] at hs1; have HS1 := Lib.hid hs1; clear hs1
      refine hK.out _ _ ⟨HS1.out.up4.cell 0, HS1.out.up4.cell 1, HS1.out.up4.cell 2, HS1.out.up4.cell 3⟩ (fun hS0 => ?_)
      clear hK K
      try simp only [Act.put, List.setIfInBounds_toArray, List.set_cons_zero, List.set_cons_succ]
      refine rgn_call (i := 7) rfl (by kernel_rfl) (fun K hK => ?_)
      refine step_appS rfl (.tmp 7) (.tmp 9) 22 rfl 5 j0 _ 1 1 Try.underlying22 Hj0.out Hy0.out Hy1.out Hy2.out rfl (by decide) (.slice (some ⟨W.heap.size + 1, 0, none⟩) 0 0) 0 [] rfl w _ (by exact HS1.out.up2) vA v.length vc (v.map bv) rfl (by exact HRv.out.new HS1.out.up2.chg) (by simp) (bv_one v) (by unfold maxLen; omega) (by omega) ?_; intro A2 d2 w2 hs2; rw [Nat.zero_add] at hs2; rw [Nat.zero_add]; rw [List.nil_append] at hs2; have HS2 := Lib.hid hs2; clear hs2; have z0 := HS2.out.up3.cell 0; have z1 := HS2.out.up3.cell 1; have z2 := HS2.out.up3.cell 2; have z3 := HS2.out.up3.cell 3; have f0 := HS2.out.up3.frozen 0; have f1 := HS2.out.up3.frozen 1; have f2 := HS2.out.up3.frozen 2; have f3 := HS2.out.up3.frozen 3
      refine hK.out _ _ ⟨HS2.out.up4.cell 0, HS2.out.up4.cell 1, HS2.out.up4.cell 2, HS2.out.up4.cell 3⟩ (fun hS0 => ?_)
      clear hK K
      try simp only [Act.put, List.setIfInBounds_toArray, List.set_cons_zero, List.set_cons_succ]
      refine rgn_take (i := 12) (v := ?rv17) rfl (by kernel_rfl) (by kernel_rfl) (by kernel_rfl) (fun _ _ _ h => h) (by rfl) ?rh17 (by assumption) ?rr17
      case rh17 => (intro w hSw; (try dsimp only at hSw); go_simp; try with_reducible rfl)
      simp only [Act.put, List.setIfInBounds_toArray, List.set_cons_zero, List.set_cons_succ]
      refine rgn_call (i := 13) rfl (by kernel_rfl) (fun K hK => ?_)
      go_simp
      have h9 := (((HS2.out.up3.set 0 (.slice A1 k.length d1)).set 1 (.slice A2 v.length d2)).set 2 (.int .i64 seq)).set 3 (.bool dead)
      refine hK.out _ _ ⟨h9.up4.cell 0, h9.up4.cell 1, h9.up4.cell 2, h9.up4.cell 3⟩ (fun hS0 => ?_)
      clear hK K
      try simp only [Act.put, List.setIfInBounds_toArray, List.set_cons_zero, List.set_cons_succ]
      refine wpAnyH_done (by kernel_rfl) ?_ _
      go_wp2_with fail
      revert h9
      generalize World.setCell _ _ _ = w4
      intro h9
      refine bodyPost_ret (results_cell_row (p := 2) (by kernel_rfl) _ _ B 24 _ (0, 0) _ rfl h9.at Try.underlying24 rfl (by kernel_rfl)) rfl ?_
      exact ⟨A1, d1, A2, d2, rfl, h9.right.up2.up3.right⟩
  ·
    go_simp
    have HB := Lib.hid (empty_row (b := W.heap.size) HS0.out rfl)
    refine hK.out _ _ ⟨HB.out.up3.cell 0, HB.out.up3.cell 1, HB.out.up3.cell 2, HB.out.up3.cell 3⟩ (fun hS0 => ?_)
    clear hK K
    try simp only [Act.put, List.setIfInBounds_toArray, List.set_cons_zero, List.set_cons_succ]
    refine rgn_call (i := 0) rfl (by kernel_rfl) (fun K hK => ?_)
    go_simp
    have HA := Lib.hid (empty_row (b := W.heap.size + 1) HB.out (by simp))
    refine hK.out _ _ ⟨HA.out.up4.cell 0, HA.out.up4.cell 1, HA.out.up4.cell 2, HA.out.up4.cell 3⟩ (fun hS0 => ?_)
    clear hK K
    try simp only [Act.put, List.setIfInBounds_toArray, List.set_cons_zero, List.set_cons_succ]
    refine rgn_call (i := 3) rfl (by kernel_rfl) (fun K hK => ?_)
    refine step_appS rfl (.tmp 3) (.tmp 5) 22 rfl 5 j0 _ 1 1 Try.underlying22 Hj0.out Hy0.out Hy1.out Hy2.out rfl (by decide) (.slice (some ⟨W.heap.size + 1, 0, none⟩) 0 0) 0 [] rfl w _ (by exact HA.out) kA k.length kc (k.map bv) rfl (by exact HRk.out.new HA.out.chg) (by simp) (bv_one k) (by unfold maxLen; omega) (by omega) ?_; intro A1 d1 w1 hs1; rw [Nat.zero_add] at hs1; rw [Nat.zero_add]; rw [List.nil_append] at hs1; have HS1 := Lib.hid hs1; clear hs1
    refine hK.out _ _ ⟨HS1.out.up4.cell 0, HS1.out.up4.cell 1, HS1.out.up4.cell 2, HS1.out.up4.cell 3⟩ (fun hS0 => ?_)
    clear hK K
    try simp only [Act.put, List.setIfInBounds_toArray, List.set_cons_zero, List.set_cons_succ]
    refine rgn_call (i := 7) rfl (by kernel_rfl) (fun K hK => ?_)
    refine step_appS rfl (.tmp 7) (.tmp 9) 22 rfl 5 j0 _ 1 1 Try.underlying22 Hj0.out Hy0.out Hy1.out Hy2.out rfl (by decide) (.slice (some ⟨W.heap.size, 0, none⟩) 0 0) 0 [] rfl w _ (by exact HS1.out.up2) vA v.length vc (v.map bv) rfl (by exact HRv.out.new HS1.out.up2.chg) (by simp) (bv_one v) (by unfold maxLen; omega) (by omega) ?_; intro A2 d2 w2 hs2; rw [Nat.zero_add] at hs2; rw [Nat.zero_add]; rw [List.nil_append] at hs2; have HS2 := Lib.hid hs2; clear hs2; have z0 := HS2.out.up3.cell 0; have z1 := HS2.out.up3.cell 1; have z2 := HS2.out.up3.cell 2; have z3 := HS2.out.up3.cell 3; have f0 := HS2.out.up3.frozen 0; have f1 := HS2.out.up3.frozen 1; have f2 := HS2.out.up3.frozen 2; have f3 := HS2.out.up3.frozen 3
    refine hK.out _ _ ⟨HS2.out.up4.cell 0, HS2.out.up4.cell 1, HS2.out.up4.cell 2, HS2.out.up4.cell 3⟩ (fun hS0 => ?_)
    clear hK K
    try simp only [Act.put, List.setIfInBounds_toArray, List.set_cons_zero, List.set_cons_succ]
    refine rgn_take (i := 12) (v := ?rv22) rfl (by kernel_rfl) (by kernel_rfl) (by kernel_rfl) (fun _ _ _ h => h) (by rfl) ?rh22 (by assumption) ?rr22
    case rh22 => (intro w hSw; (try dsimp only at hSw); go_simp; try with_reducible rfl)
    simp only [Act.put, List.setIfInBounds_toArray, List.set_cons_zero, List.set_cons_succ]
    refine rgn_call (i := 13) rfl (by kernel_rfl) (fun K hK => ?_)
    go_simp
    have h9 := (((HS2.out.up3.set 0 (.slice A1 k.length d1)).set 1 (.slice A2 v.length d2)).set 2 (.int .i64 seq)).set 3 (.bool dead)
    refine hK.out _ _ ⟨h9.up4.cell 0, h9.up4.cell 1, h9.up4.cell 2, h9.up4.cell 3⟩ (fun hS0 => ?_)
    clear hK K
    try simp only [Act.put, List.setIfInBounds_toArray, List.set_cons_zero, List.set_cons_succ]
    refine wpAnyH_done (by kernel_rfl) ?_ _
    go_wp2_with fail
    revert h9
    generalize World.setCell _ _ _ = w4
    intro h9
    refine bodyPost_ret (results_cell_row (p := 2) (by kernel_rfl) _ _ B 24 _ (0, 0) _ rfl h9.at Try.underlying24 rfl (by kernel_rfl)) rfl ?_
    exact ⟨A1, d1, A2, d2, rfl, h9.right.up2.up3.right⟩
theorem etwin_any (e : En) (w0 w : World) (F : SP) (h : Sat w0 F w) (hr : EnR w e) (hk : e.key.2.2.length ≤ 140737488355328) (hv : e.value.2.2.length ≤ 140737488355328) :
    Calls Try.prog 42 #[enA e] w fun x w' => CopiedS w0 F e x w' ∧ Chg No w w' := by
  refine (twin0 e w hr hk hv).mono ?_
  rintro x w' ⟨A, c, B, d, rfl, hs⟩
  exact ⟨⟨A, c, B, d, rfl, (h.join hs (owned_star (owned_row _ _ _ _ _) (owned_star (owned_row _ _ _ _ _) owned_emp))).of (by rw [star_assoc, star_assoc, emp_star])⟩, hs.chg⟩
end Go.Proofs.Ytlcifkkgekpicaa
