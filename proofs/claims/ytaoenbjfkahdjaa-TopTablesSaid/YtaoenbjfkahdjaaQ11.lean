/- Joined, as they were built one by one: Twin RTab AppF. -/
import Derived.Test.YtaoenbjfkahdjaaQ02
import Derived.Test.YtaoenbjfkahdjaaQ10
namespace Go.Proofs.Ytaoenbjfkahdjaa
open Go.RowKit
set_option linter.unusedVariables false
set_option maxRecDepth 100000

theorem info_u8t : (Try.prog.info? 5).map (fun i => (i.zero, i.size, i.bytes)) = some (some (.int .u8 0), 1, 1) := by kernel_rfl
theorem empty_row {w0 w : World} {F : SP} {b : Nat} (h : Sat w0 F w) (hb : b = w.heap.size) : Sat w0 (Row 5 1 (.slice (some ⟨b, 0, none⟩) 0 0) 0 [] * F) (w.alloc (.cells #[] 5)) := by
  subst hb
  exact (h.allocPt 5 #[]).row_pt (n := 0) (cap := 0) (size := 1) (Nat.le_refl _) (Nat.zero_le _) rfl
set_option maxHeartbeats 1000000 in
theorem twin0 (e : En) (w : World) (hr : EnR w e) (hk : e.key.2.2.length ≤ 140737488355328) (hv : e.value.2.2.length ≤ 140737488355328) :
    Calls Try.prog 24 #[enA e] w (CopiedS w Emp e) := by
  have h := Sat.start w
  obtain ⟨⟨kA, kc, k⟩, ⟨vA, vc, v⟩, seq, dead⟩ := e
  have HRk : Hid (Rd w kA k) := hr.1
  have HRv : Hid (Rd w vA v) := hr.2
  have hk' : k.length ≤ 140737488355328 := hk
  have hv' : v.length ≤ 140737488355328 := hv
  obtain ⟨j0, hj0, hy0, hy1, hy2⟩ := info_parts info_u8t
  have h1 := h.allocAt (b := w.heap.size) 34 #[.slice kA k.length kc, .slice vA v.length vc, .int .i64 seq, .bool dead] rfl
  have h2 := h1.allocAt (b := w.heap.size + 1) 34 #[.slice none 0 0, .slice none 0 0, .int .i64 0, .bool false] (by simp)
  clear hr h h1
  unfold enA
  go_enter Try.func24, Try.ntmps24
  go_wp2_with fail
  revert h2
  generalize (w.alloc _).alloc _ = W
  intro h2
  generalize w.heap.size + 1 = B at *
  generalize w.heap.size = E at *
  have c0 := h2.up2.cell 0; have c1 := h2.up2.cell 1; have c2 := h2.up2.cell 2; have c3 := h2.up2.cell 3
  have HS0 : Hid (Sat w (Pt B 34 #[.slice none 0 0, .slice none 0 0, .int .i64 0, .bool false] * (Pt E 34 #[.slice kA k.length kc, .slice vA v.length vc, .int .i64 seq, .bool dead] * Emp)) W.drew) := h2.drew
  have Hj0 := Lib.hid hj0; have Hy0 := Lib.hid hy0; have Hy1 := Lib.hid hy1; have Hy2 := Lib.hid hy2
  clear h2 hj0 hy0 hy1 hy2
  refine wp_region_held_drew (S := fun w' => w'.cell? ⟨E, 0, none⟩ = some (.slice kA k.length kc) ∧ w'.cell? ⟨E, 1, none⟩ = some (.slice vA v.length vc) ∧ w'.cell? ⟨E, 2, none⟩ = some (.int .i64 seq) ∧ w'.cell? ⟨E, 3, none⟩ = some (.bool dead)) (by kernel_rfl) ⟨c0, c1, c2, c3⟩ ?_
  intro hS0
  refine rgn_take (i := 1) (v := ?rv1) rfl (by kernel_rfl) (by kernel_rfl) (by kernel_rfl) (fun _ _ _ h => h) (by rfl) ?rh1 (by assumption) ?rr1
  case rh1 => (intro w hSw; (try dsimp only at hSw); go_simp; try with_reducible rfl)
  simp only [Act.put, List.setIfInBounds_toArray, List.set_cons_zero, List.set_cons_succ]
  refine rgn_take (i := 2) (v := ?rv2) rfl (by kernel_rfl) (by kernel_rfl) (by kernel_rfl) (fun _ _ _ h => h) (by rfl) ?rh2 (by assumption) ?rr2
  case rh2 => (intro w hSw; (try dsimp only at hSw); go_simp; try with_reducible rfl)
  simp only [Act.put, List.setIfInBounds_toArray, List.set_cons_zero, List.set_cons_succ]
  refine rgn_take (i := 5) (v := ?rv3) rfl (by kernel_rfl) (by kernel_rfl) (by kernel_rfl) (fun _ _ _ h => h) (by rfl) ?rh3 (by assumption) ?rr3
  case rh3 => (intro w hSw; (try dsimp only at hSw); go_simp; try with_reducible rfl)
  simp only [Act.put, List.setIfInBounds_toArray, List.set_cons_zero, List.set_cons_succ]
  refine rgn_take (i := 6) (v := ?rv4) rfl (by kernel_rfl) (by kernel_rfl) (by kernel_rfl) (fun _ _ _ h => h) (by rfl) ?rh4 (by assumption) ?rr4
  case rh4 => (intro w hSw; (try dsimp only at hSw); go_simp; try with_reducible rfl)
  simp only [Act.put, List.setIfInBounds_toArray, List.set_cons_zero, List.set_cons_succ]
  refine rgn_take (i := 8) (v := ?rv5) rfl (by kernel_rfl) (by kernel_rfl) (by kernel_rfl) (fun _ _ _ h => h) (by rfl) ?rh5 (by assumption) ?rr5
  case rh5 => (intro w hSw; (try dsimp only at hSw); go_simp; try with_reducible rfl)
  simp only [Act.put, List.setIfInBounds_toArray, List.set_cons_zero, List.set_cons_succ]
  refine rgn_take (i := 9) (v := ?rv6) rfl (by kernel_rfl) (by kernel_rfl) (by kernel_rfl) (fun _ _ _ h => h) (by rfl) ?rh6 (by assumption) ?rr6
  case rh6 => (intro w hSw; (try dsimp only at hSw); go_simp; try with_reducible rfl)
  simp only [Act.put, List.setIfInBounds_toArray, List.set_cons_zero, List.set_cons_succ]
  refine rgn_take (i := 10) (v := ?rv7) rfl (by kernel_rfl) (by kernel_rfl) (by kernel_rfl) (fun _ _ _ h => h) (by rfl) ?rh7 (by assumption) ?rr7
  case rh7 => (intro w hSw; (try dsimp only at hSw); go_simp; try with_reducible rfl)
  simp only [Act.put, List.setIfInBounds_toArray, List.set_cons_zero, List.set_cons_succ]
  refine rgn_take (i := 11) (v := ?rv8) rfl (by kernel_rfl) (by kernel_rfl) (by kernel_rfl) (fun _ _ _ h => h) (by rfl) ?rh8 (by assumption) ?rr8
  case rh8 => (intro w hSw; (try dsimp only at hSw); go_simp; try with_reducible rfl)
  simp only [Act.put, List.setIfInBounds_toArray, List.set_cons_zero, List.set_cons_succ]
  refine rgn_both (i := 0) (j := 4) rfl rfl (by kernel_rfl) (fun K hK => ?_) (fun K hK => ?_)
  ·
    go_simp
    have HA := Lib.hid (empty_row (b := W.heap.size) HS0.out rfl)
    refine hK.out _ _ ⟨HA.out.up3.cell 0, HA.out.up3.cell 1, HA.out.up3.cell 2, HA.out.up3.cell 3⟩ (fun hS0 => ?_)
    clear hK K
    try simp only [Act.put, List.setIfInBounds_toArray, List.set_cons_zero, List.set_cons_succ]
    refine rgn_both (i := 3) (j := 4) rfl rfl (by kernel_rfl) (fun K hK => ?_) (fun K hK => ?_)
    ·
      refine step_appS rfl (.tmp 3) (.tmp 5) 32 rfl 5 j0 _ 1 1 Try.underlying32 Hj0.out Hy0.out Hy1.out Hy2.out rfl (by decide) (.slice (some ⟨W.heap.size, 0, none⟩) 0 0) 0 [] rfl w _ (by exact HA.out) kA k.length kc (k.map bv) rfl (by exact HRk.out.new HA.out.chg) (by simp) (bv_one k) (by unfold maxLen; omega) (by omega) ?_; intro A1 d1 w1 hs1; rw [Nat.zero_add] at hs1; rw [Nat.zero_add]; rw [List.nil_append] at hs1; have HS1 := Lib.hid hs1; clear hs1
      refine hK.out _ _ ⟨HS1.out.up3.cell 0, HS1.out.up3.cell 1, HS1.out.up3.cell 2, HS1.out.up3.cell 3⟩ (fun hS0 => ?_)
      clear hK K
      try simp only [Act.put, List.setIfInBounds_toArray, List.set_cons_zero, List.set_cons_succ]
      refine rgn_call (i := 4) rfl (by kernel_rfl) (fun K hK => ?_)
      go_simp
      have HB := Lib.hid (empty_row (b := w1.heap.size) HS1.out rfl)
      refine hK.out _ _ ⟨HB.out.up4.cell 0, HB.out.up4.cell 1, HB.out.up4.cell 2, HB.out.up4.cell 3⟩ (fun hS0 => ?_)
      clear hK K
      try simp only [Act.put, List.setIfInBounds_toArray, List.set_cons_zero, List.set_cons_succ]
      refine rgn_call (i := 7) rfl (by kernel_rfl) (fun K hK => ?_)
      refine step_appS rfl (.tmp 7) (.tmp 9) 32 rfl 5 j0 _ 1 1 Try.underlying32 Hj0.out Hy0.out Hy1.out Hy2.out rfl (by decide) (.slice (some ⟨w1.heap.size, 0, none⟩) 0 0) 0 [] rfl w _ (by exact HB.out) vA v.length vc (v.map bv) rfl (by exact HRv.out.new HB.out.chg) (by simp) (bv_one v) (by unfold maxLen; omega) (by omega) ?_; intro A2 d2 w2 hs2; rw [Nat.zero_add] at hs2; rw [Nat.zero_add]; rw [List.nil_append] at hs2; have HS2 := Lib.hid hs2; clear hs2; have z0 := HS2.out.up3.cell 0; have z1 := HS2.out.up3.cell 1; have z2 := HS2.out.up3.cell 2; have z3 := HS2.out.up3.cell 3; have f0 := HS2.out.up3.frozen 0; have f1 := HS2.out.up3.frozen 1; have f2 := HS2.out.up3.frozen 2; have f3 := HS2.out.up3.frozen 3
      refine hK.out _ _ ⟨HS2.out.up4.cell 0, HS2.out.up4.cell 1, HS2.out.up4.cell 2, HS2.out.up4.cell 3⟩ (fun hS0 => ?_)
      clear hK K
      try simp only [Act.put, List.setIfInBounds_toArray, List.set_cons_zero, List.set_cons_succ]
      refine rgn_take (i := 12) (v := ?rv13) rfl (by kernel_rfl) (by kernel_rfl) (by kernel_rfl) (fun _ _ _ h => h) (by rfl) ?rh13 (by assumption) ?rr13
      case rh13 => (intro w hSw; (try dsimp only at hSw); go_simp; try with_reducible rfl)
      simp only [Act.put, List.setIfInBounds_toArray, List.set_cons_zero, List.set_cons_succ]
      refine rgn_call (i := 13) rfl (by kernel_rfl) (fun K hK => ?_)
      go_simp
      have h9 := (((HS2.out.up3.set 0 (.slice A1 k.length d1)).set 1 (.slice A2 v.length d2)).set 2 (.int .i64 seq)).set 3 (.bool dead)
      refine hK.out _ _ ⟨h9.up4.cell 0, h9.up4.cell 1, h9.up4.cell 2, h9.up4.cell 3⟩ (fun hS0 => ?_)
      clear hK K
      try simp only [Act.put, List.setIfInBounds_toArray, List.set_cons_zero, List.set_cons_succ]
      refine wpAnyH_done (by kernel_rfl) ?_ _
      go_wp2_with fail
      revert h9
      generalize World.setCell _ _ _ = w4
      intro h9
      refine bodyPost_ret (results_cell_row (p := 2) (by kernel_rfl) _ _ B 34 _ (0, 0) _ rfl h9.at Try.underlying34 rfl (by kernel_rfl)) rfl ?_
      exact ⟨A1, d1, A2, d2, rfl, h9.right.up2.up3.right⟩
    ·
      go_simp
      have HB := Lib.hid (empty_row (b := W.heap.size + 1) HA.out (by simp))
      refine hK.out _ _ ⟨HB.out.up4.cell 0, HB.out.up4.cell 1, HB.out.up4.cell 2, HB.out.up4.cell 3⟩ (fun hS0 => ?_)
      clear hK K
      try simp only [Act.put, List.setIfInBounds_toArray, List.set_cons_zero, List.set_cons_succ]
      refine rgn_call (i := 3) rfl (by kernel_rfl) (fun K hK => ?_)
      refine step_appS rfl (.tmp 3) (.tmp 5) 32 rfl 5 j0 _ 1 1 Try.underlying32 Hj0.out Hy0.out Hy1.out Hy2.out rfl (by decide) (.slice (some ⟨W.heap.size, 0, none⟩) 0 0) 0 [] rfl w _ (by exact HB.out.up2) kA k.length kc (k.map bv) rfl (by exact HRk.out.new HB.out.up2.chg) (by simp) (bv_one k) (by unfold maxLen; omega) (by omega) ?_; intro A1 d1 w1 hs1; rw [Nat.zero_add] at hs1; rw [Nat.zero_add]; rw [List.nil_append] at hs1; have HS1 := Lib.hid hs1; clear hs1
      refine hK.out _ _ ⟨HS1.out.up4.cell 0, HS1.out.up4.cell 1, HS1.out.up4.cell 2, HS1.out.up4.cell 3⟩ (fun hS0 => ?_)
      clear hK K
      try simp only [Act.put, List.setIfInBounds_toArray, List.set_cons_zero, List.set_cons_succ]
      refine rgn_call (i := 7) rfl (by kernel_rfl) (fun K hK => ?_)
      refine step_appS rfl (.tmp 7) (.tmp 9) 32 rfl 5 j0 _ 1 1 Try.underlying32 Hj0.out Hy0.out Hy1.out Hy2.out rfl (by decide) (.slice (some ⟨W.heap.size + 1, 0, none⟩) 0 0) 0 [] rfl w _ (by exact HS1.out.up2) vA v.length vc (v.map bv) rfl (by exact HRv.out.new HS1.out.up2.chg) (by simp) (bv_one v) (by unfold maxLen; omega) (by omega) ?_; intro A2 d2 w2 hs2; rw [Nat.zero_add] at hs2; rw [Nat.zero_add]; rw [List.nil_append] at hs2; have HS2 := Lib.hid hs2; clear hs2; have z0 := HS2.out.up3.cell 0; have z1 := HS2.out.up3.cell 1; have z2 := HS2.out.up3.cell 2; have z3 := HS2.out.up3.cell 3; have f0 := HS2.out.up3.frozen 0; have f1 := HS2.out.up3.frozen 1; have f2 := HS2.out.up3.frozen 2; have f3 := HS2.out.up3.frozen 3
      refine hK.out _ _ ⟨HS2.out.up4.cell 0, HS2.out.up4.cell 1, HS2.out.up4.cell 2, HS2.out.up4.cell 3⟩ (fun hS0 => ?_)
      clear hK K
      try simp only [Act.put, List.setIfInBounds_toArray, List.set_cons_zero, List.set_cons_succ]
      refine rgn_take (i := 12) (v := ?rv17) rfl (by kernel_rfl) (by kernel_rfl) (by kernel_rfl) (fun _ _ _ h => h) (by rfl) ?rh17 (by assumption) ?rr17
      case rh17 => (intro w hSw; (try dsimp only at hSw); go_simp; try with_reducible rfl)
      simp only [Act.put, List.setIfInBounds_toArray, List.set_cons_zero, List.set_cons_succ]
      refine rgn_call (i := 13) rfl (by kernel_rfl) (fun K hK => ?_)
      go_simp
      have h9 := (((HS2.out.up3.set 0 (.slice A1 k.length d1)).set 1 (.slice A2 v.length d2)).set 2 (.int .i64 seq)).set 3 (.bool dead)
      refine hK.out _ _ ⟨h9.up4.cell 0, h9.up4.cell 1, h9.up4.cell 2, h9.up4.cell 3⟩ (fun hS0 => ?_)
      clear hK K
      try simp only [Act.put, List.setIfInBounds_toArray, List.set_cons_zero, List.set_cons_succ]
      refine wpAnyH_done (by kernel_rfl) ?_ _
      go_wp2_with fail
      revert h9
      generalize World.setCell _ _ _ = w4
      intro h9
      refine bodyPost_ret (results_cell_row (p := 2) (by kernel_rfl) _ _ B 34 _ (0, 0) _ rfl h9.at Try.underlying34 rfl (by kernel_rfl)) rfl ?_
      exact ⟨A1, d1, A2, d2, rfl, h9.right.up2.up3.right⟩
  ·
    go_simp
    have HB := Lib.hid (empty_row (b := W.heap.size) HS0.out rfl)
    refine hK.out _ _ ⟨HB.out.up3.cell 0, HB.out.up3.cell 1, HB.out.up3.cell 2, HB.out.up3.cell 3⟩ (fun hS0 => ?_)
    clear hK K
    try simp only [Act.put, List.setIfInBounds_toArray, List.set_cons_zero, List.set_cons_succ]
    refine rgn_call (i := 0) rfl (by kernel_rfl) (fun K hK => ?_)
    go_simp
    have HA := Lib.hid (empty_row (b := W.heap.size + 1) HB.out (by simp))
    refine hK.out _ _ ⟨HA.out.up4.cell 0, HA.out.up4.cell 1, HA.out.up4.cell 2, HA.out.up4.cell 3⟩ (fun hS0 => ?_)
    clear hK K
    try simp only [Act.put, List.setIfInBounds_toArray, List.set_cons_zero, List.set_cons_succ]
    refine rgn_call (i := 3) rfl (by kernel_rfl) (fun K hK => ?_)
    refine step_appS rfl (.tmp 3) (.tmp 5) 32 rfl 5 j0 _ 1 1 Try.underlying32 Hj0.out Hy0.out Hy1.out Hy2.out rfl (by decide) (.slice (some ⟨W.heap.size + 1, 0, none⟩) 0 0) 0 [] rfl w _ (by exact HA.out) kA k.length kc (k.map bv) rfl (by exact HRk.out.new HA.out.chg) (by simp) (bv_one k) (by unfold maxLen; omega) (by omega) ?_; intro A1 d1 w1 hs1; rw [Nat.zero_add] at hs1; rw [Nat.zero_add]; rw [List.nil_append] at hs1; have HS1 := Lib.hid hs1; clear hs1
    refine hK.out _ _ ⟨HS1.out.up4.cell 0, HS1.out.up4.cell 1, HS1.out.up4.cell 2, HS1.out.up4.cell 3⟩ (fun hS0 => ?_)
    clear hK K
    try simp only [Act.put, List.setIfInBounds_toArray, List.set_cons_zero, List.set_cons_succ]
    refine rgn_call (i := 7) rfl (by kernel_rfl) (fun K hK => ?_)
    refine step_appS rfl (.tmp 7) (.tmp 9) 32 rfl 5 j0 _ 1 1 Try.underlying32 Hj0.out Hy0.out Hy1.out Hy2.out rfl (by decide) (.slice (some ⟨W.heap.size, 0, none⟩) 0 0) 0 [] rfl w _ (by exact HS1.out.up2) vA v.length vc (v.map bv) rfl (by exact HRv.out.new HS1.out.up2.chg) (by simp) (bv_one v) (by unfold maxLen; omega) (by omega) ?_; intro A2 d2 w2 hs2; rw [Nat.zero_add] at hs2; rw [Nat.zero_add]; rw [List.nil_append] at hs2; have HS2 := Lib.hid hs2; clear hs2; have z0 := HS2.out.up3.cell 0; have z1 := HS2.out.up3.cell 1; have z2 := HS2.out.up3.cell 2; have z3 := HS2.out.up3.cell 3; have f0 := HS2.out.up3.frozen 0; have f1 := HS2.out.up3.frozen 1; have f2 := HS2.out.up3.frozen 2; have f3 := HS2.out.up3.frozen 3
    refine hK.out _ _ ⟨HS2.out.up4.cell 0, HS2.out.up4.cell 1, HS2.out.up4.cell 2, HS2.out.up4.cell 3⟩ (fun hS0 => ?_)
    clear hK K
    try simp only [Act.put, List.setIfInBounds_toArray, List.set_cons_zero, List.set_cons_succ]
    refine rgn_take (i := 12) (v := ?rv22) rfl (by kernel_rfl) (by kernel_rfl) (by kernel_rfl) (fun _ _ _ h => h) (by rfl) ?rh22 (by assumption) ?rr22
    case rh22 => (intro w hSw; (try dsimp only at hSw); go_simp; try with_reducible rfl)
    simp only [Act.put, List.setIfInBounds_toArray, List.set_cons_zero, List.set_cons_succ]
    refine rgn_call (i := 13) rfl (by kernel_rfl) (fun K hK => ?_)
    go_simp
    have h9 := (((HS2.out.up3.set 0 (.slice A1 k.length d1)).set 1 (.slice A2 v.length d2)).set 2 (.int .i64 seq)).set 3 (.bool dead)
    refine hK.out _ _ ⟨h9.up4.cell 0, h9.up4.cell 1, h9.up4.cell 2, h9.up4.cell 3⟩ (fun hS0 => ?_)
    clear hK K
    try simp only [Act.put, List.setIfInBounds_toArray, List.set_cons_zero, List.set_cons_succ]
    refine wpAnyH_done (by kernel_rfl) ?_ _
    go_wp2_with fail
    revert h9
    generalize World.setCell _ _ _ = w4
    intro h9
    refine bodyPost_ret (results_cell_row (p := 2) (by kernel_rfl) _ _ B 34 _ (0, 0) _ rfl h9.at Try.underlying34 rfl (by kernel_rfl)) rfl ?_
    exact ⟨A1, d1, A2, d2, rfl, h9.right.up2.up3.right⟩
theorem etwin_any (e : En) (w0 w : World) (F : SP) (h : Sat w0 F w) (hr : EnR w e) (hk : e.key.2.2.length ≤ 140737488355328) (hv : e.value.2.2.length ≤ 140737488355328) :
    Calls Try.prog 24 #[enA e] w fun x w' => CopiedS w0 F e x w' ∧ Chg No w w' := by
  refine (twin0 e w hr hk hv).mono ?_
  rintro x w' ⟨A, c, B, d, rfl, hs⟩
  exact ⟨⟨A, c, B, d, rfl, (h.join hs (owned_star (owned_row _ _ _ _ _) (owned_star (owned_row _ _ _ _ _) owned_emp))).of (by rw [star_assoc, star_assoc, emp_star])⟩, hs.chg⟩
end Go.Proofs.Ytaoenbjfkahdjaa
namespace Go.Proofs.Ytaoenbjfkahdjaa
open Go.RowKit
set_option linter.unusedVariables false
set_option maxRecDepth 100000

def eslc (es : List En) : List Slc := es.flatMap fun e => [e.key, e.value]
def i64s (l : List Nat) : List Value := l.map fun n : Nat => .int .i64 (n : Int)
/-- What an entry's bytes have room for. -/
def CapE (y : En) : Prop := (y.key.2.2.length ≤ y.key.2.1 ∧ y.key.2.1 ≤ maxLen) ∧ (y.value.2.2.length ≤ y.value.2.1 ∧ y.value.2.1 ≤ maxLen)
theorem cap_rows {w0 w : World} {G : SP} {A B : Option Addr} {cA cB : Nat} {k v : List UInt8} (h : Sat w0 (Row 5 1 (.slice A k.length cA) k.length (k.map bv) * (Row 5 1 (.slice B v.length cB) v.length (v.map bv) * G)) w) (seq : Int) (dead : Bool) : CapE ⟨(A, cA, k), (B, cB, v), seq, dead⟩ := by
  obtain ⟨_, _, e1, h1, h2⟩ := h.row_sl
  obtain ⟨_, _, e2, k1, k2⟩ := h.up2.row_sl
  injection e1 with _ _ e1
  injection e2 with _ _ e2
  subst e1; subst e2
  exact ⟨⟨h1, h2⟩, k1, k2⟩
/-- The table: its block, its row of entries, its row of heights, the bytes of the entries. -/
def RTabC (r : Nat) (vL vH : Value) (es : List En) (hs : List Nat) : SP :=
  Pt r 83 #[vL, vH] * (Row 34 4 vL es.length (es.flatMap enV) * (Row 3 1 vH hs.length (i64s hs) * RoL (eslc es)))
def RTab (r : Nat) (es : List En) (hs : List Nat) : SP := fun h => ∃ vL vH, RTabC r vL vH es hs h
section
variable {w0 w : World} {F : SP} {r : Nat} {vL vH : Value} {es : List En} {hs : List Nat}
theorem Sat.rtab (h : Sat w0 (RTab r es hs * F) w) : ∃ vL vH, Sat w0 (RTabC r vL vH es hs * F) w := by
  obtain ⟨c, x, h1, a, f, h2, h3, ⟨y, z, h4⟩, h5⟩ := h
  exact ⟨y, z, c, x, h1, a, f, h2, h3, h4, h5⟩
theorem Sat.rtabI (h : Sat w0 (RTabC r vL vH es hs * F) w) : Sat w0 (RTab r es hs * F) w := h.mono fun y ⟨a, f, h2, h3, h5, h6⟩ => ⟨a, f, h2, h3, ⟨vL, vH, h5⟩, h6⟩
theorem rtab_d (r : Nat) (vL vH : Value) (es : List En) (hs : List Nat) (F : SP) : RTabC r vL vH es hs * F = Pt r 83 #[vL, vH] * (Row 34 4 vL es.length (es.flatMap enV) * (Row 3 1 vH hs.length (i64s hs) * (RoL (eslc es) * F))) := by
  unfold RTabC; ac_rfl
theorem Sat.rtabL (h : Sat w0 (RTabC r vL vH es hs * F) w) : w.cell? ⟨r, 0, none⟩ = some vL := (h.of (rtab_d ..)).cell 0
theorem Sat.rtabH (h : Sat w0 (RTabC r vL vH es hs * F) w) : w.cell? ⟨r, 1, none⟩ = some vH := (h.of (rtab_d ..)).cell 1
/-- A row, as it reads, whatever the size of its elements. -/
theorem Sat.row_rdK {e : TypeId} {size n c : Nat} {A : Option Addr} {xs : List Value} (h : Sat w0 (Row e size (.slice A n c) n xs * F) w) : RdV w A xs := fun hx => by
  obtain ⟨hl, ⟨_, e2, _⟩ | ⟨g, cap, cur, e1, h1, h2, h3, h4, h5⟩⟩ := h.row_cases
  · subst e2
    exact absurd (List.eq_nil_of_length_eq_zero (by simpa using hl)) hx
  · injection e1 with e1 _ e3
    refine ⟨g, 0, e1, fun j hj => ?_⟩
    rw [Nat.zero_add, h5.cell]
    have h6 : xs[j]? = some xs[j] := List.getElem?_eq_getElem hj
    rw [← h6, ← h4, List.getElem?_take, if_pos (by omega)]
    simp
/-- Where a row lies. -/
theorem Sat.row_form {e : TypeId} {size n : Nat} {v : Value} {xs : List Value} (h : Sat w0 (Row e size v n xs * F) w) : ∃ A c, v = .slice A n c ∧ n ≤ c ∧ c ≤ maxLen ∧ ((A = none ∧ c = 0) ∨ ∃ g, A = some ⟨g, 0, none⟩) := by
  obtain ⟨_, ⟨e1, e2, _⟩ | ⟨g, cap, cur, e1, h1, h2, _⟩⟩ := h.row_cases
  · exact ⟨none, 0, by rw [e1, e2], by omega, Nat.zero_le _, .inl ⟨rfl, rfl⟩⟩
  · exact ⟨_, _, e1, h1, h2, .inr ⟨g, rfl⟩⟩
end
theorem ent_ones (es : List En) : ∀ u ∈ es.flatMap enV, u.oneCell' = true := by
  intro u hu
  obtain ⟨e, _, he⟩ := List.mem_flatMap.1 hu
  unfold enV slv' at he
  simp at he
  rcases he with rfl | rfl | rfl | rfl <;> rfl
theorem i64_ones (l : List Nat) : ∀ u ∈ i64s l, u.oneCell' = true := by
  intro u hu
  obtain ⟨n, _, rfl⟩ := List.mem_map.1 hu
  rfl
theorem ents_len (es : List En) : (es.flatMap enV).length = es.length * 4 := flatK_len enV_len es
theorem ents_app (a b : List En) : (a ++ b).flatMap enV = a.flatMap enV ++ b.flatMap enV := List.flatMap_append
theorem ents_tk (es : List En) (n : Nat) : (es.take n).flatMap enV = (es.flatMap enV).take (n * 4) := by
  induction es generalizing n with
  | nil => simp
  | cons e es ih =>
    cases n with
    | zero => simp
    | succ n =>
      rw [List.take_succ_cons, List.flatMap_cons, List.flatMap_cons, ih, List.take_append]
      have : (enV e).length = 4 := rfl
      rw [this, List.take_of_length_le (l := enV e) (by rw [this]; omega), show (n + 1) * 4 - 4 = n * 4 by omega]
theorem ents_dp (es : List En) (n : Nat) : (es.drop n).flatMap enV = (es.flatMap enV).drop (n * 4) := by
  induction es generalizing n with
  | nil => simp
  | cons e es ih =>
    cases n with
    | zero => simp
    | succ n =>
      rw [List.drop_succ_cons, List.flatMap_cons, ih, List.drop_append]
      have : (enV e).length = 4 := rfl
      rw [this, List.drop_of_length_le (l := enV e) (by rw [this]; omega), show (n + 1) * 4 - 4 = n * 4 by omega, List.nil_append]
/-- What stands ahead: how many. -/
def atN (e : Ent) (L : List Ent) : Nat := (L.takeWhile fun x => lessE x e).length
theorem at_le (e : Ent) (L : List Ent) : atN e L ≤ L.length := by unfold atN; exact (List.takeWhile_sublist _).length_le
theorem at_low {e : Ent} {L : List Ent} {k : Nat} (hk : k < L.length) (h : k < atN e L) : lessE L[k] e = true := by
  have h1 : (L.takeWhile fun x => lessE x e)[k]'h ∈ L.takeWhile fun x => lessE x e := List.getElem_mem _
  have h2 := tw_mem h1
  have h3 : L[k] = (L.takeWhile fun x => lessE x e)[k]'h := by
    have e0 := split_at (fun x => lessE x e) L
    have h4 : L[k]? = (L.takeWhile fun x => lessE x e)[k]? := by
      conv => lhs; rw [e0]
      rw [List.getElem?_append_left h]
    rw [List.getElem?_eq_getElem hk, List.getElem?_eq_getElem h] at h4
    exact Option.some.inj h4
  rw [h3]
  exact h2
theorem at_here {e : Ent} {L : List Ent} {k : Nat} (hk : k < L.length) (hlow : ∀ i (h : i < L.length), i < k → lessE L[i] e = true) (h : lessE L[k] e = false) : k = atN e L := by
  rcases Nat.lt_trichotomy k (atN e L) with q | q | q
  · rw [at_low hk q] at h; cases h
  · exact q
  · have hl : atN e L < L.length := by omega
    have e0 := split_at (fun x => lessE x e) L
    cases hd : L.dropWhile (fun x => lessE x e) with
    | nil =>
      rw [hd, List.append_nil] at e0
      have := congrArg List.length e0
      unfold atN at hl
      omega
    | cons x s =>
      have h2 : L[atN e L]? = some x := by
        obtain ⟨q', hq'⟩ : ∃ q', q' = atN e L := ⟨_, rfl⟩
        rw [← hq']
        have hq2 : (L.takeWhile fun x => lessE x e).length = q' := hq'.symm
        conv => lhs; rw [e0, hd]
        rw [List.getElem?_append_right (by omega), hq2]
        simp
      rw [List.getElem?_eq_getElem hl] at h2
      have h2 := Option.some.inj h2
      have h3 := List.head?_dropWhile_not (fun x => lessE x e) L
      rw [hd] at h3
      simp at h3
      have h4 := hlow _ hl q
      rw [h2, h3] at h4
      cases h4
theorem at_end {e : Ent} {L : List Ent} (hlow : ∀ i (h : i < L.length), lessE L[i] e = true) : L.length = atN e L := by
  have h := at_le e L
  rcases Nat.eq_or_lt_of_le h with q | q
  · exact q.symm
  · have e0 := split_at (fun x => lessE x e) L
    cases hd : L.dropWhile (fun x => lessE x e) with
    | nil => rw [hd, List.append_nil] at e0; have := congrArg List.length e0; unfold atN; omega
    | cons x s =>
      have hx : x ∈ L := by rw [e0, hd]; simp
      obtain ⟨i, hi, rfl⟩ := List.mem_iff_getElem.1 hx
      have h3 := List.head?_dropWhile_not (fun x => lessE x e) L
      rw [hd] at h3
      simp at h3
      rw [hlow i hi] at h3
      cases h3
/-- The row and the place. -/
theorem take_at (e : Ent) (L : List Pr) : L.takeWhile (fun p => lessE p.1 e) = L.take (atN e (L.map (·.1))) ∧ L.dropWhile (fun p => lessE p.1 e) = L.drop (atN e (L.map (·.1))) := by
  induction L with
  | nil => exact ⟨rfl, rfl⟩
  | cons p L ih =>
    unfold atN
    rw [List.map_cons, List.takeWhile_cons, List.dropWhile_cons, List.takeWhile_cons]
    cases h : lessE p.1 e with
    | true => simp only [if_true, List.length_cons, List.take_succ_cons, List.drop_succ_cons]; exact ⟨congrArg _ ih.1, ih.2⟩
    | false => simp
def absR (es : List En) (hs : List Nat) : List Pr := (es.map En.ent).zip hs
theorem absR_fst {es : List En} {hs : List Nat} (h : es.length = hs.length) : (absR es hs).map (·.1) = es.map En.ent := by
  unfold absR
  exact List.map_fst_zip (by simpa using Nat.le_of_eq h)
theorem absR_ins {es : List En} {hs : List Nat} {n : En} {e : Ent} {h : Nat} (hl : es.length = hs.length) (hn : n.ent = e) (ht : twiceM e (absR es hs) = false) :
    absR (es.take (atN e (es.map En.ent)) ++ n :: es.drop (atN e (es.map En.ent))) (hs.take (atN e (es.map En.ent)) ++ h :: hs.drop (atN e (es.map En.ent))) = insM e h (absR es hs) := by
  have ha := take_at e (absR es hs)
  rw [absR_fst hl] at ha
  have hk := at_le e (es.map En.ent)
  simp only [List.length_map] at hk
  unfold insM aheadM behindM
  rw [ht, ha.1, ha.2]
  generalize atN e (es.map En.ent) = k at *
  simp only [Bool.false_eq_true, if_false]
  unfold absR
  rw [List.map_append, List.map_cons, hn, List.map_take, List.map_drop, List.zip_append (by simp; omega), List.zip_cons_cons]
  congr 1
  · simp only [List.zip, List.take_zipWith]
  · simp only [List.zip, List.drop_zipWith]
end Go.Proofs.Ytaoenbjfkahdjaa
namespace Go.Proofs.Ytaoenbjfkahdjaa
open Go.RowKit
set_option linter.unusedVariables false
set_option maxRecDepth 100000

/-- What this row lies in is newer than that world. -/
def Fresh (wb : World) (v : Value) : Prop := ∀ b, v.ownBlock = some b → wb.heap.size ≤ b
theorem fresh_nil (wb : World) : Fresh wb (.slice none 0 0) := fun b h => by simp [Value.ownBlock] at h
section
variable {P : Program} {w0 w wb : World} {F : SP} {ops : Array Oper} {o : Oper} {a : Act}
theorem run_appF (t ty e : TypeId) (i : TypeInfo) (z : Value) (size bytes : Nat) (ht : P.underlying t = some (.slice e)) (hi : P.info? e = some i) (hz : i.zero = some z)
    (hsize : i.size = size) (hby : i.bytes = bytes) (hzs : z.cells.size = size) (hsz : 0 < size)
    (v : Value) (n : Nat) (xs : List Value) (hS : Sat w0 (Row e size v n xs * F) w) (hb : Chg No wb w) (hf : Fresh wb v)
    (A : Option Addr) (m c : Nat) (news : List Value) (hr : RdV w A news) (hm : news.length = m * size) (h1 : ∀ u ∈ news, u.oneCell' = true)
    (h63 : n + m ≤ maxLen) (hbytes : (n + m) * bytes ≤ 140737488355328) :
    ∃ A' c' w', (Builtin.append_ #[t, t] ty #[v, .slice A m c]).run P w = .ok (.slice A' (n + m) c') w' ∧ Sat w0 (Row e size (.slice A' (n + m) c') (n + m) (xs ++ news) * F) w' ∧ Chg No wb w' ∧ Fresh wb (.slice A' (n + m) c') := by
  obtain ⟨v', w', hrun, h2⟩ := run_app (P := P) w0.heap.size t ty e i z size bytes ht hi hz hsize hby hzs hsz v n xs hS.row_own A m c news hr hm h1 h63 hbytes hS.size
  have h3 := hS.appd h2
  obtain ⟨A', c', rfl, _⟩ := h3.row_sl
  refine ⟨A', c', w', hrun, h3, hb.own h2.chg (fun i hi => hf i hi.symm), fun b hbb => ?_⟩
  rcases h2.at_ with q | q
  · exact hf b (by rw [← q]; exact hbb)
  · rw [hbb] at q
    injection q with q
    have := hb.size
    omega
theorem step_appF {K : Act → World → Prop} {Q : Exit → Act → World → Prop} {E : Prop} (hgd : o.guard = none) (s x : Operand) (t : TypeId)
    (ho : o.op = .call { callee := .builtin .append, args := #[s, x], argTypes := #[t, t] })
    (e : TypeId) (i : TypeInfo) (z : Value) (size bytes : Nat) (ht : P.underlying t = some (.slice e)) (hi : P.info? e = some i) (hz : i.zero = some z)
    (hsize : i.size = size) (hby : i.bytes = bytes) (hzs : z.cells.size = size) (hsz : 0 < size)
    (v : Value) (n : Nat) (xs : List Value) (hs : a.eval s = v) (w0 : World) (F : SP) (hS : Sat w0 (Row e size v n xs * F) w) (wb : World) (hb : Chg No wb w) (hf : Fresh wb v)
    (A : Option Addr) (m c : Nat) (news : List Value) (hx : a.eval x = .slice A m c) (hr : RdV w A news) (hm : news.length = m * size) (h1 : ∀ u ∈ news, u.oneCell' = true)
    (h63 : n + m ≤ maxLen) (hbytes : (n + m) * bytes ≤ 140737488355328)
    (h : ∀ A' c' w', Sat w0 (Row e size (.slice A' (n + m) c') (n + m) (xs ++ news) * F) w' → Chg No wb w' → Fresh wb (.slice A' (n + m) c') → K (a.put o.dst (.slice A' (n + m) c')) w') :
    if Region.wanted o (yielded ops a.tmps) = true then Oper.wp P o a w K Q else E := by
  have hw : Region.wanted o (yielded ops a.tmps) = true := by simp [Region.wanted, hgd]
  rw [if_pos hw]
  obtain ⟨A', c', w', hrun, h2, h3, h4⟩ := run_appF (P := P) t o.type e i z size bytes ht hi hz hsize hby hzs hsz v n xs hS hb hf A m c news hr hm h1 h63 hbytes
  unfold Oper.wp execOp
  simp only [ho, resolve, invoke, builtin, Sem.run_bind, Sem.run_pure, Result.andThen_ok, List.map_toArray, List.map_cons, List.map_nil, hs, hx, hrun]
  exact h _ _ _ h2 h3 h4
end
end Go.Proofs.Ytaoenbjfkahdjaa
