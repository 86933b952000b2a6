/- mem's copied. -/
import Derived.Test.YtlcifkkgekpicaaSkip2
namespace Go.Proofs.Ytlcifkkgekpicaa
open Go.RowKit
set_option linter.unusedVariables false

section
variable {w0 w w' : World} {F : SP}
/-- slices.Clone, with what else is held. -/
theorem cloneS (S : Option Addr) (n : Nat) (l : List UInt8) (h : Sat w0 F w) (hr : Rd w S l) (hl : l.length ≤ 140737488355328) :
    Calls Try.prog 51 #[.slice S l.length n] w fun e w' => ∃ A c, e = .returned (.slice A l.length c) ∧ Chg No w w' ∧ Sat w0 (Row 5 1 (.slice A l.length c) l.length (l.map bv) * F) w' := by
  refine (clone_any S n l w hr hl).mono ?_
  rintro e w' ⟨v, rfl, h1, h2, h3⟩
  have h4 := h.gotRow h3 h1
  obtain ⟨A, c, rfl, _⟩ := h4.row_sl
  exact ⟨A, c, rfl, h3, h4⟩
end
/-- All of it is one's own. -/
def Owned (A : SP) : Prop := ∀ h, A h → ∀ k x, h k = some x → x.1 = false
theorem owned_emp : Owned Emp := fun h e k x hx => by unfold Emp at e; rw [e] at hx; cases hx
theorem owned_ow (b : Nat) (o : Obj) : Owned (Ow b o) := fun h e k x hx => by
  unfold Ow at e
  rw [e] at hx
  unfold one1 at hx
  split at hx
  · injection hx with hx; subst hx; rfl
  · cases hx
theorem owned_row (e : TypeId) (size : Nat) (v : Value) (n : Nat) (xs : List Value) : Owned (Row e size v n xs) := fun h he k x hx => by
  rcases he.2 with ⟨_, _, h1⟩ | ⟨g, cap, cur, _, _, _, _, _, h1⟩
  · exact owned_emp h h1 k x hx
  · exact owned_ow _ _ h h1 k x hx
theorem owned_star {A B : SP} (ha : Owned A) (hb : Owned B) : Owned (A * B) := fun h ⟨a, b, h1, h2, h3, h4⟩ k x hx => by
  rw [h2] at hx
  unfold Hp.un jn at hx
  cases hk : a k with
  | none => rw [hk] at hx; exact hb b h4 k x hx
  | some y => rw [hk] at hx; injection hx with hx; subst hx; exact ha a h3 k _ hk
/-- What a call has made, beside what was held. -/
theorem Sat.join {w0 w w' : World} {A F : SP} (h : Sat w0 F w) (k : Sat w A w') (hA : Owned A) : Sat w0 (A * F) w' := by
  obtain ⟨x, h1, h2⟩ := h.hp
  obtain ⟨y, k1, k2⟩ := k.hp
  have hs := h.size
  have hd : ∀ b u v, x b = some u → y b = some v → False := fun b u v hu hv => by
    have e1 := lt_of_block (h1 b u hu).1
    have e2 := (k1 b v hv).2 (hA y k2 b v hv)
    omega
  refine ⟨h.chg.tr k.chg, y.un x, fun b u hu => ?_, y, x, fun b => ?_, rfl, k2, h2⟩
  · unfold Hp.un jn at hu
    cases hk : y b with
    | none =>
      rw [hk] at hu
      have := h1 b u hu
      exact ⟨by rw [k.chg.block b (lt_of_block this.1) id]; exact this.1, this.2⟩
    | some v =>
      rw [hk] at hu; injection hu with hu; subst hu
      have := k1 b v hk
      exact ⟨this.1, fun e => Nat.le_trans hs (this.2 e)⟩
  · cases hy : y b with
    | none => exact .inl rfl
    | some v =>
      cases hx : x b with
      | none => exact .inr (.inl rfl)
      | some u => exact (hd b u v hx hy).elim
def CopiedS (w0 : World) (F : SP) (e : En) (x : Ending) (w' : World) : Prop := ∃ A c B d, x = .returned (enA ⟨(A, c, e.key.2.2), (B, d, e.value.2.2), e.seq, e.dead⟩) ∧
  Sat w0 (Row 5 1 (.slice A e.key.2.2.length c) e.key.2.2.length (e.key.2.2.map bv) * (Row 5 1 (.slice B e.value.2.2.length d) e.value.2.2.length (e.value.2.2.map bv) * F)) w'
set_option maxHeartbeats 1000000 in
theorem copied0 (e : En) (w : World) (hr : EnR w e) (hk : e.key.2.2.length ≤ 140737488355328) (hv : e.value.2.2.length ≤ 140737488355328) :
    Calls Try.prog 37 #[enA e] w (CopiedS w Emp e) := by
  have h := Sat.start w
  obtain ⟨⟨kA, kc, k⟩, ⟨vA, vc, v⟩, seq, dead⟩ := e
  have HRk : Hid (Rd w kA k) := hr.1
  have HRv : Hid (Rd w vA v) := hr.2
  have hk' : k.length ≤ 140737488355328 := hk
  have hv' : v.length ≤ 140737488355328 := hv
  have h1 := h.allocAt (b := w.heap.size) 24 #[.slice kA k.length kc, .slice vA v.length vc, .int .i64 seq, .bool dead] rfl
  have h2 := h1.allocAt (b := w.heap.size + 1) 24 #[.slice none 0 0, .slice none 0 0, .int .i64 0, .bool false] (by simp)
  have hc2 : Chg No w _ := ((Chg.refl No w).alloc (.cells #[.slice kA k.length kc, .slice vA v.length vc, .int .i64 seq, .bool dead] 24)).alloc (.cells #[.slice none 0 0, .slice none 0 0, .int .i64 0, .bool false] 24)
  clear hr h h1
  unfold enA
  go_enter Try.func37, Try.ntmps37
  go_wp2_with fail
  revert h2 hc2
  generalize (w.alloc _).alloc _ = W
  intro h2 hc2
  generalize w.heap.size + 1 = B at *
  generalize w.heap.size = E at *
  have c0 := h2.up2.cell 0; have c1 := h2.up2.cell 1; have c2 := h2.up2.cell 2; have c3 := h2.up2.cell 3
  have HS0 := Lib.hid h2
  have HC0 := Lib.hid hc2
  clear h2 hc2
  go_region_law (first
    | (go_simp; go_at_call 51; (with_reducible refine (cloneS kA kc k HS0.out.drew (HRk.out.new HC0.out.drew) hk').mono ?_); rintro x w1 ⟨A, c, rfl, k1, hs1⟩; have HS1 := Lib.hid hs1; have HC1 := Lib.hid (HC0.out.drew.tr k1); have c0 := hs1.up3.cell 0; have c1 := hs1.up3.cell 1; have c2 := hs1.up3.cell 2; have c3 := hs1.up3.cell 3; clear hs1 k1)
    | (go_simp; go_at_call 51; (with_reducible refine (cloneS vA vc v HS1.out (HRv.out.new HC1.out) hv').mono ?_); rintro x w2 ⟨B2, d, rfl, k2, hs2⟩; have HS2 := Lib.hid hs2; have HC2 := Lib.hid (HC1.out.tr k2); have c0 := hs2.up4.cell 0; have c1 := hs2.up4.cell 1; have c2 := hs2.up4.cell 2; have c3 := hs2.up4.cell 3; have f0 := hs2.up4.frozen 0; have f1 := hs2.up4.frozen 1; clear hs2 k2))
  all_goals
    have h5 := (HS2.out.up4.set 0 (.slice A k.length c)).set 1 (.slice B2 v.length d)
    clear f0 f1 c0 c1 c2 c3
    revert h5
    generalize World.setCell _ _ _ = w3
    intro h5
    have c0 := h5.cell 0; have c1 := h5.cell 1; have c2 := h5.cell 2; have c3 := h5.cell 3
    have d0 := h5.up4.cell 0; have d1 := h5.up4.cell 1; have d2 := h5.up4.cell 2; have d3 := h5.up4.cell 3
    have f0 := h5.up4.frozen 0; have f1 := h5.up4.frozen 1; have f2 := h5.up4.frozen 2; have f3 := h5.up4.frozen 3
    have h6 := (((h5.up4.set 0 (.slice A k.length c)).set 1 (.slice B2 v.length d)).set 2 (.int .i64 seq)).set 3 (.bool dead)
    go_wp2_with fail
    revert h6
    generalize World.setCell _ _ _ = w4
    intro h6
    refine bodyPost_ret (results_cell_row (p := 2) (by kernel_rfl) _ _ B 24 _ (0, 0) _ rfl h6.at Try.underlying24 rfl (by kernel_rfl)) rfl ?_
    exact ⟨A, c, B2, d, rfl, h6.right.right.up2⟩
theorem copied_any (e : En) (w0 w : World) (F : SP) (h : Sat w0 F w) (hr : EnR w e) (hk : e.key.2.2.length ≤ 140737488355328) (hv : e.value.2.2.length ≤ 140737488355328) :
    Calls Try.prog 37 #[enA e] w fun x w' => CopiedS w0 F e x w' ∧ Chg No w w' := by
  refine (copied0 e w hr hk hv).mono ?_
  rintro x w' ⟨A, c, B, d, rfl, hs⟩
  exact ⟨⟨A, c, B, d, rfl, (h.join hs (owned_star (owned_row _ _ _ _ _) (owned_star (owned_row _ _ _ _ _) owned_emp))).of (by rw [star_assoc, star_assoc, emp_star])⟩, hs.chg⟩
end Go.Proofs.Ytlcifkkgekpicaa
