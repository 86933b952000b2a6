/- Joined, as they were built one by one: TabCopied TabGet TabGet2 TabRange. -/
import Derived.Test.YtaoenbjfkahdjaaQ04
import Derived.Test.YtaoenbjfkahdjaaQ05
import Derived.Test.YtaoenbjfkahdjaaQ13
import Derived.Test.YtaoenbjfkahdjaaQ15
namespace Go.Proofs.Ytaoenbjfkahdjaa
open Go.RowKit
set_option linter.unusedVariables false
set_option maxRecDepth 100000

set_option maxHeartbeats 1000000 in
theorem tcopied0 (e : En) (w : World) (hr : EnR w e) (hk : e.key.2.2.length ≤ 140737488355328) (hv : e.value.2.2.length ≤ 140737488355328) :
    Calls Try.prog 66 #[enA e] w (CopiedS w Emp e) := by
  have h := Sat.start w
  obtain ⟨⟨kA, kc, k⟩, ⟨vA, vc, v⟩, seq, dead⟩ := e
  have HRk : Hid (Rd w kA k) := hr.1
  have HRv : Hid (Rd w vA v) := hr.2
  have hk' : k.length ≤ 140737488355328 := hk
  have hv' : v.length ≤ 140737488355328 := hv
  have h1 := h.allocAt (b := w.heap.size) 34 #[.slice kA k.length kc, .slice vA v.length vc, .int .i64 seq, .bool dead] rfl
  have h2 := h1.allocAt (b := w.heap.size + 1) 34 #[.slice none 0 0, .slice none 0 0, .int .i64 0, .bool false] (by simp)
  have hc2 : Chg No w _ := ((Chg.refl No w).alloc (.cells #[.slice kA k.length kc, .slice vA v.length vc, .int .i64 seq, .bool dead] 34)).alloc (.cells #[.slice none 0 0, .slice none 0 0, .int .i64 0, .bool false] 34)
  clear hr h h1
  unfold enA
  go_enter Try.func66, Try.ntmps66
  go_wp2_with fail
  revert h2 hc2
  generalize (w.alloc _).alloc _ = W
  intro h2 hc2
  generalize w.heap.size + 1 = B at *
  generalize w.heap.size = E at *
  have c0 := h2.up2.cell 0; have c1 := h2.up2.cell 1; have c2 := h2.up2.cell 2; have c3 := h2.up2.cell 3
  have HS0 := Lib.hid h2
  have HC0 := Lib.hid hc2
  clear h2 hc2
  go_region_law (first
    | (go_simp; go_at_call 87; (with_reducible refine (cloneS kA kc k HS0.out.drew (HRk.out.new HC0.out.drew) hk').mono ?_); rintro x w1 ⟨A, c, rfl, k1, hs1⟩; have HS1 := Lib.hid hs1; have HC1 := Lib.hid (HC0.out.drew.tr k1); have c0 := hs1.up3.cell 0; have c1 := hs1.up3.cell 1; have c2 := hs1.up3.cell 2; have c3 := hs1.up3.cell 3; clear hs1 k1)
    | (go_simp; go_at_call 87; (with_reducible refine (cloneS vA vc v HS1.out (HRv.out.new HC1.out) hv').mono ?_); rintro x w2 ⟨B2, d, rfl, k2, hs2⟩; have HS2 := Lib.hid hs2; have HC2 := Lib.hid (HC1.out.tr k2); have c0 := hs2.up4.cell 0; have c1 := hs2.up4.cell 1; have c2 := hs2.up4.cell 2; have c3 := hs2.up4.cell 3; have f0 := hs2.up4.frozen 0; have f1 := hs2.up4.frozen 1; clear hs2 k2))
  all_goals
    have h5 := (HS2.out.up4.set 0 (.slice A k.length c)).set 1 (.slice B2 v.length d)
    clear f0 f1 c0 c1 c2 c3
    revert h5
    generalize World.setCell _ _ _ = w3
    intro h5
    have c0 := h5.cell 0; have c1 := h5.cell 1; have c2 := h5.cell 2; have c3 := h5.cell 3
    have d0 := h5.up4.cell 0; have d1 := h5.up4.cell 1; have d2 := h5.up4.cell 2; have d3 := h5.up4.cell 3
    have f0 := h5.up4.frozen 0; have f1 := h5.up4.frozen 1; have f2 := h5.up4.frozen 2; have f3 := h5.up4.frozen 3
    have h6 := (((h5.up4.set 0 (.slice A k.length c)).set 1 (.slice B2 v.length d)).set 2 (.int .i64 seq)).set 3 (.bool dead)
    go_wp2_with fail
    revert h6
    generalize World.setCell _ _ _ = w4
    intro h6
    refine bodyPost_ret (results_cell_row (p := 2) (by kernel_rfl) _ _ B 34 _ (0, 0) _ rfl h6.at Try.underlying34 rfl (by kernel_rfl)) rfl ?_
    exact ⟨A, c, B2, d, rfl, h6.right.right.up2⟩
theorem tcopied_any (e : En) (w0 w : World) (F : SP) (h : Sat w0 F w) (hr : EnR w e) (hk : e.key.2.2.length ≤ 140737488355328) (hv : e.value.2.2.length ≤ 140737488355328) :
    Calls Try.prog 66 #[enA e] w fun x w' => CopiedS w0 F e x w' ∧ Chg No w w' := by
  refine (tcopied0 e w hr hk hv).mono ?_
  rintro x w' ⟨A, c, B, d, rfl, hs⟩
  exact ⟨⟨A, c, B, d, rfl, (h.join hs (owned_star (owned_row _ _ _ _ _) (owned_star (owned_row _ _ _ _ _) owned_emp))).of (by rw [star_assoc, star_assoc, emp_star])⟩, hs.chg⟩
end Go.Proofs.Ytaoenbjfkahdjaa
namespace Go.Proofs.Ytaoenbjfkahdjaa
open Go.RowKit
set_option linter.unusedVariables false
set_option maxRecDepth 100000

/-- An entry in a box. -/
def BoxE (w : World) (b : Nat) (e : En) : Prop := w.cell? ⟨b, 0, none⟩ = some (.slice e.key.1 e.key.2.2.length e.key.2.1) ∧ w.cell? ⟨b, 1, none⟩ = some (.slice e.value.1 e.value.2.2.length e.value.2.1) ∧ w.cell? ⟨b, 2, none⟩ = some (.int .i64 e.seq) ∧ w.cell? ⟨b, 3, none⟩ = some (.bool e.dead)
theorem BoxE.new {w w' : World} {b : Nat} {e : En} (h : BoxE w b e) (k : Chg No w w') : BoxE w' b e := ⟨k.cell h.1 id, k.cell h.2.1 id, k.cell h.2.2.1 id, k.cell h.2.2.2 id⟩
set_option maxHeartbeats 2000000 in
theorem from1_any (bt be T : Nat) (es : List En) (e : En) (i : Nat) (w : World) (h : TabR w T es) (hb : w.cell? ⟨bt, 0, none⟩ = some (.pointer (some ⟨T, 0, none⟩))) (he : BoxE w be e) (hr : EnR w e) (hi : i < es.length) :
    Calls Try.prog 96 #[.int .i64 (i : Int), .pointer (some ⟨bt, 0, none⟩), .pointer (some ⟨be, 0, none⟩)] w fun x w' => x = .returned (.bool (!lessE es[i].ent e.ent)) ∧ Chg No w w' := by
  obtain ⟨A, c, g, hh, n, a1, _, a3, a4, a5, _⟩ := h.box
  obtain ⟨lb, lo, rfl, hq⟩ := ents_at a3 (by omega)
  obtain ⟨y0, y1, y2, y3⟩ := hq i hi
  unfold slv' at y0 y1
  obtain ⟨e0, e1, e2, e3⟩ := he
  have HE := Lib.hid (h.rd _ (List.getElem_mem hi))
  have HR := Lib.hid hr
  have hii : (i : Int) < es.length := by omega
  obtain ⟨Z, hZ⟩ : ∃ Z, lessE es[i].ent e.ent = Z := ⟨_, rfl⟩
  have HZ := Lib.hid hZ
  rw [hZ]
  have S0 : w.cell? ⟨bt, 0, none⟩ = some (.pointer (some ⟨T, 0, none⟩)) ∧ w.cell? ⟨T, 0, none⟩ = some (.slice (some ⟨lb, lo, none⟩) es.length c) ∧ w.cell? ⟨lb, lo + i * 4, none⟩ = some (.slice es[i].key.1 es[i].key.2.2.length es[i].key.2.1) ∧ w.cell? ⟨lb, lo + i * 4 + 1, none⟩ = some (.slice es[i].value.1 es[i].value.2.2.length es[i].value.2.1) ∧ w.cell? ⟨lb, lo + i * 4 + 2, none⟩ = some (.int .i64 es[i].seq) ∧ w.cell? ⟨lb, lo + i * 4 + 3, none⟩ = some (.bool es[i].dead) ∧ BoxE w be e := ⟨hb, a1, y0, y1, y2, y3, e0, e1, e2, e3⟩
  have HS := Lib.hid S0
  clear h hb hr hq a3 hZ S0 a1 y0 y1 y2 y3 e0 e1 e2 e3
  go_enter Try.func96, Try.ntmps96
  go_upto_region 1 with fail
  refine wp_region_held_drew (S := fun w' => w'.cell? ⟨bt, 0, none⟩ = some (.pointer (some ⟨T, 0, none⟩)) ∧ w'.cell? ⟨T, 0, none⟩ = some (.slice (some ⟨lb, lo, none⟩) es.length c) ∧ w'.cell? ⟨lb, lo + i * 4, none⟩ = some (.slice es[i].key.1 es[i].key.2.2.length es[i].key.2.1) ∧ w'.cell? ⟨lb, lo + i * 4 + 1, none⟩ = some (.slice es[i].value.1 es[i].value.2.2.length es[i].value.2.1) ∧ w'.cell? ⟨lb, lo + i * 4 + 2, none⟩ = some (.int .i64 es[i].seq) ∧ w'.cell? ⟨lb, lo + i * 4 + 3, none⟩ = some (.bool es[i].dead) ∧ w'.cell? ⟨be, 0, none⟩ = some (.slice e.key.1 e.key.2.2.length e.key.2.1) ∧ w'.cell? ⟨be, 1, none⟩ = some (.slice e.value.1 e.value.2.2.length e.value.2.1) ∧ w'.cell? ⟨be, 2, none⟩ = some (.int .i64 e.seq) ∧ w'.cell? ⟨be, 3, none⟩ = some (.bool e.dead)) (by kernel_rfl) HS.out ?_
  intro hS0
  refine rgn_take (i := 0) (v := ?rv1) rfl (by kernel_rfl) (by kernel_rfl) (by kernel_rfl) (fun _ _ _ h => h) (by rfl) ?rh1 (by assumption) ?rr1
  case rh1 => (intro w hSw; (try dsimp only at hSw); go_simp; try with_reducible rfl)
  simp only [Act.put, List.setIfInBounds_toArray, List.set_cons_zero, List.set_cons_succ]
  refine rgn_take (i := 1) (v := ?rv2) rfl (by kernel_rfl) (by kernel_rfl) (by kernel_rfl) (fun _ _ _ h => h) (by rfl) ?rh2 (by assumption) ?rr2
  case rh2 => (intro w hSw; (try dsimp only at hSw); go_simp; try with_reducible rfl)
  simp only [Act.put, List.setIfInBounds_toArray, List.set_cons_zero, List.set_cons_succ]
  refine rgn_take (i := 2) (v := ?rv3) rfl (by kernel_rfl) (by kernel_rfl) (by kernel_rfl) (fun _ _ _ h => h) (by rfl) ?rh3 (by assumption) ?rr3
  case rh3 => (intro w hSw; (try dsimp only at hSw); go_simp; try with_reducible rfl)
  simp only [Act.put, List.setIfInBounds_toArray, List.set_cons_zero, List.set_cons_succ]
  refine rgn_take (i := 3) (v := ?rv4) rfl (by kernel_rfl) (by kernel_rfl) (by kernel_rfl) (fun _ _ _ h => h) (by rfl) ?rh4 (by assumption) ?rr4
  case rh4 => (intro w hSw; (try dsimp only at hSw); go_simp; try with_reducible rfl)
  simp only [Act.put, List.setIfInBounds_toArray, List.set_cons_zero, List.set_cons_succ]
  refine rgn_take (i := 4) (v := ?rv5) rfl (by kernel_rfl) (by kernel_rfl) (by kernel_rfl) (fun _ _ _ h => h) (by rfl) ?rh5 (by assumption) ?rr5
  case rh5 => (intro w hSw; (try dsimp only at hSw); go_simp; try with_reducible rfl)
  simp only [Act.put, List.setIfInBounds_toArray, List.set_cons_zero, List.set_cons_succ]
  refine rgn_take (i := 5) (v := ?rv6) rfl (by kernel_rfl) (by kernel_rfl) (by kernel_rfl) (fun _ _ _ h => h) (by rfl) ?rh6 (by assumption) ?rr6
  case rh6 => (intro w hSw; (try dsimp only at hSw); go_simp; try with_reducible rfl)
  simp only [Act.put, List.setIfInBounds_toArray, List.set_cons_zero, List.set_cons_succ]
  refine rgn_take (i := 6) (v := ?rv7) rfl (by kernel_rfl) (by kernel_rfl) (by kernel_rfl) (fun _ _ _ h => h) (by rfl) ?rh7 (by assumption) ?rr7
  case rh7 => (intro w hSw; (try dsimp only at hSw); go_simp; try with_reducible rfl)
  simp only [Act.put, List.setIfInBounds_toArray, List.set_cons_zero, List.set_cons_succ]
  refine rgn_take (i := 7) (v := ?rv8) rfl (by kernel_rfl) (by kernel_rfl) (by kernel_rfl) (fun _ _ _ h => h) (by rfl) ?rh8 (by assumption) ?rr8
  case rh8 => (intro w hSw; (try dsimp only at hSw); go_simp; try with_reducible rfl)
  simp only [Act.put, List.setIfInBounds_toArray, List.set_cons_zero, List.set_cons_succ]
  refine rgn_call (i := 8) rfl (by kernel_rfl) (fun K hK => ?_)
  go_simp
  go_at_call 69; refine (less_any es[i] e _ ⟨HE.out.1.new (Chg.refl No w).drew, HE.out.2.new (Chg.refl No w).drew⟩ ⟨HR.out.1.new (Chg.refl No w).drew, HR.out.2.new (Chg.refl No w).drew⟩).mono ?_; rintro x w1 ⟨rfl, k1⟩; rw [HZ.out]; have HK := Lib.hid ((Chg.refl No w).drew.tr k1); clear k1
  refine hK.out _ _ ⟨HK.out.cell HS.out.1 id, HK.out.cell HS.out.2.1 id, HK.out.cell HS.out.2.2.1 id, HK.out.cell HS.out.2.2.2.1 id, HK.out.cell HS.out.2.2.2.2.1 id, HK.out.cell HS.out.2.2.2.2.2.1 id, (BoxE.new HS.out.2.2.2.2.2.2 HK.out)⟩ (fun hS0 => ?_)
  clear hK K
  refine rgn_take (i := 9) (v := ?rv10) rfl (by kernel_rfl) (by kernel_rfl) (by kernel_rfl) (fun _ _ _ h => h) (by rfl) ?rh10 (by assumption) ?rr10
  case rh10 => (intro w hSw; (try dsimp only at hSw); go_simp; try with_reducible rfl)
  simp only [Act.put, List.setIfInBounds_toArray, List.set_cons_zero, List.set_cons_succ]
  refine rgn_take (i := 10) (v := ?rv11) rfl (by kernel_rfl) (by kernel_rfl) (by kernel_rfl) (fun _ _ _ h => h) (by rfl) ?rh11 (by assumption) ?rr11
  case rh11 => (intro w hSw; (try dsimp only at hSw); go_simp; try with_reducible rfl)
  simp only [Act.put, List.setIfInBounds_toArray, List.set_cons_zero, List.set_cons_succ]
  refine wpAnyH_done (by kernel_rfl) ?_ _
  go_wp2_with fail
  go_ret
  exact ⟨rfl, HK.out⟩

/-- The first place whose entry does not stand ahead. -/
def FirstAt (es : List En) (e : En) (k : Nat) : Prop := k ≤ es.length ∧ (∀ (j : Nat) (h : j < es.length), j < k → lessE es[j].ent e.ent = true) ∧ (∀ h : k < es.length, lessE es[k].ent e.ent = false)
/-- What stands on both sides of the search. -/
structure SrAt (w : World) (es : List En) (e : En) (i j : Nat) (wr : World) : Prop where
  lo : ∀ (m : Nat) (h : m < es.length), m < i → lessE es[m].ent e.ent = true
  hi : ∀ (m : Nat) (h : m < es.length), j ≤ m → lessE es[m].ent e.ent = false
  chg : Chg No w wr
set_option maxHeartbeats 2000000 in
theorem search_any (bt be T : Nat) (es : List En) (e : En) (w : World) (h : TabR w T es) (hb : w.cell? ⟨bt, 0, none⟩ = some (.pointer (some ⟨T, 0, none⟩))) (he : BoxE w be e) (hr : EnR w e) (hn : es.length ≤ 65536)
    (hmono : ∀ (a b : Nat) (ha : a < es.length) (hb : b < es.length), a ≤ b → lessE es[b].ent e.ent = true → lessE es[a].ent e.ent = true) :
    Calls Try.prog 95 #[.int .i64 (es.length : Int), .func (.func 96) #[] #[.pointer (some ⟨bt, 0, none⟩), .pointer (some ⟨be, 0, none⟩)]] w fun x w' => ∃ k : Nat, x = .returned (.int .i64 (k : Int)) ∧ FirstAt es e k ∧ Chg No w w' := by
  have HT := Lib.hid h; have HB := Lib.hid hb; have HE := Lib.hid he; have HR := Lib.hid hr; have HM := Lib.hid hmono
  clear h hb he hr hmono
  go_enter Try.func95, Try.ntmps95
  go_wp2_with fail
  go_loopw [5, 6] (fun iv jv wr => ∃ i j : Nat, i ≤ j ∧ j ≤ es.length ∧ iv = .int .i64 i ∧ jv = .int .i64 j ∧ Hid (SrAt w es e i j wr)) (fun iv jv _ => ((intOf jv) - (intOf iv)).toNat)
  case atStart => exact ⟨0, es.length, by omega, by omega, rfl, rfl, fun m _ h => by omega, fun m h h2 => by omega, Chg.refl _ _⟩
  case round =>
    obtain ⟨i, j, hij, hj, rfl, rfl, HD⟩ := hrel
    by_cases hlt : i < j
    · obtain ⟨m, hm⟩ : ∃ m, m = (i + j) / 2 := ⟨_, rfl⟩
      have hmi : i ≤ m := by omega
      have hmj : m < j := by omega
      have hml : m < es.length := by omega
      have hw1 : IntKind.u64.wrap ((i : Int) + (j : Int)) = (i : Int) + j := by rw [IntKind.wrap_u64]; omega
      have hsh : ((i : Int) + j) / 2 = m := by omega
      have hw2 : IntKind.i64.wrap (m : Int) = m := by rw [IntKind.wrap_i64]; omega
      have HMm := Lib.hid hm
      clear hm
      obtain ⟨Z, hZ⟩ : ∃ Z, lessE es[m].ent e.ent = Z := ⟨_, rfl⟩
      have HZ := Lib.hid hZ
      clear hZ
      cases Z
      all_goals
        go_wp2_with (go_at_call 96; refine (from1_any bt be T es e m _ (HT.out.new HD.out.chg) (HD.out.chg.cell HB.out id) (HE.out.new HD.out.chg) ⟨HR.out.1.new HD.out.chg, HR.out.2.new HD.out.chg⟩ hml).mono ?_; rintro x w1 ⟨rfl, k1⟩; rw [HZ.out]; have HK := Lib.hid (HD.out.chg.tr k1); clear k1)
        go_roundw
      · exact ⟨i, m, by omega, by omega, rfl, rfl, ⟨HD.out.lo, fun a ha h2 => by
          cases hq : lessE es[a].ent e.ent with
          | false => rfl
          | true => rw [HM.out m a hml ha h2 hq] at HZ; exact absurd HZ.out (by simp), HK.out⟩⟩
      · simp [intOf]; omega
      · exact ⟨m + 1, j, by omega, by omega, by push_cast; rfl, rfl, ⟨fun a ha h2 => HM.out a m ha hml (by omega) HZ.out, HD.out.hi, HK.out⟩⟩
      · simp [intOf]; omega
    · have hij2 : i = j := by omega
      subst hij2
      go_wp2_with fail
      go_ret
      exact ⟨i, rfl, ⟨hj, fun a ha h2 => HD.out.lo a ha h2, fun h => HD.out.hi i h (Nat.le_refl _)⟩, HD.out.chg⟩

theorem sorted_mono {l : List Ent} (h : sortedB l = true) (e : Ent) : ∀ (d a : Nat) (ha : a < l.length) (hb : a + d < l.length), lessE l[a + d] e = true → lessE l[a] e = true
  | 0, _, _, _, hx => hx
  | d + 1, a, ha, hb, hx => sorted_mono h e d a ha (by omega) (lte_trans ((sortedB_iff l).1 h (a + d) (by omega)) hx)
theorem buildE_sorted {L : List Ent} (h : buildE L = 0) : sortedB L = true := by
  cases hs : sortedB L with
  | true => rfl
  | false => unfold buildE at h; rw [if_pos hs] at h; cases h
theorem TabR.mono {w : World} {T : Nat} {es : List En} (h : TabR w T es) (e : Ent) (a b : Nat) (ha : a < es.length) (hb : b < es.length) (hab : a ≤ b) (hx : lessE es[b].ent e = true) : lessE es[a].ent e = true := by
  obtain ⟨d, rfl⟩ : ∃ d, b = a + d := ⟨b - a, by omega⟩
  have h1 := sorted_mono (buildE_sorted h.ok) e d a (by simpa using ha) (by simpa using hb)
  rw [List.getElem_map, List.getElem_map] at h1
  exact h1 hx
theorem TabR.few {w : World} {T : Nat} {es : List En} (h : TabR w T es) : es.length ≤ 65536 := by
  have := buildE_len h.ok
  simpa using this
theorem FirstAt.at {es : List En} {e : En} {k : Nat} (h : FirstAt es e k) : k = atN e.ent (es.map En.ent) := by
  obtain ⟨h1, h2, h3⟩ := h
  by_cases hk : k < es.length
  · refine at_here (by simpa using hk) (fun i hi hik => ?_) ?_
    · rw [List.getElem_map]; exact h2 i (by simpa using hi) hik
    · rw [List.getElem_map]; exact h3 hk
  · have hke : k = es.length := by omega
    subst hke
    have h4 := at_end (e := e.ent) (L := es.map En.ent) (fun i hi => by rw [List.getElem_map]; exact h2 i (by simpa using hi) (by simpa using hi))
    simpa using h4
set_option maxHeartbeats 1000000 in
/-- The place of the first entry that does not stand ahead. -/
theorem from_any (T : Nat) (es : List En) (e : En) (w : World) (h : TabR w T es) (hr : EnR w e) :
    Calls Try.prog 64 #[.pointer (some ⟨T, 0, none⟩), enA e] w fun x w' => x = .returned (.int .i64 (atN e.ent (es.map En.ent) : Nat)) ∧ Chg No w w' := by
  obtain ⟨w1, hw1⟩ : ∃ w1, w1 = w.alloc (.cells #[.pointer (some ⟨T, 0, none⟩)] 37) := ⟨_, rfl⟩
  have s1 : Sat w (Pt w.heap.size 37 #[.pointer (some ⟨T, 0, none⟩)] * Emp) w1 := by rw [hw1]; exact (Sat.start w).allocPt _ _
  have s2 := s1.allocPt 34 #[.slice e.key.1 e.key.2.2.length e.key.2.1, .slice e.value.1 e.value.2.2.length e.value.2.1, .int .i64 e.seq, .bool e.dead]
  have hsz : w1.heap.size = w.heap.size + 1 := by rw [hw1]; simp
  obtain ⟨A, c, g, hh, n, a1, _⟩ := h.box
  have b1 := s2.chg.cell a1 id
  have HSr := fun x : Unit => search_any w.heap.size w1.heap.size T es e _ (h.new s2.chg) (s2.up2.cell 0) ⟨s2.cell 0, s2.cell 1, s2.cell 2, s2.cell 3⟩ ⟨hr.1.new s2.chg, hr.2.new s2.chg⟩ h.few (fun a b ha hb hab hx => h.mono e.ent a b ha hb hab hx)
  have c0 := s2.up2.cell 0
  have HC := Lib.hid s2.chg
  have HK := Lib.hid HSr
  unfold enA
  clear h hr HSr s1
  rw [hsz, hw1] at HK
  rw [hw1] at b1 c0 HC
  clear hsz
  clear s2
  go_enter Try.func64, Try.ntmps64
  go_wp2_with (go_at_call 95; refine (HK.out ()).mono ?_; rintro x w3 ⟨k, rfl, hk, k3⟩; have HF := Lib.hid hk; have HC3 := Lib.hid (HC.out.tr k3); clear hk k3)
  go_ret
  exact ⟨by rw [← HF.out.at]; rfl, HC3.out⟩
end Go.Proofs.Ytaoenbjfkahdjaa
namespace Go.Proofs.Ytaoenbjfkahdjaa
open Go.RowKit
set_option linter.unusedVariables false
set_option maxRecDepth 100000

theorem tlen_any (T : Nat) (es : List En) (w : World) (h : TabR w T es) :
    Calls Try.prog 40 #[.pointer (some ⟨T, 0, none⟩)] w fun x w' => x = .returned (.int .i64 (es.length : Int)) ∧ w' = w := by
  obtain ⟨A, c, g, hh, n, a1, _⟩ := h.box
  clear h
  go_enter Try.func40, Try.ntmps40
  go_wp2_with fail
  go_ret
  exact ⟨rfl, rfl⟩
theorem tmay_any (K : Slc) (T : Nat) (es : List En) (w : World) (hk : Rd w K.1 K.2.2) (hl : K.2.2.length ≤ 140737488355328) (h : TabR w T es) :
    Calls Try.prog 34 #[.pointer (some ⟨T, 0, none⟩), .slice K.1 K.2.2.length K.2.1] w (Asked (hasKey (bitsB (es.map En.ent)) K.2.2) w) := by
  obtain ⟨A, c, g, hh, n, a1, a2, _, _, _, a6, a7⟩ := h.box
  have HF := Lib.hid a6
  have HN := Lib.hid a7
  have HK := Lib.hid hk
  clear h hk a1 a6 a7
  go_enter Try.func34, Try.ntmps34
  go_wp2_with (go_at_call 83; refine (has_any g hh n n K.2.1 _ K.2.2 K.1 w HF.out HN.out HK.out hl).mono ?_; rintro x w1 ⟨rfl, k1⟩; have HC := Lib.hid k1; clear k1)
  go_ret
  exact ⟨rfl, HC.out⟩
theorem TabR.small {w : World} {T : Nat} {es : List En} (h : TabR w T es) : ∀ e ∈ es, e.key.2.2.length ≤ 128 ∧ e.value.2.2.length ≤ 16384 := by
  intro e he
  have h1 := h.ok
  unfold buildE at h1
  split at h1
  · cases h1
  · split at h1
    · cases h1
    · rename_i h2
      cases hm : mayE e.ent with
      | true => have h3 := mayE_iff.1 hm; exact ⟨h3.1, h3.2.1⟩
      | false => exact absurd (.inr (List.any_eq_true.2 ⟨e.ent, List.mem_map_of_mem he, by rw [hm]; rfl⟩)) h2
/-- The entry that stands where the search ends. -/
theorem getL_at {key : List UInt8} {seq : Int} {L : List Ent} {k : Nat} (hk : k = atN (seekE key seq) L) : getL key seq L = match L[k]? with | some x => if x.key = key then some x else none | none => none := by
  subst hk
  unfold getL atN
  generalize hf : (fun x => lessE x (seekE key seq)) = f
  have e0 := split_at f L
  have e1 : L[(L.takeWhile f).length]? = (L.dropWhile f)[0]? := by
    conv => lhs; rw [e0]
    rw [List.getElem?_append_right (by rw [← e0]; exact Nat.le_refl _), ← e0, Nat.sub_self]
  rw [e1]
  cases L.dropWhile f <;> rfl
set_option maxHeartbeats 2000000 in
theorem tget_any (K : Slc) (seq : Int) (T : Nat) (es : List En) (w : World) (hk : Rd w K.1 K.2.2) (h : TabR w T es) :
    Calls Try.prog 33 #[.pointer (some ⟨T, 0, none⟩), .slice K.1 K.2.2.length K.2.1, .int .i64 seq] w (GotE w (getL K.2.2 seq (es.map En.ent))) := by
  have HT := Lib.hid h
  have HK := Lib.hid hk
  obtain ⟨A, c, g, hh, n, a1, _, a3, a4, a5, _⟩ := h.box
  have h1 := (Sat.start w).allocAt (b := w.heap.size) 34 #[.slice none 0 0, .slice none 0 0, .int .i64 0, .bool false] rfl
  have c1 : Chg No w (w.alloc (.cells #[.slice none 0 0, .slice none 0 0, .int .i64 0, .bool false] 34)) := (Chg.refl No w).alloc _
  have HC1 := Lib.hid c1
  have HS1 := Lib.hid h1
  have HA3 := Lib.hid a3
  have HA1 := Lib.hid a1
  obtain ⟨L, hL⟩ : ∃ L, L = es.map En.ent := ⟨_, rfl⟩
  have HL := Lib.hid hL
  obtain ⟨k, hkk⟩ : ∃ k, k = atN (seekE K.2.2 seq) L := ⟨_, rfl⟩
  have hkl : k ≤ es.length := by rw [hkk]; refine Nat.le_trans (at_le _ _) ?_; rw [hL]; simp
  have HKK := Lib.hid hkk
  rw [← hL]
  clear hk h h1 c1 a3 a1 hL hkk a4 a5
  go_enter Try.func33, Try.ntmps33
  go_upto_region 2 with (go_at_call 64; refine (from_any T es ⟨K, (none, 0, []), seq, false⟩ _ (HT.out.new HC1.out) ⟨HK.out.new HC1.out, Rd.nil _ _⟩).mono ?_; rintro x w2 ⟨rfl, k2⟩; rw [show (⟨K, (none, 0, []), seq, false⟩ : En).ent = seekE K.2.2 seq from rfl, ← HL.out, ← HKK.out]; have HK2 := Lib.hid (HC1.out.tr k2); have HS2 := Lib.hid (HS1.out.new k2); clear k2)
  generalize w.heap.size = O at *
  have hGn : Hid (getL K.2.2 seq L = match L[k]? with | some x => if x.key = K.2.2 then some x else none | none => none) := getL_at HKK.out
  have a1 := HK2.out.cell HA1.out id
  have c0 := HS2.out.cell 0; have c1 := HS2.out.cell 1; have c2 := HS2.out.cell 2; have c3 := HS2.out.cell 3; have f0 := HS2.out.frozen 0; have f1 := HS2.out.frozen 1; have f2 := HS2.out.frozen 2; have f3 := HS2.out.frozen 3
  by_cases hlt : k < es.length
  · obtain ⟨lb, lo, rfl, hq⟩ := ents_at HA3.out (by omega)
    obtain ⟨y0, y1, y2, y3⟩ := hq k hlt
    unfold slv' at y0 y1
    have z0 := HK2.out.cell y0 id; have z1 := HK2.out.cell y1 id; have z2 := HK2.out.cell y2 id; have z3 := HK2.out.cell y3 id
    have HR := Lib.hid (HT.out.rd _ (List.getElem_mem hlt))
    have HSm := HT.out.small _ (List.getElem_mem hlt)
    have hLk : Hid (L[k]? = some es[k].ent) := by unfold Hid; rw [HL.out, List.getElem?_map, List.getElem?_eq_getElem hlt]; rfl
    have hki : (k : Int) < es.length := by omega
    have hkc : ((k : Int) == es.length) = false := by simp; omega
    clear hq y0 y1 y2 y3
    by_cases hkey : es[k].key.2.2 = K.2.2
    · have HQ : Hid (getL K.2.2 seq L = some es[k].ent) := by unfold Hid; rw [hGn.out, hLk.out]; exact if_pos hkey
      have hb : Hid (decide (es[k].key.2.2 = K.2.2) = true) := decide_eq_true hkey
      clear hkey
      go_wp2_with (first
        | (go_at_call 60; refine (beq_any es[k].key K _ (HR.out.1.new HK2.out) (HK.out.new HK2.out)).mono ?_; rintro x wx ⟨rfl, rfl⟩; rw [hb.out])
        | (go_at_call 66; refine (tcopied_any es[k] w _ _ HS2.out ⟨HR.out.1.new HK2.out, HR.out.2.new HK2.out⟩ (by omega) (by omega)).mono ?_; rintro x w6 ⟨⟨A2, c2, B2, d2, rfl, hs6⟩, k6⟩; have HS6 := Lib.hid (hs6.up3); have c0 := hs6.up3.cell 0; have c1 := hs6.up3.cell 1; have c2' := hs6.up3.cell 2; have c3 := hs6.up3.cell 3; have f0 := hs6.up3.frozen 0; have f1 := hs6.up3.frozen 1; have f2 := hs6.up3.frozen 2; have f3 := hs6.up3.frozen 3; have h6 := (((hs6.up3.set 0 (.slice A2 es[k].key.2.2.length c2)).set 1 (.slice B2 es[k].value.2.2.length d2)).set 2 (.int .i64 es[k].seq)).set 3 (.bool es[k].dead); clear hs6 k6; simp only [enA]))
      revert h6
      generalize World.setCell _ _ _ = w4
      intro h6
      refine bodyPost_ret (results_cell_tmp (p := 6) (q := 7) (by kernel_rfl) _ _ O 34 _ (0, 0) _ _ rfl rfl h6.at Try.underlying34 rfl (by kernel_rfl)) rfl ?_
      rw [HQ.out]
      exact ⟨⟨(A2, c2, es[k].key.2.2), (B2, d2, es[k].value.2.2), es[k].seq, es[k].dead⟩, rfl, rfl, h6.right⟩
    · have HQ : Hid (getL K.2.2 seq L = none) := by unfold Hid; rw [hGn.out, hLk.out]; exact if_neg hkey
      have hb : Hid (decide (es[k].key.2.2 = K.2.2) = false) := decide_eq_false hkey
      have h6 := (((HS2.out.set 0 (.slice none 0 0)).set 1 (.slice none 0 0)).set 2 (.int .i64 0)).set 3 (.bool false)
      clear hkey
      go_wp2_with (go_at_call 60; refine (beq_any es[k].key K _ (HR.out.1.new HK2.out) (HK.out.new HK2.out)).mono ?_; rintro x wx ⟨rfl, rfl⟩; rw [hb.out])
      revert h6
      generalize World.setCell _ _ _ = w4
      intro h6
      refine bodyPost_ret (results_cell_tmp (p := 6) (q := 7) (by kernel_rfl) _ _ O 34 _ (0, 0) _ _ rfl rfl h6.at Try.underlying34 rfl (by kernel_rfl)) rfl ?_
      rw [HQ.out]
      exact ⟨⟨(none, 0, []), (none, 0, []), 0, false⟩, rfl, rfl, ((h6.right.row_nil 5 1).row_nil 5 1)⟩
  · have HQ : Hid (getL K.2.2 seq L = none) := by unfold Hid; rw [hGn.out, HL.out, List.getElem?_eq_none (by simp; omega)]
    have hke : k = es.length := by omega
    subst hke
    have h6 := (((HS2.out.set 0 (.slice none 0 0)).set 1 (.slice none 0 0)).set 2 (.int .i64 0)).set 3 (.bool false)
    go_wp2_with fail
    revert h6
    generalize World.setCell _ _ _ = w4
    intro h6
    refine bodyPost_ret (results_cell_tmp (p := 6) (q := 7) (by kernel_rfl) _ _ O 34 _ (0, 0) _ _ rfl rfl h6.at Try.underlying34 rfl (by kernel_rfl)) rfl ?_
    rw [HQ.out]
    exact ⟨⟨(none, 0, []), (none, 0, []), 0, false⟩, rfl, rfl, ((h6.right.row_nil 5 1).row_nil 5 1)⟩
end Go.Proofs.Ytaoenbjfkahdjaa
namespace Go.Proofs.Ytaoenbjfkahdjaa
open Go.RowKit
set_option linter.unusedVariables false
set_option maxRecDepth 100000

theorem info_entryT : (Try.prog.info? 34).map (fun i => (i.zero, i.size, i.bytes)) = some (some (.agg #[.slice none 0 0, .slice none 0 0, .int .i64 0, .bool false]), 4, 64) := by kernel_rfl
/-- What holds in the rounds. -/
structure Rst (w : World) (tl : List UInt8) (l : List Ent) (qs : List En) (i : Nat) (fs : List En) (A : Option Addr) (c : Nat) (wr : World) : Prop where
  told : l = fs.map En.ent ++ ((qs.drop i).map En.ent).takeWhile (inB tl)
  len : fs.length = i
  sat : Sat w (Row 34 4 (.slice A fs.length c) fs.length (fs.flatMap enV) * OwnE fs) wr
set_option maxHeartbeats 4000000 in
theorem trange_any (F T : Slc) (Tb : Nat) (es : List En) (w : World) (hf : Rd w F.1 F.2.2) (ht : Rd w T.1 T.2.2) (h : TabR w Tb es) :
    Calls Try.prog 16 #[.pointer (some ⟨Tb, 0, none⟩), .slice F.1 F.2.2.length F.2.1, .slice T.1 T.2.2.length T.2.1] w (ToldE w (rngT F.2.2 T.2.2 (es.map En.ent))) := by
  obtain ⟨fp, fc, fl⟩ := F
  obtain ⟨tp, tc, tl⟩ := T
  have HTb := Lib.hid h
  have HF : Hid (Rd w fp fl) := hf
  have HT : Hid (Rd w tp tl) := ht
  obtain ⟨A, c, g, hh, n, a1, _, a3, a4, a5, _⟩ := h.box
  have HA1 := Lib.hid a1
  obtain ⟨L, hL⟩ : ∃ L, L = es.map En.ent := ⟨_, rfl⟩
  have HL := Lib.hid hL
  obtain ⟨k, hkk⟩ : ∃ k, k = atN (fromE fl) L := ⟨_, rfl⟩
  have hkl : k ≤ es.length := by rw [hkk]; refine Nat.le_trans (at_le _ _) ?_; rw [hL]; simp
  have HKK := Lib.hid hkk
  have HSm := Lib.hid h.small
  have HFew := h.few
  have HRd := Lib.hid h.rd
  have HB0 : Hid (RdV w (if c = k then A else Option.map (fun x => x.add (k * 4)) A) ((es.drop k).flatMap enV)) := by
    by_cases hck : c = k
    · rw [List.drop_of_length_le (by omega)]
      exact RdV.nil _ _
    · have h1 := RdV.drop a3 (k := k * 4) (cap := c * 4) (by rw [ents_len]; omega) (by rw [ents_len]; omega)
      rw [← ents_dp, if_neg (by omega)] at h1
      rw [if_neg hck]
      exact h1
  rw [← hL]
  show Calls _ _ #[_, .slice fp fl.length fc, .slice tp tl.length tc] w (ToldE w (rngT fl tl L))
  obtain ⟨i0, hi0, hz0, hz1, hz2⟩ := info_parts info_entryT
  clear hf ht h a1 a3 hL hkk
  go_enter Try.func16, Try.ntmps16
  go_upto_region 2 with fail
  refine wp_region_held_drew (S := fun w' => w'.cell? ⟨Tb, 0, none⟩ = some (.slice A es.length c)) (by kernel_rfl) HA1.out ?_
  intro hS0
  refine rgn_take (i := 0) (v := ?rv1) rfl (by kernel_rfl) (by kernel_rfl) (by kernel_rfl) (fun _ _ _ h => h) (by rfl) ?rh1 (by assumption) ?rr1
  case rh1 => (intro w hSw; (try dsimp only at hSw); go_simp; try with_reducible rfl)
  simp only [Act.put, List.setIfInBounds_toArray, List.set_cons_zero, List.set_cons_succ]
  refine rgn_take (i := 1) (v := ?rv2) rfl (by kernel_rfl) (by kernel_rfl) (by kernel_rfl) (fun _ _ _ h => h) (by rfl) ?rh2 (by assumption) ?rr2
  case rh2 => (intro w hSw; (try dsimp only at hSw); go_simp; try with_reducible rfl)
  simp only [Act.put, List.setIfInBounds_toArray, List.set_cons_zero, List.set_cons_succ]
  refine rgn_take (i := 2) (v := ?rv3) rfl (by kernel_rfl) (by kernel_rfl) (by kernel_rfl) (fun _ _ _ h => h) (by rfl) ?rh3 (by assumption) ?rr3
  case rh3 => (intro w hSw; (try dsimp only at hSw); go_simp; try with_reducible rfl)
  simp only [Act.put, List.setIfInBounds_toArray, List.set_cons_zero, List.set_cons_succ]
  refine rgn_take (i := 3) (v := ?rv4) rfl (by kernel_rfl) (by kernel_rfl) (by kernel_rfl) (fun _ _ _ h => h) (by rfl) ?rh4 (by assumption) ?rr4
  case rh4 => (intro w hSw; (try dsimp only at hSw); go_simp; try with_reducible rfl)
  simp only [Act.put, List.setIfInBounds_toArray, List.set_cons_zero, List.set_cons_succ]
  refine rgn_take (i := 4) (v := ?rv5) rfl (by kernel_rfl) (by kernel_rfl) (by kernel_rfl) (fun _ _ _ h => h) (by rfl) ?rh5 (by assumption) ?rr5
  case rh5 => (intro w hSw; (try dsimp only at hSw); go_simp; try with_reducible rfl)
  simp only [Act.put, List.setIfInBounds_toArray, List.set_cons_zero, List.set_cons_succ]
  refine rgn_take (i := 5) (v := ?rv6) rfl (by kernel_rfl) (by kernel_rfl) (by kernel_rfl) (fun _ _ _ h => h) (by rfl) ?rh6 (by assumption) ?rr6
  case rh6 => (intro w hSw; (try dsimp only at hSw); go_simp; try with_reducible rfl)
  simp only [Act.put, List.setIfInBounds_toArray, List.set_cons_zero, List.set_cons_succ]
  refine rgn_take (i := 6) (v := ?rv7) rfl (by kernel_rfl) (by kernel_rfl) (by kernel_rfl) (fun _ _ _ h => h) (by rfl) ?rh7 (by assumption) ?rr7
  case rh7 => (intro w hSw; (try dsimp only at hSw); go_simp; try with_reducible rfl)
  simp only [Act.put, List.setIfInBounds_toArray, List.set_cons_zero, List.set_cons_succ]
  refine rgn_take (i := 10) (v := ?rv8) rfl (by kernel_rfl) (by kernel_rfl) (by kernel_rfl) (fun _ _ _ h => h) (by rfl) ?rh8 (by assumption) ?rr8
  case rh8 => (intro w hSw; (try dsimp only at hSw); go_simp; try with_reducible rfl)
  simp only [Act.put, List.setIfInBounds_toArray, List.set_cons_zero, List.set_cons_succ]
  refine rgn_call (i := 7) rfl (by kernel_rfl) (fun K hK => ?_)
  go_simp
  go_at_call 64; refine (from_any Tb es ⟨(fp, fc, fl), (none, 0, []), 9223372036854775807, false⟩ _ (HTb.out.new (Chg.refl No w).drew) ⟨HF.out.new (Chg.refl No w).drew, Rd.nil _ _⟩).mono ?_; rintro x w1 ⟨rfl, k1⟩; rw [show (⟨(fp, fc, fl), (none, 0, []), 9223372036854775807, false⟩ : En).ent = fromE fl from rfl, ← HL.out, ← HKK.out]; have HK := Lib.hid ((Chg.refl No w).drew.tr k1); clear k1
  refine hK.out _ _ (HK.out.cell HA1.out id) (fun hS0 => ?_)
  clear hK K
  refine rgn_take (i := 8) (v := ?rv10) rfl (by kernel_rfl) (by kernel_rfl) (by kernel_rfl) (fun _ _ _ h => h) (by rfl) ?rh10 (by assumption) ?rr10
  case rh10 => (intro w hSw; (try dsimp only at hSw); go_simp; try with_reducible rfl)
  simp only [Act.put, List.setIfInBounds_toArray, List.set_cons_zero, List.set_cons_succ]
  refine rgn_take (i := 9) (v := ?rv11) rfl (by kernel_rfl) (by kernel_rfl) (by kernel_rfl) (fun _ _ _ h => h) (by rfl) ?rh11 (by assumption) ?rr11
  case rh11 => (intro w hSw; (try dsimp only at hSw); go_simp; try with_reducible rfl)
  simp only [Act.put, List.setIfInBounds_toArray, List.set_cons_zero, List.set_cons_succ]
  refine wpAnyH_done (by kernel_rfl) ?_ _
  obtain ⟨B, hB⟩ : ∃ B, (if c = k then A else Option.map (fun x => x.add (k * 4)) A) = B := ⟨_, rfl⟩
  rw [hB] at HB0 ⊢
  clear hB
  obtain ⟨m, hm⟩ : ∃ m, es.length - k = m := ⟨_, rfl⟩
  obtain ⟨d, hd⟩ : ∃ d, c - k = d := ⟨_, rfl⟩
  rw [hm, hd]
  have hmd : m ≤ d := by omega
  obtain ⟨qs, hqs⟩ : ∃ qs, es.drop k = qs := ⟨_, rfl⟩
  have HQl : Hid (qs.length = m) := by unfold Hid; rw [← hqs, List.length_drop]; exact hm
  have HQm : Hid (∀ e ∈ qs, e ∈ es) := fun e he => by rw [← hqs] at he; exact List.mem_of_mem_drop he
  have HTd : Hid (rngT fl tl L = (qs.map En.ent).takeWhile (inB tl)) := by unfold Hid rngT; rw [← HKK.out, HL.out, ← List.map_drop, hqs]
  have hm6 : m ≤ 65536 := by omega
  rw [hqs] at HB0
  clear hm hd hqs hkl
  by_cases h0 : tl = []
  case' pos =>
    have HZ := Lib.hid h0
    rw [show tl.length = 0 by rw [h0]; rfl]
    have h1 : True := trivial
    clear h0
  case' neg =>
    have HZ := Lib.hid h0
    have h1 : ¬ tl.length = 0 := by simpa using h0
    clear h0
  all_goals
    clear hS0
    go_wp2_with fail
    go_loopw [7, 20] (fun out iv wr => ∃ (i : Nat) (fs : List En) (A2 : Option Addr) (c2 : Nat), i ≤ m ∧ iv = .int .i64 i ∧ out = .slice A2 fs.length c2 ∧ Hid (Rst w tl (rngT fl tl L) qs i fs A2 c2 wr)) (fun _ iv _ => m - (intOf iv).toNat)
    case atStart => exact ⟨0, [], none, 0, by omega, rfl, rfl, HTd.out, rfl, (((Sat.start w).new HK.out).row_nil _ 4).of (by rfl)⟩
    case round =>
      obtain ⟨i, fs, A2, c2, hi, rfl, rfl, HD⟩ := hrel
      by_cases hlt : i < m
      · have hil : i < qs.length := by rw [HQl.out]; exact hlt
        obtain ⟨lb, lo, rfl, hq⟩ := ents_at HB0.out (by omega)
        obtain ⟨y0, y1, y2, y3⟩ := hq i hil
        unfold slv' at y0 y1
        have z0 := HD.out.sat.chg.cell y0 id; have z1 := HD.out.sat.chg.cell y1 id; have z2 := HD.out.sat.chg.cell y2 id; have z3 := HD.out.sat.chg.cell y3 id
        have HR := Lib.hid (HRd.out _ (HQm.out _ (List.getElem_mem hil)))
        have hsm := HSm.out _ (HQm.out _ (List.getElem_mem hil))
        have hk2 : qs[i].key.2.2.length ≤ 140737488355328 := by omega
        have hv3 : qs[i].value.2.2.length ≤ 140737488355328 := by omega
        have hlen : fs.length ≤ 65536 := by have h1 := HD.out.len; omega
        have HTl : Hid (rngT fl tl L = fs.map En.ent ++ if inB tl qs[i].ent then qs[i].ent :: ((qs.drop (i + 1)).map En.ent).takeWhile (inB tl) else []) := by
          have h2 := HD.out.told
          rw [List.drop_eq_getElem_cons hil, List.map_cons, List.takeWhile_cons] at h2
          exact h2
        have hin : inB tl qs[i].ent = (decide (tl = []) || decide (Lib.compareBytes qs[i].key.2.2 tl < 0)) := rfl
        have HIn := Lib.hid hin
        clear hq y0 y1 y2 y3 hsm hin
        go_wp2_with (first
          | (go_at_call 65; refine (cmpB_any qs[i].key (tp, tc, tl) _ (HR.out.1.new (HD.out.sat.chg.alloc _)) (HT.out.new (HD.out.sat.chg.alloc _))).mono ?_; rintro x wx ⟨rfl, rfl⟩)
          | (go_at_call 66; refine (tcopied_any qs[i] w _ _ (HD.out.sat.alloc' _) ⟨HR.out.1.new (HD.out.sat.chg.alloc _), HR.out.2.new (HD.out.sat.chg.alloc _)⟩ hk2 hv3).mono ?_; rintro x w6 ⟨⟨A3, c3, B3, d3, rfl, hs6⟩, k6⟩; have HS6 := Lib.hid hs6; clear hs6 k6; simp only [enA])
          | (at_builtin; refine wpList_appS rfl (.tmp 34) (.tmp 37) 22 rfl 34 i0 _ 4 64 Try.underlying22 hi0 hz0 hz1 hz2 rfl (by decide) (.slice A2 fs.length c2) fs.length (fs.flatMap enV) rfl w _ (by exact (HS6.out.alloc' _).up3) (some ⟨w6.heap.size, 0, none⟩) 1 1 [.slice A3 qs[i].key.2.2.length c3, .slice B3 qs[i].value.2.2.length d3, .int .i64 qs[i].seq, .bool qs[i].dead] rfl (lit_rdv _ _ _) rfl (by intro u hu; simp at hu; rcases hu with rfl | rfl | rfl | rfl <;> rfl) (by unfold maxLen; omega) (by omega) ?_; intro A4 c4 w7 hs7; have HS7 := Lib.hid hs7; clear hs7))
        all_goals first
          | (go_ret
             have hB : inB tl qs[i].ent = false := by
               have h2 := HZ.out
               rw [HIn.out]
               simp [h2]
               omega
             refine ⟨fs, A2, c2, rfl, ?_, HD.out.sat.alloc' _⟩
             rw [HTl.out, hB]; simp)
          | (go_roundw
             · have hB : inB tl qs[i].ent = true := by
                 rw [HIn.out]
                 have h2 := HZ.out
                 simp [h2]
                 all_goals omega
               refine ⟨i + 1, fs ++ [⟨(A3, c3, qs[i].key.2.2), (B3, d3, qs[i].value.2.2), qs[i].seq, qs[i].dead⟩], A4, c4, by omega, by push_cast; rfl, by rw [List.length_append]; rfl, ?_, ?_, ?_⟩
               · rw [HTl.out, hB, if_pos rfl, List.map_append, List.append_assoc]; rfl
               · rw [List.length_append, HD.out.len]; rfl
               · refine HS7.out.of ?_
                 rw [ownE_snoc, List.flatMap_append, List.length_append]
                 rfl
             · simp [intOf]; omega)
      · have HTl : Hid (rngT fl tl L = fs.map En.ent) := by
          have h2 := HD.out.told
          rw [List.drop_of_length_le (by rw [HQl.out]; omega)] at h2
          unfold Hid
          simpa using h2
        go_wp2_with fail
        go_ret
        exact ⟨fs, A2, c2, rfl, HTl.out.symm, HD.out.sat⟩
/-- The first key, the last one. -/
def firstK (L : List Ent) : List UInt8 := match L[0]? with | some e => e.key | none => []
def lastK (L : List Ent) : List UInt8 := match L[L.length - 1]? with | some e => e.key | none => []
def EdgesT (L : List Ent) (w : World) (x : Ending) (w' : World) : Prop := ∃ a b : Slc, x = .returned (.tuple #[.slice a.1 a.2.2.length a.2.1, .slice b.1 b.2.2.length b.2.1]) ∧ a.2.2 = firstK L ∧ b.2.2 = lastK L ∧ Rd w' a.1 a.2.2 ∧ Rd w' b.1 b.2.2 ∧ Chg No w w'
set_option maxHeartbeats 2000000 in
theorem edges_any (T : Nat) (es : List En) (w : World) (h : TabR w T es) :
    Calls Try.prog 43 #[.pointer (some ⟨T, 0, none⟩)] w (EdgesT (es.map En.ent) w) := by
  obtain ⟨A, c, g, hh, n, a1, _, a3, a4, a5, _⟩ := h.box
  have HF := Lib.hid h.small
  have HR := Lib.hid h.rd
  have hfew := h.few
  have HA := Lib.hid a3
  clear h a3
  by_cases h0 : es = []
  · have HZ : Hid (EdgesT (es.map En.ent) w (.returned (.tuple #[.slice none 0 0, .slice none 0 0])) w) := by
      subst h0
      exact ⟨(none, 0, []), (none, 0, []), rfl, rfl, rfl, Rd.nil _ _, Rd.nil _ _, Chg.refl _ _⟩
    have hl : es.length = 0 := by rw [h0]; rfl
    rw [hl] at a1
    clear h0 a4
    go_enter Try.func43, Try.ntmps43
    go_wp2_with fail
    go_ret2
    exact HZ.out
  · have hn : 0 < es.length := List.length_pos_iff.2 h0
    obtain ⟨lb, lo, rfl, hq⟩ := ents_at HA.out hn
    obtain ⟨m, hm⟩ : ∃ m, m = es.length - 1 := ⟨_, rfl⟩
    have hml : m < es.length := by omega
    have y0 := (hq 0 hn).1
    have z0 := (hq m hml).1
    unfold slv' at y0 z0
    obtain ⟨⟨⟨p, pc, pl⟩, pv, ps, pd⟩, hp⟩ : ∃ e, e = es[0] := ⟨_, rfl⟩
    obtain ⟨⟨⟨q, qc, ql⟩, qv, qs, qd⟩, hqq⟩ : ∃ e, e = es[m] := ⟨_, rfl⟩
    rw [← hp] at y0
    rw [← hqq] at z0
    have hRp : Rd w p pl := by have := (HR.out _ (List.getElem_mem hn)).1; rw [← hp] at this; exact this
    have hRq : Rd w q ql := by have := (HR.out _ (List.getElem_mem hml)).1; rw [← hqq] at this; exact this
    have hpl : pl.length ≤ 140737488355328 := by have := (HF.out _ (List.getElem_mem hn)).1; rw [← hp] at this; have h2 : pl.length ≤ 128 := this; omega
    have hql : ql.length ≤ 140737488355328 := by have := (HF.out _ (List.getElem_mem hml)).1; rw [← hqq] at this; have h2 : ql.length ≤ 128 := this; omega
    have HP := Lib.hid hRp
    have HQ := Lib.hid hRq
    have H1 : Hid (firstK (es.map En.ent) = pl) := by
      unfold Hid firstK
      rw [List.getElem?_map, List.getElem?_eq_getElem hn, ← hp]
      rfl
    have H2 : Hid (lastK (es.map En.ent) = ql) := by
      unfold Hid lastK
      rw [List.length_map, ← hm, List.getElem?_map, List.getElem?_eq_getElem hml, ← hqq]
      rfl
    have hmm : (es.length : Int) - 1 = m := by omega
    have hne : ((es.length : Int) == 0) = false := by simp; omega
    have y0' : w.cell? ⟨lb, lo, none⟩ = some (.slice p pl.length pc) := by simpa using y0
    have z0' : w.cell? ⟨lb, lo + m * 4, none⟩ = some (.slice q ql.length qc) := z0
    have HA1 := Lib.hid a1
    have HY := Lib.hid y0'
    have HZ := Lib.hid z0'
    have hmi : (m : Int) < es.length := by omega
    have hm0 : (0 : Int) ≤ m := by omega
    have hwm : IntKind.i64.wrap (m : Int) = m := by rw [IntKind.wrap_i64]; omega
    have hni : (0 : Int) < es.length := by omega
    clear hRp hRq hq y0 z0 hp hqq hm HF HR HA h0 y0' z0'
    go_enter Try.func43, Try.ntmps43
    go_upto_region 3 with fail
    refine wp_region_held_drew (S := fun w' => w'.cell? ⟨T, 0, none⟩ = some (.slice (some ⟨lb, lo, none⟩) es.length c) ∧ w'.cell? ⟨lb, lo, none⟩ = some (.slice p pl.length pc) ∧ w'.cell? ⟨lb, lo + m * 4, none⟩ = some (.slice q ql.length qc)) (by kernel_rfl) ⟨HA1.out, HY.out, HZ.out⟩ ?_
    intro hS0
    refine rgn_take (i := 0) (v := ?rv12) rfl (by kernel_rfl) (by kernel_rfl) (by kernel_rfl) (fun _ _ _ h => h) (by rfl) ?rh12 (by assumption) ?rr12
    case rh12 => (intro w hSw; (try dsimp only at hSw); go_simp; try with_reducible rfl)
    simp only [Act.put, List.setIfInBounds_toArray, List.set_cons_zero, List.set_cons_succ]
    refine rgn_take (i := 1) (v := ?rv13) rfl (by kernel_rfl) (by kernel_rfl) (by kernel_rfl) (fun _ _ _ h => h) (by rfl) ?rh13 (by assumption) ?rr13
    case rh13 => (intro w hSw; (try dsimp only at hSw); go_simp; try with_reducible rfl)
    simp only [Act.put, List.setIfInBounds_toArray, List.set_cons_zero, List.set_cons_succ]
    refine rgn_take (i := 2) (v := ?rv14) rfl (by kernel_rfl) (by kernel_rfl) (by kernel_rfl) (fun _ _ _ h => h) (by rfl) ?rh14 (by assumption) ?rr14
    case rh14 => (intro w hSw; (try dsimp only at hSw); go_simp; try with_reducible rfl)
    simp only [Act.put, List.setIfInBounds_toArray, List.set_cons_zero, List.set_cons_succ]
    refine rgn_take (i := 3) (v := ?rv15) rfl (by kernel_rfl) (by kernel_rfl) (by kernel_rfl) (fun _ _ _ h => h) (by rfl) ?rh15 (by assumption) ?rr15
    case rh15 => (intro w hSw; (try dsimp only at hSw); go_simp; try with_reducible rfl)
    simp only [Act.put, List.setIfInBounds_toArray, List.set_cons_zero, List.set_cons_succ]
    refine rgn_take (i := 4) (v := ?rv16) rfl (by kernel_rfl) (by kernel_rfl) (by kernel_rfl) (fun _ _ _ h => h) (by rfl) ?rh16 (by assumption) ?rr16
    case rh16 => (intro w hSw; (try dsimp only at hSw); go_simp; try with_reducible rfl)
    simp only [Act.put, List.setIfInBounds_toArray, List.set_cons_zero, List.set_cons_succ]
    refine rgn_take (i := 5) (v := ?rv17) rfl (by kernel_rfl) (by kernel_rfl) (by kernel_rfl) (fun _ _ _ h => h) (by rfl) ?rh17 (by assumption) ?rr17
    case rh17 => (intro w hSw; (try dsimp only at hSw); go_simp; try with_reducible rfl)
    simp only [Act.put, List.setIfInBounds_toArray, List.set_cons_zero, List.set_cons_succ]
    refine rgn_take (i := 6) (v := ?rv18) rfl (by kernel_rfl) (by kernel_rfl) (by kernel_rfl) (fun _ _ _ h => h) (by rfl) ?rh18 (by assumption) ?rr18
    case rh18 => (intro w hSw; (try dsimp only at hSw); go_simp; try with_reducible rfl)
    simp only [Act.put, List.setIfInBounds_toArray, List.set_cons_zero, List.set_cons_succ]
    refine rgn_take (i := 8) (v := ?rv19) rfl (by kernel_rfl) (by kernel_rfl) (by kernel_rfl) (fun _ _ _ h => h) (by rfl) ?rh19 (by assumption) ?rr19
    case rh19 => (intro w hSw; (try dsimp only at hSw); go_simp; try with_reducible rfl)
    simp only [Act.put, List.setIfInBounds_toArray, List.set_cons_zero, List.set_cons_succ]
    refine rgn_take (i := 9) (v := ?rv20) rfl (by kernel_rfl) (by kernel_rfl) (by kernel_rfl) (fun _ _ _ h => h) (by rfl) ?rh20 (by assumption) ?rr20
    case rh20 => (intro w hSw; (try dsimp only at hSw); go_simp; try with_reducible rfl)
    simp only [Act.put, List.setIfInBounds_toArray, List.set_cons_zero, List.set_cons_succ]
    refine rgn_take (i := 10) (v := ?rv21) rfl (by kernel_rfl) (by kernel_rfl) (by kernel_rfl) (fun _ _ _ h => h) (by rfl) ?rh21 (by assumption) ?rr21
    case rh21 => (intro w hSw; (try dsimp only at hSw); go_simp; try with_reducible rfl)
    simp only [Act.put, List.setIfInBounds_toArray, List.set_cons_zero, List.set_cons_succ]
    refine rgn_take (i := 11) (v := ?rv22) rfl (by kernel_rfl) (by kernel_rfl) (by kernel_rfl) (fun _ _ _ h => h) (by rfl) ?rh22 (by assumption) ?rr22
    case rh22 => (intro w hSw; (try dsimp only at hSw); go_simp; try with_reducible rfl)
    simp only [Act.put, List.setIfInBounds_toArray, List.set_cons_zero, List.set_cons_succ]
    refine rgn_take (i := 12) (v := ?rv23) rfl (by kernel_rfl) (by kernel_rfl) (by kernel_rfl) (fun _ _ _ h => h) (by rfl) ?rh23 (by assumption) ?rr23
    case rh23 => (intro w hSw; (try dsimp only at hSw); go_simp; try with_reducible rfl)
    simp only [Act.put, List.setIfInBounds_toArray, List.set_cons_zero, List.set_cons_succ]
    refine rgn_take (i := 13) (v := ?rv24) rfl (by kernel_rfl) (by kernel_rfl) (by kernel_rfl) (fun _ _ _ h => h) (by rfl) ?rh24 (by assumption) ?rr24
    case rh24 => (intro w hSw; (try dsimp only at hSw); go_simp; try with_reducible rfl)
    simp only [Act.put, List.setIfInBounds_toArray, List.set_cons_zero, List.set_cons_succ]
    refine rgn_take (i := 14) (v := ?rv25) rfl (by kernel_rfl) (by kernel_rfl) (by kernel_rfl) (fun _ _ _ h => h) (by rfl) ?rh25 (by assumption) ?rr25
    case rh25 => (intro w hSw; (try dsimp only at hSw); go_simp; try with_reducible rfl)
    simp only [Act.put, List.setIfInBounds_toArray, List.set_cons_zero, List.set_cons_succ]
    refine rgn_take (i := 15) (v := ?rv26) rfl (by kernel_rfl) (by kernel_rfl) (by kernel_rfl) (fun _ _ _ h => h) (by rfl) ?rh26 (by assumption) ?rr26
    case rh26 => (intro w hSw; (try dsimp only at hSw); go_simp; try with_reducible rfl)
    simp only [Act.put, List.setIfInBounds_toArray, List.set_cons_zero, List.set_cons_succ]
    refine rgn_take (i := 16) (v := ?rv27) rfl (by kernel_rfl) (by kernel_rfl) (by kernel_rfl) (fun _ _ _ h => h) (by rfl) ?rh27 (by assumption) ?rr27
    case rh27 => (intro w hSw; (try dsimp only at hSw); go_simp; try with_reducible rfl)
    simp only [Act.put, List.setIfInBounds_toArray, List.set_cons_zero, List.set_cons_succ]
    refine rgn_take (i := 17) (v := ?rv28) rfl (by kernel_rfl) (by kernel_rfl) (by kernel_rfl) (fun _ _ _ h => h) (by rfl) ?rh28 (by assumption) ?rr28
    case rh28 => (intro w hSw; (try dsimp only at hSw); go_simp; try with_reducible rfl)
    simp only [Act.put, List.setIfInBounds_toArray, List.set_cons_zero, List.set_cons_succ]
    refine rgn_take (i := 18) (v := ?rv29) rfl (by kernel_rfl) (by kernel_rfl) (by kernel_rfl) (fun _ _ _ h => h) (by rfl) ?rh29 (by assumption) ?rr29
    case rh29 => (intro w hSw; (try dsimp only at hSw); go_simp; try with_reducible rfl)
    simp only [Act.put, List.setIfInBounds_toArray, List.set_cons_zero, List.set_cons_succ]
    refine rgn_take (i := 19) (v := ?rv30) rfl (by kernel_rfl) (by kernel_rfl) (by kernel_rfl) (fun _ _ _ h => h) (by rfl) ?rh30 (by assumption) ?rr30
    case rh30 => (intro w hSw; (try dsimp only at hSw); go_simp; try with_reducible rfl)
    simp only [Act.put, List.setIfInBounds_toArray, List.set_cons_zero, List.set_cons_succ]
    refine rgn_take (i := 20) (v := ?rv31) rfl (by kernel_rfl) (by kernel_rfl) (by kernel_rfl) (fun _ _ _ h => h) (by rfl) ?rh31 (by assumption) ?rr31
    case rh31 => (intro w hSw; (try dsimp only at hSw); go_simp; try with_reducible rfl)
    simp only [Act.put, List.setIfInBounds_toArray, List.set_cons_zero, List.set_cons_succ]
    refine rgn_call (i := 7) rfl (by kernel_rfl) (fun K hK => ?_)
    go_simp
    go_at_call 87; (with_reducible refine (cloneS p pc pl ((Sat.start w).drew) (HP.out.new (Chg.refl No w).drew) hpl).mono ?_); rintro x w1 ⟨A1, c1, rfl, k1, hs1⟩; have HS1 := Lib.hid hs1; have HC1 := Lib.hid ((Chg.refl No w).drew.tr k1); clear hs1 k1
    refine hK.out _ _ ⟨HC1.out.cell HA1.out id, HC1.out.cell HY.out id, HC1.out.cell HZ.out id⟩ (fun hS0 => ?_)
    clear hK K
    refine rgn_call (i := 21) rfl (by kernel_rfl) (fun K hK => ?_)
    go_simp
    go_at_call 87; (with_reducible refine (cloneS q qc ql HS1.out (HQ.out.new HC1.out) hql).mono ?_); rintro x w2 ⟨A2, c2, rfl, k2, hs2⟩; have HS2 := Lib.hid hs2; have HC2 := Lib.hid (HC1.out.tr k2); clear hs2 k2
    refine hK.out _ _ ⟨HC2.out.cell HA1.out id, HC2.out.cell HY.out id, HC2.out.cell HZ.out id⟩ (fun hS0 => ?_)
    clear hK K
    refine rgn_take (i := 22) (v := ?rv34) rfl (by kernel_rfl) (by kernel_rfl) (by kernel_rfl) (fun _ _ _ h => h) (by rfl) ?rh34 (by assumption) ?rr34
    case rh34 => (intro w hSw; (try dsimp only at hSw); go_simp; try with_reducible rfl)
    simp only [Act.put, List.setIfInBounds_toArray, List.set_cons_zero, List.set_cons_succ]
    refine rgn_take (i := 23) (v := ?rv35) rfl (by kernel_rfl) (by kernel_rfl) (by kernel_rfl) (fun _ _ _ h => h) (by rfl) ?rh35 (by assumption) ?rr35
    case rh35 => (intro w hSw; (try dsimp only at hSw); go_simp; try with_reducible rfl)
    simp only [Act.put, List.setIfInBounds_toArray, List.set_cons_zero, List.set_cons_succ]
    refine wpAnyH_done (by kernel_rfl) ?_ _
    go_wp2_with fail
    go_ret2
    exact ⟨(A1, c1, pl), (A2, c2, ql), rfl, H1.out.symm, H2.out.symm, HS2.out.up2.row_rdK, HS2.out.row_rdK, HC2.out⟩
end Go.Proofs.Ytaoenbjfkahdjaa
