/- Joined, as they were built one by one: RPut. -/
import Derived.Test.YtaoenbjfkahdjaaQ11
namespace Go.Proofs.Ytaoenbjfkahdjaa
open Go.RowKit
set_option linter.unusedVariables false

theorem twice_at {e : Ent} {es : List En} {hs : List Nat} (hl : es.length = hs.length) : twiceM e (absR es hs) = if h : atN e (es.map En.ent) < es.length then !lessE e (es[atN e (es.map En.ent)]).ent else false := by
  have ha := take_at e (absR es hs)
  rw [absR_fst hl] at ha
  have hb : behindM e (absR es hs) = (absR es hs).drop (atN e (es.map En.ent)) := ha.2
  have hlen : (absR es hs).length = es.length := by unfold absR; simp [hl]
  unfold twiceM
  rw [hb]
  by_cases h : atN e (es.map En.ent) < es.length
  · rw [dif_pos h, List.drop_eq_getElem_cons (by omega)]
    have hk : ((absR es hs)[atN e (es.map En.ent)]'(by omega)).1 = es[atN e (es.map En.ent)].ent := by unfold absR; simp
    have hn : lessE es[atN e (es.map En.ent)].ent e = false := by
      cases hq : lessE es[atN e (es.map En.ent)].ent e with
      | false => rfl
      | true =>
        have hd := List.head?_dropWhile_not (fun p : Pr => lessE p.1 e) (absR es hs)
        rw [ha.2, List.drop_eq_getElem_cons (by omega)] at hd
        simp only [List.head?_cons] at hd
        rw [hk, hq] at hd
        simp at hd
    show decide (ordE _ e = 0) = _
    rw [hk]
    rcases lte_tri es[atN e (es.map En.ent)].ent e with q | q | q
    · have : lessE es[atN e (es.map En.ent)].ent e = true := q
      rw [hn] at this; cases this
    · have h2 : lessE e es[atN e (es.map En.ent)].ent = true := q
      rw [h2, decide_eq_false (fun h0 => absurd (ord_zero.1 h0).symm (fun s => absurd q (same1_not s)))]
      rfl
    · have h2 : lessE e es[atN e (es.map En.ent)].ent = false := by
        cases hq : lessE e es[atN e (es.map En.ent)].ent with
        | false => rfl
        | true => exact absurd hq (same1_not q.symm)
      rw [h2, decide_eq_true (ord_zero.2 q)]
      rfl
  · rw [dif_neg h, List.drop_eq_nil_of_le (by omega)]
theorem row_fresh {w0 w : World} {F : SP} {e : TypeId} {size n : Nat} {v : Value} {xs : List Value} (h : Sat w0 (Row e size v n xs * F) w) : Fresh w0 v := fun b hb => (h.row_own.lt b hb).1
theorem info_int : (Try.prog.info? 3).map (fun i => (i.zero, i.size, i.bytes)) = some (some (.int .i64 0), 1, 8) := by kernel_rfl
/-- What Put leaves. -/
def RPutS (w0 : World) (F : SP) (r : Nat) (es : List En) (hs : List Nat) (e : Ent) (H : Int) (x : Ending) (w' : World) : Prop :=
  ∃ es' hs', x = .returned (.int .i64 (if twiceM e (absR es hs) then 50 else 0)) ∧ es'.length = hs'.length ∧ es'.length ≤ es.length + 1 ∧ absR es' hs' = insM e (clampH H) (absR es hs) ∧ (∀ y ∈ es', y ∈ es ∨ (y.ent = e ∧ CapE y)) ∧ Sat w0 (RTab r es' hs' * F) w'
section
variable {w0 w : World} {F : SP} {r : Nat} {vL vH : Value} {es : List En} {hs : List Nat}
theorem Sat.rtabEnt (h : Sat w0 (RTabC r vL vH es hs * F) w) {x : En} (hx : x ∈ es) : EnR w x := by
  have h1 := (h.of (rtab_d ..)).up4
  have m : ∀ y, y ∈ [x.key, x.value] → y ∈ eslc es := fun y hy => List.mem_flatMap.2 ⟨x, hx, hy⟩
  exact ⟨h1.rol (m _ (by simp)), h1.rol (m _ (by simp))⟩
theorem Sat.rtabRd {LA : Option Addr} {lc : Nat} (h : Sat w0 (RTabC r (.slice LA es.length lc) vH es hs * F) w) : RdV w LA (es.flatMap enV) := Sat.row_rdK (h := (h.of (rtab_d ..)).up2)
theorem Sat.rtabRh {HA : Option Addr} {hc : Nat} (h : Sat w0 (RTabC r vL (.slice HA hs.length hc) es hs * F) w) : RdV w HA (i64s hs) := Sat.row_rdK (h := (h.of (rtab_d ..)).up3)
end
theorem rlessR (x y : En) (B : Bool) (hB : lessE x.ent y.ent = B) (W : World) (hx : EnR W x) (hy : EnR W y) : Calls Try.prog 88 #[.agg #[.slice x.key.1 x.key.2.2.length x.key.2.1, .slice x.value.1 x.value.2.2.length x.value.2.1, .int .i64 x.seq, .bool x.dead], .agg #[.slice y.key.1 y.key.2.2.length y.key.2.1, .slice y.value.1 y.value.2.2.length y.value.2.1, .int .i64 y.seq, .bool y.dead]] W
    fun e w' => e = .returned (.bool B) ∧ Chg No W w' := by
  refine (rless_any x y W hx hy).mono ?_
  rintro e w' ⟨rfl, k⟩
  exact ⟨by rw [hB], k⟩
set_option maxRecDepth 100000 in
set_option maxHeartbeats 4000000 in
theorem rput_any (r : Nat) (es : List En) (hs : List Nat) (H : Int) (e : En) (w0 w : World) (F : SP) (h : Sat w0 (RTab r es hs * F) w) (hl : es.length = hs.length) (hn : es.length ≤ 1000) (he : EnR w e)
    (hk : e.key.2.2.length ≤ 1000000000) (hv : e.value.2.2.length ≤ 1000000000) (hH : -9223372036854775808 ≤ H ∧ H ≤ 9223372036854775807) :
    Calls Try.prog 45 #[.pointer (some ⟨r, 0, none⟩), enA e, .int .i64 H] w (RPutS w0 F r es hs e.ent H) := by
  obtain ⟨vL, vH, h0⟩ := h.rtab
  obtain ⟨LA, lc, rfl, hl1, hl2, hl3⟩ := ((h0.of (rtab_d ..)).up2).row_form
  obtain ⟨HA, hc, rfl, hh1, hh2, hh3⟩ := ((h0.of (rtab_d ..)).up3).row_form
  have hs1 := h0.allocPt 34 (enC e)
  have HEr := Lib.hid (he.new ((Chg.refl No w).alloc (.cells (enC e) 34)))
  unfold maxLen at hl2 hh2
  have HLen := Lib.hid hl
  have HTw := Lib.hid (twice_at (e := e.ent) hl)
  have HF3 := Lib.hid hl3
  have HG3 := Lib.hid hh3
  clear h h0 he hl hl3 hh3
  unfold enC at hs1 HEr
  unfold enA
  go_enter Try.func45, Try.ntmps45
  go_upto_block 0 with fail
  revert hs1 HEr
  generalize w.alloc _ = W
  generalize w.heap.size = E
  intro hs1 HEr
  have HS1 := Lib.hid hs1
  clear hs1
  obtain ⟨L, hL⟩ : ∃ L, L = es.map En.ent := ⟨_, rfl⟩
  have HLd : Hid (L = es.map En.ent) := hL
  have hLl : L.length = es.length := by rw [hL]; simp
  have HLl := Lib.hid hLl
  have HLi : Hid (∀ i (h : i < L.length) (h' : i < es.length), L[i] = es[i].ent) := by intro i h h'; subst hL; simp
  clear hL hLl
  go_cut [7] (fun k wx => k = .int .i64 (atN e.ent L : Int) ∧ Hid (Chg No W wx ∧ Sat w0 (Pt E 34 #[.slice e.key.1 e.key.2.2.length e.key.2.1, .slice e.value.1 e.value.2.2.length e.value.2.1, .int .i64 e.seq, .bool e.dead] * (RTabC r (.slice LA es.length lc) (.slice HA hs.length hc) es hs * F)) wx))
  case first =>
    go_wp2_with fail
    go_loopw [7] (fun k wr => ∃ j : Nat, j ≤ es.length ∧ k = .int .i64 (j : Int) ∧ Hid ((∀ i (h : i < L.length), i < j → lessE L[i] e.ent = true) ∧ Chg No W wr ∧ Sat w0 (Pt E 34 #[.slice e.key.1 e.key.2.2.length e.key.2.1, .slice e.value.1 e.value.2.2.length e.value.2.1, .int .i64 e.seq, .bool e.dead] * (RTabC r (.slice LA es.length lc) (.slice HA hs.length hc) es hs * F)) wr)) (fun k _ => es.length - (intOf k).toNat)
    case atStart => exact ⟨0, by omega, rfl, fun i h hi => by omega, Chg.refl _ _, HS1.out⟩
    case round =>
      obtain ⟨k, hk', rfl, HD⟩ := hrel
      have c0 := HD.out.2.2.up2.rtabL
      have d0 := HD.out.2.2.cell 0; have d1 := HD.out.2.2.cell 1; have d2 := HD.out.2.2.cell 2; have d3 := HD.out.2.2.cell 3
      by_cases hlt : k < es.length
      · obtain ⟨lb, lo, hA, hq⟩ := ents_at (HD.out.2.2.up2.rtabRd) (by omega)
        obtain ⟨a0, a1, a2, a3⟩ := hq k hlt
        subst hA
        unfold slv' at a0 a1
        have hltL : k < L.length := by rw [HLl.out]; exact hlt
        have HLk := Lib.hid (HLi.out k hltL hlt)
        obtain ⟨B, hB⟩ : ∃ B, lessE es[k].ent e.ent = B := ⟨_, rfl⟩
        have HB := Lib.hid hB
        have HXk := Lib.hid (HD.out.2.2.up2.rtabEnt (List.getElem_mem hlt))
        clear hq hB
        go_wp2_with fail
        refine wp_region_held_drew (S := fun w' => w'.cell? ⟨r, 0, none⟩ = some (.slice (some ⟨lb, lo, none⟩) es.length lc) ∧ (w'.cell? ⟨lb, lo + k * 4, none⟩ = some (.slice es[k].key.1 es[k].key.2.2.length es[k].key.2.1) ∧ w'.cell? ⟨lb, lo + k * 4 + 1, none⟩ = some (.slice es[k].value.1 es[k].value.2.2.length es[k].value.2.1) ∧ w'.cell? ⟨lb, lo + k * 4 + 2, none⟩ = some (.int .i64 es[k].seq) ∧ w'.cell? ⟨lb, lo + k * 4 + 3, none⟩ = some (.bool es[k].dead)) ∧ w'.cell? ⟨E, 0, none⟩ = some (.slice e.key.1 e.key.2.2.length e.key.2.1) ∧ w'.cell? ⟨E, 1, none⟩ = some (.slice e.value.1 e.value.2.2.length e.value.2.1) ∧ w'.cell? ⟨E, 2, none⟩ = some (.int .i64 e.seq) ∧ w'.cell? ⟨E, 3, none⟩ = some (.bool e.dead)) (by kernel_rfl) ⟨c0, ⟨a0, a1, a2, a3⟩, d0, d1, d2, d3⟩ ?_
        intro hS0
        refine rgn_take (i := 0) (v := ?rv1) rfl (by kernel_rfl) (by kernel_rfl) (by kernel_rfl) (fun _ _ _ h => h) (by rfl) ?rh1 (by assumption) ?rr1
        case rh1 => (intro w hSw; (try dsimp only at hSw); go_simp; try with_reducible rfl)
        simp only [Act.put, List.setIfInBounds_toArray, List.set_cons_zero, List.set_cons_succ]
        refine rgn_take (i := 1) (v := ?rv2) rfl (by kernel_rfl) (by kernel_rfl) (by kernel_rfl) (fun _ _ _ h => h) (by rfl) ?rh2 (by assumption) ?rr2
        case rh2 => (intro w hSw; (try dsimp only at hSw); go_simp; try with_reducible rfl)
        simp only [Act.put, List.setIfInBounds_toArray, List.set_cons_zero, List.set_cons_succ]
        refine rgn_take (i := 2) (v := ?rv3) rfl (by kernel_rfl) (by kernel_rfl) (by kernel_rfl) (fun _ _ _ h => h) (by rfl) ?rh3 (by assumption) ?rr3
        case rh3 => (intro w hSw; (try dsimp only at hSw); go_simp; try with_reducible rfl)
        simp only [Act.put, List.setIfInBounds_toArray, List.set_cons_zero, List.set_cons_succ]
        refine rgn_take (i := 3) (v := ?rv4) rfl (by kernel_rfl) (by kernel_rfl) (by kernel_rfl) (fun _ _ _ h => h) (by rfl) ?rh4 (by assumption) ?rr4
        case rh4 => (intro w hSw; (try dsimp only at hSw); go_simp; try with_reducible rfl)
        simp only [Act.put, List.setIfInBounds_toArray, List.set_cons_zero, List.set_cons_succ]
        refine rgn_take (i := 4) (v := ?rv5) rfl (by kernel_rfl) (by kernel_rfl) (by kernel_rfl) (fun _ _ _ h => h) (by rfl) ?rh5 (by assumption) ?rr5
        case rh5 => (intro w hSw; (try dsimp only at hSw); go_simp; try with_reducible rfl)
        simp only [Act.put, List.setIfInBounds_toArray, List.set_cons_zero, List.set_cons_succ]
        refine rgn_take (i := 5) (v := ?rv6) rfl (by kernel_rfl) (by kernel_rfl) (by kernel_rfl) (fun _ _ _ h => h) (by rfl) ?rh6 (by assumption) ?rr6
        case rh6 => (intro w hSw; (try dsimp only at hSw); go_simp; try with_reducible rfl)
        simp only [Act.put, List.setIfInBounds_toArray, List.set_cons_zero, List.set_cons_succ]
        refine rgn_take (i := 6) (v := ?rv7) rfl (by kernel_rfl) (by kernel_rfl) (by kernel_rfl) (fun _ _ _ h => h) (by rfl) ?rh7 (by assumption) ?rr7
        case rh7 => (intro w hSw; (try dsimp only at hSw); go_simp; try with_reducible rfl)
        simp only [Act.put, List.setIfInBounds_toArray, List.set_cons_zero, List.set_cons_succ]
        refine rgn_take (i := 7) (v := ?rv8) rfl (by kernel_rfl) (by kernel_rfl) (by kernel_rfl) (fun _ _ _ h => h) (by rfl) ?rh8 (by assumption) ?rr8
        case rh8 => (intro w hSw; (try dsimp only at hSw); go_simp; try with_reducible rfl)
        simp only [Act.put, List.setIfInBounds_toArray, List.set_cons_zero, List.set_cons_succ]
        refine rgn_take (i := 8) (v := ?rv9) rfl (by kernel_rfl) (by kernel_rfl) (by kernel_rfl) (fun _ _ _ h => h) (by rfl) ?rh9 (by assumption) ?rr9
        case rh9 => (intro w hSw; (try dsimp only at hSw); go_simp; try with_reducible rfl)
        simp only [Act.put, List.setIfInBounds_toArray, List.set_cons_zero, List.set_cons_succ]
        refine rgn_take (i := 9) (v := ?rv10) rfl (by kernel_rfl) (by kernel_rfl) (by kernel_rfl) (fun _ _ _ h => h) (by rfl) ?rh10 (by assumption) ?rr10
        case rh10 => (intro w hSw; (try dsimp only at hSw); go_simp; try with_reducible rfl)
        simp only [Act.put, List.setIfInBounds_toArray, List.set_cons_zero, List.set_cons_succ]
        refine rgn_take (i := 10) (v := ?rv11) rfl (by kernel_rfl) (by kernel_rfl) (by kernel_rfl) (fun _ _ _ h => h) (by rfl) ?rh11 (by assumption) ?rr11
        case rh11 => (intro w hSw; (try dsimp only at hSw); go_simp; try with_reducible rfl)
        simp only [Act.put, List.setIfInBounds_toArray, List.set_cons_zero, List.set_cons_succ]
        refine rgn_take (i := 11) (v := ?rv12) rfl (by kernel_rfl) (by kernel_rfl) (by kernel_rfl) (fun _ _ _ h => h) (by rfl) ?rh12 (by assumption) ?rr12
        case rh12 => (intro w hSw; (try dsimp only at hSw); go_simp; try with_reducible rfl)
        simp only [Act.put, List.setIfInBounds_toArray, List.set_cons_zero, List.set_cons_succ]
        refine rgn_take (i := 12) (v := ?rv13) rfl (by kernel_rfl) (by kernel_rfl) (by kernel_rfl) (fun _ _ _ h => h) (by rfl) ?rh13 (by assumption) ?rr13
        case rh13 => (intro w hSw; (try dsimp only at hSw); go_simp; try with_reducible rfl)
        simp only [Act.put, List.setIfInBounds_toArray, List.set_cons_zero, List.set_cons_succ]
        refine rgn_take (i := 13) (v := ?rv14) rfl (by kernel_rfl) (by kernel_rfl) (by kernel_rfl) (fun _ _ _ h => h) (by rfl) ?rh14 (by assumption) ?rr14
        case rh14 => (intro w hSw; (try dsimp only at hSw); go_simp; try with_reducible rfl)
        simp only [Act.put, List.setIfInBounds_toArray, List.set_cons_zero, List.set_cons_succ]
        refine rgn_take (i := 14) (v := ?rv15) rfl (by kernel_rfl) (by kernel_rfl) (by kernel_rfl) (fun _ _ _ h => h) (by rfl) ?rh15 (by assumption) ?rr15
        case rh15 => (intro w hSw; (try dsimp only at hSw); go_simp; try with_reducible rfl)
        simp only [Act.put, List.setIfInBounds_toArray, List.set_cons_zero, List.set_cons_succ]
        refine rgn_take (i := 15) (v := ?rv16) rfl (by kernel_rfl) (by kernel_rfl) (by kernel_rfl) (fun _ _ _ h => h) (by rfl) ?rh16 (by assumption) ?rr16
        case rh16 => (intro w hSw; (try dsimp only at hSw); go_simp; try with_reducible rfl)
        simp only [Act.put, List.setIfInBounds_toArray, List.set_cons_zero, List.set_cons_succ]
        refine rgn_call (i := 16) rfl (by kernel_rfl) (fun K hK => ?_)
        go_simp
        go_at_call 88; refine (rlessR es[k] e B HB.out _ (HXk.out.new (Chg.refl No _).drew) ((HEr.out.new HD.out.2.1).new (Chg.refl No _).drew)).mono ?_; rintro x w5 ⟨rfl, k5⟩; have HK5 := Lib.hid ((Chg.refl No wr).drew.tr k5); clear k5
        refine hK.out _ _ ⟨HK5.out.cell c0 id, ⟨HK5.out.cell a0 id, HK5.out.cell a1 id, HK5.out.cell a2 id, HK5.out.cell a3 id⟩, HK5.out.cell d0 id, HK5.out.cell d1 id, HK5.out.cell d2 id, HK5.out.cell d3 id⟩ (fun hS0 => ?_)
        clear hK K
        try simp only [Act.put, List.setIfInBounds_toArray, List.set_cons_zero, List.set_cons_succ]
        refine rgn_take (i := 17) (v := ?rv18) rfl (by kernel_rfl) (by kernel_rfl) (by kernel_rfl) (fun _ _ _ h => h) (by rfl) ?rh18 (by assumption) ?rr18
        case rh18 => (intro w hSw; (try dsimp only at hSw); go_simp; try with_reducible rfl)
        simp only [Act.put, List.setIfInBounds_toArray, List.set_cons_zero, List.set_cons_succ]
        refine wpAnyH_done (by kernel_rfl) ?_ _
        cases B with
        | true =>
          go_wp2_with fail
          go_roundw
          · exact ⟨k + 1, by omega, by push_cast; rfl, fun i h hi => if q : i = k then by subst q; rw [HLk.out]; exact HB.out else HD.out.1 i h (by omega), HD.out.2.1.tr HK5.out, HD.out.2.2.new HK5.out⟩
          · simp [intOf]; omega
        | false =>
          have HAt : Hid (k = atN e.ent L) := at_here hltL (fun i h hi => HD.out.1 i h hi) (by rw [HLk.out]; exact HB.out)
          go_wp2_with fail
          go_meet
          exact ⟨by rw [← HAt.out], HD.out.2.1.tr HK5.out, HD.out.2.2.new HK5.out⟩
      · have hke : k = es.length := by omega
        have HAt : Hid ((k : Int) = atN e.ent L) := by
          have := at_end (e := e.ent) (L := L) (fun i h => HD.out.1 i h (by rw [HLl.out] at h; omega))
          rw [HLl.out] at this
          unfold Hid; omega
        go_wp2_with fail
        refine wp_region_held_drew (S := fun w' => w'.cell? ⟨r, 0, none⟩ = some (.slice LA es.length lc) ∧ w'.cell? ⟨E, 0, none⟩ = some (.slice e.key.1 e.key.2.2.length e.key.2.1) ∧ w'.cell? ⟨E, 1, none⟩ = some (.slice e.value.1 e.value.2.2.length e.value.2.1) ∧ w'.cell? ⟨E, 2, none⟩ = some (.int .i64 e.seq) ∧ w'.cell? ⟨E, 3, none⟩ = some (.bool e.dead)) (by kernel_rfl) ⟨c0, d0, d1, d2, d3⟩ ?_
        intro hS0
        refine rgn_take (i := 0) (v := ?rv19) rfl (by kernel_rfl) (by kernel_rfl) (by kernel_rfl) (fun _ _ _ h => h) (by rfl) ?rh19 (by assumption) ?rr19
        case rh19 => (intro w hSw; (try dsimp only at hSw); go_simp; try with_reducible rfl)
        simp only [Act.put, List.setIfInBounds_toArray, List.set_cons_zero, List.set_cons_succ]
        refine rgn_take (i := 1) (v := ?rv20) rfl (by kernel_rfl) (by kernel_rfl) (by kernel_rfl) (fun _ _ _ h => h) (by rfl) ?rh20 (by assumption) ?rr20
        case rh20 => (intro w hSw; (try dsimp only at hSw); go_simp; try with_reducible rfl)
        simp only [Act.put, List.setIfInBounds_toArray, List.set_cons_zero, List.set_cons_succ]
        refine rgn_take (i := 2) (v := ?rv21) rfl (by kernel_rfl) (by kernel_rfl) (by kernel_rfl) (fun _ _ _ h => h) (by rfl) ?rh21 (by assumption) ?rr21
        case rh21 => (intro w hSw; (try dsimp only at hSw); go_simp; try with_reducible rfl)
        simp only [Act.put, List.setIfInBounds_toArray, List.set_cons_zero, List.set_cons_succ]
        refine rgn_take (i := 3) (v := ?rv22) rfl (by kernel_rfl) (by kernel_rfl) (by kernel_rfl) (fun _ _ _ h => h) (by rfl) ?rh22 (by assumption) ?rr22
        case rh22 => (intro w hSw; (try dsimp only at hSw); go_simp; try with_reducible rfl)
        simp only [Act.put, List.setIfInBounds_toArray, List.set_cons_zero, List.set_cons_succ]
        refine rgn_take (i := 4) (v := ?rv23) rfl (by kernel_rfl) (by kernel_rfl) (by kernel_rfl) (fun _ _ _ h => h) (by rfl) ?rh23 (by assumption) ?rr23
        case rh23 => (intro w hSw; (try dsimp only at hSw); go_simp; try with_reducible rfl)
        simp only [Act.put, List.setIfInBounds_toArray, List.set_cons_zero, List.set_cons_succ]
        refine rgn_take (i := 5) (v := ?rv24) rfl (by kernel_rfl) (by kernel_rfl) (by kernel_rfl) (fun _ _ _ h => h) (by rfl) ?rh24 (by assumption) ?rr24
        case rh24 => (intro w hSw; (try dsimp only at hSw); go_simp; try with_reducible rfl)
        simp only [Act.put, List.setIfInBounds_toArray, List.set_cons_zero, List.set_cons_succ]
        refine rgn_take (i := 6) (v := ?rv25) rfl (by kernel_rfl) (by kernel_rfl) (by kernel_rfl) (fun _ _ _ h => h) (by rfl) ?rh25 (by assumption) ?rr25
        case rh25 => (intro w hSw; (try dsimp only at hSw); go_simp; try with_reducible rfl)
        simp only [Act.put, List.setIfInBounds_toArray, List.set_cons_zero, List.set_cons_succ]
        refine rgn_take (i := 7) (v := ?rv26) rfl (by kernel_rfl) (by kernel_rfl) (by kernel_rfl) (fun _ _ _ h => h) (by rfl) ?rh26 (by assumption) ?rr26
        case rh26 => (intro w hSw; (try dsimp only at hSw); go_simp; try with_reducible rfl)
        simp only [Act.put, List.setIfInBounds_toArray, List.set_cons_zero, List.set_cons_succ]
        refine rgn_skip (i := 8) rfl (by kernel_rfl) (by kernel_rfl) (by kernel_rfl) (fun _ _ _ h => h) (by rfl) (by assumption) ?_
        simp only [Act.put, List.setIfInBounds_toArray, List.set_cons_zero, List.set_cons_succ]
        refine rgn_skip (i := 9) rfl (by kernel_rfl) (by kernel_rfl) (by kernel_rfl) (fun _ _ _ h => h) (by rfl) (by assumption) ?_
        simp only [Act.put, List.setIfInBounds_toArray, List.set_cons_zero, List.set_cons_succ]
        refine rgn_skip (i := 10) rfl (by kernel_rfl) (by kernel_rfl) (by kernel_rfl) (fun _ _ _ h => h) (by rfl) (by assumption) ?_
        simp only [Act.put, List.setIfInBounds_toArray, List.set_cons_zero, List.set_cons_succ]
        refine rgn_skip (i := 11) rfl (by kernel_rfl) (by kernel_rfl) (by kernel_rfl) (fun _ _ _ h => h) (by rfl) (by assumption) ?_
        simp only [Act.put, List.setIfInBounds_toArray, List.set_cons_zero, List.set_cons_succ]
        refine rgn_skip (i := 12) rfl (by kernel_rfl) (by kernel_rfl) (by kernel_rfl) (fun _ _ _ h => h) (by rfl) (by assumption) ?_
        simp only [Act.put, List.setIfInBounds_toArray, List.set_cons_zero, List.set_cons_succ]
        refine rgn_skip (i := 13) rfl (by kernel_rfl) (by kernel_rfl) (by kernel_rfl) (fun _ _ _ h => h) (by rfl) (by assumption) ?_
        simp only [Act.put, List.setIfInBounds_toArray, List.set_cons_zero, List.set_cons_succ]
        refine rgn_skip (i := 14) rfl (by kernel_rfl) (by kernel_rfl) (by kernel_rfl) (fun _ _ _ h => h) (by rfl) (by assumption) ?_
        simp only [Act.put, List.setIfInBounds_toArray, List.set_cons_zero, List.set_cons_succ]
        refine rgn_skip (i := 15) rfl (by kernel_rfl) (by kernel_rfl) (by kernel_rfl) (fun _ _ _ h => h) (by rfl) (by assumption) ?_
        simp only [Act.put, List.setIfInBounds_toArray, List.set_cons_zero, List.set_cons_succ]
        refine rgn_skip (i := 16) rfl (by kernel_rfl) (by kernel_rfl) (by kernel_rfl) (fun _ _ _ h => h) (by rfl) (by assumption) ?_
        simp only [Act.put, List.setIfInBounds_toArray, List.set_cons_zero, List.set_cons_succ]
        refine rgn_take (i := 17) (v := ?rv36) rfl (by kernel_rfl) (by kernel_rfl) (by kernel_rfl) (fun _ _ _ h => h) (by rfl) ?rh36 (by assumption) ?rr36
        case rh36 => (intro w hSw; (try dsimp only at hSw); go_simp; try with_reducible rfl)
        simp only [Act.put, List.setIfInBounds_toArray, List.set_cons_zero, List.set_cons_succ]
        refine wpAnyH_done (by kernel_rfl) ?_ _
        go_wp2_with fail
        go_meet
        exact ⟨by rw [HAt.out], HD.out.2.1.drew, HD.out.2.2.drew⟩
  case rest =>
    obtain ⟨hx, hcut⟩ := hcut
    subst hx
    obtain ⟨k, hkd⟩ : ∃ k, k = atN e.ent L := ⟨_, rfl⟩
    rw [← hkd]
    have hkle : k ≤ es.length := by have := at_le e.ent L; have := HLl.out; omega
    have HTk : Hid (twiceM e.ent (absR es hs) = if h : k < es.length then !lessE e.ent es[k].ent else false) := by unfold Hid; subst hkd; rw [HLd.out]; exact HTw.out
    have HKd := Lib.hid hkd
    have HD := hcut
    clear hkd hcut HS1
    go_upto_region 4 with fail
    go_cut [48] (fun t wx => t = .bool (twiceM e.ent (absR es hs)) ∧ Hid (Chg No W wx ∧ Sat w0 (Pt E 34 #[.slice e.key.1 e.key.2.2.length e.key.2.1, .slice e.value.1 e.value.2.2.length e.value.2.1, .int .i64 e.seq, .bool e.dead] * (RTabC r (.slice LA es.length lc) (.slice HA hs.length hc) es hs * F)) wx))
    case first =>
      have c0 := HD.out.2.up2.rtabL
      have d0 := HD.out.2.cell 0; have d1 := HD.out.2.cell 1; have d2 := HD.out.2.cell 2; have d3 := HD.out.2.cell 3
      by_cases hlt : k < es.length
      · obtain ⟨lb, lo, hA, hq⟩ := ents_at (HD.out.2.up2.rtabRd) (by omega)
        obtain ⟨a0, a1, a2, a3⟩ := hq k hlt
        subst hA
        unfold slv' at a0 a1
        obtain ⟨B, hB⟩ : ∃ B, lessE e.ent es[k].ent = B := ⟨_, rfl⟩
        have HT2 : Hid (twiceM e.ent (absR es hs) = !B) := by unfold Hid; rw [HTk.out, dif_pos hlt, hB]
        have HB := Lib.hid hB
        have HXk := Lib.hid (HD.out.2.up2.rtabEnt (List.getElem_mem hlt))
        clear hq hB
        refine wp_region_held_drew (S := fun w' => w'.cell? ⟨r, 0, none⟩ = some (.slice (some ⟨lb, lo, none⟩) es.length lc) ∧ (w'.cell? ⟨lb, lo + k * 4, none⟩ = some (.slice es[k].key.1 es[k].key.2.2.length es[k].key.2.1) ∧ w'.cell? ⟨lb, lo + k * 4 + 1, none⟩ = some (.slice es[k].value.1 es[k].value.2.2.length es[k].value.2.1) ∧ w'.cell? ⟨lb, lo + k * 4 + 2, none⟩ = some (.int .i64 es[k].seq) ∧ w'.cell? ⟨lb, lo + k * 4 + 3, none⟩ = some (.bool es[k].dead)) ∧ w'.cell? ⟨E, 0, none⟩ = some (.slice e.key.1 e.key.2.2.length e.key.2.1) ∧ w'.cell? ⟨E, 1, none⟩ = some (.slice e.value.1 e.value.2.2.length e.value.2.1) ∧ w'.cell? ⟨E, 2, none⟩ = some (.int .i64 e.seq) ∧ w'.cell? ⟨E, 3, none⟩ = some (.bool e.dead)) (by kernel_rfl) ⟨c0, ⟨a0, a1, a2, a3⟩, d0, d1, d2, d3⟩ ?_
        intro hS0
        refine rgn_take (i := 0) (v := ?rv37) rfl (by kernel_rfl) (by kernel_rfl) (by kernel_rfl) (fun _ _ _ h => h) (by rfl) ?rh37 (by assumption) ?rr37
        case rh37 => (intro w hSw; (try dsimp only at hSw); go_simp; try with_reducible rfl)
        simp only [Act.put, List.setIfInBounds_toArray, List.set_cons_zero, List.set_cons_succ]
        refine rgn_take (i := 1) (v := ?rv38) rfl (by kernel_rfl) (by kernel_rfl) (by kernel_rfl) (fun _ _ _ h => h) (by rfl) ?rh38 (by assumption) ?rr38
        case rh38 => (intro w hSw; (try dsimp only at hSw); go_simp; try with_reducible rfl)
        simp only [Act.put, List.setIfInBounds_toArray, List.set_cons_zero, List.set_cons_succ]
        refine rgn_take (i := 2) (v := ?rv39) rfl (by kernel_rfl) (by kernel_rfl) (by kernel_rfl) (fun _ _ _ h => h) (by rfl) ?rh39 (by assumption) ?rr39
        case rh39 => (intro w hSw; (try dsimp only at hSw); go_simp; try with_reducible rfl)
        simp only [Act.put, List.setIfInBounds_toArray, List.set_cons_zero, List.set_cons_succ]
        refine rgn_take (i := 3) (v := ?rv40) rfl (by kernel_rfl) (by kernel_rfl) (by kernel_rfl) (fun _ _ _ h => h) (by rfl) ?rh40 (by assumption) ?rr40
        case rh40 => (intro w hSw; (try dsimp only at hSw); go_simp; try with_reducible rfl)
        simp only [Act.put, List.setIfInBounds_toArray, List.set_cons_zero, List.set_cons_succ]
        refine rgn_take (i := 4) (v := ?rv41) rfl (by kernel_rfl) (by kernel_rfl) (by kernel_rfl) (fun _ _ _ h => h) (by rfl) ?rh41 (by assumption) ?rr41
        case rh41 => (intro w hSw; (try dsimp only at hSw); go_simp; try with_reducible rfl)
        simp only [Act.put, List.setIfInBounds_toArray, List.set_cons_zero, List.set_cons_succ]
        refine rgn_take (i := 5) (v := ?rv42) rfl (by kernel_rfl) (by kernel_rfl) (by kernel_rfl) (fun _ _ _ h => h) (by rfl) ?rh42 (by assumption) ?rr42
        case rh42 => (intro w hSw; (try dsimp only at hSw); go_simp; try with_reducible rfl)
        simp only [Act.put, List.setIfInBounds_toArray, List.set_cons_zero, List.set_cons_succ]
        refine rgn_take (i := 6) (v := ?rv43) rfl (by kernel_rfl) (by kernel_rfl) (by kernel_rfl) (fun _ _ _ h => h) (by rfl) ?rh43 (by assumption) ?rr43
        case rh43 => (intro w hSw; (try dsimp only at hSw); go_simp; try with_reducible rfl)
        simp only [Act.put, List.setIfInBounds_toArray, List.set_cons_zero, List.set_cons_succ]
        refine rgn_take (i := 7) (v := ?rv44) rfl (by kernel_rfl) (by kernel_rfl) (by kernel_rfl) (fun _ _ _ h => h) (by rfl) ?rh44 (by assumption) ?rr44
        case rh44 => (intro w hSw; (try dsimp only at hSw); go_simp; try with_reducible rfl)
        simp only [Act.put, List.setIfInBounds_toArray, List.set_cons_zero, List.set_cons_succ]
        refine rgn_take (i := 8) (v := ?rv45) rfl (by kernel_rfl) (by kernel_rfl) (by kernel_rfl) (fun _ _ _ h => h) (by rfl) ?rh45 (by assumption) ?rr45
        case rh45 => (intro w hSw; (try dsimp only at hSw); go_simp; try with_reducible rfl)
        simp only [Act.put, List.setIfInBounds_toArray, List.set_cons_zero, List.set_cons_succ]
        refine rgn_take (i := 9) (v := ?rv46) rfl (by kernel_rfl) (by kernel_rfl) (by kernel_rfl) (fun _ _ _ h => h) (by rfl) ?rh46 (by assumption) ?rr46
        case rh46 => (intro w hSw; (try dsimp only at hSw); go_simp; try with_reducible rfl)
        simp only [Act.put, List.setIfInBounds_toArray, List.set_cons_zero, List.set_cons_succ]
        refine rgn_take (i := 10) (v := ?rv47) rfl (by kernel_rfl) (by kernel_rfl) (by kernel_rfl) (fun _ _ _ h => h) (by rfl) ?rh47 (by assumption) ?rr47
        case rh47 => (intro w hSw; (try dsimp only at hSw); go_simp; try with_reducible rfl)
        simp only [Act.put, List.setIfInBounds_toArray, List.set_cons_zero, List.set_cons_succ]
        refine rgn_take (i := 11) (v := ?rv48) rfl (by kernel_rfl) (by kernel_rfl) (by kernel_rfl) (fun _ _ _ h => h) (by rfl) ?rh48 (by assumption) ?rr48
        case rh48 => (intro w hSw; (try dsimp only at hSw); go_simp; try with_reducible rfl)
        simp only [Act.put, List.setIfInBounds_toArray, List.set_cons_zero, List.set_cons_succ]
        refine rgn_take (i := 12) (v := ?rv49) rfl (by kernel_rfl) (by kernel_rfl) (by kernel_rfl) (fun _ _ _ h => h) (by rfl) ?rh49 (by assumption) ?rr49
        case rh49 => (intro w hSw; (try dsimp only at hSw); go_simp; try with_reducible rfl)
        simp only [Act.put, List.setIfInBounds_toArray, List.set_cons_zero, List.set_cons_succ]
        refine rgn_take (i := 13) (v := ?rv50) rfl (by kernel_rfl) (by kernel_rfl) (by kernel_rfl) (fun _ _ _ h => h) (by rfl) ?rh50 (by assumption) ?rr50
        case rh50 => (intro w hSw; (try dsimp only at hSw); go_simp; try with_reducible rfl)
        simp only [Act.put, List.setIfInBounds_toArray, List.set_cons_zero, List.set_cons_succ]
        refine rgn_take (i := 14) (v := ?rv51) rfl (by kernel_rfl) (by kernel_rfl) (by kernel_rfl) (fun _ _ _ h => h) (by rfl) ?rh51 (by assumption) ?rr51
        case rh51 => (intro w hSw; (try dsimp only at hSw); go_simp; try with_reducible rfl)
        simp only [Act.put, List.setIfInBounds_toArray, List.set_cons_zero, List.set_cons_succ]
        refine rgn_take (i := 15) (v := ?rv52) rfl (by kernel_rfl) (by kernel_rfl) (by kernel_rfl) (fun _ _ _ h => h) (by rfl) ?rh52 (by assumption) ?rr52
        case rh52 => (intro w hSw; (try dsimp only at hSw); go_simp; try with_reducible rfl)
        simp only [Act.put, List.setIfInBounds_toArray, List.set_cons_zero, List.set_cons_succ]
        refine rgn_call (i := 16) rfl (by kernel_rfl) (fun K hK => ?_)
        go_simp
        go_at_call 88; refine (rlessR e es[k] B HB.out _ ((HEr.out.new HD.out.1).new (Chg.refl No _).drew) (HXk.out.new (Chg.refl No _).drew)).mono ?_; rintro x w5 ⟨rfl, k5⟩; have HK5 := Lib.hid ((Chg.refl No wc).drew.tr k5); clear k5
        refine hK.out _ _ ⟨HK5.out.cell c0 id, ⟨HK5.out.cell a0 id, HK5.out.cell a1 id, HK5.out.cell a2 id, HK5.out.cell a3 id⟩, HK5.out.cell d0 id, HK5.out.cell d1 id, HK5.out.cell d2 id, HK5.out.cell d3 id⟩ (fun hS0 => ?_)
        clear hK K
        try simp only [Act.put, List.setIfInBounds_toArray, List.set_cons_zero, List.set_cons_succ]
        refine rgn_take (i := 17) (v := ?rv54) rfl (by kernel_rfl) (by kernel_rfl) (by kernel_rfl) (fun _ _ _ h => h) (by rfl) ?rh54 (by assumption) ?rr54
        case rh54 => (intro w hSw; (try dsimp only at hSw); go_simp; try with_reducible rfl)
        simp only [Act.put, List.setIfInBounds_toArray, List.set_cons_zero, List.set_cons_succ]
        refine rgn_take (i := 18) (v := ?rv55) rfl (by kernel_rfl) (by kernel_rfl) (by kernel_rfl) (fun _ _ _ h => h) (by rfl) ?rh55 (by assumption) ?rr55
        case rh55 => (intro w hSw; (try dsimp only at hSw); go_simp; try with_reducible rfl)
        simp only [Act.put, List.setIfInBounds_toArray, List.set_cons_zero, List.set_cons_succ]
        refine wpAnyH_done (by kernel_rfl) ?_ _
        go_wp2_with fail
        go_meet
        exact ⟨by rw [HT2.out], HD.out.1.tr HK5.out, HD.out.2.new HK5.out⟩
      · have HT2 : Hid (twiceM e.ent (absR es hs) = false) := by unfold Hid; rw [HTk.out, dif_neg hlt]
        go_wp2_with fail
        refine wp_region_held_drew (S := fun w' => w'.cell? ⟨r, 0, none⟩ = some (.slice LA es.length lc) ∧ w'.cell? ⟨E, 0, none⟩ = some (.slice e.key.1 e.key.2.2.length e.key.2.1) ∧ w'.cell? ⟨E, 1, none⟩ = some (.slice e.value.1 e.value.2.2.length e.value.2.1) ∧ w'.cell? ⟨E, 2, none⟩ = some (.int .i64 e.seq) ∧ w'.cell? ⟨E, 3, none⟩ = some (.bool e.dead)) (by kernel_rfl) ⟨c0, d0, d1, d2, d3⟩ ?_
        intro hS0
        refine rgn_take (i := 0) (v := ?rv56) rfl (by kernel_rfl) (by kernel_rfl) (by kernel_rfl) (fun _ _ _ h => h) (by rfl) ?rh56 (by assumption) ?rr56
        case rh56 => (intro w hSw; (try dsimp only at hSw); go_simp; try with_reducible rfl)
        simp only [Act.put, List.setIfInBounds_toArray, List.set_cons_zero, List.set_cons_succ]
        refine rgn_take (i := 1) (v := ?rv57) rfl (by kernel_rfl) (by kernel_rfl) (by kernel_rfl) (fun _ _ _ h => h) (by rfl) ?rh57 (by assumption) ?rr57
        case rh57 => (intro w hSw; (try dsimp only at hSw); go_simp; try with_reducible rfl)
        simp only [Act.put, List.setIfInBounds_toArray, List.set_cons_zero, List.set_cons_succ]
        refine rgn_take (i := 2) (v := ?rv58) rfl (by kernel_rfl) (by kernel_rfl) (by kernel_rfl) (fun _ _ _ h => h) (by rfl) ?rh58 (by assumption) ?rr58
        case rh58 => (intro w hSw; (try dsimp only at hSw); go_simp; try with_reducible rfl)
        simp only [Act.put, List.setIfInBounds_toArray, List.set_cons_zero, List.set_cons_succ]
        refine rgn_take (i := 3) (v := ?rv59) rfl (by kernel_rfl) (by kernel_rfl) (by kernel_rfl) (fun _ _ _ h => h) (by rfl) ?rh59 (by assumption) ?rr59
        case rh59 => (intro w hSw; (try dsimp only at hSw); go_simp; try with_reducible rfl)
        simp only [Act.put, List.setIfInBounds_toArray, List.set_cons_zero, List.set_cons_succ]
        refine rgn_take (i := 4) (v := ?rv60) rfl (by kernel_rfl) (by kernel_rfl) (by kernel_rfl) (fun _ _ _ h => h) (by rfl) ?rh60 (by assumption) ?rr60
        case rh60 => (intro w hSw; (try dsimp only at hSw); go_simp; try with_reducible rfl)
        simp only [Act.put, List.setIfInBounds_toArray, List.set_cons_zero, List.set_cons_succ]
        refine rgn_take (i := 5) (v := ?rv61) rfl (by kernel_rfl) (by kernel_rfl) (by kernel_rfl) (fun _ _ _ h => h) (by rfl) ?rh61 (by assumption) ?rr61
        case rh61 => (intro w hSw; (try dsimp only at hSw); go_simp; try with_reducible rfl)
        simp only [Act.put, List.setIfInBounds_toArray, List.set_cons_zero, List.set_cons_succ]
        refine rgn_take (i := 6) (v := ?rv62) rfl (by kernel_rfl) (by kernel_rfl) (by kernel_rfl) (fun _ _ _ h => h) (by rfl) ?rh62 (by assumption) ?rr62
        case rh62 => (intro w hSw; (try dsimp only at hSw); go_simp; try with_reducible rfl)
        simp only [Act.put, List.setIfInBounds_toArray, List.set_cons_zero, List.set_cons_succ]
        refine rgn_take (i := 7) (v := ?rv63) rfl (by kernel_rfl) (by kernel_rfl) (by kernel_rfl) (fun _ _ _ h => h) (by rfl) ?rh63 (by assumption) ?rr63
        case rh63 => (intro w hSw; (try dsimp only at hSw); go_simp; try with_reducible rfl)
        simp only [Act.put, List.setIfInBounds_toArray, List.set_cons_zero, List.set_cons_succ]
        refine rgn_skip (i := 8) rfl (by kernel_rfl) (by kernel_rfl) (by kernel_rfl) (fun _ _ _ h => h) (by rfl) (by assumption) ?_
        simp only [Act.put, List.setIfInBounds_toArray, List.set_cons_zero, List.set_cons_succ]
        refine rgn_skip (i := 9) rfl (by kernel_rfl) (by kernel_rfl) (by kernel_rfl) (fun _ _ _ h => h) (by rfl) (by assumption) ?_
        simp only [Act.put, List.setIfInBounds_toArray, List.set_cons_zero, List.set_cons_succ]
        refine rgn_skip (i := 10) rfl (by kernel_rfl) (by kernel_rfl) (by kernel_rfl) (fun _ _ _ h => h) (by rfl) (by assumption) ?_
        simp only [Act.put, List.setIfInBounds_toArray, List.set_cons_zero, List.set_cons_succ]
        refine rgn_skip (i := 11) rfl (by kernel_rfl) (by kernel_rfl) (by kernel_rfl) (fun _ _ _ h => h) (by rfl) (by assumption) ?_
        simp only [Act.put, List.setIfInBounds_toArray, List.set_cons_zero, List.set_cons_succ]
        refine rgn_skip (i := 12) rfl (by kernel_rfl) (by kernel_rfl) (by kernel_rfl) (fun _ _ _ h => h) (by rfl) (by assumption) ?_
        simp only [Act.put, List.setIfInBounds_toArray, List.set_cons_zero, List.set_cons_succ]
        refine rgn_skip (i := 13) rfl (by kernel_rfl) (by kernel_rfl) (by kernel_rfl) (fun _ _ _ h => h) (by rfl) (by assumption) ?_
        simp only [Act.put, List.setIfInBounds_toArray, List.set_cons_zero, List.set_cons_succ]
        refine rgn_skip (i := 14) rfl (by kernel_rfl) (by kernel_rfl) (by kernel_rfl) (fun _ _ _ h => h) (by rfl) (by assumption) ?_
        simp only [Act.put, List.setIfInBounds_toArray, List.set_cons_zero, List.set_cons_succ]
        refine rgn_skip (i := 15) rfl (by kernel_rfl) (by kernel_rfl) (by kernel_rfl) (fun _ _ _ h => h) (by rfl) (by assumption) ?_
        simp only [Act.put, List.setIfInBounds_toArray, List.set_cons_zero, List.set_cons_succ]
        refine rgn_skip (i := 16) rfl (by kernel_rfl) (by kernel_rfl) (by kernel_rfl) (fun _ _ _ h => h) (by rfl) (by assumption) ?_
        simp only [Act.put, List.setIfInBounds_toArray, List.set_cons_zero, List.set_cons_succ]
        refine rgn_skip (i := 17) rfl (by kernel_rfl) (by kernel_rfl) (by kernel_rfl) (fun _ _ _ h => h) (by rfl) (by assumption) ?_
        simp only [Act.put, List.setIfInBounds_toArray, List.set_cons_zero, List.set_cons_succ]
        refine rgn_take (i := 18) (v := ?rv74) rfl (by kernel_rfl) (by kernel_rfl) (by kernel_rfl) (fun _ _ _ h => h) (by rfl) ?rh74 (by assumption) ?rr74
        case rh74 => (intro w hSw; (try dsimp only at hSw); go_simp; try with_reducible rfl)
        simp only [Act.put, List.setIfInBounds_toArray, List.set_cons_zero, List.set_cons_succ]
        refine wpAnyH_done (by kernel_rfl) ?_ _
        go_wp2_with fail
        go_meet
        exact ⟨by rw [HT2.out], HD.out.1.drew, HD.out.2.drew⟩
    case rest =>
      obtain ⟨hx, hcut⟩ := hcut
      subst hx
      have HD4 := hcut
      clear hcut HD
      cases hT : twiceM e.ent (absR es hs) with
      | true =>
        have HT := Lib.hid hT
        clear hT
        go_wp2_with fail
        go_ret
        exact ⟨es, hs, by rw [HT.out]; rfl, HLen.out, by omega, by unfold insM; rw [HT.out]; rfl, fun y h => .inl h, HD4.out.2.right.rtabI⟩
      | false =>
        have HT := Lib.hid hT
        clear hT
        go_upto_if 50 with fail
        go_cut [2] (fun v wx => v = .int .i64 (max H 1) ∧ Hid (wx = wc))
        case first =>
          by_cases h1 : H < 1
          · go_wp2_with fail
            go_meet
            exact ⟨by rw [Int.max_eq_right (by omega)], rfl⟩
          · go_wp2_with fail
            go_meet
            exact ⟨by rw [Int.max_eq_left (by omega)], rfl⟩
        case rest =>
          obtain ⟨hx, hcut⟩ := hcut
          subst hx
          have hcw := hcut.out
          subst hcw
          clear hcut
          go_upto_if 52 with fail
          go_cut [2] (fun v wx => v = .int .i64 (clampH H : Int) ∧ Hid (wx = wc))
          case first =>
            have HK : Hid ((clampH H : Int) = min (max H 1) 8) := by unfold Hid clampH; omega
            generalize max H 1 = M at *
            by_cases h1 : 8 < M
            · go_wp2_with fail
              go_meet
              exact ⟨by rw [HK.out, Int.min_eq_right (by omega)], rfl⟩
            · go_wp2_with fail
              go_meet
              exact ⟨by rw [HK.out, Int.min_eq_left (by omega)], rfl⟩
          case rest =>
            obtain ⟨hx, hcut⟩ := hcut
            subst hx
            have hcw := hcut.out
            subst hcw
            clear hcut
            obtain ⟨K8, hK8⟩ : ∃ K8, K8 = clampH H := ⟨_, rfl⟩
            rw [← hK8]
            have HK8 := Lib.hid hK8
            clear hK8
            go_upto_region 12 with fail
            have c0 := HD4.out.2.up2.rtabL
            have d0 := HD4.out.2.cell 0; have d1 := HD4.out.2.cell 1; have d2 := HD4.out.2.cell 2; have d3 := HD4.out.2.cell 3
            have hkc : (k : Int) ≤ lc := by omega
            have hkz : (0 : Int) ≤ k := by omega
            obtain ⟨i0, hi0, hz0, hz1, hz2⟩ := info_parts info_entry
            have Hi0 := Lib.hid hi0; have Hz0 := Lib.hid hz0; have Hz1 := Lib.hid hz1; have Hz2 := Lib.hid hz2
            obtain ⟨j0, hj0, hy0, hy1, hy2⟩ := info_parts info_int
            have Hj0 := Lib.hid hj0; have Hy0 := Lib.hid hy0; have Hy1 := Lib.hid hy1; have Hy2 := Lib.hid hy2
            clear hi0 hz0 hz1 hz2 hj0 hy0 hy1 hy2
            go_cut [8] (fun v wx => ∃ (N : En) (A : Option Addr) (c : Nat), v = .slice A (es.length + 1) c ∧ Hid ((N.ent = e.ent ∧ CapE N) ∧ Sat w0 (Row 34 4 (.slice A (es.length + 1) c) (es.length + 1) ((es.take k ++ N :: es.drop k).flatMap enV) * (RoL [N.key, N.value] * (Pt E 34 #[.slice e.key.1 e.key.2.2.length e.key.2.1, .slice e.value.1 e.value.2.2.length e.value.2.1, .int .i64 e.seq, .bool e.dead] * (RTabC r (.slice LA es.length lc) (.slice HA hs.length hc) es hs * F)))) wx))
            case first =>
              have HRest : Hid (∀ (LA' : Option Addr) x, RdV x LA (es.flatMap enV) → (LA' = if lc = k then LA else LA.map (·.add (k * 4))) → RdV x LA' ((es.drop k).flatMap enV)) := by
                intro LA' x hx hq
                rw [ents_dp]
                subst hq
                by_cases hck : lc = k
                · have : es.length = k := by omega
                  rw [List.drop_of_length_le (by rw [ents_len]; omega)]
                  exact RdV.nil _ _
                · rw [if_neg hck]
                  have h4 := RdV.drop hx (k := k * 4) (cap := lc * 4) (by rw [ents_len]; omega) (by rw [ents_len]; omega)
                  rwa [if_neg (by omega)] at h4
              rcases HF3.out with ⟨hg, hlc0⟩ | ⟨g, hg⟩
              · subst hg
                have hk0 : k = 0 := by omega
                subst hk0
                subst hlc0
                refine wp_region_held_drew (S := fun w' => w'.cell? ⟨r, 0, none⟩ = some (.slice none es.length 0) ∧ w'.cell? ⟨E, 0, none⟩ = some (.slice e.key.1 e.key.2.2.length e.key.2.1) ∧ w'.cell? ⟨E, 1, none⟩ = some (.slice e.value.1 e.value.2.2.length e.value.2.1) ∧ w'.cell? ⟨E, 2, none⟩ = some (.int .i64 e.seq) ∧ w'.cell? ⟨E, 3, none⟩ = some (.bool e.dead)) (by kernel_rfl) ⟨c0, d0, d1, d2, d3⟩ ?_
                intro hS0
                refine rgn_take (i := 0) (v := ?rv75) rfl (by kernel_rfl) (by kernel_rfl) (by kernel_rfl) (fun _ _ _ h => h) (by rfl) ?rh75 (by assumption) ?rr75
                case rh75 => (intro w hSw; (try dsimp only at hSw); go_simp; try with_reducible rfl)
                simp only [Act.put, List.setIfInBounds_toArray, List.set_cons_zero, List.set_cons_succ]
                refine rgn_take (i := 1) (v := ?rv76) rfl (by kernel_rfl) (by kernel_rfl) (by kernel_rfl) (fun _ _ _ h => h) (by rfl) ?rh76 (by assumption) ?rr76
                case rh76 => (intro w hSw; (try dsimp only at hSw); go_simp; try with_reducible rfl)
                simp only [Act.put, List.setIfInBounds_toArray, List.set_cons_zero, List.set_cons_succ]
                refine rgn_take (i := 2) (v := ?rv77) rfl (by kernel_rfl) (by kernel_rfl) (by kernel_rfl) (fun _ _ _ h => h) (by rfl) ?rh77 (by assumption) ?rr77
                case rh77 => (intro w hSw; (try dsimp only at hSw); go_simp; try with_reducible rfl)
                simp only [Act.put, List.setIfInBounds_toArray, List.set_cons_zero, List.set_cons_succ]
                refine rgn_take (i := 3) (v := ?rv78) rfl (by kernel_rfl) (by kernel_rfl) (by kernel_rfl) (fun _ _ _ h => h) (by rfl) ?rh78 (by assumption) ?rr78
                case rh78 => (intro w hSw; (try dsimp only at hSw); go_simp; try with_reducible rfl)
                simp only [Act.put, List.setIfInBounds_toArray, List.set_cons_zero, List.set_cons_succ]
                refine rgn_take (i := 4) (v := ?rv79) rfl (by kernel_rfl) (by kernel_rfl) (by kernel_rfl) (fun _ _ _ h => h) (by rfl) ?rh79 (by assumption) ?rr79
                case rh79 => (intro w hSw; (try dsimp only at hSw); go_simp; try with_reducible rfl)
                simp only [Act.put, List.setIfInBounds_toArray, List.set_cons_zero, List.set_cons_succ]
                refine rgn_take (i := 5) (v := ?rv80) rfl (by kernel_rfl) (by kernel_rfl) (by kernel_rfl) (fun _ _ _ h => h) (by rfl) ?rh80 (by assumption) ?rr80
                case rh80 => (intro w hSw; (try dsimp only at hSw); go_simp; try with_reducible rfl)
                simp only [Act.put, List.setIfInBounds_toArray, List.set_cons_zero, List.set_cons_succ]
                refine rgn_take (i := 6) (v := ?rv81) rfl (by kernel_rfl) (by kernel_rfl) (by kernel_rfl) (fun _ _ _ h => h) (by rfl) ?rh81 (by assumption) ?rr81
                case rh81 => (intro w hSw; (try dsimp only at hSw); go_simp; try with_reducible rfl)
                simp only [Act.put, List.setIfInBounds_toArray, List.set_cons_zero, List.set_cons_succ]
                refine rgn_take (i := 8) (v := ?rv82) rfl (by kernel_rfl) (by kernel_rfl) (by kernel_rfl) (fun _ _ _ h => h) (by rfl) ?rh82 (by assumption) ?rr82
                case rh82 => (intro w hSw; (try dsimp only at hSw); go_simp; try with_reducible rfl)
                simp only [Act.put, List.setIfInBounds_toArray, List.set_cons_zero, List.set_cons_succ]
                refine rgn_take (i := 12) (v := ?rv83) rfl (by kernel_rfl) (by kernel_rfl) (by kernel_rfl) (fun _ _ _ h => h) (by rfl) ?rh83 (by assumption) ?rr83
                case rh83 => (intro w hSw; (try dsimp only at hSw); go_simp; try with_reducible rfl)
                simp only [Act.put, List.setIfInBounds_toArray, List.set_cons_zero, List.set_cons_succ]
                refine rgn_take (i := 13) (v := ?rv84) rfl (by kernel_rfl) (by kernel_rfl) (by kernel_rfl) (fun _ _ _ h => h) (by rfl) ?rh84 (by assumption) ?rr84
                case rh84 => (intro w hSw; (try dsimp only at hSw); go_simp; try with_reducible rfl)
                simp only [Act.put, List.setIfInBounds_toArray, List.set_cons_zero, List.set_cons_succ]
                refine rgn_take (i := 14) (v := ?rv85) rfl (by kernel_rfl) (by kernel_rfl) (by kernel_rfl) (fun _ _ _ h => h) (by rfl) ?rh85 (by assumption) ?rr85
                case rh85 => (intro w hSw; (try dsimp only at hSw); go_simp; try with_reducible rfl)
                simp only [Act.put, List.setIfInBounds_toArray, List.set_cons_zero, List.set_cons_succ]
                refine rgn_take (i := 15) (v := ?rv86) rfl (by kernel_rfl) (by kernel_rfl) (by kernel_rfl) (fun _ _ _ h => h) (by rfl) ?rh86 (by assumption) ?rr86
                case rh86 => (intro w hSw; (try dsimp only at hSw); go_simp; try with_reducible rfl)
                simp only [Act.put, List.setIfInBounds_toArray, List.set_cons_zero, List.set_cons_succ]
                refine rgn_take (i := 16) (v := ?rv87) rfl (by kernel_rfl) (by kernel_rfl) (by kernel_rfl) (fun _ _ _ h => h) (by rfl) ?rh87 (by assumption) ?rr87
                case rh87 => (intro w hSw; (try dsimp only at hSw); go_simp; try with_reducible rfl)
                simp only [Act.put, List.setIfInBounds_toArray, List.set_cons_zero, List.set_cons_succ]
                refine rgn_take (i := 17) (v := ?rv88) rfl (by kernel_rfl) (by kernel_rfl) (by kernel_rfl) (fun _ _ _ h => h) (by rfl) ?rh88 (by assumption) ?rr88
                case rh88 => (intro w hSw; (try dsimp only at hSw); go_simp; try with_reducible rfl)
                simp only [Act.put, List.setIfInBounds_toArray, List.set_cons_zero, List.set_cons_succ]
                refine rgn_call (i := 7) rfl (by kernel_rfl) (fun K hK => ?_)
                refine step_appF rfl (.tmp 53) (.tmp 59) 22 rfl 34 i0 _ 4 64 Try.underlying22 Hi0.out Hz0.out Hz1.out Hz2.out rfl (by decide) (.slice none 0 0) 0 [] rfl w0 _ (by exact HD4.out.2.drew.row_nil _ 4) wc (Chg.refl No wc).drew (fresh_nil wc) none 0 0 ((es.take 0).flatMap enV) rfl (by rw [ents_tk]; exact (HD4.out.2.drew.up2.rtabRd).take _) (by rw [ents_len, List.length_take, Nat.min_eq_left hkle]) (ent_ones _) (by unfold maxLen; omega) (by omega) ?_; intro A1 c1 w1 hs1 hc1 hf1; rw [Nat.zero_add] at hs1 hf1; rw [Nat.zero_add]; rw [List.nil_append] at hs1; have HS1 := Lib.hid hs1; have HC1 := Lib.hid hc1; have HF1 := Lib.hid hf1; clear hs1 hc1 hf1
                refine hK.out _ _ ⟨HS1.out.up3.rtabL, HS1.out.up2.cell 0, HS1.out.up2.cell 1, HS1.out.up2.cell 2, HS1.out.up2.cell 3⟩ (fun hS0 => ?_)
                clear hK K
                try simp only [Act.put, List.setIfInBounds_toArray, List.set_cons_zero, List.set_cons_succ]
                refine rgn_call (i := 9) rfl (by kernel_rfl) (fun K hK => ?_)
                go_simp
                go_at_call 24; refine (etwin_any e w0 _ _ HS1.out ((HEr.out.new HD4.out.1).new HC1.out) (by omega) (by omega)).mono ?_; rintro x w2 ⟨⟨B1, b1, B2, b2, rfl, hs2⟩, k2⟩; simp only [enA]; have HCp := Lib.hid (cap_rows hs2 e.seq e.dead); have HS2 := Lib.hid (rows_rol hs2); have HC2 := Lib.hid (HC1.out.tr k2); clear hs2 k2
                refine hK.out _ _ ⟨HS2.out.up4.rtabL, HS2.out.up3.cell 0, HS2.out.up3.cell 1, HS2.out.up3.cell 2, HS2.out.up3.cell 3⟩ (fun hS0 => ?_)
                clear hK K
                refine rgn_call (i := 10) rfl (by kernel_rfl) (fun K hK => ?_)
                go_simp
                have HS3 := Lib.hid (HS2.out.alloc' (.cells #[.slice B1 e.key.2.2.length b1, .slice B2 e.value.2.2.length b2, .int .i64 e.seq, .bool e.dead] 34)); have HC3 := Lib.hid (HC2.out.alloc (.cells #[.slice B1 e.key.2.2.length b1, .slice B2 e.value.2.2.length b2, .int .i64 e.seq, .bool e.dead] 34))
                refine hK.out _ _ ⟨HS3.out.up4.rtabL, HS3.out.up3.cell 0, HS3.out.up3.cell 1, HS3.out.up3.cell 2, HS3.out.up3.cell 3⟩ (fun hS0 => ?_)
                clear hK K
                refine rgn_call (i := 11) rfl (by kernel_rfl) (fun K hK => ?_)
                refine step_appF rfl (.tmp 60) (.tmp 63) 22 rfl 34 i0 _ 4 64 Try.underlying22 Hi0.out Hz0.out Hz1.out Hz2.out rfl (by decide) (.slice A1 0 c1) 0 ((es.take 0).flatMap enV) rfl w0 _ (by exact HS3.out.up2) wc HC3.out HF1.out (some ⟨w2.heap.size, 0, none⟩) 1 1 (enV ⟨(B1, b1, e.key.2.2), (B2, b2, e.value.2.2), e.seq, e.dead⟩) rfl (lit_rdv _ _ _) rfl (by have := ent_ones [⟨(B1, b1, e.key.2.2), (B2, b2, e.value.2.2), e.seq, e.dead⟩]; simpa using this) (by unfold maxLen; omega) (by omega) ?_; intro A4 c4 w4 hs4 hc4 hf4; have HS4 := Lib.hid hs4; have HC4 := Lib.hid hc4; have HF4 := Lib.hid hf4; clear hs4 hc4 hf4
                refine hK.out _ _ ⟨HS4.out.up4.rtabL, HS4.out.up3.cell 0, HS4.out.up3.cell 1, HS4.out.up3.cell 2, HS4.out.up3.cell 3⟩ (fun hS0 => ?_)
                clear hK K
                try simp only [Act.put, List.setIfInBounds_toArray, List.set_cons_zero, List.set_cons_succ]
                refine rgn_call (i := 18) rfl (by kernel_rfl) (fun K hK => ?_)
                refine step_appF rfl (.tmp 64) (.tmp 70) 22 rfl 34 i0 _ 4 64 Try.underlying22 Hi0.out Hz0.out Hz1.out Hz2.out rfl (by decide) (.slice A4 (0 + 1) c4) (0 + 1) ((es.take 0).flatMap enV ++ enV ⟨(B1, b1, e.key.2.2), (B2, b2, e.value.2.2), e.seq, e.dead⟩) rfl w0 _ (by exact HS4.out) wc HC4.out HF4.out none 0 0 ((es.drop 0).flatMap enV) rfl (HRest.out _ _ (HS4.out.up4.rtabRd) (by rw [if_pos rfl])) (by rw [ents_len, List.length_drop] <;> omega) (ent_ones _) (by unfold maxLen; omega) (by omega) ?_; intro A5 c5 w5 hs5 hc5 hf5; have HS5 := Lib.hid hs5; clear hs5 hc5 hf5
                refine hK.out _ _ ⟨HS5.out.up4.rtabL, HS5.out.up3.cell 0, HS5.out.up3.cell 1, HS5.out.up3.cell 2, HS5.out.up3.cell 3⟩ (fun hS0 => ?_)
                clear hK K
                try simp only [Act.put, List.setIfInBounds_toArray, List.set_cons_zero, List.set_cons_succ]
                refine rgn_take (i := 19) (v := ?rv94) rfl (by kernel_rfl) (by kernel_rfl) (by kernel_rfl) (fun _ _ _ h => h) (by rfl) ?rh94 (by assumption) ?rr94
                case rh94 => (intro w hSw; (try dsimp only at hSw); go_simp; try with_reducible rfl)
                simp only [Act.put, List.setIfInBounds_toArray, List.set_cons_zero, List.set_cons_succ]
                refine wpAnyH_done (by kernel_rfl) ?_ _
                go_wp2_with fail
                go_meet
                have en : 0 + 1 + 0 = es.length + 1 := by omega
                refine ⟨⟨(B1, b1, e.key.2.2), (B2, b2, e.value.2.2), e.seq, e.dead⟩, A5, c5, by rw [← en], ⟨rfl, HCp.out⟩, ?_⟩
                have h9 := HS5.out
                rw [en] at h9
                refine h9.of ?_
                rw [ents_app, List.flatMap_cons, List.append_assoc]
              · subst hg
                by_cases hck : lc = k
                · subst hck
                  refine wp_region_held_drew (S := fun w' => w'.cell? ⟨r, 0, none⟩ = some (.slice (some ⟨g, 0, none⟩) es.length lc) ∧ w'.cell? ⟨E, 0, none⟩ = some (.slice e.key.1 e.key.2.2.length e.key.2.1) ∧ w'.cell? ⟨E, 1, none⟩ = some (.slice e.value.1 e.value.2.2.length e.value.2.1) ∧ w'.cell? ⟨E, 2, none⟩ = some (.int .i64 e.seq) ∧ w'.cell? ⟨E, 3, none⟩ = some (.bool e.dead)) (by kernel_rfl) ⟨c0, d0, d1, d2, d3⟩ ?_
                  intro hS0
                  refine rgn_take (i := 0) (v := ?rv95) rfl (by kernel_rfl) (by kernel_rfl) (by kernel_rfl) (fun _ _ _ h => h) (by rfl) ?rh95 (by assumption) ?rr95
                  case rh95 => (intro w hSw; (try dsimp only at hSw); go_simp; try with_reducible rfl)
                  simp only [Act.put, List.setIfInBounds_toArray, List.set_cons_zero, List.set_cons_succ]
                  refine rgn_take (i := 1) (v := ?rv96) rfl (by kernel_rfl) (by kernel_rfl) (by kernel_rfl) (fun _ _ _ h => h) (by rfl) ?rh96 (by assumption) ?rr96
                  case rh96 => (intro w hSw; (try dsimp only at hSw); go_simp; try with_reducible rfl)
                  simp only [Act.put, List.setIfInBounds_toArray, List.set_cons_zero, List.set_cons_succ]
                  refine rgn_take (i := 2) (v := ?rv97) rfl (by kernel_rfl) (by kernel_rfl) (by kernel_rfl) (fun _ _ _ h => h) (by rfl) ?rh97 (by assumption) ?rr97
                  case rh97 => (intro w hSw; (try dsimp only at hSw); go_simp; try with_reducible rfl)
                  simp only [Act.put, List.setIfInBounds_toArray, List.set_cons_zero, List.set_cons_succ]
                  refine rgn_take (i := 3) (v := ?rv98) rfl (by kernel_rfl) (by kernel_rfl) (by kernel_rfl) (fun _ _ _ h => h) (by rfl) ?rh98 (by assumption) ?rr98
                  case rh98 => (intro w hSw; (try dsimp only at hSw); go_simp; try with_reducible rfl)
                  simp only [Act.put, List.setIfInBounds_toArray, List.set_cons_zero, List.set_cons_succ]
                  refine rgn_take (i := 4) (v := ?rv99) rfl (by kernel_rfl) (by kernel_rfl) (by kernel_rfl) (fun _ _ _ h => h) (by rfl) ?rh99 (by assumption) ?rr99
                  case rh99 => (intro w hSw; (try dsimp only at hSw); go_simp; try with_reducible rfl)
                  simp only [Act.put, List.setIfInBounds_toArray, List.set_cons_zero, List.set_cons_succ]
                  refine rgn_take (i := 5) (v := ?rv100) rfl (by kernel_rfl) (by kernel_rfl) (by kernel_rfl) (fun _ _ _ h => h) (by rfl) ?rh100 (by assumption) ?rr100
                  case rh100 => (intro w hSw; (try dsimp only at hSw); go_simp; try with_reducible rfl)
                  simp only [Act.put, List.setIfInBounds_toArray, List.set_cons_zero, List.set_cons_succ]
                  refine rgn_take (i := 6) (v := ?rv101) rfl (by kernel_rfl) (by kernel_rfl) (by kernel_rfl) (fun _ _ _ h => h) (by rfl) ?rh101 (by assumption) ?rr101
                  case rh101 => (intro w hSw; (try dsimp only at hSw); go_simp; try with_reducible rfl)
                  simp only [Act.put, List.setIfInBounds_toArray, List.set_cons_zero, List.set_cons_succ]
                  refine rgn_take (i := 8) (v := ?rv102) rfl (by kernel_rfl) (by kernel_rfl) (by kernel_rfl) (fun _ _ _ h => h) (by rfl) ?rh102 (by assumption) ?rr102
                  case rh102 => (intro w hSw; (try dsimp only at hSw); go_simp; try with_reducible rfl)
                  simp only [Act.put, List.setIfInBounds_toArray, List.set_cons_zero, List.set_cons_succ]
                  refine rgn_take (i := 12) (v := ?rv103) rfl (by kernel_rfl) (by kernel_rfl) (by kernel_rfl) (fun _ _ _ h => h) (by rfl) ?rh103 (by assumption) ?rr103
                  case rh103 => (intro w hSw; (try dsimp only at hSw); go_simp; try with_reducible rfl)
                  simp only [Act.put, List.setIfInBounds_toArray, List.set_cons_zero, List.set_cons_succ]
                  refine rgn_take (i := 13) (v := ?rv104) rfl (by kernel_rfl) (by kernel_rfl) (by kernel_rfl) (fun _ _ _ h => h) (by rfl) ?rh104 (by assumption) ?rr104
                  case rh104 => (intro w hSw; (try dsimp only at hSw); go_simp; try with_reducible rfl)
                  simp only [Act.put, List.setIfInBounds_toArray, List.set_cons_zero, List.set_cons_succ]
                  refine rgn_take (i := 14) (v := ?rv105) rfl (by kernel_rfl) (by kernel_rfl) (by kernel_rfl) (fun _ _ _ h => h) (by rfl) ?rh105 (by assumption) ?rr105
                  case rh105 => (intro w hSw; (try dsimp only at hSw); go_simp; try with_reducible rfl)
                  simp only [Act.put, List.setIfInBounds_toArray, List.set_cons_zero, List.set_cons_succ]
                  refine rgn_take (i := 15) (v := ?rv106) rfl (by kernel_rfl) (by kernel_rfl) (by kernel_rfl) (fun _ _ _ h => h) (by rfl) ?rh106 (by assumption) ?rr106
                  case rh106 => (intro w hSw; (try dsimp only at hSw); go_simp; try with_reducible rfl)
                  simp only [Act.put, List.setIfInBounds_toArray, List.set_cons_zero, List.set_cons_succ]
                  refine rgn_take (i := 16) (v := ?rv107) rfl (by kernel_rfl) (by kernel_rfl) (by kernel_rfl) (fun _ _ _ h => h) (by rfl) ?rh107 (by assumption) ?rr107
                  case rh107 => (intro w hSw; (try dsimp only at hSw); go_simp; try with_reducible rfl)
                  simp only [Act.put, List.setIfInBounds_toArray, List.set_cons_zero, List.set_cons_succ]
                  refine rgn_take (i := 17) (v := ?rv108) rfl (by kernel_rfl) (by kernel_rfl) (by kernel_rfl) (fun _ _ _ h => h) (by rfl) ?rh108 (by assumption) ?rr108
                  case rh108 => (intro w hSw; (try dsimp only at hSw); go_simp; try with_reducible rfl)
                  simp only [Act.put, List.setIfInBounds_toArray, List.set_cons_zero, List.set_cons_succ]
                  refine rgn_call (i := 7) rfl (by kernel_rfl) (fun K hK => ?_)
                  refine step_appF rfl (.tmp 53) (.tmp 59) 22 rfl 34 i0 _ 4 64 Try.underlying22 Hi0.out Hz0.out Hz1.out Hz2.out rfl (by decide) (.slice none 0 0) 0 [] rfl w0 _ (by exact HD4.out.2.drew.row_nil _ 4) wc (Chg.refl No wc).drew (fresh_nil wc) (some ⟨g, 0, none⟩) lc lc ((es.take lc).flatMap enV) rfl (by rw [ents_tk]; exact (HD4.out.2.drew.up2.rtabRd).take _) (by rw [ents_len, List.length_take, Nat.min_eq_left hkle]) (ent_ones _) (by unfold maxLen; omega) (by omega) ?_; intro A1 c1 w1 hs1 hc1 hf1; rw [Nat.zero_add] at hs1 hf1; rw [Nat.zero_add]; rw [List.nil_append] at hs1; have HS1 := Lib.hid hs1; have HC1 := Lib.hid hc1; have HF1 := Lib.hid hf1; clear hs1 hc1 hf1
                  refine hK.out _ _ ⟨HS1.out.up3.rtabL, HS1.out.up2.cell 0, HS1.out.up2.cell 1, HS1.out.up2.cell 2, HS1.out.up2.cell 3⟩ (fun hS0 => ?_)
                  clear hK K
                  try simp only [Act.put, List.setIfInBounds_toArray, List.set_cons_zero, List.set_cons_succ]
                  refine rgn_call (i := 9) rfl (by kernel_rfl) (fun K hK => ?_)
                  go_simp
                  go_at_call 24; refine (etwin_any e w0 _ _ HS1.out ((HEr.out.new HD4.out.1).new HC1.out) (by omega) (by omega)).mono ?_; rintro x w2 ⟨⟨B1, b1, B2, b2, rfl, hs2⟩, k2⟩; simp only [enA]; have HCp := Lib.hid (cap_rows hs2 e.seq e.dead); have HS2 := Lib.hid (rows_rol hs2); have HC2 := Lib.hid (HC1.out.tr k2); clear hs2 k2
                  refine hK.out _ _ ⟨HS2.out.up4.rtabL, HS2.out.up3.cell 0, HS2.out.up3.cell 1, HS2.out.up3.cell 2, HS2.out.up3.cell 3⟩ (fun hS0 => ?_)
                  clear hK K
                  refine rgn_call (i := 10) rfl (by kernel_rfl) (fun K hK => ?_)
                  go_simp
                  have HS3 := Lib.hid (HS2.out.alloc' (.cells #[.slice B1 e.key.2.2.length b1, .slice B2 e.value.2.2.length b2, .int .i64 e.seq, .bool e.dead] 34)); have HC3 := Lib.hid (HC2.out.alloc (.cells #[.slice B1 e.key.2.2.length b1, .slice B2 e.value.2.2.length b2, .int .i64 e.seq, .bool e.dead] 34))
                  refine hK.out _ _ ⟨HS3.out.up4.rtabL, HS3.out.up3.cell 0, HS3.out.up3.cell 1, HS3.out.up3.cell 2, HS3.out.up3.cell 3⟩ (fun hS0 => ?_)
                  clear hK K
                  refine rgn_call (i := 11) rfl (by kernel_rfl) (fun K hK => ?_)
                  refine step_appF rfl (.tmp 60) (.tmp 63) 22 rfl 34 i0 _ 4 64 Try.underlying22 Hi0.out Hz0.out Hz1.out Hz2.out rfl (by decide) (.slice A1 lc c1) lc ((es.take lc).flatMap enV) rfl w0 _ (by exact HS3.out.up2) wc HC3.out HF1.out (some ⟨w2.heap.size, 0, none⟩) 1 1 (enV ⟨(B1, b1, e.key.2.2), (B2, b2, e.value.2.2), e.seq, e.dead⟩) rfl (lit_rdv _ _ _) rfl (by have := ent_ones [⟨(B1, b1, e.key.2.2), (B2, b2, e.value.2.2), e.seq, e.dead⟩]; simpa using this) (by unfold maxLen; omega) (by omega) ?_; intro A4 c4 w4 hs4 hc4 hf4; have HS4 := Lib.hid hs4; have HC4 := Lib.hid hc4; have HF4 := Lib.hid hf4; clear hs4 hc4 hf4
                  refine hK.out _ _ ⟨HS4.out.up4.rtabL, HS4.out.up3.cell 0, HS4.out.up3.cell 1, HS4.out.up3.cell 2, HS4.out.up3.cell 3⟩ (fun hS0 => ?_)
                  clear hK K
                  try simp only [Act.put, List.setIfInBounds_toArray, List.set_cons_zero, List.set_cons_succ]
                  refine rgn_call (i := 18) rfl (by kernel_rfl) (fun K hK => ?_)
                  refine step_appF rfl (.tmp 64) (.tmp 70) 22 rfl 34 i0 _ 4 64 Try.underlying22 Hi0.out Hz0.out Hz1.out Hz2.out rfl (by decide) (.slice A4 (lc + 1) c4) (lc + 1) ((es.take lc).flatMap enV ++ enV ⟨(B1, b1, e.key.2.2), (B2, b2, e.value.2.2), e.seq, e.dead⟩) rfl w0 _ (by exact HS4.out) wc HC4.out HF4.out (some ⟨g, 0, none⟩) 0 0 ((es.drop lc).flatMap enV) rfl (HRest.out _ _ (HS4.out.up4.rtabRd) (by rw [if_pos rfl])) (by rw [ents_len, List.length_drop] <;> omega) (ent_ones _) (by unfold maxLen; omega) (by omega) ?_; intro A5 c5 w5 hs5 hc5 hf5; have HS5 := Lib.hid hs5; clear hs5 hc5 hf5
                  refine hK.out _ _ ⟨HS5.out.up4.rtabL, HS5.out.up3.cell 0, HS5.out.up3.cell 1, HS5.out.up3.cell 2, HS5.out.up3.cell 3⟩ (fun hS0 => ?_)
                  clear hK K
                  try simp only [Act.put, List.setIfInBounds_toArray, List.set_cons_zero, List.set_cons_succ]
                  refine rgn_take (i := 19) (v := ?rv114) rfl (by kernel_rfl) (by kernel_rfl) (by kernel_rfl) (fun _ _ _ h => h) (by rfl) ?rh114 (by assumption) ?rr114
                  case rh114 => (intro w hSw; (try dsimp only at hSw); go_simp; try with_reducible rfl)
                  simp only [Act.put, List.setIfInBounds_toArray, List.set_cons_zero, List.set_cons_succ]
                  refine wpAnyH_done (by kernel_rfl) ?_ _
                  go_wp2_with fail
                  go_meet
                  have en : lc + 1 + 0 = es.length + 1 := by omega
                  refine ⟨⟨(B1, b1, e.key.2.2), (B2, b2, e.value.2.2), e.seq, e.dead⟩, A5, c5, by rw [en], ⟨rfl, HCp.out⟩, ?_⟩
                  have h9 := HS5.out
                  rw [en] at h9
                  refine h9.of ?_
                  rw [ents_app, List.flatMap_cons, List.append_assoc]
                · skip
                  refine wp_region_held_drew (S := fun w' => w'.cell? ⟨r, 0, none⟩ = some (.slice (some ⟨g, 0, none⟩) es.length lc) ∧ w'.cell? ⟨E, 0, none⟩ = some (.slice e.key.1 e.key.2.2.length e.key.2.1) ∧ w'.cell? ⟨E, 1, none⟩ = some (.slice e.value.1 e.value.2.2.length e.value.2.1) ∧ w'.cell? ⟨E, 2, none⟩ = some (.int .i64 e.seq) ∧ w'.cell? ⟨E, 3, none⟩ = some (.bool e.dead)) (by kernel_rfl) ⟨c0, d0, d1, d2, d3⟩ ?_
                  intro hS0
                  refine rgn_take (i := 0) (v := ?rv115) rfl (by kernel_rfl) (by kernel_rfl) (by kernel_rfl) (fun _ _ _ h => h) (by rfl) ?rh115 (by assumption) ?rr115
                  case rh115 => (intro w hSw; (try dsimp only at hSw); go_simp; try with_reducible rfl)
                  simp only [Act.put, List.setIfInBounds_toArray, List.set_cons_zero, List.set_cons_succ]
                  refine rgn_take (i := 1) (v := ?rv116) rfl (by kernel_rfl) (by kernel_rfl) (by kernel_rfl) (fun _ _ _ h => h) (by rfl) ?rh116 (by assumption) ?rr116
                  case rh116 => (intro w hSw; (try dsimp only at hSw); go_simp; try with_reducible rfl)
                  simp only [Act.put, List.setIfInBounds_toArray, List.set_cons_zero, List.set_cons_succ]
                  refine rgn_take (i := 2) (v := ?rv117) rfl (by kernel_rfl) (by kernel_rfl) (by kernel_rfl) (fun _ _ _ h => h) (by rfl) ?rh117 (by assumption) ?rr117
                  case rh117 => (intro w hSw; (try dsimp only at hSw); go_simp; try with_reducible rfl)
                  simp only [Act.put, List.setIfInBounds_toArray, List.set_cons_zero, List.set_cons_succ]
                  refine rgn_take (i := 3) (v := ?rv118) rfl (by kernel_rfl) (by kernel_rfl) (by kernel_rfl) (fun _ _ _ h => h) (by rfl) ?rh118 (by assumption) ?rr118
                  case rh118 => (intro w hSw; (try dsimp only at hSw); go_simp; try with_reducible rfl)
                  simp only [Act.put, List.setIfInBounds_toArray, List.set_cons_zero, List.set_cons_succ]
                  refine rgn_take (i := 4) (v := ?rv119) rfl (by kernel_rfl) (by kernel_rfl) (by kernel_rfl) (fun _ _ _ h => h) (by rfl) ?rh119 (by assumption) ?rr119
                  case rh119 => (intro w hSw; (try dsimp only at hSw); go_simp; try with_reducible rfl)
                  simp only [Act.put, List.setIfInBounds_toArray, List.set_cons_zero, List.set_cons_succ]
                  refine rgn_take (i := 5) (v := ?rv120) rfl (by kernel_rfl) (by kernel_rfl) (by kernel_rfl) (fun _ _ _ h => h) (by rfl) ?rh120 (by assumption) ?rr120
                  case rh120 => (intro w hSw; (try dsimp only at hSw); go_simp; try with_reducible rfl)
                  simp only [Act.put, List.setIfInBounds_toArray, List.set_cons_zero, List.set_cons_succ]
                  refine rgn_take (i := 6) (v := ?rv121) rfl (by kernel_rfl) (by kernel_rfl) (by kernel_rfl) (fun _ _ _ h => h) (by rfl) ?rh121 (by assumption) ?rr121
                  case rh121 => (intro w hSw; (try dsimp only at hSw); go_simp; try with_reducible rfl)
                  simp only [Act.put, List.setIfInBounds_toArray, List.set_cons_zero, List.set_cons_succ]
                  refine rgn_take (i := 8) (v := ?rv122) rfl (by kernel_rfl) (by kernel_rfl) (by kernel_rfl) (fun _ _ _ h => h) (by rfl) ?rh122 (by assumption) ?rr122
                  case rh122 => (intro w hSw; (try dsimp only at hSw); go_simp; try with_reducible rfl)
                  simp only [Act.put, List.setIfInBounds_toArray, List.set_cons_zero, List.set_cons_succ]
                  refine rgn_take (i := 12) (v := ?rv123) rfl (by kernel_rfl) (by kernel_rfl) (by kernel_rfl) (fun _ _ _ h => h) (by rfl) ?rh123 (by assumption) ?rr123
                  case rh123 => (intro w hSw; (try dsimp only at hSw); go_simp; try with_reducible rfl)
                  simp only [Act.put, List.setIfInBounds_toArray, List.set_cons_zero, List.set_cons_succ]
                  refine rgn_take (i := 13) (v := ?rv124) rfl (by kernel_rfl) (by kernel_rfl) (by kernel_rfl) (fun _ _ _ h => h) (by rfl) ?rh124 (by assumption) ?rr124
                  case rh124 => (intro w hSw; (try dsimp only at hSw); go_simp; try with_reducible rfl)
                  simp only [Act.put, List.setIfInBounds_toArray, List.set_cons_zero, List.set_cons_succ]
                  refine rgn_take (i := 14) (v := ?rv125) rfl (by kernel_rfl) (by kernel_rfl) (by kernel_rfl) (fun _ _ _ h => h) (by rfl) ?rh125 (by assumption) ?rr125
                  case rh125 => (intro w hSw; (try dsimp only at hSw); go_simp; try with_reducible rfl)
                  simp only [Act.put, List.setIfInBounds_toArray, List.set_cons_zero, List.set_cons_succ]
                  refine rgn_take (i := 15) (v := ?rv126) rfl (by kernel_rfl) (by kernel_rfl) (by kernel_rfl) (fun _ _ _ h => h) (by rfl) ?rh126 (by assumption) ?rr126
                  case rh126 => (intro w hSw; (try dsimp only at hSw); go_simp; try with_reducible rfl)
                  simp only [Act.put, List.setIfInBounds_toArray, List.set_cons_zero, List.set_cons_succ]
                  refine rgn_take (i := 16) (v := ?rv127) rfl (by kernel_rfl) (by kernel_rfl) (by kernel_rfl) (fun _ _ _ h => h) (by rfl) ?rh127 (by assumption) ?rr127
                  case rh127 => (intro w hSw; (try dsimp only at hSw); go_simp; try with_reducible rfl)
                  simp only [Act.put, List.setIfInBounds_toArray, List.set_cons_zero, List.set_cons_succ]
                  refine rgn_take (i := 17) (v := ?rv128) rfl (by kernel_rfl) (by kernel_rfl) (by kernel_rfl) (fun _ _ _ h => h) (by rfl) ?rh128 (by assumption) ?rr128
                  case rh128 => (intro w hSw; (try dsimp only at hSw); go_simp; try with_reducible rfl)
                  simp only [Act.put, List.setIfInBounds_toArray, List.set_cons_zero, List.set_cons_succ]
                  refine rgn_call (i := 7) rfl (by kernel_rfl) (fun K hK => ?_)
                  refine step_appF rfl (.tmp 53) (.tmp 59) 22 rfl 34 i0 _ 4 64 Try.underlying22 Hi0.out Hz0.out Hz1.out Hz2.out rfl (by decide) (.slice none 0 0) 0 [] rfl w0 _ (by exact HD4.out.2.drew.row_nil _ 4) wc (Chg.refl No wc).drew (fresh_nil wc) (some ⟨g, 0, none⟩) k lc ((es.take k).flatMap enV) rfl (by rw [ents_tk]; exact (HD4.out.2.drew.up2.rtabRd).take _) (by rw [ents_len, List.length_take, Nat.min_eq_left hkle]) (ent_ones _) (by unfold maxLen; omega) (by omega) ?_; intro A1 c1 w1 hs1 hc1 hf1; rw [Nat.zero_add] at hs1 hf1; rw [Nat.zero_add]; rw [List.nil_append] at hs1; have HS1 := Lib.hid hs1; have HC1 := Lib.hid hc1; have HF1 := Lib.hid hf1; clear hs1 hc1 hf1
                  refine hK.out _ _ ⟨HS1.out.up3.rtabL, HS1.out.up2.cell 0, HS1.out.up2.cell 1, HS1.out.up2.cell 2, HS1.out.up2.cell 3⟩ (fun hS0 => ?_)
                  clear hK K
                  try simp only [Act.put, List.setIfInBounds_toArray, List.set_cons_zero, List.set_cons_succ]
                  refine rgn_call (i := 9) rfl (by kernel_rfl) (fun K hK => ?_)
                  go_simp
                  go_at_call 24; refine (etwin_any e w0 _ _ HS1.out ((HEr.out.new HD4.out.1).new HC1.out) (by omega) (by omega)).mono ?_; rintro x w2 ⟨⟨B1, b1, B2, b2, rfl, hs2⟩, k2⟩; simp only [enA]; have HCp := Lib.hid (cap_rows hs2 e.seq e.dead); have HS2 := Lib.hid (rows_rol hs2); have HC2 := Lib.hid (HC1.out.tr k2); clear hs2 k2
                  refine hK.out _ _ ⟨HS2.out.up4.rtabL, HS2.out.up3.cell 0, HS2.out.up3.cell 1, HS2.out.up3.cell 2, HS2.out.up3.cell 3⟩ (fun hS0 => ?_)
                  clear hK K
                  refine rgn_call (i := 10) rfl (by kernel_rfl) (fun K hK => ?_)
                  go_simp
                  have HS3 := Lib.hid (HS2.out.alloc' (.cells #[.slice B1 e.key.2.2.length b1, .slice B2 e.value.2.2.length b2, .int .i64 e.seq, .bool e.dead] 34)); have HC3 := Lib.hid (HC2.out.alloc (.cells #[.slice B1 e.key.2.2.length b1, .slice B2 e.value.2.2.length b2, .int .i64 e.seq, .bool e.dead] 34))
                  refine hK.out _ _ ⟨HS3.out.up4.rtabL, HS3.out.up3.cell 0, HS3.out.up3.cell 1, HS3.out.up3.cell 2, HS3.out.up3.cell 3⟩ (fun hS0 => ?_)
                  clear hK K
                  refine rgn_call (i := 11) rfl (by kernel_rfl) (fun K hK => ?_)
                  refine step_appF rfl (.tmp 60) (.tmp 63) 22 rfl 34 i0 _ 4 64 Try.underlying22 Hi0.out Hz0.out Hz1.out Hz2.out rfl (by decide) (.slice A1 k c1) k ((es.take k).flatMap enV) rfl w0 _ (by exact HS3.out.up2) wc HC3.out HF1.out (some ⟨w2.heap.size, 0, none⟩) 1 1 (enV ⟨(B1, b1, e.key.2.2), (B2, b2, e.value.2.2), e.seq, e.dead⟩) rfl (lit_rdv _ _ _) rfl (by have := ent_ones [⟨(B1, b1, e.key.2.2), (B2, b2, e.value.2.2), e.seq, e.dead⟩]; simpa using this) (by unfold maxLen; omega) (by omega) ?_; intro A4 c4 w4 hs4 hc4 hf4; have HS4 := Lib.hid hs4; have HC4 := Lib.hid hc4; have HF4 := Lib.hid hf4; clear hs4 hc4 hf4
                  refine hK.out _ _ ⟨HS4.out.up4.rtabL, HS4.out.up3.cell 0, HS4.out.up3.cell 1, HS4.out.up3.cell 2, HS4.out.up3.cell 3⟩ (fun hS0 => ?_)
                  clear hK K
                  try simp only [Act.put, List.setIfInBounds_toArray, List.set_cons_zero, List.set_cons_succ]
                  refine rgn_call (i := 18) rfl (by kernel_rfl) (fun K hK => ?_)
                  refine step_appF rfl (.tmp 64) (.tmp 70) 22 rfl 34 i0 _ 4 64 Try.underlying22 Hi0.out Hz0.out Hz1.out Hz2.out rfl (by decide) (.slice A4 (k + 1) c4) (k + 1) ((es.take k).flatMap enV ++ enV ⟨(B1, b1, e.key.2.2), (B2, b2, e.value.2.2), e.seq, e.dead⟩) rfl w0 _ (by exact HS4.out) wc HC4.out HF4.out (some ⟨g, k * 4, none⟩) (es.length - k) (lc - k) ((es.drop k).flatMap enV) rfl (HRest.out _ _ (HS4.out.up4.rtabRd) (by rw [if_neg hck]; show some _ = some _; simp [Addr.add])) (by rw [ents_len, List.length_drop] <;> omega) (ent_ones _) (by unfold maxLen; omega) (by omega) ?_; intro A5 c5 w5 hs5 hc5 hf5; have HS5 := Lib.hid hs5; clear hs5 hc5 hf5
                  refine hK.out _ _ ⟨HS5.out.up4.rtabL, HS5.out.up3.cell 0, HS5.out.up3.cell 1, HS5.out.up3.cell 2, HS5.out.up3.cell 3⟩ (fun hS0 => ?_)
                  clear hK K
                  try simp only [Act.put, List.setIfInBounds_toArray, List.set_cons_zero, List.set_cons_succ]
                  refine rgn_take (i := 19) (v := ?rv134) rfl (by kernel_rfl) (by kernel_rfl) (by kernel_rfl) (fun _ _ _ h => h) (by rfl) ?rh134 (by assumption) ?rr134
                  case rh134 => (intro w hSw; (try dsimp only at hSw); go_simp; try with_reducible rfl)
                  simp only [Act.put, List.setIfInBounds_toArray, List.set_cons_zero, List.set_cons_succ]
                  refine wpAnyH_done (by kernel_rfl) ?_ _
                  go_wp2_with fail
                  go_meet
                  have en : k + 1 + (es.length - k) = es.length + 1 := by omega
                  refine ⟨⟨(B1, b1, e.key.2.2), (B2, b2, e.value.2.2), e.seq, e.dead⟩, A5, c5, by rw [en], ⟨rfl, HCp.out⟩, ?_⟩
                  have h9 := HS5.out
                  rw [en] at h9
                  refine h9.of ?_
                  rw [ents_app, List.flatMap_cons, List.append_assoc]
            case rest =>
              obtain ⟨N, A8, c8, hx, hcut⟩ := hcut
              subst hx
              have HNe := Lib.hid hcut.out.1.1
              have HNc := Lib.hid hcut.out.1.2
              have HD6 := Lib.hid hcut.out.2
              have hkh : k ≤ hs.length := by have := HLen.out; omega
              have hnh : hs.length ≤ 1000 := by have := HLen.out; omega
              have hkhc : (k : Int) ≤ hc := by omega
              clear hcut c0 d0 d1 d2 d3
              go_upto_region 13 with fail
              have c0 := HD6.out.up4.rtabH
              go_cut [9] (fun v wx => ∃ (A : Option Addr) (c : Nat), v = .slice A (hs.length + 1) c ∧ Hid (Sat w0 (Row 3 1 (.slice A (hs.length + 1) c) (hs.length + 1) (i64s (hs.take k ++ K8 :: hs.drop k)) * (Row 34 4 (.slice A8 (es.length + 1) c8) (es.length + 1) ((es.take k ++ N :: es.drop k).flatMap enV) * (RoL [N.key, N.value] * (Pt E 34 #[.slice e.key.1 e.key.2.2.length e.key.2.1, .slice e.value.1 e.value.2.2.length e.value.2.1, .int .i64 e.seq, .bool e.dead] * (RTabC r (.slice LA es.length lc) (.slice HA hs.length hc) es hs * F))))) wx))
              case first =>
                have HRest : Hid (∀ (LA' : Option Addr) x, RdV x HA (i64s hs) → (LA' = if hc = k then HA else HA.map (·.add k)) → RdV x LA' (i64s (hs.drop k))) := by
                  intro LA' x hx hq
                  subst hq
                  have h4 := RdV.drop hx (k := k) (cap := hc) (by unfold i64s; simpa using hkh) (by unfold i64s; simpa using hh1)
                  unfold i64s at h4 ⊢
                  rwa [← List.map_drop] at h4
                rcases HG3.out with ⟨hg, hlc0⟩ | ⟨g, hg⟩
                · subst hg
                  have hk0 : k = 0 := by omega
                  subst hk0
                  subst hlc0
                  refine wp_region_held_drew (S := fun w' => w'.cell? ⟨r, 1, none⟩ = some (.slice none hs.length 0)) (by kernel_rfl) c0 ?_
                  intro hS0
                  refine rgn_take (i := 0) (v := ?rv135) rfl (by kernel_rfl) (by kernel_rfl) (by kernel_rfl) (fun _ _ _ h => h) (by rfl) ?rh135 (by assumption) ?rr135
                  case rh135 => (intro w hSw; (try dsimp only at hSw); go_simp; try with_reducible rfl)
                  simp only [Act.put, List.setIfInBounds_toArray, List.set_cons_zero, List.set_cons_succ]
                  refine rgn_take (i := 1) (v := ?rv136) rfl (by kernel_rfl) (by kernel_rfl) (by kernel_rfl) (fun _ _ _ h => h) (by rfl) ?rh136 (by assumption) ?rr136
                  case rh136 => (intro w hSw; (try dsimp only at hSw); go_simp; try with_reducible rfl)
                  simp only [Act.put, List.setIfInBounds_toArray, List.set_cons_zero, List.set_cons_succ]
                  refine rgn_take (i := 2) (v := ?rv137) rfl (by kernel_rfl) (by kernel_rfl) (by kernel_rfl) (fun _ _ _ h => h) (by rfl) ?rh137 (by assumption) ?rr137
                  case rh137 => (intro w hSw; (try dsimp only at hSw); go_simp; try with_reducible rfl)
                  simp only [Act.put, List.setIfInBounds_toArray, List.set_cons_zero, List.set_cons_succ]
                  refine rgn_take (i := 3) (v := ?rv138) rfl (by kernel_rfl) (by kernel_rfl) (by kernel_rfl) (fun _ _ _ h => h) (by rfl) ?rh138 (by assumption) ?rr138
                  case rh138 => (intro w hSw; (try dsimp only at hSw); go_simp; try with_reducible rfl)
                  simp only [Act.put, List.setIfInBounds_toArray, List.set_cons_zero, List.set_cons_succ]
                  refine rgn_take (i := 4) (v := ?rv139) rfl (by kernel_rfl) (by kernel_rfl) (by kernel_rfl) (fun _ _ _ h => h) (by rfl) ?rh139 (by assumption) ?rr139
                  case rh139 => (intro w hSw; (try dsimp only at hSw); go_simp; try with_reducible rfl)
                  simp only [Act.put, List.setIfInBounds_toArray, List.set_cons_zero, List.set_cons_succ]
                  refine rgn_take (i := 5) (v := ?rv140) rfl (by kernel_rfl) (by kernel_rfl) (by kernel_rfl) (fun _ _ _ h => h) (by rfl) ?rh140 (by assumption) ?rr140
                  case rh140 => (intro w hSw; (try dsimp only at hSw); go_simp; try with_reducible rfl)
                  simp only [Act.put, List.setIfInBounds_toArray, List.set_cons_zero, List.set_cons_succ]
                  refine rgn_take (i := 6) (v := ?rv141) rfl (by kernel_rfl) (by kernel_rfl) (by kernel_rfl) (fun _ _ _ h => h) (by rfl) ?rh141 (by assumption) ?rr141
                  case rh141 => (intro w hSw; (try dsimp only at hSw); go_simp; try with_reducible rfl)
                  simp only [Act.put, List.setIfInBounds_toArray, List.set_cons_zero, List.set_cons_succ]
                  refine rgn_take (i := 8) (v := ?rv142) rfl (by kernel_rfl) (by kernel_rfl) (by kernel_rfl) (fun _ _ _ h => h) (by rfl) ?rh142 (by assumption) ?rr142
                  case rh142 => (intro w hSw; (try dsimp only at hSw); go_simp; try with_reducible rfl)
                  simp only [Act.put, List.setIfInBounds_toArray, List.set_cons_zero, List.set_cons_succ]
                  refine rgn_take (i := 11) (v := ?rv143) rfl (by kernel_rfl) (by kernel_rfl) (by kernel_rfl) (fun _ _ _ h => h) (by rfl) ?rh143 (by assumption) ?rr143
                  case rh143 => (intro w hSw; (try dsimp only at hSw); go_simp; try with_reducible rfl)
                  simp only [Act.put, List.setIfInBounds_toArray, List.set_cons_zero, List.set_cons_succ]
                  refine rgn_take (i := 12) (v := ?rv144) rfl (by kernel_rfl) (by kernel_rfl) (by kernel_rfl) (fun _ _ _ h => h) (by rfl) ?rh144 (by assumption) ?rr144
                  case rh144 => (intro w hSw; (try dsimp only at hSw); go_simp; try with_reducible rfl)
                  simp only [Act.put, List.setIfInBounds_toArray, List.set_cons_zero, List.set_cons_succ]
                  refine rgn_take (i := 13) (v := ?rv145) rfl (by kernel_rfl) (by kernel_rfl) (by kernel_rfl) (fun _ _ _ h => h) (by rfl) ?rh145 (by assumption) ?rr145
                  case rh145 => (intro w hSw; (try dsimp only at hSw); go_simp; try with_reducible rfl)
                  simp only [Act.put, List.setIfInBounds_toArray, List.set_cons_zero, List.set_cons_succ]
                  refine rgn_take (i := 14) (v := ?rv146) rfl (by kernel_rfl) (by kernel_rfl) (by kernel_rfl) (fun _ _ _ h => h) (by rfl) ?rh146 (by assumption) ?rr146
                  case rh146 => (intro w hSw; (try dsimp only at hSw); go_simp; try with_reducible rfl)
                  simp only [Act.put, List.setIfInBounds_toArray, List.set_cons_zero, List.set_cons_succ]
                  refine rgn_take (i := 15) (v := ?rv147) rfl (by kernel_rfl) (by kernel_rfl) (by kernel_rfl) (fun _ _ _ h => h) (by rfl) ?rh147 (by assumption) ?rr147
                  case rh147 => (intro w hSw; (try dsimp only at hSw); go_simp; try with_reducible rfl)
                  simp only [Act.put, List.setIfInBounds_toArray, List.set_cons_zero, List.set_cons_succ]
                  refine rgn_take (i := 16) (v := ?rv148) rfl (by kernel_rfl) (by kernel_rfl) (by kernel_rfl) (fun _ _ _ h => h) (by rfl) ?rh148 (by assumption) ?rr148
                  case rh148 => (intro w hSw; (try dsimp only at hSw); go_simp; try with_reducible rfl)
                  simp only [Act.put, List.setIfInBounds_toArray, List.set_cons_zero, List.set_cons_succ]
                  refine rgn_both (i := 7) (j := 9) rfl rfl (by kernel_rfl) (fun K hK => ?_) (fun K hK => ?_)
                  ·
                    refine step_appF rfl (.tmp 72) (.tmp 78) 23 rfl 3 j0 _ 1 8 Try.underlying23 Hj0.out Hy0.out Hy1.out Hy2.out rfl (by decide) (.slice none 0 0) 0 [] rfl w0 _ (by exact HD6.out.drew.row_nil _ 1) wc (Chg.refl No wc).drew (fresh_nil _) none 0 0 (i64s (hs.take 0)) rfl (by unfold i64s; rw [List.map_take]; exact (HD6.out.drew.up4.rtabRh).take _) (by unfold i64s; rw [List.length_map, List.length_take, Nat.min_eq_left hkh, Nat.mul_one]) (i64_ones _) (by unfold maxLen; omega) (by omega) ?_; intro A1 c1 w1 hs1 hc1 hf1; rw [Nat.zero_add] at hs1 hf1; rw [Nat.zero_add]; rw [List.nil_append] at hs1; have HS1 := Lib.hid hs1; have HC1 := Lib.hid hc1; clear hs1 hc1 hf1
                    refine hK.out _ _ HS1.out.up5.rtabH (fun hS0 => ?_)
                    clear hK K
                    try simp only [Act.put, List.setIfInBounds_toArray, List.set_cons_zero, List.set_cons_succ]
                    refine rgn_call (i := 9) rfl (by kernel_rfl) (fun K hK => ?_)
                    go_simp
                    have HS3 := Lib.hid (HS1.out.alloc' (.cells #[.int .i64 (K8 : Int)] 3))
                    refine hK.out _ _ HS3.out.up5.rtabH (fun hS0 => ?_)
                    clear hK K
                    refine rgn_call (i := 10) rfl (by kernel_rfl) (fun K hK => ?_)
                    refine step_appF rfl (.tmp 79) (.tmp 81) 23 rfl 3 j0 _ 1 8 Try.underlying23 Hj0.out Hy0.out Hy1.out Hy2.out rfl (by decide) (.slice A1 0 c1) 0 (i64s (hs.take 0)) rfl w0 _ (by exact HS3.out) w0 (HS3.out).chg (row_fresh (by exact HS3.out)) (some ⟨w1.heap.size, 0, none⟩) 1 1 [.int .i64 (K8 : Int)] rfl (lit_rdv _ _ _) rfl (i64_ones [K8]) (by unfold maxLen; omega) (by omega) ?_; intro A4 c4 w4 hs4 hc4 hf4; have HS4 := Lib.hid hs4; clear hs4 hc4 hf4
                    refine hK.out _ _ HS4.out.up5.rtabH (fun hS0 => ?_)
                    clear hK K
                    try simp only [Act.put, List.setIfInBounds_toArray, List.set_cons_zero, List.set_cons_succ]
                    refine rgn_call (i := 17) rfl (by kernel_rfl) (fun K hK => ?_)
                    refine step_appF rfl (.tmp 82) (.tmp 88) 23 rfl 3 j0 _ 1 8 Try.underlying23 Hj0.out Hy0.out Hy1.out Hy2.out rfl (by decide) (.slice A4 (0 + 1) c4) (0 + 1) (i64s (hs.take 0) ++ [.int .i64 (K8 : Int)]) rfl w0 _ (by exact HS4.out) w0 HS4.out.chg (row_fresh (by exact HS4.out)) none 0 0 (i64s (hs.drop 0)) rfl (HRest.out _ _ (HS4.out.up5.rtabRh) (by rw [if_pos rfl])) (by unfold i64s; rw [List.length_map, List.length_drop, Nat.mul_one] <;> omega) (i64_ones _) (by unfold maxLen; omega) (by omega) ?_; intro A5 c5 w5 hs5 hc5 hf5; have HS5 := Lib.hid hs5; clear hs5 hc5 hf5
                    refine hK.out _ _ HS5.out.up5.rtabH (fun hS0 => ?_)
                    clear hK K
                    try simp only [Act.put, List.setIfInBounds_toArray, List.set_cons_zero, List.set_cons_succ]
                    refine rgn_take (i := 18) (v := ?rv153) rfl (by kernel_rfl) (by kernel_rfl) (by kernel_rfl) (fun _ _ _ h => h) (by rfl) ?rh153 (by assumption) ?rr153
                    case rh153 => (intro w hSw; (try dsimp only at hSw); go_simp; try with_reducible rfl)
                    simp only [Act.put, List.setIfInBounds_toArray, List.set_cons_zero, List.set_cons_succ]
                    refine wpAnyH_done (by kernel_rfl) ?_ _
                    go_wp2_with fail
                    go_meet
                    have en : 0 + 1 + 0 = hs.length + 1 := by omega
                    refine ⟨A5, c5, by rw [← en], ?_⟩
                    have h9 := HS5.out
                    have el : i64s (hs.take 0) ++ [Value.int .i64 (K8 : Int)] ++ i64s (hs.drop 0) = i64s (hs.take 0 ++ K8 :: hs.drop 0) := by unfold i64s; simp
                    rw [el] at h9
                    rw [← en]
                    exact h9
                  ·
                    go_simp
                    have HS0 := Lib.hid (HD6.out.drew.alloc' (.cells #[.int .i64 (K8 : Int)] 3))
                    refine hK.out _ _ HS0.out.up4.rtabH (fun hS0 => ?_)
                    clear hK K
                    refine rgn_call (i := 7) rfl (by kernel_rfl) (fun K hK => ?_)
                    refine step_appF rfl (.tmp 72) (.tmp 78) 23 rfl 3 j0 _ 1 8 Try.underlying23 Hj0.out Hy0.out Hy1.out Hy2.out rfl (by decide) (.slice none 0 0) 0 [] rfl w0 _ (by exact HS0.out.row_nil _ 1) (wc.drew.alloc (.cells #[.int .i64 (K8 : Int)] 3)) (Chg.refl No _) (fresh_nil _) none 0 0 (i64s (hs.take 0)) rfl (by unfold i64s; rw [List.map_take]; exact (HS0.out.up4.rtabRh).take _) (by unfold i64s; rw [List.length_map, List.length_take, Nat.min_eq_left hkh, Nat.mul_one]) (i64_ones _) (by unfold maxLen; omega) (by omega) ?_; intro A1 c1 w1 hs1 hc1 hf1; rw [Nat.zero_add] at hs1 hf1; rw [Nat.zero_add]; rw [List.nil_append] at hs1; have HS1 := Lib.hid hs1; have HC1 := Lib.hid hc1; clear hs1 hc1 hf1
                    refine hK.out _ _ HS1.out.up5.rtabH (fun hS0 => ?_)
                    clear hK K
                    try simp only [Act.put, List.setIfInBounds_toArray, List.set_cons_zero, List.set_cons_succ]
                    refine rgn_call (i := 10) rfl (by kernel_rfl) (fun K hK => ?_)
                    refine step_appF rfl (.tmp 79) (.tmp 81) 23 rfl 3 j0 _ 1 8 Try.underlying23 Hj0.out Hy0.out Hy1.out Hy2.out rfl (by decide) (.slice A1 0 c1) 0 (i64s (hs.take 0)) rfl w0 _ (by exact HS1.out) w0 (HS1.out).chg (row_fresh (by exact HS1.out)) (some ⟨wc.heap.size, 0, none⟩) 1 1 [.int .i64 (K8 : Int)] rfl ((lit_rdv wc.drew #[.int .i64 (K8 : Int)] 3).new HC1.out) rfl (i64_ones [K8]) (by unfold maxLen; omega) (by omega) ?_; intro A4 c4 w4 hs4 hc4 hf4; have HS4 := Lib.hid hs4; clear hs4 hc4 hf4
                    refine hK.out _ _ HS4.out.up5.rtabH (fun hS0 => ?_)
                    clear hK K
                    try simp only [Act.put, List.setIfInBounds_toArray, List.set_cons_zero, List.set_cons_succ]
                    refine rgn_call (i := 17) rfl (by kernel_rfl) (fun K hK => ?_)
                    refine step_appF rfl (.tmp 82) (.tmp 88) 23 rfl 3 j0 _ 1 8 Try.underlying23 Hj0.out Hy0.out Hy1.out Hy2.out rfl (by decide) (.slice A4 (0 + 1) c4) (0 + 1) (i64s (hs.take 0) ++ [.int .i64 (K8 : Int)]) rfl w0 _ (by exact HS4.out) w0 HS4.out.chg (row_fresh (by exact HS4.out)) none 0 0 (i64s (hs.drop 0)) rfl (HRest.out _ _ (HS4.out.up5.rtabRh) (by rw [if_pos rfl])) (by unfold i64s; rw [List.length_map, List.length_drop, Nat.mul_one] <;> omega) (i64_ones _) (by unfold maxLen; omega) (by omega) ?_; intro A5 c5 w5 hs5 hc5 hf5; have HS5 := Lib.hid hs5; clear hs5 hc5 hf5
                    refine hK.out _ _ HS5.out.up5.rtabH (fun hS0 => ?_)
                    clear hK K
                    try simp only [Act.put, List.setIfInBounds_toArray, List.set_cons_zero, List.set_cons_succ]
                    refine rgn_take (i := 18) (v := ?rv157) rfl (by kernel_rfl) (by kernel_rfl) (by kernel_rfl) (fun _ _ _ h => h) (by rfl) ?rh157 (by assumption) ?rr157
                    case rh157 => (intro w hSw; (try dsimp only at hSw); go_simp; try with_reducible rfl)
                    simp only [Act.put, List.setIfInBounds_toArray, List.set_cons_zero, List.set_cons_succ]
                    refine wpAnyH_done (by kernel_rfl) ?_ _
                    go_wp2_with fail
                    go_meet
                    have en : 0 + 1 + 0 = hs.length + 1 := by omega
                    refine ⟨A5, c5, by rw [← en], ?_⟩
                    have h9 := HS5.out
                    have el : i64s (hs.take 0) ++ [Value.int .i64 (K8 : Int)] ++ i64s (hs.drop 0) = i64s (hs.take 0 ++ K8 :: hs.drop 0) := by unfold i64s; simp
                    rw [el] at h9
                    rw [← en]
                    exact h9
                · subst hg
                  by_cases hck : hc = k
                  · subst hck
                    refine wp_region_held_drew (S := fun w' => w'.cell? ⟨r, 1, none⟩ = some (.slice (some ⟨g, 0, none⟩) hs.length hc)) (by kernel_rfl) c0 ?_
                    intro hS0
                    refine rgn_take (i := 0) (v := ?rv158) rfl (by kernel_rfl) (by kernel_rfl) (by kernel_rfl) (fun _ _ _ h => h) (by rfl) ?rh158 (by assumption) ?rr158
                    case rh158 => (intro w hSw; (try dsimp only at hSw); go_simp; try with_reducible rfl)
                    simp only [Act.put, List.setIfInBounds_toArray, List.set_cons_zero, List.set_cons_succ]
                    refine rgn_take (i := 1) (v := ?rv159) rfl (by kernel_rfl) (by kernel_rfl) (by kernel_rfl) (fun _ _ _ h => h) (by rfl) ?rh159 (by assumption) ?rr159
                    case rh159 => (intro w hSw; (try dsimp only at hSw); go_simp; try with_reducible rfl)
                    simp only [Act.put, List.setIfInBounds_toArray, List.set_cons_zero, List.set_cons_succ]
                    refine rgn_take (i := 2) (v := ?rv160) rfl (by kernel_rfl) (by kernel_rfl) (by kernel_rfl) (fun _ _ _ h => h) (by rfl) ?rh160 (by assumption) ?rr160
                    case rh160 => (intro w hSw; (try dsimp only at hSw); go_simp; try with_reducible rfl)
                    simp only [Act.put, List.setIfInBounds_toArray, List.set_cons_zero, List.set_cons_succ]
                    refine rgn_take (i := 3) (v := ?rv161) rfl (by kernel_rfl) (by kernel_rfl) (by kernel_rfl) (fun _ _ _ h => h) (by rfl) ?rh161 (by assumption) ?rr161
                    case rh161 => (intro w hSw; (try dsimp only at hSw); go_simp; try with_reducible rfl)
                    simp only [Act.put, List.setIfInBounds_toArray, List.set_cons_zero, List.set_cons_succ]
                    refine rgn_take (i := 4) (v := ?rv162) rfl (by kernel_rfl) (by kernel_rfl) (by kernel_rfl) (fun _ _ _ h => h) (by rfl) ?rh162 (by assumption) ?rr162
                    case rh162 => (intro w hSw; (try dsimp only at hSw); go_simp; try with_reducible rfl)
                    simp only [Act.put, List.setIfInBounds_toArray, List.set_cons_zero, List.set_cons_succ]
                    refine rgn_take (i := 5) (v := ?rv163) rfl (by kernel_rfl) (by kernel_rfl) (by kernel_rfl) (fun _ _ _ h => h) (by rfl) ?rh163 (by assumption) ?rr163
                    case rh163 => (intro w hSw; (try dsimp only at hSw); go_simp; try with_reducible rfl)
                    simp only [Act.put, List.setIfInBounds_toArray, List.set_cons_zero, List.set_cons_succ]
                    refine rgn_take (i := 6) (v := ?rv164) rfl (by kernel_rfl) (by kernel_rfl) (by kernel_rfl) (fun _ _ _ h => h) (by rfl) ?rh164 (by assumption) ?rr164
                    case rh164 => (intro w hSw; (try dsimp only at hSw); go_simp; try with_reducible rfl)
                    simp only [Act.put, List.setIfInBounds_toArray, List.set_cons_zero, List.set_cons_succ]
                    refine rgn_take (i := 8) (v := ?rv165) rfl (by kernel_rfl) (by kernel_rfl) (by kernel_rfl) (fun _ _ _ h => h) (by rfl) ?rh165 (by assumption) ?rr165
                    case rh165 => (intro w hSw; (try dsimp only at hSw); go_simp; try with_reducible rfl)
                    simp only [Act.put, List.setIfInBounds_toArray, List.set_cons_zero, List.set_cons_succ]
                    refine rgn_take (i := 11) (v := ?rv166) rfl (by kernel_rfl) (by kernel_rfl) (by kernel_rfl) (fun _ _ _ h => h) (by rfl) ?rh166 (by assumption) ?rr166
                    case rh166 => (intro w hSw; (try dsimp only at hSw); go_simp; try with_reducible rfl)
                    simp only [Act.put, List.setIfInBounds_toArray, List.set_cons_zero, List.set_cons_succ]
                    refine rgn_take (i := 12) (v := ?rv167) rfl (by kernel_rfl) (by kernel_rfl) (by kernel_rfl) (fun _ _ _ h => h) (by rfl) ?rh167 (by assumption) ?rr167
                    case rh167 => (intro w hSw; (try dsimp only at hSw); go_simp; try with_reducible rfl)
                    simp only [Act.put, List.setIfInBounds_toArray, List.set_cons_zero, List.set_cons_succ]
                    refine rgn_take (i := 13) (v := ?rv168) rfl (by kernel_rfl) (by kernel_rfl) (by kernel_rfl) (fun _ _ _ h => h) (by rfl) ?rh168 (by assumption) ?rr168
                    case rh168 => (intro w hSw; (try dsimp only at hSw); go_simp; try with_reducible rfl)
                    simp only [Act.put, List.setIfInBounds_toArray, List.set_cons_zero, List.set_cons_succ]
                    refine rgn_take (i := 14) (v := ?rv169) rfl (by kernel_rfl) (by kernel_rfl) (by kernel_rfl) (fun _ _ _ h => h) (by rfl) ?rh169 (by assumption) ?rr169
                    case rh169 => (intro w hSw; (try dsimp only at hSw); go_simp; try with_reducible rfl)
                    simp only [Act.put, List.setIfInBounds_toArray, List.set_cons_zero, List.set_cons_succ]
                    refine rgn_take (i := 15) (v := ?rv170) rfl (by kernel_rfl) (by kernel_rfl) (by kernel_rfl) (fun _ _ _ h => h) (by rfl) ?rh170 (by assumption) ?rr170
                    case rh170 => (intro w hSw; (try dsimp only at hSw); go_simp; try with_reducible rfl)
                    simp only [Act.put, List.setIfInBounds_toArray, List.set_cons_zero, List.set_cons_succ]
                    refine rgn_take (i := 16) (v := ?rv171) rfl (by kernel_rfl) (by kernel_rfl) (by kernel_rfl) (fun _ _ _ h => h) (by rfl) ?rh171 (by assumption) ?rr171
                    case rh171 => (intro w hSw; (try dsimp only at hSw); go_simp; try with_reducible rfl)
                    simp only [Act.put, List.setIfInBounds_toArray, List.set_cons_zero, List.set_cons_succ]
                    refine rgn_both (i := 7) (j := 9) rfl rfl (by kernel_rfl) (fun K hK => ?_) (fun K hK => ?_)
                    ·
                      refine step_appF rfl (.tmp 72) (.tmp 78) 23 rfl 3 j0 _ 1 8 Try.underlying23 Hj0.out Hy0.out Hy1.out Hy2.out rfl (by decide) (.slice none 0 0) 0 [] rfl w0 _ (by exact HD6.out.drew.row_nil _ 1) wc (Chg.refl No wc).drew (fresh_nil _) (some ⟨g, 0, none⟩) hc hc (i64s (hs.take hc)) rfl (by unfold i64s; rw [List.map_take]; exact (HD6.out.drew.up4.rtabRh).take _) (by unfold i64s; rw [List.length_map, List.length_take, Nat.min_eq_left hkh, Nat.mul_one]) (i64_ones _) (by unfold maxLen; omega) (by omega) ?_; intro A1 c1 w1 hs1 hc1 hf1; rw [Nat.zero_add] at hs1 hf1; rw [Nat.zero_add]; rw [List.nil_append] at hs1; have HS1 := Lib.hid hs1; have HC1 := Lib.hid hc1; clear hs1 hc1 hf1
                      refine hK.out _ _ HS1.out.up5.rtabH (fun hS0 => ?_)
                      clear hK K
                      try simp only [Act.put, List.setIfInBounds_toArray, List.set_cons_zero, List.set_cons_succ]
                      refine rgn_call (i := 9) rfl (by kernel_rfl) (fun K hK => ?_)
                      go_simp
                      have HS3 := Lib.hid (HS1.out.alloc' (.cells #[.int .i64 (K8 : Int)] 3))
                      refine hK.out _ _ HS3.out.up5.rtabH (fun hS0 => ?_)
                      clear hK K
                      refine rgn_call (i := 10) rfl (by kernel_rfl) (fun K hK => ?_)
                      refine step_appF rfl (.tmp 79) (.tmp 81) 23 rfl 3 j0 _ 1 8 Try.underlying23 Hj0.out Hy0.out Hy1.out Hy2.out rfl (by decide) (.slice A1 hc c1) hc (i64s (hs.take hc)) rfl w0 _ (by exact HS3.out) w0 (HS3.out).chg (row_fresh (by exact HS3.out)) (some ⟨w1.heap.size, 0, none⟩) 1 1 [.int .i64 (K8 : Int)] rfl (lit_rdv _ _ _) rfl (i64_ones [K8]) (by unfold maxLen; omega) (by omega) ?_; intro A4 c4 w4 hs4 hc4 hf4; have HS4 := Lib.hid hs4; clear hs4 hc4 hf4
                      refine hK.out _ _ HS4.out.up5.rtabH (fun hS0 => ?_)
                      clear hK K
                      try simp only [Act.put, List.setIfInBounds_toArray, List.set_cons_zero, List.set_cons_succ]
                      refine rgn_call (i := 17) rfl (by kernel_rfl) (fun K hK => ?_)
                      refine step_appF rfl (.tmp 82) (.tmp 88) 23 rfl 3 j0 _ 1 8 Try.underlying23 Hj0.out Hy0.out Hy1.out Hy2.out rfl (by decide) (.slice A4 (hc + 1) c4) (hc + 1) (i64s (hs.take hc) ++ [.int .i64 (K8 : Int)]) rfl w0 _ (by exact HS4.out) w0 HS4.out.chg (row_fresh (by exact HS4.out)) (some ⟨g, 0, none⟩) 0 0 (i64s (hs.drop hc)) rfl (HRest.out _ _ (HS4.out.up5.rtabRh) (by rw [if_pos rfl])) (by unfold i64s; rw [List.length_map, List.length_drop, Nat.mul_one] <;> omega) (i64_ones _) (by unfold maxLen; omega) (by omega) ?_; intro A5 c5 w5 hs5 hc5 hf5; have HS5 := Lib.hid hs5; clear hs5 hc5 hf5
                      refine hK.out _ _ HS5.out.up5.rtabH (fun hS0 => ?_)
                      clear hK K
                      try simp only [Act.put, List.setIfInBounds_toArray, List.set_cons_zero, List.set_cons_succ]
                      refine rgn_take (i := 18) (v := ?rv176) rfl (by kernel_rfl) (by kernel_rfl) (by kernel_rfl) (fun _ _ _ h => h) (by rfl) ?rh176 (by assumption) ?rr176
                      case rh176 => (intro w hSw; (try dsimp only at hSw); go_simp; try with_reducible rfl)
                      simp only [Act.put, List.setIfInBounds_toArray, List.set_cons_zero, List.set_cons_succ]
                      refine wpAnyH_done (by kernel_rfl) ?_ _
                      go_wp2_with fail
                      go_meet
                      have en : hc + 1 + 0 = hs.length + 1 := by omega
                      refine ⟨A5, c5, by rw [← en], ?_⟩
                      have h9 := HS5.out
                      have el : i64s (hs.take hc) ++ [Value.int .i64 (K8 : Int)] ++ i64s (hs.drop hc) = i64s (hs.take hc ++ K8 :: hs.drop hc) := by unfold i64s; simp
                      rw [el] at h9
                      rw [← en]
                      exact h9
                    ·
                      go_simp
                      have HS0 := Lib.hid (HD6.out.drew.alloc' (.cells #[.int .i64 (K8 : Int)] 3))
                      refine hK.out _ _ HS0.out.up4.rtabH (fun hS0 => ?_)
                      clear hK K
                      refine rgn_call (i := 7) rfl (by kernel_rfl) (fun K hK => ?_)
                      refine step_appF rfl (.tmp 72) (.tmp 78) 23 rfl 3 j0 _ 1 8 Try.underlying23 Hj0.out Hy0.out Hy1.out Hy2.out rfl (by decide) (.slice none 0 0) 0 [] rfl w0 _ (by exact HS0.out.row_nil _ 1) (wc.drew.alloc (.cells #[.int .i64 (K8 : Int)] 3)) (Chg.refl No _) (fresh_nil _) (some ⟨g, 0, none⟩) hc hc (i64s (hs.take hc)) rfl (by unfold i64s; rw [List.map_take]; exact (HS0.out.up4.rtabRh).take _) (by unfold i64s; rw [List.length_map, List.length_take, Nat.min_eq_left hkh, Nat.mul_one]) (i64_ones _) (by unfold maxLen; omega) (by omega) ?_; intro A1 c1 w1 hs1 hc1 hf1; rw [Nat.zero_add] at hs1 hf1; rw [Nat.zero_add]; rw [List.nil_append] at hs1; have HS1 := Lib.hid hs1; have HC1 := Lib.hid hc1; clear hs1 hc1 hf1
                      refine hK.out _ _ HS1.out.up5.rtabH (fun hS0 => ?_)
                      clear hK K
                      try simp only [Act.put, List.setIfInBounds_toArray, List.set_cons_zero, List.set_cons_succ]
                      refine rgn_call (i := 10) rfl (by kernel_rfl) (fun K hK => ?_)
                      refine step_appF rfl (.tmp 79) (.tmp 81) 23 rfl 3 j0 _ 1 8 Try.underlying23 Hj0.out Hy0.out Hy1.out Hy2.out rfl (by decide) (.slice A1 hc c1) hc (i64s (hs.take hc)) rfl w0 _ (by exact HS1.out) w0 (HS1.out).chg (row_fresh (by exact HS1.out)) (some ⟨wc.heap.size, 0, none⟩) 1 1 [.int .i64 (K8 : Int)] rfl ((lit_rdv wc.drew #[.int .i64 (K8 : Int)] 3).new HC1.out) rfl (i64_ones [K8]) (by unfold maxLen; omega) (by omega) ?_; intro A4 c4 w4 hs4 hc4 hf4; have HS4 := Lib.hid hs4; clear hs4 hc4 hf4
                      refine hK.out _ _ HS4.out.up5.rtabH (fun hS0 => ?_)
                      clear hK K
                      try simp only [Act.put, List.setIfInBounds_toArray, List.set_cons_zero, List.set_cons_succ]
                      refine rgn_call (i := 17) rfl (by kernel_rfl) (fun K hK => ?_)
                      refine step_appF rfl (.tmp 82) (.tmp 88) 23 rfl 3 j0 _ 1 8 Try.underlying23 Hj0.out Hy0.out Hy1.out Hy2.out rfl (by decide) (.slice A4 (hc + 1) c4) (hc + 1) (i64s (hs.take hc) ++ [.int .i64 (K8 : Int)]) rfl w0 _ (by exact HS4.out) w0 HS4.out.chg (row_fresh (by exact HS4.out)) (some ⟨g, 0, none⟩) 0 0 (i64s (hs.drop hc)) rfl (HRest.out _ _ (HS4.out.up5.rtabRh) (by rw [if_pos rfl])) (by unfold i64s; rw [List.length_map, List.length_drop, Nat.mul_one] <;> omega) (i64_ones _) (by unfold maxLen; omega) (by omega) ?_; intro A5 c5 w5 hs5 hc5 hf5; have HS5 := Lib.hid hs5; clear hs5 hc5 hf5
                      refine hK.out _ _ HS5.out.up5.rtabH (fun hS0 => ?_)
                      clear hK K
                      try simp only [Act.put, List.setIfInBounds_toArray, List.set_cons_zero, List.set_cons_succ]
                      refine rgn_take (i := 18) (v := ?rv180) rfl (by kernel_rfl) (by kernel_rfl) (by kernel_rfl) (fun _ _ _ h => h) (by rfl) ?rh180 (by assumption) ?rr180
                      case rh180 => (intro w hSw; (try dsimp only at hSw); go_simp; try with_reducible rfl)
                      simp only [Act.put, List.setIfInBounds_toArray, List.set_cons_zero, List.set_cons_succ]
                      refine wpAnyH_done (by kernel_rfl) ?_ _
                      go_wp2_with fail
                      go_meet
                      have en : hc + 1 + 0 = hs.length + 1 := by omega
                      refine ⟨A5, c5, by rw [← en], ?_⟩
                      have h9 := HS5.out
                      have el : i64s (hs.take hc) ++ [Value.int .i64 (K8 : Int)] ++ i64s (hs.drop hc) = i64s (hs.take hc ++ K8 :: hs.drop hc) := by unfold i64s; simp
                      rw [el] at h9
                      rw [← en]
                      exact h9
                  · skip
                    refine wp_region_held_drew (S := fun w' => w'.cell? ⟨r, 1, none⟩ = some (.slice (some ⟨g, 0, none⟩) hs.length hc)) (by kernel_rfl) c0 ?_
                    intro hS0
                    refine rgn_take (i := 0) (v := ?rv181) rfl (by kernel_rfl) (by kernel_rfl) (by kernel_rfl) (fun _ _ _ h => h) (by rfl) ?rh181 (by assumption) ?rr181
                    case rh181 => (intro w hSw; (try dsimp only at hSw); go_simp; try with_reducible rfl)
                    simp only [Act.put, List.setIfInBounds_toArray, List.set_cons_zero, List.set_cons_succ]
                    refine rgn_take (i := 1) (v := ?rv182) rfl (by kernel_rfl) (by kernel_rfl) (by kernel_rfl) (fun _ _ _ h => h) (by rfl) ?rh182 (by assumption) ?rr182
                    case rh182 => (intro w hSw; (try dsimp only at hSw); go_simp; try with_reducible rfl)
                    simp only [Act.put, List.setIfInBounds_toArray, List.set_cons_zero, List.set_cons_succ]
                    refine rgn_take (i := 2) (v := ?rv183) rfl (by kernel_rfl) (by kernel_rfl) (by kernel_rfl) (fun _ _ _ h => h) (by rfl) ?rh183 (by assumption) ?rr183
                    case rh183 => (intro w hSw; (try dsimp only at hSw); go_simp; try with_reducible rfl)
                    simp only [Act.put, List.setIfInBounds_toArray, List.set_cons_zero, List.set_cons_succ]
                    refine rgn_take (i := 3) (v := ?rv184) rfl (by kernel_rfl) (by kernel_rfl) (by kernel_rfl) (fun _ _ _ h => h) (by rfl) ?rh184 (by assumption) ?rr184
                    case rh184 => (intro w hSw; (try dsimp only at hSw); go_simp; try with_reducible rfl)
                    simp only [Act.put, List.setIfInBounds_toArray, List.set_cons_zero, List.set_cons_succ]
                    refine rgn_take (i := 4) (v := ?rv185) rfl (by kernel_rfl) (by kernel_rfl) (by kernel_rfl) (fun _ _ _ h => h) (by rfl) ?rh185 (by assumption) ?rr185
                    case rh185 => (intro w hSw; (try dsimp only at hSw); go_simp; try with_reducible rfl)
                    simp only [Act.put, List.setIfInBounds_toArray, List.set_cons_zero, List.set_cons_succ]
                    refine rgn_take (i := 5) (v := ?rv186) rfl (by kernel_rfl) (by kernel_rfl) (by kernel_rfl) (fun _ _ _ h => h) (by rfl) ?rh186 (by assumption) ?rr186
                    case rh186 => (intro w hSw; (try dsimp only at hSw); go_simp; try with_reducible rfl)
                    simp only [Act.put, List.setIfInBounds_toArray, List.set_cons_zero, List.set_cons_succ]
                    refine rgn_take (i := 6) (v := ?rv187) rfl (by kernel_rfl) (by kernel_rfl) (by kernel_rfl) (fun _ _ _ h => h) (by rfl) ?rh187 (by assumption) ?rr187
                    case rh187 => (intro w hSw; (try dsimp only at hSw); go_simp; try with_reducible rfl)
                    simp only [Act.put, List.setIfInBounds_toArray, List.set_cons_zero, List.set_cons_succ]
                    refine rgn_take (i := 8) (v := ?rv188) rfl (by kernel_rfl) (by kernel_rfl) (by kernel_rfl) (fun _ _ _ h => h) (by rfl) ?rh188 (by assumption) ?rr188
                    case rh188 => (intro w hSw; (try dsimp only at hSw); go_simp; try with_reducible rfl)
                    simp only [Act.put, List.setIfInBounds_toArray, List.set_cons_zero, List.set_cons_succ]
                    refine rgn_take (i := 11) (v := ?rv189) rfl (by kernel_rfl) (by kernel_rfl) (by kernel_rfl) (fun _ _ _ h => h) (by rfl) ?rh189 (by assumption) ?rr189
                    case rh189 => (intro w hSw; (try dsimp only at hSw); go_simp; try with_reducible rfl)
                    simp only [Act.put, List.setIfInBounds_toArray, List.set_cons_zero, List.set_cons_succ]
                    refine rgn_take (i := 12) (v := ?rv190) rfl (by kernel_rfl) (by kernel_rfl) (by kernel_rfl) (fun _ _ _ h => h) (by rfl) ?rh190 (by assumption) ?rr190
                    case rh190 => (intro w hSw; (try dsimp only at hSw); go_simp; try with_reducible rfl)
                    simp only [Act.put, List.setIfInBounds_toArray, List.set_cons_zero, List.set_cons_succ]
                    refine rgn_take (i := 13) (v := ?rv191) rfl (by kernel_rfl) (by kernel_rfl) (by kernel_rfl) (fun _ _ _ h => h) (by rfl) ?rh191 (by assumption) ?rr191
                    case rh191 => (intro w hSw; (try dsimp only at hSw); go_simp; try with_reducible rfl)
                    simp only [Act.put, List.setIfInBounds_toArray, List.set_cons_zero, List.set_cons_succ]
                    refine rgn_take (i := 14) (v := ?rv192) rfl (by kernel_rfl) (by kernel_rfl) (by kernel_rfl) (fun _ _ _ h => h) (by rfl) ?rh192 (by assumption) ?rr192
                    case rh192 => (intro w hSw; (try dsimp only at hSw); go_simp; try with_reducible rfl)
                    simp only [Act.put, List.setIfInBounds_toArray, List.set_cons_zero, List.set_cons_succ]
                    refine rgn_take (i := 15) (v := ?rv193) rfl (by kernel_rfl) (by kernel_rfl) (by kernel_rfl) (fun _ _ _ h => h) (by rfl) ?rh193 (by assumption) ?rr193
                    case rh193 => (intro w hSw; (try dsimp only at hSw); go_simp; try with_reducible rfl)
                    simp only [Act.put, List.setIfInBounds_toArray, List.set_cons_zero, List.set_cons_succ]
                    refine rgn_take (i := 16) (v := ?rv194) rfl (by kernel_rfl) (by kernel_rfl) (by kernel_rfl) (fun _ _ _ h => h) (by rfl) ?rh194 (by assumption) ?rr194
                    case rh194 => (intro w hSw; (try dsimp only at hSw); go_simp; try with_reducible rfl)
                    simp only [Act.put, List.setIfInBounds_toArray, List.set_cons_zero, List.set_cons_succ]
                    refine rgn_both (i := 7) (j := 9) rfl rfl (by kernel_rfl) (fun K hK => ?_) (fun K hK => ?_)
                    ·
                      refine step_appF rfl (.tmp 72) (.tmp 78) 23 rfl 3 j0 _ 1 8 Try.underlying23 Hj0.out Hy0.out Hy1.out Hy2.out rfl (by decide) (.slice none 0 0) 0 [] rfl w0 _ (by exact HD6.out.drew.row_nil _ 1) wc (Chg.refl No wc).drew (fresh_nil _) (some ⟨g, 0, none⟩) k hc (i64s (hs.take k)) rfl (by unfold i64s; rw [List.map_take]; exact (HD6.out.drew.up4.rtabRh).take _) (by unfold i64s; rw [List.length_map, List.length_take, Nat.min_eq_left hkh, Nat.mul_one]) (i64_ones _) (by unfold maxLen; omega) (by omega) ?_; intro A1 c1 w1 hs1 hc1 hf1; rw [Nat.zero_add] at hs1 hf1; rw [Nat.zero_add]; rw [List.nil_append] at hs1; have HS1 := Lib.hid hs1; have HC1 := Lib.hid hc1; clear hs1 hc1 hf1
                      refine hK.out _ _ HS1.out.up5.rtabH (fun hS0 => ?_)
                      clear hK K
                      try simp only [Act.put, List.setIfInBounds_toArray, List.set_cons_zero, List.set_cons_succ]
                      refine rgn_call (i := 9) rfl (by kernel_rfl) (fun K hK => ?_)
                      go_simp
                      have HS3 := Lib.hid (HS1.out.alloc' (.cells #[.int .i64 (K8 : Int)] 3))
                      refine hK.out _ _ HS3.out.up5.rtabH (fun hS0 => ?_)
                      clear hK K
                      refine rgn_call (i := 10) rfl (by kernel_rfl) (fun K hK => ?_)
                      refine step_appF rfl (.tmp 79) (.tmp 81) 23 rfl 3 j0 _ 1 8 Try.underlying23 Hj0.out Hy0.out Hy1.out Hy2.out rfl (by decide) (.slice A1 k c1) k (i64s (hs.take k)) rfl w0 _ (by exact HS3.out) w0 (HS3.out).chg (row_fresh (by exact HS3.out)) (some ⟨w1.heap.size, 0, none⟩) 1 1 [.int .i64 (K8 : Int)] rfl (lit_rdv _ _ _) rfl (i64_ones [K8]) (by unfold maxLen; omega) (by omega) ?_; intro A4 c4 w4 hs4 hc4 hf4; have HS4 := Lib.hid hs4; clear hs4 hc4 hf4
                      refine hK.out _ _ HS4.out.up5.rtabH (fun hS0 => ?_)
                      clear hK K
                      try simp only [Act.put, List.setIfInBounds_toArray, List.set_cons_zero, List.set_cons_succ]
                      refine rgn_call (i := 17) rfl (by kernel_rfl) (fun K hK => ?_)
                      refine step_appF rfl (.tmp 82) (.tmp 88) 23 rfl 3 j0 _ 1 8 Try.underlying23 Hj0.out Hy0.out Hy1.out Hy2.out rfl (by decide) (.slice A4 (k + 1) c4) (k + 1) (i64s (hs.take k) ++ [.int .i64 (K8 : Int)]) rfl w0 _ (by exact HS4.out) w0 HS4.out.chg (row_fresh (by exact HS4.out)) (some ⟨g, k, none⟩) (hs.length - k) (hc - k) (i64s (hs.drop k)) rfl (HRest.out _ _ (HS4.out.up5.rtabRh) (by rw [if_neg hck]; show some _ = some _; simp [Addr.add])) (by unfold i64s; rw [List.length_map, List.length_drop, Nat.mul_one] <;> omega) (i64_ones _) (by unfold maxLen; omega) (by omega) ?_; intro A5 c5 w5 hs5 hc5 hf5; have HS5 := Lib.hid hs5; clear hs5 hc5 hf5
                      refine hK.out _ _ HS5.out.up5.rtabH (fun hS0 => ?_)
                      clear hK K
                      try simp only [Act.put, List.setIfInBounds_toArray, List.set_cons_zero, List.set_cons_succ]
                      refine rgn_take (i := 18) (v := ?rv199) rfl (by kernel_rfl) (by kernel_rfl) (by kernel_rfl) (fun _ _ _ h => h) (by rfl) ?rh199 (by assumption) ?rr199
                      case rh199 => (intro w hSw; (try dsimp only at hSw); go_simp; try with_reducible rfl)
                      simp only [Act.put, List.setIfInBounds_toArray, List.set_cons_zero, List.set_cons_succ]
                      refine wpAnyH_done (by kernel_rfl) ?_ _
                      go_wp2_with fail
                      go_meet
                      have en : k + 1 + (hs.length - k) = hs.length + 1 := by omega
                      refine ⟨A5, c5, by rw [← en], ?_⟩
                      have h9 := HS5.out
                      have el : i64s (hs.take k) ++ [Value.int .i64 (K8 : Int)] ++ i64s (hs.drop k) = i64s (hs.take k ++ K8 :: hs.drop k) := by unfold i64s; simp
                      rw [el] at h9
                      rw [← en]
                      exact h9
                    ·
                      go_simp
                      have HS0 := Lib.hid (HD6.out.drew.alloc' (.cells #[.int .i64 (K8 : Int)] 3))
                      refine hK.out _ _ HS0.out.up4.rtabH (fun hS0 => ?_)
                      clear hK K
                      refine rgn_call (i := 7) rfl (by kernel_rfl) (fun K hK => ?_)
                      refine step_appF rfl (.tmp 72) (.tmp 78) 23 rfl 3 j0 _ 1 8 Try.underlying23 Hj0.out Hy0.out Hy1.out Hy2.out rfl (by decide) (.slice none 0 0) 0 [] rfl w0 _ (by exact HS0.out.row_nil _ 1) (wc.drew.alloc (.cells #[.int .i64 (K8 : Int)] 3)) (Chg.refl No _) (fresh_nil _) (some ⟨g, 0, none⟩) k hc (i64s (hs.take k)) rfl (by unfold i64s; rw [List.map_take]; exact (HS0.out.up4.rtabRh).take _) (by unfold i64s; rw [List.length_map, List.length_take, Nat.min_eq_left hkh, Nat.mul_one]) (i64_ones _) (by unfold maxLen; omega) (by omega) ?_; intro A1 c1 w1 hs1 hc1 hf1; rw [Nat.zero_add] at hs1 hf1; rw [Nat.zero_add]; rw [List.nil_append] at hs1; have HS1 := Lib.hid hs1; have HC1 := Lib.hid hc1; clear hs1 hc1 hf1
                      refine hK.out _ _ HS1.out.up5.rtabH (fun hS0 => ?_)
                      clear hK K
                      try simp only [Act.put, List.setIfInBounds_toArray, List.set_cons_zero, List.set_cons_succ]
                      refine rgn_call (i := 10) rfl (by kernel_rfl) (fun K hK => ?_)
                      refine step_appF rfl (.tmp 79) (.tmp 81) 23 rfl 3 j0 _ 1 8 Try.underlying23 Hj0.out Hy0.out Hy1.out Hy2.out rfl (by decide) (.slice A1 k c1) k (i64s (hs.take k)) rfl w0 _ (by exact HS1.out) w0 (HS1.out).chg (row_fresh (by exact HS1.out)) (some ⟨wc.heap.size, 0, none⟩) 1 1 [.int .i64 (K8 : Int)] rfl ((lit_rdv wc.drew #[.int .i64 (K8 : Int)] 3).new HC1.out) rfl (i64_ones [K8]) (by unfold maxLen; omega) (by omega) ?_; intro A4 c4 w4 hs4 hc4 hf4; have HS4 := Lib.hid hs4; clear hs4 hc4 hf4
                      refine hK.out _ _ HS4.out.up5.rtabH (fun hS0 => ?_)
                      clear hK K
                      try simp only [Act.put, List.setIfInBounds_toArray, List.set_cons_zero, List.set_cons_succ]
                      refine rgn_call (i := 17) rfl (by kernel_rfl) (fun K hK => ?_)
                      refine step_appF rfl (.tmp 82) (.tmp 88) 23 rfl 3 j0 _ 1 8 Try.underlying23 Hj0.out Hy0.out Hy1.out Hy2.out rfl (by decide) (.slice A4 (k + 1) c4) (k + 1) (i64s (hs.take k) ++ [.int .i64 (K8 : Int)]) rfl w0 _ (by exact HS4.out) w0 HS4.out.chg (row_fresh (by exact HS4.out)) (some ⟨g, k, none⟩) (hs.length - k) (hc - k) (i64s (hs.drop k)) rfl (HRest.out _ _ (HS4.out.up5.rtabRh) (by rw [if_neg hck]; show some _ = some _; simp [Addr.add])) (by unfold i64s; rw [List.length_map, List.length_drop, Nat.mul_one] <;> omega) (i64_ones _) (by unfold maxLen; omega) (by omega) ?_; intro A5 c5 w5 hs5 hc5 hf5; have HS5 := Lib.hid hs5; clear hs5 hc5 hf5
                      refine hK.out _ _ HS5.out.up5.rtabH (fun hS0 => ?_)
                      clear hK K
                      try simp only [Act.put, List.setIfInBounds_toArray, List.set_cons_zero, List.set_cons_succ]
                      refine rgn_take (i := 18) (v := ?rv203) rfl (by kernel_rfl) (by kernel_rfl) (by kernel_rfl) (fun _ _ _ h => h) (by rfl) ?rh203 (by assumption) ?rr203
                      case rh203 => (intro w hSw; (try dsimp only at hSw); go_simp; try with_reducible rfl)
                      simp only [Act.put, List.setIfInBounds_toArray, List.set_cons_zero, List.set_cons_succ]
                      refine wpAnyH_done (by kernel_rfl) ?_ _
                      go_wp2_with fail
                      go_meet
                      have en : k + 1 + (hs.length - k) = hs.length + 1 := by omega
                      refine ⟨A5, c5, by rw [← en], ?_⟩
                      have h9 := HS5.out
                      have el : i64s (hs.take k) ++ [Value.int .i64 (K8 : Int)] ++ i64s (hs.drop k) = i64s (hs.take k ++ K8 :: hs.drop k) := by unfold i64s; simp
                      rw [el] at h9
                      rw [← en]
                      exact h9
              case rest =>
                obtain ⟨A9, c9, hx, hcut⟩ := hcut
                subst hx
                have HD7 := hcut
                clear hcut c0 HD6 HD4
                have q0 := HD7.out.up5.rtabL
                have q1 := HD7.out.up5.rtabH
                have f0 := (HD7.out.up5.of (rtab_d ..)).frozen 0
                have f1 := (HD7.out.up5.of (rtab_d ..)).frozen 1
                have h9 := ((HD7.out.up5.of (rtab_d ..)).set 0 (.slice A8 (es.length + 1) c8)).set 1 (.slice A9 (hs.length + 1) c9)
                have HS9 := Lib.hid h9
                clear h9
                go_wp2_with fail
                go_ret
                have el : (es.take k ++ N :: es.drop k).length = es.length + 1 := by rw [List.length_append, List.length_cons, List.length_take, List.length_drop]; omega
                have eh : (hs.take k ++ K8 :: hs.drop k).length = hs.length + 1 := by rw [List.length_append, List.length_cons, List.length_take, List.length_drop]; omega
                have hkq : k = atN e.ent (es.map En.ent) := by rw [← HLd.out]; exact HKd.out
                refine ⟨es.take k ++ N :: es.drop k, hs.take k ++ K8 :: hs.drop k, by rw [HT.out]; rfl, by rw [el, eh, HLen.out], by rw [el]; exact Nat.le_refl _, ?_, ?_, ?_⟩
                · rw [hkq, HK8.out]
                  exact absR_ins HLen.out HNe.out HT.out
                · intro y hy
                  rcases List.mem_append.1 hy with hy | hy
                  · exact .inl (List.mem_of_mem_take hy)
                  · rcases List.mem_cons.1 hy with rfl | hy
                    · exact .inr ⟨HNe.out, HNc.out⟩
                    · exact .inl (List.mem_of_mem_drop hy)
                · have h1 := HS9.out.drop2.drop2
                  have h2 : Sat w0 (RoL (eslc es) * (RoL [N.key, N.value] * (Pt E 34 #[.slice e.key.1 e.key.2.2.length e.key.2.1, .slice e.value.1 e.value.2.2.length e.value.2.1, .int .i64 e.seq, .bool e.dead] * (Pt r 83 #[.slice A8 (es.length + 1) c8, .slice A9 (hs.length + 1) c9] * (Row 34 4 (.slice A8 (es.length + 1) c8) (es.length + 1) ((es.take k ++ N :: es.drop k).flatMap enV) * (Row 3 1 (.slice A9 (hs.length + 1) c9) (hs.length + 1) (i64s (hs.take k ++ K8 :: hs.drop k)) * F)))))) _ := h1.of (by
                    show Pt r _ #[.slice A8 (es.length + 1) c8, .slice A9 (hs.length + 1) c9] * (RoL (eslc es) * (Row _ _ _ _ _ * (Row _ _ _ _ _ * (RoL _ * (Pt E _ _ * F))))) = _
                    ac_rfl)
                  have h3 := (h2.rol_add.rol_sub (rs' := eslc (es.take k ++ N :: es.drop k)) (by
                    intro x hx
                    obtain ⟨y, hy, hxy⟩ := List.mem_flatMap.1 hx
                    rcases List.mem_append.1 hy with hy | hy
                    · exact List.mem_append_left _ (List.mem_flatMap.2 ⟨y, List.mem_of_mem_take hy, hxy⟩)
                    · rcases List.mem_cons.1 hy with rfl | hy
                      · exact List.mem_append_right _ hxy
                      · exact List.mem_append_left _ (List.mem_flatMap.2 ⟨y, List.mem_of_mem_drop hy, hxy⟩))).drop2
                  refine Sat.rtabI (vL := .slice A8 (es.length + 1) c8) (vH := .slice A9 (hs.length + 1) c9) (h3.of ?_)
                  rw [rtab_d, el, eh]
                  show RoL _ * (Pt r _ _ * (Row _ _ _ _ _ * (Row _ _ _ _ _ * F))) = Pt r _ _ * (Row _ _ _ _ _ * (Row _ _ _ _ _ * (RoL _ * F)))
                  ac_rfl
end Go.Proofs.Ytaoenbjfkahdjaa
