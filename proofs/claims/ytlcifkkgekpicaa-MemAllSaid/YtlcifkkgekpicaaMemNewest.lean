/- MemNewest: the walk. -/
import Derived.Test.YtlcifkkgekpicaaMemBest
import Derived.Deep.CutBlock
import Derived.Test.YtlcifkkgekpicaaRgn
namespace Go.Proofs.Ytlcifkkgekpicaa
open Go.RowKit
set_option linter.unusedVariables false

theorem puV_len (p : PuD) : (puV p).length = 5 := rfl
/-- A row of entries and heights, where it lies. -/
theorem puts_at {w : World} {A : Option Addr} {ps : List PuD} (h : RdV w A (ps.flatMap puV)) (hn : 0 < ps.length) : ∃ b o, A = some ⟨b, o, none⟩ ∧ ∀ i (hi : i < ps.length),
    w.cell? ⟨b, o + i * 5, none⟩ = some (slv' ps[i].e.key) ∧ w.cell? ⟨b, o + i * 5 + 1, none⟩ = some (slv' ps[i].e.value) ∧ w.cell? ⟨b, o + i * 5 + 2, none⟩ = some (.int .i64 ps[i].e.seq) ∧ w.cell? ⟨b, o + i * 5 + 3, none⟩ = some (.bool ps[i].e.dead) ∧ w.cell? ⟨b, o + i * 5 + 4, none⟩ = some (.int .i64 ps[i].H) := by
  have hl := flatK_len puV_len ps
  obtain ⟨b, o, rfl, _⟩ := RdV.get h (j := 0) (by omega)
  refine ⟨b, o, rfl, fun i hi => ?_⟩
  have key : ∀ j, j < 5 → w.cell? ⟨b, o + i * 5 + j, none⟩ = (puV ps[i])[j]? := fun j hj => by
    have hij : i * 5 + j < (ps.flatMap puV).length := by omega
    obtain ⟨b', o', e, hc⟩ := RdV.get h hij
    injection e with e
    injection e with e1 e2
    subst e1; subst e2
    rw [Nat.add_assoc, hc, ← flatK puV_len ps i j hi hj, List.getElem?_eq_getElem hij]
  exact ⟨key 0 (by omega), key 1 (by omega), key 2 (by omega), key 3 (by omega), key 4 (by omega)⟩
/-- cut, with what is held. -/
theorem cutS {w W : World} {S : SP} (e : En) (h : Sat w S W) (hk : e.key.2.2.length ≤ e.key.2.1) (hv : e.value.2.2.length ≤ e.value.2.1) :
    Calls Try.prog 15 #[.agg #[.slice e.key.1 e.key.2.2.length e.key.2.1, .slice e.value.1 e.value.2.2.length e.value.2.1, .int .i64 e.seq, .bool e.dead]] W fun x w' => x = .returned (enA (cutN e)) ∧ Sat w S w' := by
  refine (ecut_any e W hk hv).mono ?_
  rintro x w' ⟨rfl, k⟩
  exact ⟨rfl, h.new k⟩
/-- Put, of a short entry. -/
theorem putC {w W : World} {F : SP} (b hr : Nat) (ns : List Nd) (n : Nat) (H : Int) (e : En) (h : Sat w (SkipT b hr ns * F) W) (ht : Tab ns n) (hn : n ≤ 1000) (he : EnIn w e) :
    Calls Try.prog 14 #[.pointer (some ⟨b, 0, none⟩), enA (cutN e), .int .i64 H] W (PutT w F b hr ns n (cutN e).ent H) :=
  putT_any b hr ns n H (cutN e) w W F h ht hn (cutN_r (he.r.new h.chg)) (cutN_len e).1 (cutN_len e).2 he.s.2
set_option maxRecDepth 100000 in
set_option maxHeartbeats 4000000 in
theorem memNewest_walk (A : Option Addr) (cap : Nat) (l : List PuD) (KA : Option Addr) (kc : Nat) (kl : List UInt8) (seq : Int) (w : World) (hl : PusIn w A cap l) (hk : kl.length ≤ kc ∧ kc ≤ maxLen ∧ Rd w KA kl ∧ kl.length ≤ 140737488351232 ∧ (KA = none → kc = 0)) (hsq : -9223372036854775808 ≤ seq ∧ seq ≤ 9223372036854775807) :
    Calls Try.prog 4 #[.slice A l.length cap, .slice KA kl.length kc, .int .i64 seq] w (Asked true w) := by
  obtain ⟨hc1, hc2, hl1, hl2, hl3⟩ := hl
  obtain ⟨hk1, hk2, hk3, hk4, hk5⟩ := hk
  have HL := Lib.hid hl1
  have HI := Lib.hid hl3
  have HK := Lib.hid hk3
  unfold maxLen at hc2 hk2
  clear hl1 hl3 hk3 hk5
  have HW := Lib.hid (Sat.start w)
  go_enter Try.func4, Try.ntmps4
  go_upto_block 0 with (first
    | (go_at_call 13; refine (newT_any w _ _ HW.out).mono ?_; rintro x w1 ⟨b, hr, rfl, hs1⟩; have HS1 := Lib.hid hs1; clear hs1)
    | (go_at_call 12; refine (mwakes_any _).mono ?_; rintro x w2 ⟨rfl, k2⟩; have HS2 := Lib.hid (HS1.out.new k2); clear k2))
  go_cut [8] (fun i wx => ∃ (k : Nat) (ns : List Nd), k ≤ 1000 ∧ i = .int .i64 k ∧ k ≤ 80 ∧ Hid (Tab ns k ∧ Sat w (SkipT b hr ns * Emp) wx))
  case first =>
    go_wp2_with fail
    go_loopw [8] (fun i wr => ∃ (k : Nat) (ns : List Nd), k ≤ 80 ∧ k ≤ l.length ∧ i = .int .i64 k ∧ Hid (Tab ns k ∧ Sat w (SkipT b hr ns * Emp) wr)) (fun i _ => 80 - (intOf i).toNat)
    case atStart => exact ⟨0, [], by omega, by omega, rfl, tab_nil 0, HS2.out⟩
    case round =>
      obtain ⟨k, ns, hk80, hkl, rfl, HD⟩ := hrel
      by_cases hx : k < l.length ∧ k < 80
      · obtain ⟨hlt, h80⟩ := hx
        · obtain ⟨lb, lo, rfl, hq⟩ := puts_at HL.out (by omega)
          obtain ⟨z0, z1, z2, z3, z4⟩ := hq k hlt
          have a0 := HD.out.2.chg.cell z0 id; have a1 := HD.out.2.chg.cell z1 id; have a2 := HD.out.2.chg.cell z2 id; have a3 := HD.out.2.chg.cell z3 id; have a4 := HD.out.2.chg.cell z4 id
          have Z4 := Lib.hid z4
          unfold slv' at a0 a1
          clear hq z0 z1 z2 z3 z4
          have HE := Lib.hid (HI.out l[k] (List.getElem_mem _)).1
          have hkk : k ≤ 1000 := by omega
          go_wp2_with fail
          go_region_law (first
            | (go_simp; go_at_call 15; (with_reducible refine (cutS l[k].e HD.out.2.drew HE.out.k2 HE.out.v2).mono ?_); rintro x w5 ⟨rfl, hs5⟩; have HS5 := Lib.hid hs5; have b4 := hs5.chg.cell Z4.out id; clear hs5)
            | (go_simp; go_at_call 14; (with_reducible refine (putC b hr ns k l[k].H l[k].e HS5.out HD.out.1 hkk HE.out).mono ?_); rintro x w6 ⟨ns', rfl, ht6, ha6, hs6⟩; have HT6 := Lib.hid ht6; have HS6 := Lib.hid hs6; clear ht6 ha6 hs6))
          all_goals
            go_wp2_with fail
            go_roundw
            · exact ⟨k + 1, ns', by omega, by omega, by push_cast; rfl, HT6.out, HS6.out⟩
            · simp [intOf]; omega
      · have hor : (l.length ≤ k) ∨ (k < l.length ∧ 80 ≤ k) := by omega
        clear hx
        rcases hor with hx | ⟨hx, hx2⟩
        all_goals
          go_wp2_with fail
          go_meet
          exact ⟨k, ns, by omega, rfl, by omega, HD.out⟩
  case rest =>
    obtain ⟨k, ns, h1000, rfl, hk80, HD⟩ := hcut
    have HP : Hid ((absL ns).map (·.1) = (absL ns).map (·.1)) := rfl
    obtain ⟨L, hL⟩ : ∃ L, L = (absL ns).map (·.1) := ⟨_, rfl⟩
    have hsort : L.Pairwise LTE := by
      rw [hL, show (absL ns).map (·.1) = ns.map fun n => n.e.ent by unfold absL; rw [List.map_map]; rfl, List.pairwise_map]
      exact HD.out.1.ok.sort
    have hlen : L.length ≤ 80 := by have := HD.out.1.len; rw [hL]; simp [absL]; omega
    have HSo := Lib.hid hsort
    have HLq := Lib.hid hL
    clear HP hL hsort
    go_upto_region 10 with (first
      | (go_at_call 16; (with_reducible refine (getT_any (KA, kc, kl) seq b hr ns k w _ Emp (HK.out.new HD.out.2.chg) HD.out.2 HD.out.1 h1000).mono ?_); rintro x w5 ⟨⟨g, rfl, hg, hgr⟩, k5⟩; have HG := Lib.hid hg; have HGR := Lib.hid hgr; have HS5 := Lib.hid (HD.out.2.new k5); clear hg hgr k5; simp only [enA])
      | (go_at_call 17; (with_reducible refine (all_any b hr ns k w _ (Pt w5.heap.size 24 (enC g) * Emp) (HS5.out.allocPt _ _).up2 HD.out.1 h1000).mono ?_); rintro x w6 ⟨es, EA, ec, rfl, hes, hec, hem, her, hee, k6⟩; have HES := Lib.hid (hes.trans HLq.out.symm); have HER := Lib.hid her; have HEE := Lib.hid hee; have HS6 := Lib.hid ((HS5.out.allocPt 24 (enC g)).up2.new k6); have HK56 := Lib.hid (((Chg.refl No w5).alloc (.cells (enC g) 24)).tr k6); unfold maxLen at hem; clear hes her hee k6))
    obtain ⟨G, hG⟩ : ∃ G, G = w5.heap.size := ⟨_, rfl⟩
    rw [← hG]
    rw [← hG] at HS6
    clear hG
    have hesl : es.length = L.length := by rw [← HES.out, List.length_map]
    have hes80 : es.length ≤ 80 := by omega
    have HLE : Hid (∀ i (h : i < es.length) (h' : i < L.length), L[i] = es[i].ent) := by
      intro i h h'
      have h1 := HES.out
      subst h1
      simp
    have Hesl := Lib.hid hesl
    clear hesl
    go_wp2_with fail
    go_loopw [12, 13] (fun best i wr => ∃ k2 : Nat, k2 ≤ es.length ∧ i = .int .i64 k2 ∧ best = .int .i64 (bst kl seq L k2) ∧ Hid (Chg No w6 wr)) (fun _ i _ => es.length - (intOf i).toNat)
    case atStart => exact ⟨0, by omega, rfl, by unfold bst; simp, Chg.refl _ _⟩
    case round =>
      obtain ⟨k2, hk2, rfl, rfl, HD2⟩ := hrel
      by_cases hlt2 : k2 < es.length
      · obtain ⟨eb, eo, rfl, hq⟩ := ents_at HER.out (by omega)
        obtain ⟨z0, z1, z2, z3⟩ := hq k2 hlt2
        have a0 := HD2.out.cell z0 id; have a2 := HD2.out.cell z2 id
        unfold slv' at a0
        have HQ2 := Lib.hid hq
        clear hq z0 z1 z2 z3
        have hL2 : k2 < L.length := by rw [← Hesl.out]; exact hlt2
        have hkey := HLE.out k2 hlt2 hL2
        obtain ⟨SI, SK, B, e1, e2, e3, e4⟩ := str_two es[k2].key.2.2 kl
        have s1 := fun n => str_any ((HEE.out _ (List.getElem_mem hlt2)).1.new (HD2.out.drewN n)) es[k2].key.2.1
        have s2 := fun n => str_any ((((HK.out.new HS6.out.chg)).new (HD2.out.drewN n))) kc
        simp only [← e1] at s1
        simp only [← e2] at s2
        have HB := Lib.hid e4
        clear e1 e2 e4
        by_cases hm : mtE kl seq L[k2]
        · have hB : B = true := by rw [HB.out]; have := hm.1; rw [hkey] at this; have h3 : es[k2].key.2.2 = kl := this; simpa using h3
          have hsq2 : es[k2].seq ≤ seq := by have := hm.2; rw [hkey] at this; exact this
          subst hB
          rcases bst_cases kl seq L k2 with hb | ⟨q, hqk, hqp, hb⟩
          · have HN : Hid (bst kl seq L (k2 + 1) = k2) := bst_first HSo.out hL2 hm hb
            rw [hb]
            clear hb hm hkey
            go_wp2_with fail
            go_quiet (fail)
            go_wp2_with fail
            go_roundw
            · exact ⟨k2 + 1, by omega, by push_cast; rfl, by rw [HN.out], HD2.out.drewN _⟩
            · simp [intOf]; omega
          · obtain ⟨hn1, hn2⟩ := bst_next HSo.out hL2 hm hqk hqp
            have hqe : q < es.length := by omega
            have hkq := HLE.out q hqe (by omega)
            have hn3 : ¬ es[q].seq < es[k2].seq := by rw [hkey, hkq] at hn1; exact hn1
            have HN : Hid (bst kl seq L (k2 + 1) = q) := hn2
            have b2 := HD2.out.cell (HQ2.out q hqe).2.2.1 id
            rw [hb]
            clear hb hm hkey hn1 hn2 hkq hqp
            go_wp2_with fail
            go_quiet (fail)
            go_wp2_with fail
            go_roundw
            · exact ⟨k2 + 1, by omega, by push_cast; rfl, by rw [HN.out], HD2.out.drewN _⟩
            · simp [intOf]; omega
        · have HN : Hid (bst kl seq L (k2 + 1) = bst kl seq L k2) := bst_no HSo.out hL2 hm
          have hBq : B = false ∨ (B = true ∧ ¬ es[k2].seq ≤ seq) := by
            cases B with
            | false => exact .inl rfl
            | true =>
              refine .inr ⟨rfl, fun h => hm ?_⟩
              rw [hkey]
              exact ⟨of_decide_eq_true HB.out.symm, h⟩
          generalize bst kl seq L k2 = bb at *
          rcases hBq with hB | ⟨hB, hsq2⟩
          · subst hB
            clear hm hkey
            go_wp2_with fail
            go_quiet (fail)
            go_wp2_with fail
            go_roundw
            · exact ⟨k2 + 1, by omega, by push_cast; rfl, by rw [HN.out], HD2.out.drewN _⟩
            · simp [intOf]; omega
          · subst hB
            have hsq3 : seq < es[k2].seq := by omega
            have hsq4 : decide (es[k2].seq ≤ seq) = false := by simpa using hsq3
            clear hm hkey
            go_wp2_with fail
            go_quiet (fail)
            go_wp2_with fail
            go_roundw
            · exact ⟨k2 + 1, by omega, by push_cast; rfl, by rw [HN.out], HD2.out.drewN _⟩
            · simp [intOf]; omega
      · have hke : k2 = es.length := by omega
        subst hke
        have hgl : getE kl seq ns = getL kl seq L := by rw [HLq.out]; exact get_list kl seq ns
        have c0 := HD2.out.cell (HS6.out.up2.cell 0) id; have c1 := HD2.out.cell (HS6.out.up2.cell 1) id; have c2 := HD2.out.cell (HS6.out.up2.cell 2) id; have c3 := HD2.out.cell (HS6.out.up2.cell 3) id
        have HGr : Hid (EnR wr g) := (HGR.out.new HK56.out).new HD2.out
        rcases bst_end kl seq L with ⟨q1, q2⟩ | ⟨qp, q1, q2⟩
        · have hb1 : (getE kl seq ns).isSome = false := by rw [hgl, q1]; rfl
          have hb2 : bst kl seq L es.length = -1 := by rw [Hesl.out]; exact q2
          rw [hb1, hb2]
          have hg := HG.out
          rw [hgl, q1] at hg
          have HE0 : Hid (eqE g.ent (⟨(none, 0, []), (none, 0, []), 0, false⟩ : En).ent = true) := by unfold Hid; rw [hg]; rfl
          clear q1 q2 hgl hg hb1 hb2
          go_wp2_with fail
          unfold enC at c0 c1 c2 c3
          refine wp_region_held_drew (S := fun w' => w'.cell? ⟨G, 0, none⟩ = some (.slice g.key.1 g.key.2.2.length g.key.2.1) ∧ w'.cell? ⟨G, 1, none⟩ = some (.slice g.value.1 g.value.2.2.length g.value.2.1) ∧ w'.cell? ⟨G, 2, none⟩ = some (.int .i64 g.seq) ∧ w'.cell? ⟨G, 3, none⟩ = some (.bool g.dead)) (by kernel_rfl) ⟨c0, c1, c2, c3⟩ ?_
          intro hS0
          refine rgn_take (i := 0) (v := ?rv1) rfl (by kernel_rfl) (by kernel_rfl) (by kernel_rfl) (fun _ _ _ h => h) (by rfl) ?rh1 (by assumption) ?rr1
          case rh1 => (intro w hSw; (try dsimp only at hSw); go_simp; try with_reducible rfl)
          simp only [Act.put, List.setIfInBounds_toArray, List.set_cons_zero, List.set_cons_succ]
          refine rgn_take (i := 1) (v := ?rv2) rfl (by kernel_rfl) (by kernel_rfl) (by kernel_rfl) (fun _ _ _ h => h) (by rfl) ?rh2 (by assumption) ?rr2
          case rh2 => (intro w hSw; (try dsimp only at hSw); go_simp; try with_reducible rfl)
          simp only [Act.put, List.setIfInBounds_toArray, List.set_cons_zero, List.set_cons_succ]
          refine rgn_take (i := 2) (v := ?rv3) rfl (by kernel_rfl) (by kernel_rfl) (by kernel_rfl) (fun _ _ _ h => h) (by rfl) ?rh3 (by assumption) ?rr3
          case rh3 => (intro w hSw; (try dsimp only at hSw); go_simp; try with_reducible rfl)
          simp only [Act.put, List.setIfInBounds_toArray, List.set_cons_zero, List.set_cons_succ]
          refine rgn_take (i := 3) (v := ?rv4) rfl (by kernel_rfl) (by kernel_rfl) (by kernel_rfl) (fun _ _ _ h => h) (by rfl) ?rh4 (by assumption) ?rr4
          case rh4 => (intro w hSw; (try dsimp only at hSw); go_simp; try with_reducible rfl)
          simp only [Act.put, List.setIfInBounds_toArray, List.set_cons_zero, List.set_cons_succ]
          refine rgn_take (i := 4) (v := ?rv5) rfl (by kernel_rfl) (by kernel_rfl) (by kernel_rfl) (fun _ _ _ h => h) (by rfl) ?rh5 (by assumption) ?rr5
          case rh5 => (intro w hSw; (try dsimp only at hSw); go_simp; try with_reducible rfl)
          simp only [Act.put, List.setIfInBounds_toArray, List.set_cons_zero, List.set_cons_succ]
          refine rgn_take (i := 5) (v := ?rv6) rfl (by kernel_rfl) (by kernel_rfl) (by kernel_rfl) (fun _ _ _ h => h) (by rfl) ?rh6 (by assumption) ?rr6
          case rh6 => (intro w hSw; (try dsimp only at hSw); go_simp; try with_reducible rfl)
          simp only [Act.put, List.setIfInBounds_toArray, List.set_cons_zero, List.set_cons_succ]
          refine rgn_take (i := 6) (v := ?rv7) rfl (by kernel_rfl) (by kernel_rfl) (by kernel_rfl) (fun _ _ _ h => h) (by rfl) ?rh7 (by assumption) ?rr7
          case rh7 => (intro w hSw; (try dsimp only at hSw); go_simp; try with_reducible rfl)
          simp only [Act.put, List.setIfInBounds_toArray, List.set_cons_zero, List.set_cons_succ]
          refine rgn_take (i := 7) (v := ?rv8) rfl (by kernel_rfl) (by kernel_rfl) (by kernel_rfl) (fun _ _ _ h => h) (by rfl) ?rh8 (by assumption) ?rr8
          case rh8 => (intro w hSw; (try dsimp only at hSw); go_simp; try with_reducible rfl)
          simp only [Act.put, List.setIfInBounds_toArray, List.set_cons_zero, List.set_cons_succ]
          refine rgn_skip (i := 8) rfl (by kernel_rfl) (by kernel_rfl) (by kernel_rfl) (fun _ _ _ h => h) (by rfl) (by assumption) ?_
          simp only [Act.put, List.setIfInBounds_toArray, List.set_cons_zero, List.set_cons_succ]
          refine rgn_skip (i := 9) rfl (by kernel_rfl) (by kernel_rfl) (by kernel_rfl) (fun _ _ _ h => h) (by rfl) (by assumption) ?_
          simp only [Act.put, List.setIfInBounds_toArray, List.set_cons_zero, List.set_cons_succ]
          refine rgn_skip (i := 10) rfl (by kernel_rfl) (by kernel_rfl) (by kernel_rfl) (fun _ _ _ h => h) (by rfl) (by assumption) ?_
          simp only [Act.put, List.setIfInBounds_toArray, List.set_cons_zero, List.set_cons_succ]
          refine rgn_skip (i := 11) rfl (by kernel_rfl) (by kernel_rfl) (by kernel_rfl) (fun _ _ _ h => h) (by rfl) (by assumption) ?_
          simp only [Act.put, List.setIfInBounds_toArray, List.set_cons_zero, List.set_cons_succ]
          refine rgn_skip (i := 12) rfl (by kernel_rfl) (by kernel_rfl) (by kernel_rfl) (fun _ _ _ h => h) (by rfl) (by assumption) ?_
          simp only [Act.put, List.setIfInBounds_toArray, List.set_cons_zero, List.set_cons_succ]
          refine rgn_skip (i := 13) rfl (by kernel_rfl) (by kernel_rfl) (by kernel_rfl) (fun _ _ _ h => h) (by rfl) (by assumption) ?_
          simp only [Act.put, List.setIfInBounds_toArray, List.set_cons_zero, List.set_cons_succ]
          refine rgn_take (i := 14) (v := ?rv15) rfl (by kernel_rfl) (by kernel_rfl) (by kernel_rfl) (fun _ _ _ h => h) (by rfl) ?rh15 (by assumption) ?rr15
          case rh15 => (intro w hSw; (try dsimp only at hSw); go_simp; try with_reducible rfl)
          simp only [Act.put, List.setIfInBounds_toArray, List.set_cons_zero, List.set_cons_succ]
          refine rgn_take (i := 15) (v := ?rv16) rfl (by kernel_rfl) (by kernel_rfl) (by kernel_rfl) (fun _ _ _ h => h) (by rfl) ?rh16 (by assumption) ?rr16
          case rh16 => (intro w hSw; (try dsimp only at hSw); go_simp; try with_reducible rfl)
          simp only [Act.put, List.setIfInBounds_toArray, List.set_cons_zero, List.set_cons_succ]
          refine rgn_take (i := 16) (v := ?rv17) rfl (by kernel_rfl) (by kernel_rfl) (by kernel_rfl) (fun _ _ _ h => h) (by rfl) ?rh17 (by assumption) ?rr17
          case rh17 => (intro w hSw; (try dsimp only at hSw); go_simp; try with_reducible rfl)
          simp only [Act.put, List.setIfInBounds_toArray, List.set_cons_zero, List.set_cons_succ]
          refine rgn_take (i := 17) (v := ?rv18) rfl (by kernel_rfl) (by kernel_rfl) (by kernel_rfl) (fun _ _ _ h => h) (by rfl) ?rh18 (by assumption) ?rr18
          case rh18 => (intro w hSw; (try dsimp only at hSw); go_simp; try with_reducible rfl)
          simp only [Act.put, List.setIfInBounds_toArray, List.set_cons_zero, List.set_cons_succ]
          refine rgn_take (i := 18) (v := ?rv19) rfl (by kernel_rfl) (by kernel_rfl) (by kernel_rfl) (fun _ _ _ h => h) (by rfl) ?rh19 (by assumption) ?rr19
          case rh19 => (intro w hSw; (try dsimp only at hSw); go_simp; try with_reducible rfl)
          simp only [Act.put, List.setIfInBounds_toArray, List.set_cons_zero, List.set_cons_succ]
          refine rgn_take (i := 19) (v := ?rv20) rfl (by kernel_rfl) (by kernel_rfl) (by kernel_rfl) (fun _ _ _ h => h) (by rfl) ?rh20 (by assumption) ?rr20
          case rh20 => (intro w hSw; (try dsimp only at hSw); go_simp; try with_reducible rfl)
          simp only [Act.put, List.setIfInBounds_toArray, List.set_cons_zero, List.set_cons_succ]
          refine rgn_take (i := 20) (v := ?rv21) rfl (by kernel_rfl) (by kernel_rfl) (by kernel_rfl) (fun _ _ _ h => h) (by rfl) ?rh21 (by assumption) ?rr21
          case rh21 => (intro w hSw; (try dsimp only at hSw); go_simp; try with_reducible rfl)
          simp only [Act.put, List.setIfInBounds_toArray, List.set_cons_zero, List.set_cons_succ]
          refine rgn_call (i := 21) rfl (by kernel_rfl) (fun K hK => ?_)
          go_simp
          go_at_call 18; refine (eqE_any g ⟨(none, 0, []), (none, 0, []), 0, false⟩ _ (HGr.out.new (Chg.refl No _).drew) ⟨Rd.nil _ _, Rd.nil _ _⟩).mono ?_; rintro x w9 ⟨rfl, k9⟩; rw [HE0.out]; have HK9 := Lib.hid ((HD2.out.drew).tr k9); have hk9 := Lib.hid ((Chg.refl No wr).drew.tr k9); clear k9
          refine hK.out _ _ ⟨hk9.out.cell c0 id, hk9.out.cell c1 id, hk9.out.cell c2 id, hk9.out.cell c3 id⟩ (fun hS0 => ?_)
          clear hK K
          try simp only [Act.put, List.setIfInBounds_toArray, List.set_cons_zero, List.set_cons_succ]
          refine rgn_take (i := 22) (v := ?rv23) rfl (by kernel_rfl) (by kernel_rfl) (by kernel_rfl) (fun _ _ _ h => h) (by rfl) ?rh23 (by assumption) ?rr23
          case rh23 => (intro w hSw; (try dsimp only at hSw); go_simp; try with_reducible rfl)
          simp only [Act.put, List.setIfInBounds_toArray, List.set_cons_zero, List.set_cons_succ]
          refine rgn_take (i := 23) (v := ?rv24) rfl (by kernel_rfl) (by kernel_rfl) (by kernel_rfl) (fun _ _ _ h => h) (by rfl) ?rh24 (by assumption) ?rr24
          case rh24 => (intro w hSw; (try dsimp only at hSw); go_simp; try with_reducible rfl)
          simp only [Act.put, List.setIfInBounds_toArray, List.set_cons_zero, List.set_cons_succ]
          refine rgn_take (i := 24) (v := ?rv25) rfl (by kernel_rfl) (by kernel_rfl) (by kernel_rfl) (fun _ _ _ h => h) (by rfl) ?rh25 (by assumption) ?rr25
          case rh25 => (intro w hSw; (try dsimp only at hSw); go_simp; try with_reducible rfl)
          simp only [Act.put, List.setIfInBounds_toArray, List.set_cons_zero, List.set_cons_succ]
          refine wpAnyH_done (by kernel_rfl) ?_ _
          go_wp2_with fail
          go_ret
          exact ⟨rfl, HS6.out.chg.tr HK9.out⟩
        · obtain ⟨p, hp⟩ : ∃ p, p = plN kl seq L := ⟨_, rfl⟩
          have qp2 : p < es.length := by have := Hesl.out; omega
          have hLp := HLE.out p qp2 (by omega)
          have hg := HG.out
          rw [hgl, q1] at hg
          have HE0 : Hid (eqE g.ent es[p].ent = true) := by
            unfold Hid
            rw [hg, ← hLp]
            subst hp
            exact (eqE_iff _ _).2 rfl
          have hb1 : (getE kl seq ns).isSome = true := by rw [hgl, q1]; rfl
          have hb2 : bst kl seq L es.length = (p : Int) := by rw [Hesl.out, q2, hp]
          rw [hb1, hb2]
          obtain ⟨eb, eo, rfl, hq⟩ := ents_at HER.out (by omega)
          obtain ⟨z0, z1, z2, z3⟩ := hq p qp2
          have a0 := HD2.out.cell z0 id; have a1 := HD2.out.cell z1 id; have a2 := HD2.out.cell z2 id; have a3 := HD2.out.cell z3 id
          unfold slv' at a0 a1
          have HEp : Hid (EnR wr es[p]) := (HEE.out _ (List.getElem_mem qp2)).new HD2.out
          clear hb1 hb2 hp q1 q2 hgl hg hLp hq z0 z1 z2 z3
          go_wp2_with fail
          unfold enC at c0 c1 c2 c3
          refine wp_region_held_drew (S := fun w' => (w'.cell? ⟨G, 0, none⟩ = some (.slice g.key.1 g.key.2.2.length g.key.2.1) ∧ w'.cell? ⟨G, 1, none⟩ = some (.slice g.value.1 g.value.2.2.length g.value.2.1) ∧ w'.cell? ⟨G, 2, none⟩ = some (.int .i64 g.seq) ∧ w'.cell? ⟨G, 3, none⟩ = some (.bool g.dead)) ∧ w'.cell? ⟨eb, eo + p * 4, none⟩ = some (.slice es[p].key.1 es[p].key.2.2.length es[p].key.2.1) ∧ w'.cell? ⟨eb, eo + p * 4 + 1, none⟩ = some (.slice es[p].value.1 es[p].value.2.2.length es[p].value.2.1) ∧ w'.cell? ⟨eb, eo + p * 4 + 2, none⟩ = some (.int .i64 es[p].seq) ∧ w'.cell? ⟨eb, eo + p * 4 + 3, none⟩ = some (.bool es[p].dead)) (by kernel_rfl) ⟨⟨c0, c1, c2, c3⟩, a0, a1, a2, a3⟩ ?_
          intro hS0
          refine rgn_take (i := 0) (v := ?rv26) rfl (by kernel_rfl) (by kernel_rfl) (by kernel_rfl) (fun _ _ _ h => h) (by rfl) ?rh26 (by assumption) ?rr26
          case rh26 => (intro w hSw; (try dsimp only at hSw); go_simp; try with_reducible rfl)
          simp only [Act.put, List.setIfInBounds_toArray, List.set_cons_zero, List.set_cons_succ]
          refine rgn_take (i := 1) (v := ?rv27) rfl (by kernel_rfl) (by kernel_rfl) (by kernel_rfl) (fun _ _ _ h => h) (by rfl) ?rh27 (by assumption) ?rr27
          case rh27 => (intro w hSw; (try dsimp only at hSw); go_simp; try with_reducible rfl)
          simp only [Act.put, List.setIfInBounds_toArray, List.set_cons_zero, List.set_cons_succ]
          refine rgn_take (i := 2) (v := ?rv28) rfl (by kernel_rfl) (by kernel_rfl) (by kernel_rfl) (fun _ _ _ h => h) (by rfl) ?rh28 (by assumption) ?rr28
          case rh28 => (intro w hSw; (try dsimp only at hSw); go_simp; try with_reducible rfl)
          simp only [Act.put, List.setIfInBounds_toArray, List.set_cons_zero, List.set_cons_succ]
          refine rgn_take (i := 3) (v := ?rv29) rfl (by kernel_rfl) (by kernel_rfl) (by kernel_rfl) (fun _ _ _ h => h) (by rfl) ?rh29 (by assumption) ?rr29
          case rh29 => (intro w hSw; (try dsimp only at hSw); go_simp; try with_reducible rfl)
          simp only [Act.put, List.setIfInBounds_toArray, List.set_cons_zero, List.set_cons_succ]
          refine rgn_take (i := 4) (v := ?rv30) rfl (by kernel_rfl) (by kernel_rfl) (by kernel_rfl) (fun _ _ _ h => h) (by rfl) ?rh30 (by assumption) ?rr30
          case rh30 => (intro w hSw; (try dsimp only at hSw); go_simp; try with_reducible rfl)
          simp only [Act.put, List.setIfInBounds_toArray, List.set_cons_zero, List.set_cons_succ]
          refine rgn_take (i := 5) (v := ?rv31) rfl (by kernel_rfl) (by kernel_rfl) (by kernel_rfl) (fun _ _ _ h => h) (by rfl) ?rh31 (by assumption) ?rr31
          case rh31 => (intro w hSw; (try dsimp only at hSw); go_simp; try with_reducible rfl)
          simp only [Act.put, List.setIfInBounds_toArray, List.set_cons_zero, List.set_cons_succ]
          refine rgn_take (i := 6) (v := ?rv32) rfl (by kernel_rfl) (by kernel_rfl) (by kernel_rfl) (fun _ _ _ h => h) (by rfl) ?rh32 (by assumption) ?rr32
          case rh32 => (intro w hSw; (try dsimp only at hSw); go_simp; try with_reducible rfl)
          simp only [Act.put, List.setIfInBounds_toArray, List.set_cons_zero, List.set_cons_succ]
          refine rgn_take (i := 7) (v := ?rv33) rfl (by kernel_rfl) (by kernel_rfl) (by kernel_rfl) (fun _ _ _ h => h) (by rfl) ?rh33 (by assumption) ?rr33
          case rh33 => (intro w hSw; (try dsimp only at hSw); go_simp; try with_reducible rfl)
          simp only [Act.put, List.setIfInBounds_toArray, List.set_cons_zero, List.set_cons_succ]
          refine rgn_take (i := 8) (v := ?rv34) rfl (by kernel_rfl) (by kernel_rfl) (by kernel_rfl) (fun _ _ _ h => h) (by rfl) ?rh34 (by assumption) ?rr34
          case rh34 => (intro w hSw; (try dsimp only at hSw); go_simp; try with_reducible rfl)
          simp only [Act.put, List.setIfInBounds_toArray, List.set_cons_zero, List.set_cons_succ]
          refine rgn_take (i := 9) (v := ?rv35) rfl (by kernel_rfl) (by kernel_rfl) (by kernel_rfl) (fun _ _ _ h => h) (by rfl) ?rh35 (by assumption) ?rr35
          case rh35 => (intro w hSw; (try dsimp only at hSw); go_simp; try with_reducible rfl)
          simp only [Act.put, List.setIfInBounds_toArray, List.set_cons_zero, List.set_cons_succ]
          refine rgn_take (i := 10) (v := ?rv36) rfl (by kernel_rfl) (by kernel_rfl) (by kernel_rfl) (fun _ _ _ h => h) (by rfl) ?rh36 (by assumption) ?rr36
          case rh36 => (intro w hSw; (try dsimp only at hSw); go_simp; try with_reducible rfl)
          simp only [Act.put, List.setIfInBounds_toArray, List.set_cons_zero, List.set_cons_succ]
          refine rgn_take (i := 11) (v := ?rv37) rfl (by kernel_rfl) (by kernel_rfl) (by kernel_rfl) (fun _ _ _ h => h) (by rfl) ?rh37 (by assumption) ?rr37
          case rh37 => (intro w hSw; (try dsimp only at hSw); go_simp; try with_reducible rfl)
          simp only [Act.put, List.setIfInBounds_toArray, List.set_cons_zero, List.set_cons_succ]
          refine rgn_take (i := 12) (v := ?rv38) rfl (by kernel_rfl) (by kernel_rfl) (by kernel_rfl) (fun _ _ _ h => h) (by rfl) ?rh38 (by assumption) ?rr38
          case rh38 => (intro w hSw; (try dsimp only at hSw); go_simp; try with_reducible rfl)
          simp only [Act.put, List.setIfInBounds_toArray, List.set_cons_zero, List.set_cons_succ]
          refine rgn_call (i := 13) rfl (by kernel_rfl) (fun K hK => ?_)
          go_simp
          go_at_call 18; refine (eqE_any g es[p] _ (HGr.out.new (Chg.refl No _).drew) (HEp.out.new (Chg.refl No _).drew)).mono ?_; rintro x w9 ⟨rfl, k9⟩; rw [HE0.out]; have HK9 := Lib.hid ((HD2.out.drew).tr k9); have hk9 := Lib.hid ((Chg.refl No wr).drew.tr k9); clear k9
          refine hK.out _ _ ⟨⟨hk9.out.cell c0 id, hk9.out.cell c1 id, hk9.out.cell c2 id, hk9.out.cell c3 id⟩, hk9.out.cell a0 id, hk9.out.cell a1 id, hk9.out.cell a2 id, hk9.out.cell a3 id⟩ (fun hS0 => ?_)
          clear hK K
          try simp only [Act.put, List.setIfInBounds_toArray, List.set_cons_zero, List.set_cons_succ]
          refine rgn_take (i := 14) (v := ?rv40) rfl (by kernel_rfl) (by kernel_rfl) (by kernel_rfl) (fun _ _ _ h => h) (by rfl) ?rh40 (by assumption) ?rr40
          case rh40 => (intro w hSw; (try dsimp only at hSw); go_simp; try with_reducible rfl)
          simp only [Act.put, List.setIfInBounds_toArray, List.set_cons_zero, List.set_cons_succ]
          refine rgn_take (i := 15) (v := ?rv41) rfl (by kernel_rfl) (by kernel_rfl) (by kernel_rfl) (fun _ _ _ h => h) (by rfl) ?rh41 (by assumption) ?rr41
          case rh41 => (intro w hSw; (try dsimp only at hSw); go_simp; try with_reducible rfl)
          simp only [Act.put, List.setIfInBounds_toArray, List.set_cons_zero, List.set_cons_succ]
          refine rgn_take (i := 16) (v := ?rv42) rfl (by kernel_rfl) (by kernel_rfl) (by kernel_rfl) (fun _ _ _ h => h) (by rfl) ?rh42 (by assumption) ?rr42
          case rh42 => (intro w hSw; (try dsimp only at hSw); go_simp; try with_reducible rfl)
          simp only [Act.put, List.setIfInBounds_toArray, List.set_cons_zero, List.set_cons_succ]
          refine rgn_take (i := 17) (v := ?rv43) rfl (by kernel_rfl) (by kernel_rfl) (by kernel_rfl) (fun _ _ _ h => h) (by rfl) ?rh43 (by assumption) ?rr43
          case rh43 => (intro w hSw; (try dsimp only at hSw); go_simp; try with_reducible rfl)
          simp only [Act.put, List.setIfInBounds_toArray, List.set_cons_zero, List.set_cons_succ]
          refine rgn_take (i := 18) (v := ?rv44) rfl (by kernel_rfl) (by kernel_rfl) (by kernel_rfl) (fun _ _ _ h => h) (by rfl) ?rh44 (by assumption) ?rr44
          case rh44 => (intro w hSw; (try dsimp only at hSw); go_simp; try with_reducible rfl)
          simp only [Act.put, List.setIfInBounds_toArray, List.set_cons_zero, List.set_cons_succ]
          refine rgn_skip (i := 19) rfl (by kernel_rfl) (by kernel_rfl) (by kernel_rfl) (fun _ _ _ h => h) (by rfl) (by assumption) ?_
          simp only [Act.put, List.setIfInBounds_toArray, List.set_cons_zero, List.set_cons_succ]
          refine rgn_skip (i := 20) rfl (by kernel_rfl) (by kernel_rfl) (by kernel_rfl) (fun _ _ _ h => h) (by rfl) (by assumption) ?_
          simp only [Act.put, List.setIfInBounds_toArray, List.set_cons_zero, List.set_cons_succ]
          refine rgn_skip (i := 21) rfl (by kernel_rfl) (by kernel_rfl) (by kernel_rfl) (fun _ _ _ h => h) (by rfl) (by assumption) ?_
          simp only [Act.put, List.setIfInBounds_toArray, List.set_cons_zero, List.set_cons_succ]
          refine rgn_take (i := 22) (v := ?rv48) rfl (by kernel_rfl) (by kernel_rfl) (by kernel_rfl) (fun _ _ _ h => h) (by rfl) ?rh48 (by assumption) ?rr48
          case rh48 => (intro w hSw; (try dsimp only at hSw); go_simp; try with_reducible rfl)
          simp only [Act.put, List.setIfInBounds_toArray, List.set_cons_zero, List.set_cons_succ]
          refine rgn_take (i := 23) (v := ?rv49) rfl (by kernel_rfl) (by kernel_rfl) (by kernel_rfl) (fun _ _ _ h => h) (by rfl) ?rh49 (by assumption) ?rr49
          case rh49 => (intro w hSw; (try dsimp only at hSw); go_simp; try with_reducible rfl)
          simp only [Act.put, List.setIfInBounds_toArray, List.set_cons_zero, List.set_cons_succ]
          refine rgn_take (i := 24) (v := ?rv50) rfl (by kernel_rfl) (by kernel_rfl) (by kernel_rfl) (fun _ _ _ h => h) (by rfl) ?rh50 (by assumption) ?rr50
          case rh50 => (intro w hSw; (try dsimp only at hSw); go_simp; try with_reducible rfl)
          simp only [Act.put, List.setIfInBounds_toArray, List.set_cons_zero, List.set_cons_succ]
          refine wpAnyH_done (by kernel_rfl) ?_ _
          go_wp2_with fail
          go_ret
          exact ⟨rfl, HS6.out.chg.tr HK9.out⟩
end Go.Proofs.Ytlcifkkgekpicaa
