/- The cut of an entry, the same entry, the table's Get. -/
import Derived.Test.YtlcifkkgekpicaaMemWakes
namespace Go.Proofs.Ytlcifkkgekpicaa
open Go.RowKit
set_option linter.unusedVariables false

theorem str_beq (l m : List UInt8) : ((ByteArray.mk l.toArray).toList == (ByteArray.mk m.toArray).toList) = decide (l = m) := by
  by_cases h : l = m
  · subst h; simp
  · simp [h]
theorem str_two (l m : List UInt8) : ∃ (SA SB : ByteArray) (B : Bool), SA = ByteArray.mk l.toArray ∧ SB = ByteArray.mk m.toArray ∧ (SA.toList == SB.toList) = B ∧ B = decide (l = m) := ⟨_, _, _, rfl, rfl, rfl, str_beq l m⟩
theorem str_any {w : World} {A : Option Addr} {l : List UInt8} (h : Rd w A l) (c : Nat) : (convert 22 9 (.slice A l.length c)).run Try.prog w = .ok (.string ⟨l.toArray⟩) w :=
  h.str (P := Try.prog) 22 9 5 Try.underlying22 Try.underlying5 Try.underlying9 c
theorem beq_any (a b : Slc) (w : World) (ha : Rd w a.1 a.2.2) (hb : Rd w b.1 b.2.2) :
    Calls Try.prog 39 #[.slice a.1 a.2.2.length a.2.1, .slice b.1 b.2.2.length b.2.1] w fun e w' => e = .returned (.bool (decide (a.2.2 = b.2.2))) ∧ w' = w := by
  obtain ⟨SA, SB, B, e1, e2, e3, e4⟩ := str_two a.2.2 b.2.2
  have s1 := str_any ha a.2.1
  have s2 := str_any hb b.2.1
  rw [← e1] at s1
  rw [← e2] at s2
  rw [← e4]
  clear ha hb e1 e2 e4
  go_enter Try.func39, Try.ntmps39
  go_wp2
  go_ret
  exact ⟨rfl, rfl⟩
theorem cutB_any (a : Slc) (w : World) (hc : a.2.2.length ≤ a.2.1) :
    Calls Try.prog 38 #[.slice a.1 a.2.2.length a.2.1, .int .i64 200] w fun e w' => e = .returned (.slice a.1 (a.2.2.take 200).length a.2.1) ∧ w' = w := by
  by_cases h : 200 < a.2.2.length
  · have HL : Hid ((a.2.2.take 200).length = 200) := by unfold Hid; rw [List.length_take]; omega
    rw [HL.out]
    have h2 : (200 : Int) ≤ a.2.1 := by omega
    have h3 : (200 : Int) < a.2.2.length := by omega
    have h4 : 200 ≤ a.2.1 := by omega
    go_enter Try.func38, Try.ntmps38
    go_wp2
    go_ret
    exact ⟨rfl, rfl⟩
  · have HL : Hid ((a.2.2.take 200).length = a.2.2.length) := by unfold Hid; rw [List.length_take]; omega
    rw [HL.out]
    have h3 : ¬ (200 : Int) < a.2.2.length := by omega
    go_enter Try.func38, Try.ntmps38
    go_wp2
    go_ret
    exact ⟨rfl, rfl⟩
theorem cutB_any' (a : Slc) (l : List UInt8) (hl : l = a.2.2.take 200) (w : World) (hc : a.2.2.length ≤ a.2.1) :
    Calls Try.prog 38 #[.slice a.1 a.2.2.length a.2.1, .int .i64 200] w fun e w' => e = .returned (.slice a.1 l.length a.2.1) ∧ w' = w := by subst hl; exact cutB_any a w hc
/-- An entry with short bytes. -/
def cutN (e : En) : En := ⟨(e.key.1, e.key.2.1, e.key.2.2.take 200), (e.value.1, e.value.2.1, e.value.2.2.take 200), e.seq, e.dead⟩
theorem cutN_r {w : World} {e : En} (h : EnR w e) : EnR w (cutN e) := ⟨h.1.take 200, h.2.take 200⟩
theorem cutN_len (e : En) : (cutN e).key.2.2.length ≤ 200 ∧ (cutN e).value.2.2.length ≤ 200 := ⟨by show (e.key.2.2.take 200).length ≤ 200; rw [List.length_take]; omega, by show (e.value.2.2.take 200).length ≤ 200; rw [List.length_take]; omega⟩
set_option maxHeartbeats 1000000 in
theorem ecut_any (e : En) (w : World) (hk : e.key.2.2.length ≤ e.key.2.1) (hv : e.value.2.2.length ≤ e.value.2.1) :
    Calls Try.prog 15 #[enA e] w fun x w' => x = .returned (enA (cutN e)) ∧ Chg No w w' := by
  obtain ⟨kl, hkl⟩ : ∃ kl, kl = e.key.2.2.take 200 := ⟨_, rfl⟩
  obtain ⟨vl, hvl⟩ : ∃ vl, vl = e.value.2.2.take 200 := ⟨_, rfl⟩
  have HQ : Hid (enA (cutN e) = .agg #[.slice e.key.1 kl.length e.key.2.1, .slice e.value.1 vl.length e.value.2.1, .int .i64 e.seq, .bool e.dead]) := by rw [hkl, hvl]; rfl
  have HKl := Lib.hid hkl
  have HVl := Lib.hid hvl
  clear hkl hvl
  have HKc := Lib.hid hk
  have HVc := Lib.hid hv
  have h := Sat.start w
  have h1 := h.allocAt (b := w.heap.size) 24 (enC e) rfl
  have h2 := h1.allocAt (b := w.heap.size + 1) 24 #[.slice none 0 0, .slice none 0 0, .int .i64 0, .bool false] (by simp)
  clear hk hv h h1
  unfold enA
  unfold enC at h2
  go_enter Try.func15, Try.ntmps15
  go_wp2_with fail
  revert h2
  generalize (w.alloc _).alloc _ = W
  intro h2
  generalize w.heap.size + 1 = B at *
  generalize w.heap.size = E at *
  have c0 := h2.up2.cell 0; have c1 := h2.up2.cell 1; have c2 := h2.up2.cell 2; have c3 := h2.up2.cell 3
  have f0 := h2.up2.frozen 0; have f1 := h2.up2.frozen 1
  have HS0 := Lib.hid h2
  clear h2
  go_region_law (first
    | (go_simp; go_at_call 38; (with_reducible refine (cutB_any' e.key kl HKl.out _ HKc.out).mono ?_); rintro x w1 ⟨rfl, rfl⟩)
    | (go_simp; go_at_call 38; (with_reducible refine (cutB_any' e.value vl HVl.out _ HVc.out).mono ?_); rintro x w1 ⟨rfl, rfl⟩))
  all_goals
    have h5 := ((HS0.out.up2.set 0 (.slice e.key.1 kl.length e.key.2.1)).set 1 (.slice e.value.1 vl.length e.value.2.1)).drew
    clear f0 f1 c0 c1 c2 c3
    revert h5
    generalize World.drew (World.setCell (World.setCell W _ _) _ _) = w3
    intro h5
    have c0 := h5.cell 0; have c1 := h5.cell 1; have c2 := h5.cell 2; have c3 := h5.cell 3
    have d0 := h5.up2.cell 0; have d1 := h5.up2.cell 1; have d2 := h5.up2.cell 2; have d3 := h5.up2.cell 3
    have f0 := h5.up2.frozen 0; have f1 := h5.up2.frozen 1; have f2 := h5.up2.frozen 2; have f3 := h5.up2.frozen 3
    have h6 := (((h5.up2.set 0 (.slice e.key.1 kl.length e.key.2.1)).set 1 (.slice e.value.1 vl.length e.value.2.1)).set 2 (.int .i64 e.seq)).set 3 (.bool e.dead)
    go_wp2_with fail
    revert h6
    generalize World.setCell _ _ _ = w4
    intro h6
    refine bodyPost_ret (results_cell_row (p := 2) (by kernel_rfl) _ _ B 24 _ (0, 0) _ rfl h6.at Try.underlying24 rfl (by kernel_rfl)) rfl ?_
    exact ⟨congrArg Ending.returned HQ.out.symm, h6.chg⟩
def eqE (a b : Ent) : Bool := decide (a.key = b.key) && decide (a.value = b.value) && (a.seq == b.seq) && (a.dead == b.dead)
theorem eqE_iff (a b : Ent) : eqE a b = true ↔ a = b := by
  unfold eqE
  cases a; cases b
  simp [and_assoc]
set_option maxHeartbeats 1000000 in
theorem eqE_any (a b : En) (w : World) (ha : EnR w a) (hb : EnR w b) :
    Calls Try.prog 18 #[enA a, enA b] w fun e w' => e = .returned (.bool (eqE a.ent b.ent)) ∧ Chg No w w' := by
  have k0 : Chg No w ((w.alloc (.cells #[.slice a.key.1 a.key.2.2.length a.key.2.1, .slice a.value.1 a.value.2.2.length a.value.2.1, .int .i64 a.seq, .bool a.dead] 24)).alloc (.cells #[.slice b.key.1 b.key.2.2.length b.key.2.1, .slice b.value.1 b.value.2.2.length b.value.2.1, .int .i64 b.seq, .bool b.dead] 24)) := ((Chg.refl No w).alloc _).alloc _
  have HK0 := Lib.hid k0
  obtain ⟨SA, SB, B, e1, e2, e3, e4⟩ := str_two a.key.2.2 b.key.2.2
  obtain ⟨TA, TB, C, g1, g2, g3, g4⟩ := str_two a.value.2.2 b.value.2.2
  have s1 := str_any (ha.1.new k0) a.key.2.1
  have s2 := str_any (hb.1.new k0) b.key.2.1
  have s3 := str_any (ha.2.new k0) a.value.2.1
  have s4 := str_any (hb.2.new k0) b.value.2.1
  rw [← e1] at s1
  rw [← e2] at s2
  rw [← g1] at s3
  rw [← g2] at s4
  have HQ : Hid (eqE a.ent b.ent = (B && C && (a.seq == b.seq) && (a.dead == b.dead))) := by unfold Hid; rw [e4, g4]; rfl
  clear ha hb e1 e2 e4 g1 g2 g4 k0
  unfold enA
  go_enter Try.func18, Try.ntmps18
  cases B <;> cases C
  all_goals
    go_wp2_with fail
  all_goals
    go_ret
    exact ⟨by rw [HQ.out]; first | rfl | simp_all, ((Chg.refl No w).alloc _).alloc _⟩
/-- What Get asks for. -/
def seekE (key : List UInt8) (seq : Int) : Ent := ⟨key, [], seq, false⟩
def getE (key : List UInt8) (seq : Int) (ns : List Nd) : Option Ent := match behind (seekE key seq) ns with
  | m :: _ => if m.e.key.2.2 = key then some m.e.ent else none
  | [] => none
def noE : Ent := ⟨[], [], 0, false⟩
/-- What Get gives. -/
def GotE (w : World) (q : Option Ent) (x : Ending) (w' : World) : Prop := ∃ g : En, x = .returned (.tuple #[enA g, .bool q.isSome]) ∧ g.ent = q.getD noE ∧ Sat w (OwnE [g]) w'
theorem results_cell_tmp {P : Program} {fn : Func} {p q : Tmp} {ty : TypeId} (h : fn.results = #[.cell p ty, .tmp q]) (tmps : Array Value) (w : World) (g : Nat) (t : TypeId) (cs : Array Value) (fr : Nat × Nat) (d : TypeDesc) (v : Value)
    (hp : tmps.getD p undef = .pointer (some ⟨g, 0, none⟩)) (hq : tmps.getD q undef = v) (hg : w.heap[g]? = some (.cells cs t fr))
    (hu : P.underlying ty = some d) (hd : (match d with | .struct _ | .array _ _ => true | _ => false) = true) (hi : (P.info? ty).map (·.size) = some cs.size) :
    (results fn tmps).run P w = .ok (.tuple #[.agg cs, v]) w := by
  have hp' : tmps[p]?.getD undef = .pointer (some ⟨g, 0, none⟩) := by simpa using hp
  have hq' : tmps[q]?.getD undef = v := by simpa using hq
  simp [results, h, hp', hq', asAddr, run_loadVar_row w g t ty cs fr d hg hu hd hi]
set_option maxHeartbeats 2000000 in
theorem get_any (K : Slc) (seq : Int) (b hr : Nat) (ns : List Nd) (w : World) (hk : Rd w K.1 K.2.2) (hv : View w b hr ns) (hok : NOk ns) (hsm : Small ns) :
    Calls Try.prog 16 #[.pointer (some ⟨b, 0, none⟩), .slice K.1 K.2.2.length K.2.1, .int .i64 seq] w (GotE w (getE K.2.2 seq ns)) := by
  have HV := Lib.hid hv
  have HO := Lib.hid hok
  have HK := Lib.hid hk
  have HS := Lib.hid hsm
  have h1 := (Sat.start w).allocAt (b := w.heap.size) 24 #[.slice none 0 0, .slice none 0 0, .int .i64 0, .bool false] rfl
  have c1 : Chg No w (w.alloc (.cells #[.slice none 0 0, .slice none 0 0, .int .i64 0, .bool false] 24)) := (Chg.refl No w).alloc _
  have HC1 := Lib.hid c1
  have HS1 := Lib.hid h1
  clear hv hok hk hsm h1 c1
  have HQ : Hid (Value.agg (outC b (ahead (seekE K.2.2 seq) ns) 0) = .agg #[.pointer (some ⟨lastAt b (ahead (seekE K.2.2 seq) ns) 0, 0, none⟩), .pointer (some ⟨lastAt b (ahead (seekE K.2.2 seq) ns) 1, 0, none⟩), .pointer (some ⟨lastAt b (ahead (seekE K.2.2 seq) ns) 2, 0, none⟩), .pointer (some ⟨lastAt b (ahead (seekE K.2.2 seq) ns) 3, 0, none⟩), .pointer (some ⟨lastAt b (ahead (seekE K.2.2 seq) ns) 4, 0, none⟩), .pointer (some ⟨lastAt b (ahead (seekE K.2.2 seq) ns) 5, 0, none⟩), .pointer (some ⟨lastAt b (ahead (seekE K.2.2 seq) ns) 6, 0, none⟩), .pointer (some ⟨lastAt b (ahead (seekE K.2.2 seq) ns) 7, 0, none⟩)]) := rfl
  have hix := run_index0
  go_enter Try.func16, Try.ntmps16
  go_upto_region 2 with (go_at_call 36; refine (before_any b hr ns ⟨K, (none, 0, []), seq, false⟩ _ (HV.out.new HC1.out) HO.out ⟨HK.out.new HC1.out, Rd.nil _ _⟩).mono ?_; rintro x w2 ⟨rfl, k2⟩; rw [show (⟨K, (none, 0, []), seq, false⟩ : En).ent = seekE K.2.2 seq from rfl, HQ.out]; have HK2 := Lib.hid (HC1.out.tr k2); have HS2 := Lib.hid (HS1.out.new k2); obtain ⟨R, h', hlt, q0, q1⟩ := (HV.out.new HK2.out).last HO.out (ahead_behind (seekE K.2.2 seq) ns) (i := 0) (by omega); clear k2)
  have HV2 := Lib.hid (HV.out.new HK2.out)
  have HG : Hid (getE K.2.2 seq ns = match behind (seekE K.2.2 seq) ns with
    | m :: _ => if m.e.key.2.2 = K.2.2 then some m.e.ent else none
    | [] => none) := rfl
  generalize w.heap.size = O at *
  rcases nxt_cases (behind (seekE K.2.2 seq) ns) 0 with ⟨e1, hlow⟩ | ⟨u, m, t, e2, e1, hm, hu⟩
  · have hnil : behind (seekE K.2.2 seq) ns = [] := by
      cases hb : behind (seekE K.2.2 seq) ns with
      | nil => rfl
      | cons m s =>
        have h1 := hlow m (by rw [hb]; simp)
        have h2 := HO.out.full m (by rw [ahead_behind (seekE K.2.2 seq) ns, hb]; simp)
        omega
    have HT : Hid (getE K.2.2 seq ns = none) := by unfold Hid; rw [HG.out, hnil]
    have e3 : ptrN (nxt noT (behind (seekE K.2.2 seq) ns) 0) = .pointer none := by rw [e1]; rfl
    rw [e3]
    have c0 := HS2.out.cell 0; have c1 := HS2.out.cell 1; have c2 := HS2.out.cell 2; have c3 := HS2.out.cell 3; have f0 := HS2.out.frozen 0; have f1 := HS2.out.frozen 1; have f2 := HS2.out.frozen 2; have f3 := HS2.out.frozen 3
    have h6 := (((HS2.out.set 0 (.slice none 0 0)).set 1 (.slice none 0 0)).set 2 (.int .i64 0)).set 3 (.bool false)
    clear e1 e3 hlow hnil q0 q1
    go_wp2_with fail
    revert h6
    generalize World.setCell _ _ _ = w4
    intro h6
    refine bodyPost_ret (results_cell_tmp (p := 6) (q := 7) (by kernel_rfl) _ _ O 24 _ (0, 0) _ _ rfl rfl h6.at Try.underlying24 rfl (by kernel_rfl)) rfl ?_
    rw [HT.out]
    refine ⟨⟨(none, 0, []), (none, 0, []), 0, false⟩, rfl, rfl, ?_⟩
    exact ((h6.right.row_nil 5 1).row_nil 5 1)
  · have hu0 : u = [] := by
      cases hb : u with
      | nil => rfl
      | cons x s =>
        have h1 := hu x (by rw [hb]; simp)
        have h2 := HO.out.full x (by rw [ahead_behind (seekE K.2.2 seq) ns, e2, hb]; simp)
        omega
    subst hu0
    rw [List.nil_append] at e2
    have hgm : getE K.2.2 seq ns = if m.e.key.2.2 = K.2.2 then some m.e.ent else none := by rw [HG.out, e2]
    have e3 : ptrN (nxt noT (behind (seekE K.2.2 seq) ns) 0) = .pointer (some ⟨m.a, 0, none⟩) := by rw [e1]; rfl
    rw [e3]
    obtain ⟨n0, n1, n2, n3, n4, n5, n6⟩ := HV2.out.node (ahead (seekE K.2.2 seq) ns) m t (by rw [← e2]; exact ahead_behind _ _)
    have hml := HS.out.each m (by rw [ahead_behind (seekE K.2.2 seq) ns, e2]; simp)
    have hk2 : m.e.key.2.2.length ≤ 140737488355328 := by omega
    have hv2 : m.e.value.2.2.length ≤ 140737488355328 := by omega
    unfold slv' at n1 n2
    have HN := Lib.hid n6
    clear e1 e3 hm hu n5 n6 n0 e2 q0 q1 hml
    by_cases hkk : m.e.key.2.2 = K.2.2
    · rw [if_pos hkk] at hgm
      have HT := Lib.hid hgm
      have HB : Hid (decide (m.e.key.2.2 = K.2.2) = true) := by simpa [Hid] using hkk
      clear hgm hkk
      go_wp2_with (first
        | (go_at_call 39; refine (beq_any m.e.key K _ HN.out.1 (HK.out.new HK2.out)).mono ?_; rintro x wx ⟨rfl, rfl⟩; rw [HB.out])
        | (go_at_call 37; refine (copied_any m.e w _ _ HS2.out HN.out hk2 hv2).mono ?_; rintro x w6 ⟨⟨A2, c2, B2, d2, rfl, hs6⟩, k6⟩; have z0 := hs6.up3.cell 0; have z1 := hs6.up3.cell 1; have z2 := hs6.up3.cell 2; have z3 := hs6.up3.cell 3; have f0 := hs6.up3.frozen 0; have f1 := hs6.up3.frozen 1; have f2 := hs6.up3.frozen 2; have f3 := hs6.up3.frozen 3; have h9 := (((hs6.up3.set 0 (.slice A2 m.e.key.2.2.length c2)).set 1 (.slice B2 m.e.value.2.2.length d2)).set 2 (.int .i64 m.e.seq)).set 3 (.bool m.e.dead); have HS9 := Lib.hid h9; clear hs6 k6 h9; simp only [enA]))
      have h9 := HS9.out
      revert h9
      generalize World.setCell _ _ _ = w4
      intro h9
      refine bodyPost_ret (results_cell_tmp (p := 6) (q := 7) (by kernel_rfl) _ _ O 24 _ (0, 0) _ _ rfl rfl h9.at Try.underlying24 rfl (by kernel_rfl)) rfl ?_
      rw [HT.out]
      exact ⟨⟨(A2, c2, m.e.key.2.2), (B2, d2, m.e.value.2.2), m.e.seq, m.e.dead⟩, rfl, rfl, h9.right⟩
    · rw [if_neg hkk] at hgm
      have HT := Lib.hid hgm
      have HB : Hid (decide (m.e.key.2.2 = K.2.2) = false) := by simpa [Hid] using hkk
      clear hgm hkk
      have c0 := HS2.out.cell 0; have c1 := HS2.out.cell 1; have c2 := HS2.out.cell 2; have c3 := HS2.out.cell 3; have f0 := HS2.out.frozen 0; have f1 := HS2.out.frozen 1; have f2 := HS2.out.frozen 2; have f3 := HS2.out.frozen 3
      have h6 := (((HS2.out.set 0 (.slice none 0 0)).set 1 (.slice none 0 0)).set 2 (.int .i64 0)).set 3 (.bool false)
      have HS6 := Lib.hid h6
      clear h6
      go_wp2_with (first
        | (go_at_call 39; refine (beq_any m.e.key K _ HN.out.1 (HK.out.new HK2.out)).mono ?_; rintro x wx ⟨rfl, rfl⟩; rw [HB.out]))
      have h6 := HS6.out
      revert h6
      generalize World.setCell _ _ _ = w4
      intro h6
      refine bodyPost_ret (results_cell_tmp (p := 6) (q := 7) (by kernel_rfl) _ _ O 24 _ (0, 0) _ _ rfl rfl h6.at Try.underlying24 rfl (by kernel_rfl)) rfl ?_
      rw [HT.out]
      refine ⟨⟨(none, 0, []), (none, 0, []), 0, false⟩, rfl, rfl, ?_⟩
      exact ((h6.right.row_nil 5 1).row_nil 5 1)
end Go.Proofs.Ytlcifkkgekpicaa
