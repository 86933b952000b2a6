/- Joined, as they were built one by one: TabRange TabWakes. -/
import Derived.Test.YtaoenbjfkahdjaaQ18
import Derived.Test.YtaoenbjfkahdjaaQ19
import Derived.Test.YtaoenbjfkahdjaaQ21
namespace Go.Proofs.Ytaoenbjfkahdjaa
open Go.RowKit
set_option linter.unusedVariables false
set_option maxRecDepth 100000

theorem info_entryT : (Try.prog.info? 34).map (fun i => (i.zero, i.size, i.bytes)) = some (some (.agg #[.slice none 0 0, .slice none 0 0, .int .i64 0, .bool false]), 4, 64) := by kernel_rfl
/-- What holds in the rounds. -/
structure Rst (w : World) (tl : List UInt8) (l : List Ent) (qs : List En) (i : Nat) (fs : List En) (A : Option Addr) (c : Nat) (wr : World) : Prop where
  told : l = fs.map En.ent ++ ((qs.drop i).map En.ent).takeWhile (inB tl)
  len : fs.length = i
  sat : Sat w (Row 34 4 (.slice A fs.length c) fs.length (fs.flatMap enV) * OwnE fs) wr
set_option maxHeartbeats 4000000 in
theorem trange_any (F T : Slc) (Tb : Nat) (es : List En) (w : World) (hf : Rd w F.1 F.2.2) (ht : Rd w T.1 T.2.2) (h : TabR w Tb es) :
    Calls Try.prog 16 #[.pointer (some ⟨Tb, 0, none⟩), .slice F.1 F.2.2.length F.2.1, .slice T.1 T.2.2.length T.2.1] w (ToldE w (rngT F.2.2 T.2.2 (es.map En.ent))) := by
  obtain ⟨fp, fc, fl⟩ := F
  obtain ⟨tp, tc, tl⟩ := T
  have HTb := Lib.hid h
  have HF : Hid (Rd w fp fl) := hf
  have HT : Hid (Rd w tp tl) := ht
  obtain ⟨A, c, g, hh, n, a1, _, a3, a4, a5, _⟩ := h.box
  have HA1 := Lib.hid a1
  obtain ⟨L, hL⟩ : ∃ L, L = es.map En.ent := ⟨_, rfl⟩
  have HL := Lib.hid hL
  obtain ⟨k, hkk⟩ : ∃ k, k = atN (fromE fl) L := ⟨_, rfl⟩
  have hkl : k ≤ es.length := by rw [hkk]; refine Nat.le_trans (at_le _ _) ?_; rw [hL]; simp
  have HKK := Lib.hid hkk
  have HSm := Lib.hid h.small
  have HFew := h.few
  have HRd := Lib.hid h.rd
  have HB0 : Hid (RdV w (if c = k then A else Option.map (fun x => x.add (k * 4)) A) ((es.drop k).flatMap enV)) := by
    by_cases hck : c = k
    · rw [List.drop_of_length_le (by omega)]
      exact RdV.nil _ _
    · have h1 := RdV.drop a3 (k := k * 4) (cap := c * 4) (by rw [ents_len]; omega) (by rw [ents_len]; omega)
      rw [← ents_dp, if_neg (by omega)] at h1
      rw [if_neg hck]
      exact h1
  rw [← hL]
  show Calls _ _ #[_, .slice fp fl.length fc, .slice tp tl.length tc] w (ToldE w (rngT fl tl L))
  obtain ⟨i0, hi0, hz0, hz1, hz2⟩ := info_parts info_entryT
  clear hf ht h a1 a3 hL hkk
  go_enter Try.func16, Try.ntmps16
  go_upto_region 2 with fail
  refine wp_region_held_drew (S := fun w' => w'.cell? ⟨Tb, 0, none⟩ = some (.slice A es.length c)) (by kernel_rfl) HA1.out ?_
  intro hS0
  refine rgn_take (i := 0) (v := ?rv1) rfl (by kernel_rfl) (by kernel_rfl) (by kernel_rfl) (fun _ _ _ h => h) (by rfl) ?rh1 (by assumption) ?rr1
  case rh1 => (intro w hSw; (try dsimp only at hSw); go_simp; try with_reducible rfl)
  simp only [Act.put, List.setIfInBounds_toArray, List.set_cons_zero, List.set_cons_succ]
  refine rgn_take (i := 1) (v := ?rv2) rfl (by kernel_rfl) (by kernel_rfl) (by kernel_rfl) (fun _ _ _ h => h) (by rfl) ?rh2 (by assumption) ?rr2
  case rh2 => (intro w hSw; (try dsimp only at hSw); go_simp; try with_reducible rfl)
  simp only [Act.put, List.setIfInBounds_toArray, List.set_cons_zero, List.set_cons_succ]
  refine rgn_take (i := 2) (v := ?rv3) rfl (by kernel_rfl) (by kernel_rfl) (by kernel_rfl) (fun _ _ _ h => h) (by rfl) ?rh3 (by assumption) ?rr3
  case rh3 => (intro w hSw; (try dsimp only at hSw); go_simp; try with_reducible rfl)
  simp only [Act.put, List.setIfInBounds_toArray, List.set_cons_zero, List.set_cons_succ]
  refine rgn_take (i := 3) (v := ?rv4) rfl (by kernel_rfl) (by kernel_rfl) (by kernel_rfl) (fun _ _ _ h => h) (by rfl) ?rh4 (by assumption) ?rr4
  case rh4 => (intro w hSw; (try dsimp only at hSw); go_simp; try with_reducible rfl)
  simp only [Act.put, List.setIfInBounds_toArray, List.set_cons_zero, List.set_cons_succ]
  refine rgn_take (i := 4) (v := ?rv5) rfl (by kernel_rfl) (by kernel_rfl) (by kernel_rfl) (fun _ _ _ h => h) (by rfl) ?rh5 (by assumption) ?rr5
  case rh5 => (intro w hSw; (try dsimp only at hSw); go_simp; try with_reducible rfl)
  simp only [Act.put, List.setIfInBounds_toArray, List.set_cons_zero, List.set_cons_succ]
  refine rgn_take (i := 5) (v := ?rv6) rfl (by kernel_rfl) (by kernel_rfl) (by kernel_rfl) (fun _ _ _ h => h) (by rfl) ?rh6 (by assumption) ?rr6
  case rh6 => (intro w hSw; (try dsimp only at hSw); go_simp; try with_reducible rfl)
  simp only [Act.put, List.setIfInBounds_toArray, List.set_cons_zero, List.set_cons_succ]
  refine rgn_take (i := 6) (v := ?rv7) rfl (by kernel_rfl) (by kernel_rfl) (by kernel_rfl) (fun _ _ _ h => h) (by rfl) ?rh7 (by assumption) ?rr7
  case rh7 => (intro w hSw; (try dsimp only at hSw); go_simp; try with_reducible rfl)
  simp only [Act.put, List.setIfInBounds_toArray, List.set_cons_zero, List.set_cons_succ]
  refine rgn_take (i := 10) (v := ?rv8) rfl (by kernel_rfl) (by kernel_rfl) (by kernel_rfl) (fun _ _ _ h => h) (by rfl) ?rh8 (by assumption) ?rr8
  case rh8 => (intro w hSw; (try dsimp only at hSw); go_simp; try with_reducible rfl)
  simp only [Act.put, List.setIfInBounds_toArray, List.set_cons_zero, List.set_cons_succ]
  refine rgn_call (i := 7) rfl (by kernel_rfl) (fun K hK => ?_)
  go_simp
  go_at_call 64; refine (from_any Tb es ⟨(fp, fc, fl), (none, 0, []), 9223372036854775807, false⟩ _ (HTb.out.new (Chg.refl No w).drew) ⟨HF.out.new (Chg.refl No w).drew, Rd.nil _ _⟩).mono ?_; rintro x w1 ⟨rfl, k1⟩; rw [show (⟨(fp, fc, fl), (none, 0, []), 9223372036854775807, false⟩ : En).ent = fromE fl from rfl, ← HL.out, ← HKK.out]; have HK := Lib.hid ((Chg.refl No w).drew.tr k1); clear k1
  refine hK.out _ _ (HK.out.cell HA1.out id) (fun hS0 => ?_)
  clear hK K
  refine rgn_take (i := 8) (v := ?rv10) rfl (by kernel_rfl) (by kernel_rfl) (by kernel_rfl) (fun _ _ _ h => h) (by rfl) ?rh10 (by assumption) ?rr10
  case rh10 => (intro w hSw; (try dsimp only at hSw); go_simp; try with_reducible rfl)
  simp only [Act.put, List.setIfInBounds_toArray, List.set_cons_zero, List.set_cons_succ]
  refine rgn_take (i := 9) (v := ?rv11) rfl (by kernel_rfl) (by kernel_rfl) (by kernel_rfl) (fun _ _ _ h => h) (by rfl) ?rh11 (by assumption) ?rr11
  case rh11 => (intro w hSw; (try dsimp only at hSw); go_simp; try with_reducible rfl)
  simp only [Act.put, List.setIfInBounds_toArray, List.set_cons_zero, List.set_cons_succ]
  refine wpAnyH_done (by kernel_rfl) ?_ _
  obtain ⟨B, hB⟩ : ∃ B, (if c = k then A else Option.map (fun x => x.add (k * 4)) A) = B := ⟨_, rfl⟩
  rw [hB] at HB0 ⊢
  clear hB
  obtain ⟨m, hm⟩ : ∃ m, es.length - k = m := ⟨_, rfl⟩
  obtain ⟨d, hd⟩ : ∃ d, c - k = d := ⟨_, rfl⟩
  rw [hm, hd]
  have hmd : m ≤ d := by omega
  obtain ⟨qs, hqs⟩ : ∃ qs, es.drop k = qs := ⟨_, rfl⟩
  have HQl : Hid (qs.length = m) := by unfold Hid; rw [← hqs, List.length_drop]; exact hm
  have HQm : Hid (∀ e ∈ qs, e ∈ es) := fun e he => by rw [← hqs] at he; exact List.mem_of_mem_drop he
  have HTd : Hid (rngT fl tl L = (qs.map En.ent).takeWhile (inB tl)) := by unfold Hid rngT; rw [← HKK.out, HL.out, ← List.map_drop, hqs]
  have hm6 : m ≤ 65536 := by omega
  rw [hqs] at HB0
  clear hm hd hqs hkl
  by_cases h0 : tl = []
  case' pos =>
    have HZ := Lib.hid h0
    rw [show tl.length = 0 by rw [h0]; rfl]
    have h1 : True := trivial
    clear h0
  case' neg =>
    have HZ := Lib.hid h0
    have h1 : ¬ tl.length = 0 := by simpa using h0
    clear h0
  all_goals
    clear hS0
    go_wp2_with fail
    go_loopw [7, 20] (fun out iv wr => ∃ (i : Nat) (fs : List En) (A2 : Option Addr) (c2 : Nat), i ≤ m ∧ iv = .int .i64 i ∧ out = .slice A2 fs.length c2 ∧ Hid (Rst w tl (rngT fl tl L) qs i fs A2 c2 wr)) (fun _ iv _ => m - (intOf iv).toNat)
    case atStart => exact ⟨0, [], none, 0, by omega, rfl, rfl, HTd.out, rfl, (((Sat.start w).new HK.out).row_nil _ 4).of (by rfl)⟩
    case round =>
      obtain ⟨i, fs, A2, c2, hi, rfl, rfl, HD⟩ := hrel
      by_cases hlt : i < m
      · have hil : i < qs.length := by rw [HQl.out]; exact hlt
        obtain ⟨lb, lo, rfl, hq⟩ := ents_at HB0.out (by omega)
        obtain ⟨y0, y1, y2, y3⟩ := hq i hil
        unfold slv' at y0 y1
        have z0 := HD.out.sat.chg.cell y0 id; have z1 := HD.out.sat.chg.cell y1 id; have z2 := HD.out.sat.chg.cell y2 id; have z3 := HD.out.sat.chg.cell y3 id
        have HR := Lib.hid (HRd.out _ (HQm.out _ (List.getElem_mem hil)))
        have hsm := HSm.out _ (HQm.out _ (List.getElem_mem hil))
        have hk2 : qs[i].key.2.2.length ≤ 140737488355328 := by omega
        have hv3 : qs[i].value.2.2.length ≤ 140737488355328 := by omega
        have hlen : fs.length ≤ 65536 := by have h1 := HD.out.len; omega
        have HTl : Hid (rngT fl tl L = fs.map En.ent ++ if inB tl qs[i].ent then qs[i].ent :: ((qs.drop (i + 1)).map En.ent).takeWhile (inB tl) else []) := by
          have h2 := HD.out.told
          rw [List.drop_eq_getElem_cons hil, List.map_cons, List.takeWhile_cons] at h2
          exact h2
        have hin : inB tl qs[i].ent = (decide (tl = []) || decide (Lib.compareBytes qs[i].key.2.2 tl < 0)) := rfl
        have HIn := Lib.hid hin
        clear hq y0 y1 y2 y3 hsm hin
        go_wp2_with (first
          | (go_at_call 65; refine (cmpB_any qs[i].key (tp, tc, tl) _ (HR.out.1.new (HD.out.sat.chg.alloc _)) (HT.out.new (HD.out.sat.chg.alloc _))).mono ?_; rintro x wx ⟨rfl, rfl⟩)
          | (go_at_call 66; refine (tcopied_any qs[i] w _ _ (HD.out.sat.alloc' _) ⟨HR.out.1.new (HD.out.sat.chg.alloc _), HR.out.2.new (HD.out.sat.chg.alloc _)⟩ hk2 hv3).mono ?_; rintro x w6 ⟨⟨A3, c3, B3, d3, rfl, hs6⟩, k6⟩; have HS6 := Lib.hid hs6; clear hs6 k6; simp only [enA])
          | (at_builtin; refine wpList_appS rfl (.tmp 34) (.tmp 37) 22 rfl 34 i0 _ 4 64 Try.underlying22 hi0 hz0 hz1 hz2 rfl (by decide) (.slice A2 fs.length c2) fs.length (fs.flatMap enV) rfl w _ (by exact (HS6.out.alloc' _).up3) (some ⟨w6.heap.size, 0, none⟩) 1 1 [.slice A3 qs[i].key.2.2.length c3, .slice B3 qs[i].value.2.2.length d3, .int .i64 qs[i].seq, .bool qs[i].dead] rfl (lit_rdv _ _ _) rfl (by intro u hu; simp at hu; rcases hu with rfl | rfl | rfl | rfl <;> rfl) (by unfold maxLen; omega) (by omega) ?_; intro A4 c4 w7 hs7; have HS7 := Lib.hid hs7; clear hs7))
        all_goals first
          | (go_ret
             have hB : inB tl qs[i].ent = false := by
               have h2 := HZ.out
               rw [HIn.out]
               simp [h2]
               omega
             refine ⟨fs, A2, c2, rfl, ?_, HD.out.sat.alloc' _⟩
             rw [HTl.out, hB]; simp)
          | (go_roundw
             · have hB : inB tl qs[i].ent = true := by
                 rw [HIn.out]
                 have h2 := HZ.out
                 simp [h2]
                 all_goals omega
               refine ⟨i + 1, fs ++ [⟨(A3, c3, qs[i].key.2.2), (B3, d3, qs[i].value.2.2), qs[i].seq, qs[i].dead⟩], A4, c4, by omega, by push_cast; rfl, by rw [List.length_append]; rfl, ?_, ?_, ?_⟩
               · rw [HTl.out, hB, if_pos rfl, List.map_append, List.append_assoc]; rfl
               · rw [List.length_append, HD.out.len]; rfl
               · refine HS7.out.of ?_
                 rw [ownE_snoc, List.flatMap_append, List.length_append]
                 rfl
             · simp [intOf]; omega)
      · have HTl : Hid (rngT fl tl L = fs.map En.ent) := by
          have h2 := HD.out.told
          rw [List.drop_of_length_le (by rw [HQl.out]; omega)] at h2
          unfold Hid
          simpa using h2
        go_wp2_with fail
        go_ret
        exact ⟨fs, A2, c2, rfl, HTl.out.symm, HD.out.sat⟩
/-- The first key, the last one. -/
def firstK (L : List Ent) : List UInt8 := match L[0]? with | some e => e.key | none => []
def lastK (L : List Ent) : List UInt8 := match L[L.length - 1]? with | some e => e.key | none => []
def EdgesT (L : List Ent) (w : World) (x : Ending) (w' : World) : Prop := ∃ a b : Slc, x = .returned (.tuple #[.slice a.1 a.2.2.length a.2.1, .slice b.1 b.2.2.length b.2.1]) ∧ a.2.2 = firstK L ∧ b.2.2 = lastK L ∧ Rd w' a.1 a.2.2 ∧ Rd w' b.1 b.2.2 ∧ Chg No w w'
set_option maxHeartbeats 2000000 in
theorem edges_any (T : Nat) (es : List En) (w : World) (h : TabR w T es) :
    Calls Try.prog 43 #[.pointer (some ⟨T, 0, none⟩)] w (EdgesT (es.map En.ent) w) := by
  obtain ⟨A, c, g, hh, n, a1, _, a3, a4, a5, _⟩ := h.box
  have HF := Lib.hid h.small
  have HR := Lib.hid h.rd
  have hfew := h.few
  have HA := Lib.hid a3
  clear h a3
  by_cases h0 : es = []
  · have HZ : Hid (EdgesT (es.map En.ent) w (.returned (.tuple #[.slice none 0 0, .slice none 0 0])) w) := by
      subst h0
      exact ⟨(none, 0, []), (none, 0, []), rfl, rfl, rfl, Rd.nil _ _, Rd.nil _ _, Chg.refl _ _⟩
    have hl : es.length = 0 := by rw [h0]; rfl
    rw [hl] at a1
    clear h0 a4
    go_enter Try.func43, Try.ntmps43
    go_wp2_with fail
    go_ret2
    exact HZ.out
  · have hn : 0 < es.length := List.length_pos_iff.2 h0
    obtain ⟨lb, lo, rfl, hq⟩ := ents_at HA.out hn
    obtain ⟨m, hm⟩ : ∃ m, m = es.length - 1 := ⟨_, rfl⟩
    have hml : m < es.length := by omega
    have y0 := (hq 0 hn).1
    have z0 := (hq m hml).1
    unfold slv' at y0 z0
    obtain ⟨⟨⟨p, pc, pl⟩, pv, ps, pd⟩, hp⟩ : ∃ e, e = es[0] := ⟨_, rfl⟩
    obtain ⟨⟨⟨q, qc, ql⟩, qv, qs, qd⟩, hqq⟩ : ∃ e, e = es[m] := ⟨_, rfl⟩
    rw [← hp] at y0
    rw [← hqq] at z0
    have hRp : Rd w p pl := by have := (HR.out _ (List.getElem_mem hn)).1; rw [← hp] at this; exact this
    have hRq : Rd w q ql := by have := (HR.out _ (List.getElem_mem hml)).1; rw [← hqq] at this; exact this
    have hpl : pl.length ≤ 140737488355328 := by have := (HF.out _ (List.getElem_mem hn)).1; rw [← hp] at this; have h2 : pl.length ≤ 128 := this; omega
    have hql : ql.length ≤ 140737488355328 := by have := (HF.out _ (List.getElem_mem hml)).1; rw [← hqq] at this; have h2 : ql.length ≤ 128 := this; omega
    have HP := Lib.hid hRp
    have HQ := Lib.hid hRq
    have H1 : Hid (firstK (es.map En.ent) = pl) := by
      unfold Hid firstK
      rw [List.getElem?_map, List.getElem?_eq_getElem hn, ← hp]
      rfl
    have H2 : Hid (lastK (es.map En.ent) = ql) := by
      unfold Hid lastK
      rw [List.length_map, ← hm, List.getElem?_map, List.getElem?_eq_getElem hml, ← hqq]
      rfl
    have hmm : (es.length : Int) - 1 = m := by omega
    have hne : ((es.length : Int) == 0) = false := by simp; omega
    have y0' : w.cell? ⟨lb, lo, none⟩ = some (.slice p pl.length pc) := by simpa using y0
    have z0' : w.cell? ⟨lb, lo + m * 4, none⟩ = some (.slice q ql.length qc) := z0
    have HA1 := Lib.hid a1
    have HY := Lib.hid y0'
    have HZ := Lib.hid z0'
    have hmi : (m : Int) < es.length := by omega
    have hm0 : (0 : Int) ≤ m := by omega
    have hwm : IntKind.i64.wrap (m : Int) = m := by rw [IntKind.wrap_i64]; omega
    have hni : (0 : Int) < es.length := by omega
    clear hRp hRq hq y0 z0 hp hqq hm HF HR HA h0 y0' z0'
    go_enter Try.func43, Try.ntmps43
    go_upto_region 3 with fail
    refine wp_region_held_drew (S := fun w' => w'.cell? ⟨T, 0, none⟩ = some (.slice (some ⟨lb, lo, none⟩) es.length c) ∧ w'.cell? ⟨lb, lo, none⟩ = some (.slice p pl.length pc) ∧ w'.cell? ⟨lb, lo + m * 4, none⟩ = some (.slice q ql.length qc)) (by kernel_rfl) ⟨HA1.out, HY.out, HZ.out⟩ ?_
    intro hS0
    refine rgn_take (i := 0) (v := ?rv12) rfl (by kernel_rfl) (by kernel_rfl) (by kernel_rfl) (fun _ _ _ h => h) (by rfl) ?rh12 (by assumption) ?rr12
    case rh12 => (intro w hSw; (try dsimp only at hSw); go_simp; try with_reducible rfl)
    simp only [Act.put, List.setIfInBounds_toArray, List.set_cons_zero, List.set_cons_succ]
    refine rgn_take (i := 1) (v := ?rv13) rfl (by kernel_rfl) (by kernel_rfl) (by kernel_rfl) (fun _ _ _ h => h) (by rfl) ?rh13 (by assumption) ?rr13
    case rh13 => (intro w hSw; (try dsimp only at hSw); go_simp; try with_reducible rfl)
    simp only [Act.put, List.setIfInBounds_toArray, List.set_cons_zero, List.set_cons_succ]
    refine rgn_take (i := 2) (v := ?rv14) rfl (by kernel_rfl) (by kernel_rfl) (by kernel_rfl) (fun _ _ _ h => h) (by rfl) ?rh14 (by assumption) ?rr14
    case rh14 => (intro w hSw; (try dsimp only at hSw); go_simp; try with_reducible rfl)
    simp only [Act.put, List.setIfInBounds_toArray, List.set_cons_zero, List.set_cons_succ]
    refine rgn_take (i := 3) (v := ?rv15) rfl (by kernel_rfl) (by kernel_rfl) (by kernel_rfl) (fun _ _ _ h => h) (by rfl) ?rh15 (by assumption) ?rr15
    case rh15 => (intro w hSw; (try dsimp only at hSw); go_simp; try with_reducible rfl)
    simp only [Act.put, List.setIfInBounds_toArray, List.set_cons_zero, List.set_cons_succ]
    refine rgn_take (i := 4) (v := ?rv16) rfl (by kernel_rfl) (by kernel_rfl) (by kernel_rfl) (fun _ _ _ h => h) (by rfl) ?rh16 (by assumption) ?rr16
    case rh16 => (intro w hSw; (try dsimp only at hSw); go_simp; try with_reducible rfl)
    simp only [Act.put, List.setIfInBounds_toArray, List.set_cons_zero, List.set_cons_succ]
    refine rgn_take (i := 5) (v := ?rv17) rfl (by kernel_rfl) (by kernel_rfl) (by kernel_rfl) (fun _ _ _ h => h) (by rfl) ?rh17 (by assumption) ?rr17
    case rh17 => (intro w hSw; (try dsimp only at hSw); go_simp; try with_reducible rfl)
    simp only [Act.put, List.setIfInBounds_toArray, List.set_cons_zero, List.set_cons_succ]
    refine rgn_take (i := 6) (v := ?rv18) rfl (by kernel_rfl) (by kernel_rfl) (by kernel_rfl) (fun _ _ _ h => h) (by rfl) ?rh18 (by assumption) ?rr18
    case rh18 => (intro w hSw; (try dsimp only at hSw); go_simp; try with_reducible rfl)
    simp only [Act.put, List.setIfInBounds_toArray, List.set_cons_zero, List.set_cons_succ]
    refine rgn_take (i := 8) (v := ?rv19) rfl (by kernel_rfl) (by kernel_rfl) (by kernel_rfl) (fun _ _ _ h => h) (by rfl) ?rh19 (by assumption) ?rr19
    case rh19 => (intro w hSw; (try dsimp only at hSw); go_simp; try with_reducible rfl)
    simp only [Act.put, List.setIfInBounds_toArray, List.set_cons_zero, List.set_cons_succ]
    refine rgn_take (i := 9) (v := ?rv20) rfl (by kernel_rfl) (by kernel_rfl) (by kernel_rfl) (fun _ _ _ h => h) (by rfl) ?rh20 (by assumption) ?rr20
    case rh20 => (intro w hSw; (try dsimp only at hSw); go_simp; try with_reducible rfl)
    simp only [Act.put, List.setIfInBounds_toArray, List.set_cons_zero, List.set_cons_succ]
    refine rgn_take (i := 10) (v := ?rv21) rfl (by kernel_rfl) (by kernel_rfl) (by kernel_rfl) (fun _ _ _ h => h) (by rfl) ?rh21 (by assumption) ?rr21
    case rh21 => (intro w hSw; (try dsimp only at hSw); go_simp; try with_reducible rfl)
    simp only [Act.put, List.setIfInBounds_toArray, List.set_cons_zero, List.set_cons_succ]
    refine rgn_take (i := 11) (v := ?rv22) rfl (by kernel_rfl) (by kernel_rfl) (by kernel_rfl) (fun _ _ _ h => h) (by rfl) ?rh22 (by assumption) ?rr22
    case rh22 => (intro w hSw; (try dsimp only at hSw); go_simp; try with_reducible rfl)
    simp only [Act.put, List.setIfInBounds_toArray, List.set_cons_zero, List.set_cons_succ]
    refine rgn_take (i := 12) (v := ?rv23) rfl (by kernel_rfl) (by kernel_rfl) (by kernel_rfl) (fun _ _ _ h => h) (by rfl) ?rh23 (by assumption) ?rr23
    case rh23 => (intro w hSw; (try dsimp only at hSw); go_simp; try with_reducible rfl)
    simp only [Act.put, List.setIfInBounds_toArray, List.set_cons_zero, List.set_cons_succ]
    refine rgn_take (i := 13) (v := ?rv24) rfl (by kernel_rfl) (by kernel_rfl) (by kernel_rfl) (fun _ _ _ h => h) (by rfl) ?rh24 (by assumption) ?rr24
    case rh24 => (intro w hSw; (try dsimp only at hSw); go_simp; try with_reducible rfl)
    simp only [Act.put, List.setIfInBounds_toArray, List.set_cons_zero, List.set_cons_succ]
    refine rgn_take (i := 14) (v := ?rv25) rfl (by kernel_rfl) (by kernel_rfl) (by kernel_rfl) (fun _ _ _ h => h) (by rfl) ?rh25 (by assumption) ?rr25
    case rh25 => (intro w hSw; (try dsimp only at hSw); go_simp; try with_reducible rfl)
    simp only [Act.put, List.setIfInBounds_toArray, List.set_cons_zero, List.set_cons_succ]
    refine rgn_take (i := 15) (v := ?rv26) rfl (by kernel_rfl) (by kernel_rfl) (by kernel_rfl) (fun _ _ _ h => h) (by rfl) ?rh26 (by assumption) ?rr26
    case rh26 => (intro w hSw; (try dsimp only at hSw); go_simp; try with_reducible rfl)
    simp only [Act.put, List.setIfInBounds_toArray, List.set_cons_zero, List.set_cons_succ]
    refine rgn_take (i := 16) (v := ?rv27) rfl (by kernel_rfl) (by kernel_rfl) (by kernel_rfl) (fun _ _ _ h => h) (by rfl) ?rh27 (by assumption) ?rr27
    case rh27 => (intro w hSw; (try dsimp only at hSw); go_simp; try with_reducible rfl)
    simp only [Act.put, List.setIfInBounds_toArray, List.set_cons_zero, List.set_cons_succ]
    refine rgn_take (i := 17) (v := ?rv28) rfl (by kernel_rfl) (by kernel_rfl) (by kernel_rfl) (fun _ _ _ h => h) (by rfl) ?rh28 (by assumption) ?rr28
    case rh28 => (intro w hSw; (try dsimp only at hSw); go_simp; try with_reducible rfl)
    simp only [Act.put, List.setIfInBounds_toArray, List.set_cons_zero, List.set_cons_succ]
    refine rgn_take (i := 18) (v := ?rv29) rfl (by kernel_rfl) (by kernel_rfl) (by kernel_rfl) (fun _ _ _ h => h) (by rfl) ?rh29 (by assumption) ?rr29
    case rh29 => (intro w hSw; (try dsimp only at hSw); go_simp; try with_reducible rfl)
    simp only [Act.put, List.setIfInBounds_toArray, List.set_cons_zero, List.set_cons_succ]
    refine rgn_take (i := 19) (v := ?rv30) rfl (by kernel_rfl) (by kernel_rfl) (by kernel_rfl) (fun _ _ _ h => h) (by rfl) ?rh30 (by assumption) ?rr30
    case rh30 => (intro w hSw; (try dsimp only at hSw); go_simp; try with_reducible rfl)
    simp only [Act.put, List.setIfInBounds_toArray, List.set_cons_zero, List.set_cons_succ]
    refine rgn_take (i := 20) (v := ?rv31) rfl (by kernel_rfl) (by kernel_rfl) (by kernel_rfl) (fun _ _ _ h => h) (by rfl) ?rh31 (by assumption) ?rr31
    case rh31 => (intro w hSw; (try dsimp only at hSw); go_simp; try with_reducible rfl)
    simp only [Act.put, List.setIfInBounds_toArray, List.set_cons_zero, List.set_cons_succ]
    refine rgn_call (i := 7) rfl (by kernel_rfl) (fun K hK => ?_)
    go_simp
    go_at_call 87; (with_reducible refine (cloneS p pc pl ((Sat.start w).drew) (HP.out.new (Chg.refl No w).drew) hpl).mono ?_); rintro x w1 ⟨A1, c1, rfl, k1, hs1⟩; have HS1 := Lib.hid hs1; have HC1 := Lib.hid ((Chg.refl No w).drew.tr k1); clear hs1 k1
    refine hK.out _ _ ⟨HC1.out.cell HA1.out id, HC1.out.cell HY.out id, HC1.out.cell HZ.out id⟩ (fun hS0 => ?_)
    clear hK K
    refine rgn_call (i := 21) rfl (by kernel_rfl) (fun K hK => ?_)
    go_simp
    go_at_call 87; (with_reducible refine (cloneS q qc ql HS1.out (HQ.out.new HC1.out) hql).mono ?_); rintro x w2 ⟨A2, c2, rfl, k2, hs2⟩; have HS2 := Lib.hid hs2; have HC2 := Lib.hid (HC1.out.tr k2); clear hs2 k2
    refine hK.out _ _ ⟨HC2.out.cell HA1.out id, HC2.out.cell HY.out id, HC2.out.cell HZ.out id⟩ (fun hS0 => ?_)
    clear hK K
    refine rgn_take (i := 22) (v := ?rv34) rfl (by kernel_rfl) (by kernel_rfl) (by kernel_rfl) (fun _ _ _ h => h) (by rfl) ?rh34 (by assumption) ?rr34
    case rh34 => (intro w hSw; (try dsimp only at hSw); go_simp; try with_reducible rfl)
    simp only [Act.put, List.setIfInBounds_toArray, List.set_cons_zero, List.set_cons_succ]
    refine rgn_take (i := 23) (v := ?rv35) rfl (by kernel_rfl) (by kernel_rfl) (by kernel_rfl) (fun _ _ _ h => h) (by rfl) ?rh35 (by assumption) ?rr35
    case rh35 => (intro w hSw; (try dsimp only at hSw); go_simp; try with_reducible rfl)
    simp only [Act.put, List.setIfInBounds_toArray, List.set_cons_zero, List.set_cons_succ]
    refine wpAnyH_done (by kernel_rfl) ?_ _
    go_wp2_with fail
    go_ret2
    exact ⟨(A1, c1, pl), (A2, c2, ql), rfl, H1.out.symm, H2.out.symm, HS2.out.up2.row_rdK, HS2.out.row_rdK, HC2.out⟩
end Go.Proofs.Ytaoenbjfkahdjaa
namespace Go.Proofs.Ytaoenbjfkahdjaa
open Go.RowKit
set_option linter.unusedVariables false
set_option maxRecDepth 100000

theorem buildB_len {L : List Ent} (h : buildE L = 0) : (buildB L).length ≤ 140737488355328 := by
  have hf := buildE_few h
  have hk : ∀ e ∈ L, e.key.length ≤ 128 ∧ e.value.length ≤ 16384 := fun e he => by have := mayE_iff.1 (buildE_may h e he); exact ⟨this.1, this.2.1⟩
  have h1 := bodyB_len L hk L.length
  have h2 := idxB_len L hk L.length
  have h3 := bitsB_len L
  have h4 := unlike_len L L.length
  have h5 := (nbytes_le (unlike L L.length).length 10 ⟨by omega, by omega, by omega, by omega⟩).2.2
  unfold buildB allB
  simp only [List.length_append, putB_len]
  omega
/-- Build, of entries that can be laid. -/
def Laid7 (L : List Ent) (w : World) (x : Ending) (w' : World) : Prop := ∃ (B : Option Addr) (d : Nat), x = .returned (.tuple #[.slice B (buildB L).length d, .int .i64 0]) ∧ (buildB L).length ≤ d ∧ d ≤ maxLen ∧ Sat w (Row 5 1 (.slice B (buildB L).length d) (buildB L).length ((buildB L).map bv) * Emp) w'
theorem bld7 (A : Option Addr) (c : Nat) (es : List En) (L : List Ent) (hL : es.map En.ent = L) (hb : buildE L = 0) (hs : ∀ e ∈ L, e.seq < 9223372036854775808) (w : World) (h : RdV w A (es.flatMap enV)) (hr : EnsR w es) (hc : es.length ≤ c) (hm : c ≤ maxLen) (hcap : ∀ y ∈ es, CapE y) :
    Calls Try.prog 14 #[.slice A es.length c] w (Laid7 L w) := by
  have hm2 : ∀ e ∈ es, mayE e.ent = true := fun e he => buildE_may hb _ (by rw [← hL]; exact List.mem_map_of_mem he)
  refine (build_any A c es w h hr hc hm (fun e he => ?_) (fun e he => hs _ (by rw [← hL]; exact List.mem_map_of_mem he))).mono ?_
  · have h1 := mayE_iff.1 (hm2 e he)
    have h2 := hcap e he
    have h3 : e.key.2.2.length ≤ 128 := h1.1
    have h4 : e.value.2.2.length ≤ 16384 := h1.2.1
    exact ⟨by omega, by omega, h2.1.1, h2.1.2⟩
  · rintro x w' (⟨h1, _⟩ | ⟨_, B, d, rfl, h2, h3, h4⟩)
    · rw [hL] at h1; exact absurd hb h1
    · rw [hL] at h2 h4 ⊢
      exact ⟨B, d, rfl, h2, h3, h4⟩
/-- Open, of what was laid. -/
def Open7 (L : List Ent) (w : World) (x : Ending) (w' : World) : Prop := ∃ (T : Nat) (es : List En), x = .returned (.tuple #[.pointer (some ⟨T, 0, none⟩), .int .i64 0]) ∧ es.map En.ent = L ∧ TabR w' T es ∧ Chg No w w'
theorem opn7 (B : Option Addr) (n d : Nat) (L : List Ent) (hb : buildE L = 0) (hs : ∀ e ∈ L, e.seq < 9223372036854775808) (w : World) (hn : n = (buildB L).length) (h : Rd w B (buildB L)) (hc : n ≤ d) (hm : d ≤ maxLen) :
    Calls Try.prog 15 #[.slice B n d] w (Open7 L w) := by
  subst hn
  refine (open_any B d (buildB L) w h hc hm (buildB_len hb)).mono ?_
  rintro x w' (⟨h1, _⟩ | ⟨_, T, es, rfl, h2, h3, h4, h5⟩)
  · exact absurd (openE_build hb hs) h1
  · rw [(readP_build hb hs).1] at h2
    exact ⟨T, es, rfl, h2, h3, h5⟩
theorem tnum_any (x : Int) (w : World) : Calls Try.prog 28 #[.int .i64 x] w fun e w' => e = .returned (.int .i64 x) ∧ w = w' := by
  go_enter Try.func28, Try.ntmps28
  go_wp2
  go_ret
  exact ⟨rfl, rfl⟩
def wkE : Ent := ⟨[97, 98], [120], 3, false⟩
theorem wk_ok : buildE [wkE] = 0 := by decide +kernel
theorem wk_seq : ∀ e ∈ [wkE], e.seq < 9223372036854775808 := by intro e he; simp at he; subst he; decide
theorem wk_len : (buildB [wkE]).length = 59 := by decide +kernel
theorem wk_get : getL [97, 98] 5 [wkE] = some wkE := by rfl
theorem wk_build (w : World) : Calls Try.prog 14 #[.slice (some ⟨w.heap.size + 1 + 1, 0, none⟩) 1 1]
    (((w.alloc (.cells #[.int .u8 97, .int .u8 98] 5 (2, 3))).alloc (.cells #[.int .u8 120] 5 (1, 2))).alloc (.cells #[.slice (some ⟨w.heap.size, 0, none⟩) 2 2, .slice (some ⟨w.heap.size + 1, 0, none⟩) 1 1, .int .i64 3, .bool false] 34))
    fun x w' => ∃ (B : Option Addr) (d : Nat), x = .returned (.tuple #[.slice B 59 d, .int .i64 0]) ∧ 59 ≤ d ∧ d ≤ maxLen ∧ Rd w' B (buildB [wkE]) ∧ Chg No w w' := by
  have k1 : Chg No w (w.alloc (.cells #[.int .u8 97, .int .u8 98] 5 (2, 3))) := (Chg.refl No w).alloc _
  have k3 := (k1.alloc (.cells #[.int .u8 120] 5 (1, 2))).alloc (.cells #[.slice (some ⟨w.heap.size, 0, none⟩) 2 2, .slice (some ⟨w.heap.size + 1, 0, none⟩) 1 1, .int .i64 3, .bool false] 34)
  have r1 : Rd (w.alloc (.cells #[.int .u8 97, .int .u8 98] 5 (2, 3))) (some ⟨w.heap.size, 0, none⟩) [97, 98] := RdV.lit w #[.int .u8 97, .int .u8 98] 5 (2, 3)
  have r2 := RdV.lit (w.alloc (.cells #[.int .u8 97, .int .u8 98] 5 (2, 3))) #[.int .u8 120] 5 (1, 2)
  have r3 := lit_rdv ((w.alloc (.cells #[.int .u8 97, .int .u8 98] 5 (2, 3))).alloc (.cells #[.int .u8 120] 5 (1, 2))) #[.slice (some ⟨w.heap.size, 0, none⟩) 2 2, .slice (some ⟨w.heap.size + 1, 0, none⟩) 1 1, .int .i64 3, .bool false] 34
  simp only [World.size_alloc] at r2 r3
  refine (bld7 (some ⟨w.heap.size + 1 + 1, 0, none⟩) 1 [⟨(some ⟨w.heap.size, 0, none⟩, 2, [97, 98]), (some ⟨w.heap.size + 1, 0, none⟩, 1, [120]), 3, false⟩] [wkE] rfl wk_ok wk_seq _ r3 (fun e he => ?_) (by simp) (by decide) (fun e he => ?_)).mono ?_
  · simp at he
    subst he
    exact ⟨(r1.alloc _).alloc _, (show Rd _ (some ⟨w.heap.size + 1, 0, none⟩) [120] from r2).alloc _⟩
  · simp at he
    subst he
    have h1 : (1 : Nat) ≤ maxLen := by decide
    have h2 : (2 : Nat) ≤ maxLen := by decide
    exact ⟨⟨by simp, h2⟩, by simp, h1⟩
  · rintro x w' ⟨B, d, rfl, h1, h2, h3⟩
    rw [wk_len] at h1
    rw [wk_len] at h3
    exact ⟨B, d, by rw [wk_len], h1, h2, h3.row_rdK, k3.tr h3.chg⟩
theorem wk_open (B : Option Addr) (d : Nat) (w : World) (h : Rd w B (buildB [wkE])) (hc : 59 ≤ d) (hm : d ≤ maxLen) :
    Calls Try.prog 15 #[.slice B 59 d] w fun x w' => ∃ (T : Nat) (es : List En), x = .returned (.tuple #[.pointer (some ⟨T, 0, none⟩), .int .i64 0]) ∧ es.map En.ent = [wkE] ∧ TabR w' T es ∧ Chg No w w' :=
  opn7 B 59 d [wkE] wk_ok wk_seq w wk_len.symm h hc hm
theorem x_beq : ∃ SA : ByteArray, SA = ByteArray.mk [120].toArray ∧ (SA.toList == [120]) = true := ⟨_, rfl, by simp⟩
theorem wk_got (T : Nat) (es : List En) (w : World) (hL : es.map En.ent = [wkE]) (h : TabR w T es) :
    Calls Try.prog 33 #[.pointer (some ⟨T, 0, none⟩), .slice (some ⟨w.heap.size, 0, none⟩) 2 2, .int .i64 5] (w.alloc (.cells #[.int .u8 97, .int .u8 98] 5 (2, 3)))
    fun x w' => ∃ (gA hA : Option Addr) (gc hc : Nat), x = .returned (.tuple #[.agg #[.slice gA 2 gc, .slice hA 1 hc, .int .i64 3, .bool false], .bool true]) ∧ Rd w' hA [120] ∧ Chg No w w' := by
  have k1 : Chg No w (w.alloc (.cells #[.int .u8 97, .int .u8 98] 5 (2, 3))) := (Chg.refl No w).alloc _
  refine (tget_any (some ⟨w.heap.size, 0, none⟩, 2, [97, 98]) 5 T es _ (RdV.lit w #[.int .u8 97, .int .u8 98] 5 (2, 3)) (h.new k1)).mono ?_
  rintro x w' ⟨g, rfl, h1, h2⟩
  rw [hL, wk_get] at h1 ⊢
  obtain ⟨⟨gA, gc, gk⟩, ⟨hA, hc, hv⟩, gs, gd⟩ := g
  have hr := (ownE_r (h2.of (star_emp _).symm) _ (List.mem_singleton_self _)).2
  unfold En.ent wkE at h1
  simp at h1
  obtain ⟨rfl, rfl, rfl, rfl⟩ := h1
  exact ⟨gA, hA, gc, hc, rfl, hr, k1.tr h2.chg⟩
set_option maxHeartbeats 2000000 in
theorem wakes7_any (w : World) : Calls Try.prog 30 #[] w (Asked true w) := by
  have kc := fun (w : World) (C : Array Value) (n c : Nat) => Lib.run_convert_bytes_const (P := Try.prog) w 32 5 C n c Try.underlying32 Try.underlying5
  obtain ⟨SA, e1, e2⟩ := x_beq
  have ks : ∀ (W : World) (hA : Option Addr) (hc : Nat), Rd W hA [120] → (convert 32 9 (.slice hA 1 hc)).run Try.prog W = .ok (.string SA) W := fun W hA hc h => by rw [e1]; exact str_any h hc
  clear e1
  have kc2 := fun (n c : Nat) => kc (w.alloc (.cells #[.int .u8 97, .int .u8 98] 5 (2, 3))) #[.int .u8 120] n c
  simp only [World.size_alloc] at kc2
  go_enter Try.func30, Try.ntmps30
  go_wp2_with (first
    | (go_at_call 14; (with_reducible refine (wk_build w).mono ?_); rintro x w1 ⟨B, d, rfl, q1, q2, q3, q4⟩; have H1 := Lib.hid q1; have H2 := Lib.hid q2; have H3 := Lib.hid q3; have H4 := Lib.hid q4; clear q1 q2 q3 q4)
    | (go_at_call 15; (with_reducible refine (wk_open B d w1 H3.out H1.out H2.out).mono ?_); rintro x w2 ⟨T, es, rfl, q1, q2, q3⟩; have HL := Lib.hid q1; have hes : Hid ((es.length : Int) = 1) := (by have h9 := congrArg List.length HL.out; simp at h9; unfold Hid; omega); have HT := Lib.hid q2; have HC := Lib.hid (H4.out.tr q3); clear q1 q2 q3)
    | (go_at_call 28; (with_reducible refine (tnum_any _ _).mono ?_); rintro e wx ⟨rfl, rfl⟩)
    | (go_at_call 33; (with_reducible refine (wk_got T es w2 HL.out HT.out).mono ?_); rintro x w3 ⟨gA, hA, gc, hc, rfl, q1, q2⟩; have HC3 := Lib.hid (HC.out.tr q2); have HT3 := Lib.hid (HT.out.new q2); have s1 := fun (o : Obj) => ks (w3.alloc o) hA hc (q1.alloc o); clear q1 q2)
    | (go_at_call 40; (with_reducible refine (tlen_any T es _ (HT3.out.new ((Chg.refl No w3).alloc _))).mono ?_); rintro x w4 ⟨rfl, rfl⟩; rw [hes.out]))
  go_ret
  exact ⟨rfl, HC3.out.alloc _⟩
end Go.Proofs.Ytaoenbjfkahdjaa
