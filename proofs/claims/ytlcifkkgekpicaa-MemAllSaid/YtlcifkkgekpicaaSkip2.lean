/- The table's before: the walk. -/
import Derived.Test.YtlcifkkgekpicaaSkip1
namespace Go.Proofs.Ytlcifkkgekpicaa
open Go.RowKit
set_option linter.unusedVariables false

abbrev enC (e : En) : Array Value := #[.slice e.key.1 e.key.2.2.length e.key.2.1, .slice e.value.1 e.value.2.2.length e.value.2.1, .int .i64 e.seq, .bool e.dead]
theorem outC_get (b : Nat) (ps : List Nd) (k : Nat) {j : Nat} (hj : j < 8) : (outC b ps k)[j]? = some (if k ≤ j then ptrN (some (lastAt b ps j)) else ptrN none) := by unfold outC; simp [hj]
/-- What holds in its rounds. -/
structure Bst (w : World) (b : Nat) (ns : List Nd) (e : En) (E B O V : Nat) (k : Nat) (p s : List Nd) (A R h : Nat) (wr : World) : Prop where
  plc : Plc w b ns e.ent k p s A R h
  k8 : k ≤ 8
  sat : Sat w (Pt O 77 (outC b (ahead e.ent ns) V) * (Pt B 77 (outC b [] 8) * (Pt E 24 (enC e) * Emp))) wr
set_option maxHeartbeats 2000000 in
theorem before_any (b hr : Nat) (ns : List Nd) (e : En) (w : World) (hv : View w b hr ns) (hok : NOk ns) (he : EnR w e) :
    Calls Try.prog 36 #[.pointer (some ⟨b, 0, none⟩), enA e] w fun x w' => x = .returned (.agg (outC b (ahead e.ent ns) 0)) ∧ Chg No w w' := by
  have HV := Lib.hid hv
  have HE := Lib.hid he
  have HO := Lib.hid hok
  have HEA : Hid (∀ e : En, enA e = .agg #[.slice e.key.1 e.key.2.2.length e.key.2.1, .slice e.value.1 e.value.2.2.length e.value.2.1, .int .i64 e.seq, .bool e.dead]) := fun _ => rfl
  rw [HEA.out]
  clear hv he hok
  go_enter Try.func36, Try.ntmps36
  go_wp2_with fail
  have s1 := (Sat.start w).allocAt (b := w.heap.size) 24 (enC e) rfl
  have s2 := s1.allocAt (b := w.heap.size + 1) 77 (outC b [] 8) (by simp)
  have s3 := s2.allocAt (b := w.heap.size + 1 + 1) 77 (outC b (ahead e.ent ns) 8) (by simp)
  obtain ⟨W, hW⟩ : ∃ W, W = ((w.alloc (.cells (enC e) 24)).alloc (.cells (outC b [] 8) 77)).alloc (.cells (outC b (ahead e.ent ns) 8) 77) := ⟨_, rfl⟩
  rw [← hW] at s3
  have e8 : ∀ ps, outC b ps 8 = #[.pointer none, .pointer none, .pointer none, .pointer none, .pointer none, .pointer none, .pointer none, .pointer none] := fun _ => rfl
  rw [e8, e8] at hW
  rw [← hW]
  generalize w.heap.size = E at *
  obtain ⟨O, hO⟩ : ∃ O, O = E + 1 + 1 := ⟨_, rfl⟩
  obtain ⟨B, hB⟩ : ∃ B, B = E + 1 := ⟨_, rfl⟩
  rw [← hO, ← hB] at s3
  rw [← hO, ← hB]
  have HS := Lib.hid s3
  clear s1 s2 s3 hW e8 hO hB
  go_loopw [6, 7] (fun at' i wr => ∃ (k A R h : Nat) (p s : List Nd), i = .int .i64 ((k : Int) - 1) ∧ at' = .pointer (some ⟨A, 0, none⟩) ∧ k ≤ 8 ∧ Hid (Bst w b ns e E B O k k p s A R h wr)) (fun _ i _ => (intOf i + 1).toNat)
  case atStart => exact ⟨8, b, hr, 8, [], ns, rfl, rfl, by omega, HV.out.plc HO.out _, by omega, HS.out⟩
  case round =>
    obtain ⟨k, A, R, h, p, s, rfl, rfl, hk8, HD⟩ := hrel
    rcases k with _ | q
    · have eO : ∀ ps, outC b ps 0 = #[.pointer (some ⟨lastAt b ps 0, 0, none⟩), .pointer (some ⟨lastAt b ps 1, 0, none⟩), .pointer (some ⟨lastAt b ps 2, 0, none⟩), .pointer (some ⟨lastAt b ps 3, 0, none⟩), .pointer (some ⟨lastAt b ps 4, 0, none⟩), .pointer (some ⟨lastAt b ps 5, 0, none⟩), .pointer (some ⟨lastAt b ps 6, 0, none⟩), .pointer (some ⟨lastAt b ps 7, 0, none⟩)] := fun _ => rfl
      have hs := HD.out.sat
      have e8 : outC b [] 8 = #[.pointer none, .pointer none, .pointer none, .pointer none, .pointer none, .pointer none, .pointer none, .pointer none] := rfl
      rw [eO, e8] at hs
      have c0 := hs.cell 0; have c1 := hs.cell 1; have c2 := hs.cell 2; have c3 := hs.cell 3; have c4 := hs.cell 4; have c5 := hs.cell 5; have c6 := hs.cell 6; have c7 := hs.cell 7
      have f0 := hs.up2.frozen 0; have f1 := hs.up2.frozen 1; have f2 := hs.up2.frozen 2; have f3 := hs.up2.frozen 3; have f4 := hs.up2.frozen 4; have f5 := hs.up2.frozen 5; have f6 := hs.up2.frozen 6; have f7 := hs.up2.frozen 7
      have d0 := hs.up2.cell 0; have d1 := hs.up2.cell 1; have d2 := hs.up2.cell 2; have d3 := hs.up2.cell 3; have d4 := hs.up2.cell 4; have d5 := hs.up2.cell 5; have d6 := hs.up2.cell 6; have d7 := hs.up2.cell 7
      have HQ : Hid (Value.agg (outC b (ahead e.ent ns) 0) = _) := congrArg Value.agg (eO _)
      have HS2 := Lib.hid hs
      clear hs eO e8
      have h9 := (((((((HS2.out.up2.set 0 (.pointer (some ⟨lastAt b (ahead e.ent ns) 0, 0, none⟩))).set 1 (.pointer (some ⟨lastAt b (ahead e.ent ns) 1, 0, none⟩))).set 2 (.pointer (some ⟨lastAt b (ahead e.ent ns) 2, 0, none⟩))).set 3 (.pointer (some ⟨lastAt b (ahead e.ent ns) 3, 0, none⟩))).set 4 (.pointer (some ⟨lastAt b (ahead e.ent ns) 4, 0, none⟩))).set 5 (.pointer (some ⟨lastAt b (ahead e.ent ns) 5, 0, none⟩))).set 6 (.pointer (some ⟨lastAt b (ahead e.ent ns) 6, 0, none⟩))).set 7 (.pointer (some ⟨lastAt b (ahead e.ent ns) 7, 0, none⟩))
      go_wp2_with fail
      clear c0 c1 c2 c3 c4 c5 c6 c7 f0 f1 f2 f3 f4 f5 f6 f7 d0 d1 d2 d3 d4 d5 d6 d7
      revert h9
      generalize World.setCell _ _ _ = W2
      intro h9
      refine bodyPost_ret (results_cell_row (p := 4) (by kernel_rfl) _ _ B 77 _ (0, 0) _ rfl h9.at Try.underlying77 rfl (by kernel_rfl)) rfl ?_
      exact ⟨by rw [HQ.out]; rfl, h9.chg⟩
    · have HI : Hid (((q + 1 : Nat) : Int) - 1 = q) := by unfold Hid; omega
      rw [HI.out]
      have hh := HD.out.plc.hk
      have q1 := (HD.out.plc.new HD.out.sat.chg).head
      have q2 := (HD.out.plc.new HD.out.sat.chg).links q (by omega)
      have HD0 := HD
      clear HD
      go_wp2_with fail
      clear hh q1 q2
      go_loopw [6, 8] (fun at' n wr => ∃ (A R h : Nat) (p s : List Nd), at' = .pointer (some ⟨A, 0, none⟩) ∧ n = ptrN (nxt noT s q) ∧ Hid (Bst w b ns e E B O (q + 1) (q + 1) p s A R h wr)) (fun _ n _ => rank ns n)
      case atStart => exact ⟨A, R, h, p, s, rfl, rfl, HD0.out⟩
      case round =>
        clear HD0
        obtain ⟨A1, R1, h1, p1, s1, rfl, rfl, HD⟩ := hrel
        have hq : q < 8 := by omega
        have wq : IntKind.i64.wrap ((q : Int) - 1) = (q : Int) - 1 := by rw [IntKind.wrap_i64]; omega
        rcases nxt_cases s1 q with ⟨e1, hlow⟩ | ⟨u, m, t, e2, e1, hm, hu⟩
        · have HX := Lib.hid (done_none HD.out.plc hlow)
          have e3 : ptrN (nxt noT s1 q) = .pointer none := by rw [e1]; rfl
          rw [e3]
          clear e1 e3 hlow
          have f1 := HD.out.sat.frozen q
          have f2 : wr.cell? ⟨O, q, none⟩ = some (.pointer none) := by rw [HD.out.sat.cell q, outC_get _ _ _ hq, if_neg (by omega)]; rfl
          go_wp2_with fail
          go_region
          go_wp2_with fail
          go_roundw
          · have hs := HD.out.sat.drew.set q (.pointer (some ⟨A1, 0, none⟩))
            rw [← HD.out.plc.here HX.out, outC_set _ _ _ hq] at hs
            rw [HD.out.plc.here HX.out] at hs
            exact ⟨q, A1, R1, h1, p1, s1, rfl, rfl, by omega, HD.out.plc.down HX.out, by omega, hs⟩
          · simp [intOf] <;> omega
        · have e3 : ptrN (nxt noT s1 q) = .pointer (some ⟨m.a, 0, none⟩) := by rw [e1]; rfl
          rw [e3]
          have hsp := HD.out.plc.eq
          have hv2 := HV.out.new HD.out.sat.chg
          obtain ⟨n0, n1, n2, n3, n4, n5, n6⟩ := hv2.node (p1 ++ u) m t (by rw [hsp, e2]; simp)
          unfold slv' at n1 n2
          have HR2 := Lib.hid hv2.nodup
          have HN := Lib.hid n6
          have c0 := HD.out.sat.right.right.cell 0; have c1 := HD.out.sat.right.right.cell 1; have c2 := HD.out.sat.right.right.cell 2; have c3 := HD.out.sat.right.right.cell 3
          have HU := Lib.hid hu
          have E2 := Lib.hid e2
          have E1 := Lib.hid hsp
          have HM := Lib.hid hm
          clear hu e2 hsp hm e1 e3 hv2 n5 n6 n0
          have HC := Lib.hid HD.out.sat.chg
          go_wp2_with fail
          go_region_law (go_simp; go_at_call 8; refine (less_any m.e e _ (HN.out.new (Chg.refl No wr).drew) (HE.out.new HC.out.drew)).mono ?_; rintro x w5 ⟨rfl, k5⟩)
          all_goals
            cases hb : lessE m.e.ent e.ent with
            | false =>
              have HX := Lib.hid (done_some HD.out.plc HO.out E2.out HU.out (by unfold LTE; rw [hb]; simp))
              have hs0 := HD.out.sat.drew.new k5
              have f1 := hs0.frozen q
              have f2 : w5.cell? ⟨O, q, none⟩ = some (.pointer none) := by rw [hs0.cell q, outC_get _ _ _ hq, if_neg (by omega)]; rfl
              have HS0 := Lib.hid hs0
              clear hs0
              go_wp2_with fail
              go_roundw
              · have hs := HS0.out.set q (.pointer (some ⟨A1, 0, none⟩))
                rw [← HD.out.plc.here HX.out, outC_set _ _ _ hq] at hs
                rw [HD.out.plc.here HX.out] at hs
                exact ⟨q, A1, R1, h1, p1, s1, rfl, rfl, by omega, HD.out.plc.down HX.out, by omega, hs⟩
              · simp [intOf] <;> omega
            | true =>
              have HP := Lib.hid (HD.out.plc.step HV.out HO.out E2.out HM.out hb)
              have HS0 := Lib.hid (HD.out.sat.drew.new k5)
              have hf := HO.out.full m (by rw [E1.out, E2.out]; simp)
              have hmq := HM.out
              have q3 := (HP.out.new HS0.out.chg).head
              have q4 := (HP.out.new HS0.out.chg).links q (by omega)
              go_wp2_with fail
              go_roundw
              · exact ⟨m.a, m.r, m.h, _, t, rfl, rfl, HP.out, HD.out.k8, HS0.out⟩
              · have r1 := rank_at (p := p1 ++ u) (s := t) (m := m) HR2.out (by rw [E1.out, E2.out]; simp)
                have r2 := rank_nxt (p := p1 ++ (u ++ [m])) (s := t) (i := q) HR2.out (by rw [E1.out, E2.out]; simp)
                simp; omega
end Go.Proofs.Ytlcifkkgekpicaa
