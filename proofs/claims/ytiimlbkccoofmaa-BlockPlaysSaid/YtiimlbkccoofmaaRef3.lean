/- The document's disk: lay, Flush, On. -/
import Derived.Test.YtiimlbkccoofmaaRef2
import Derived.Deep.CutBlock
namespace Go.Proofs.Ytiimlbkccoofmaa
open Go.RowKit
set_option linter.unusedVariables false

section
variable {w0 w : World} {F : SP} {r armed writes : Nat} {vs vt vp : Value} {cs : List (Slc × Bool)} {ps : List (Nat × Slc)} {off : Bool} {D : Dk}
/-- A block's bytes are written. -/
theorem Sat.rSafe (h : Sat w0 (RDiskC r vs vt vp cs ps armed writes off * F) w) {a : Nat} (ha : a < cs.length) {s : Slc} (hs : s ∈ ps.map (·.2)) :
    ∃ g c, vs = .slice (some ⟨g, 0, none⟩) cs.length c ∧ Sat w0 (RDiskC r vs vt vp (cs.set a (s, cs[a].2)) ps armed writes off * F) (w.setCell ⟨g, a, none⟩ (slv s)) ∧ w.frozen? ⟨g, a, none⟩ = false ∧ w.cell? ⟨g, a, none⟩ = some (slv cs[a].1) := by
  have h1 := (h.of rdisk_d).up2
  obtain ⟨B, c, rfl, _⟩ := h1.row_sl
  obtain ⟨g, rfl, h2, h3, h4⟩ := h1.row_set ha (slv s)
  refine ⟨g, c, rfl, ?_, h3, by rw [h4 a (by simpa using ha)]; simp⟩
  have e1 : (cs.map fun x => slv x.1).set a (slv s) = (cs.set a (s, cs[a].2)).map fun x => slv x.1 := by rw [List.map_set]
  have e2 : (cs.map fun x => Value.bool x.2) = (cs.set a (s, cs[a].2)).map fun x => .bool x.2 := by
    rw [List.map_set]
    have : (cs.map fun x => Value.bool x.2)[a]'(by simpa using ha) = .bool cs[a].2 := by simp
    exact (set_same (by simpa using ha) this).symm
  have e4 : cs.length = (cs.set a (s, cs[a].2)).length := (List.length_set ..).symm
  have h5 := h2.up5.rol_keep (rs' := (cs.set a (s, cs[a].2)).map (·.1) ++ ps.map (·.2)) fun q hq => by
    rcases List.mem_append.1 hq with hq | hq
    · obtain ⟨y, hy, rfl⟩ := List.mem_map.1 hq
      rcases List.mem_or_eq_of_mem_set hy with hy | hy
      · exact .inl (List.mem_append_left _ (List.mem_map_of_mem hy))
      · subst hy
        exact .inl (List.mem_append_right _ hs)
    · exact .inl (List.mem_append_right _ hq)
  have h6 := h5.dn5.up2
  rw [e1, e2] at h6
  refine h6.of ?_
  rw [e4]
  exact rdisk_d.symm
theorem Sat.rhead0 (h : Sat w0 (RDiskC r vs vt vp cs ps armed writes off * F) w) : w.cell? ⟨r, 0, none⟩ = some vs := (h.of rdisk_d).cell 0
theorem Sat.rhead1 (h : Sat w0 (RDiskC r vs vt vp cs ps armed writes off * F) w) : w.cell? ⟨r, 1, none⟩ = some vt := (h.of rdisk_d).cell 1
theorem Sat.rhead2 (h : Sat w0 (RDiskC r vs vt vp cs ps armed writes off * F) w) : w.cell? ⟨r, 2, none⟩ = some vp := (h.of rdisk_d).cell 2
theorem Sat.rhead5 (h : Sat w0 (RDiskC r vs vt vp cs ps armed writes off * F) w) : w.cell? ⟨r, 5, none⟩ = some (.bool off) := (h.of rdisk_d).cell 5
end
set_option maxHeartbeats 1000000 in
theorem rLay_any (r : Nat) (vs vt vp : Value) (cs : List (Slc × Bool)) (ps : List (Nat × Slc)) (armed writes : Nat) (off : Bool) (a : Nat) (s : Slc) (w0 w : World) (F : SP) (h : Sat w0 (RDiskC r vs vt vp cs ps armed writes off * F) w) (ha : a < cs.length) (hm : cs.length ≤ 65536) (hs : s ∈ ps.map (·.2)) :
    Calls Try.prog 43 #[.pointer (some ⟨r, 0, none⟩), .agg #[.int .i64 a, .slice s.1 s.2.2.length s.2.1]] w fun e w' => e = .returned (.tuple #[]) ∧ Sat w0 (RDiskC r vs vt vp (cs.set a (s, false)) ps armed writes off * F) w' := by
  have h0 := h.allocPt 80 #[.int .i64 a, .slice s.1 s.2.2.length s.2.1]
  obtain ⟨B, hB⟩ : ∃ B, B = w.heap.size := ⟨_, rfl⟩
  obtain ⟨W, hW⟩ : ∃ W, W = w.alloc (.cells #[.int .i64 a, .slice s.1 s.2.2.length s.2.1] 80) := ⟨_, rfl⟩
  rw [← hB, ← hW] at h0
  have hR := h0.up2
  obtain ⟨g, c, rfl, h1, f1, q1⟩ := hR.rSafe ha hs
  obtain ⟨g2, c2, rfl, h2, f2, q2⟩ := h1.rTorn (a := a) (by rw [List.length_set]; exact ha) false
  rw [List.length_set]
  have p0 := hR.rhead0
  have p1 := hR.up2.cell 0
  have p2 := hR.up2.cell 1
  have p3 := h1.rhead1
  have p4 := h1.up2.cell 0
  have HE : Hid (∃ w', w' = (W.setCell ⟨g, a, none⟩ (slv s)).setCell ⟨g2, a, none⟩ (.bool false) ∧ Sat w0 (RDiskC r (.slice (some ⟨g, 0, none⟩) cs.length c) (.slice (some ⟨g2, 0, none⟩) cs.length c2) vp (cs.set a (s, false)) ps armed writes off * F) w') := by
    refine ⟨_, rfl, ?_⟩
    have h3 := h2.drop2
    rw [List.getElem_set_self, List.set_set, List.length_set] at h3
    exact h3
  rw [List.length_set] at p3
  simp only [slv] at q1 f1 h1 p3 p4 f2 q2 HE
  have hai : (a : Int) < cs.length := by omega
  have hci : (cs.length : Int) ≤ 65536 := by omega
  clear h h0 hR h1 h2 hs
  have hWB : w.alloc (.cells #[.int .i64 a, .slice s.1 s.2.2.length s.2.1] 80) = W := hW.symm
  have HWB := Lib.hid hWB
  have HB := Lib.hid hB
  clear hW hWB hB
  go_enter Try.func43, Try.ntmps43
  go_wp2_with fail
  rw [HWB.out, ← HB.out]
  go_region
  go_wp2_with fail
  go_region
  go_wp2_with fail
  go_end0
  obtain ⟨_, rfl, hE⟩ := HE.out
  exact ⟨rfl, by first | exact hE.drew.drew | exact hE.drewN 2⟩
theorem layR (cs : List (Slc × Bool)) (p : Nat × Slc) : (layC cs p).map rcell = lay (cs.map rcell) (p.1, p.2.2.2) := by
  unfold layC lay; rw [List.map_set]; rfl
theorem lay_allR (cs : List (Slc × Bool)) : ∀ ps : List (Nat × Slc), (ps.foldl layC cs).map rcell = (ps.map fun x => (x.1, x.2.2.2)).foldl lay (cs.map rcell) := by
  intro ps
  induction ps generalizing cs with
  | nil => rfl
  | cons p ps ih => rw [List.foldl_cons, ih, layR]; rfl
structure RCok (cs0 cs : List (Slc × Bool)) : Prop where
  len : cs.length = cs0.length
  fitc : ∀ x ∈ cs, x.1.2.2 = [] ∨ x.1.2.2.length = 512
theorem RCok.put {cs0 cs : List (Slc × Bool)} (h : RCok cs0 cs) {a : Nat} {x : Slc × Bool} (hx : x.1.2.2 = [] ∨ x.1.2.2.length = 512) : RCok cs0 (cs.set a x) :=
  ⟨by rw [List.length_set]; exact h.len, fun y hy => (List.mem_or_eq_of_mem_set hy).elim (h.fitc y) (fun e => e ▸ hx)⟩
/-- The cells of one that is pending. -/
theorem Sat.rPendAt {w0 w : World} {F : SP} {r armed writes : Nat} {vs vt : Value} {A : Option Addr} {c : Nat} {cs : List (Slc × Bool)} {ps : List (Nat × Slc)} {off : Bool} (h : Sat w0 (RDiskC r vs vt (.slice A ps.length c) cs ps armed writes off * F) w) {k : Nat} (hk : k < ps.length) :
    ∃ g, A = some ⟨g, 0, none⟩ ∧ w.cell? ⟨g, k * 2, none⟩ = some (.int .i64 ps[k].1) ∧ w.cell? ⟨g, k * 2 + 1, none⟩ = some (slv ps[k].2) := by
  obtain ⟨g, e, hg⟩ := (h.of rdisk_d).up4.row_at (by omega)
  have e0 : (ps.flatMap pendV)[k * 2]'(by rw [flat2_len (fun _ => rfl)]; omega) = .int .i64 ps[k].1 := by
    have := flat2 (f := pendV) (fun _ => rfl) ps k 0 hk (by omega)
    exact Option.some.inj ((List.getElem?_eq_getElem _).symm.trans this)
  have e1 : (ps.flatMap pendV)[k * 2 + 1]'(by rw [flat2_len (fun _ => rfl)]; omega) = slv ps[k].2 := by
    have := flat2 (f := pendV) (fun _ => rfl) ps k 1 hk (by omega)
    exact Option.some.inj ((List.getElem?_eq_getElem _).symm.trans this)
  exact ⟨g, e, by rw [hg (k * 2) (by rw [flat2_len (fun _ => rfl)]; omega), e0], by rw [hg (k * 2 + 1) (by rw [flat2_len (fun _ => rfl)]; omega), e1]⟩
set_option maxHeartbeats 1000000 in
theorem rFlush_any (r : Nat) (D : Dk) (w0 w : World) (F : SP) (h : Sat w0 (RDisk r D * F) w) (hw2 : D.pend.length ≤ 1000000000) :
    Calls Try.prog 38 #[.pointer (some ⟨r, 0, none⟩)] w fun e w' => e = .returned (.int .i64 D.flush.2) ∧ Sat w0 (RDisk r D.flush.1 * F) w' := by
  have HH := Lib.hid h
  obtain ⟨vs, vt, vp, cs, ps, hr, hs⟩ := h.rdisk
  have hc5 := hs.rhead5
  by_cases ho : D.off = true
  · have HP : Hid (D.flush = (D, 21)) := by unfold Hid Dk.flush; rw [if_pos ho]
    rw [ho] at hc5
    clear ho hr hs h
    go_enter Try.func38, Try.ntmps38
    go_wp2_with fail
    go_ret
    refine ⟨by rw [HP.out]; rfl, ?_⟩
    rw [HP.out]
    exact HH.out
  · have ho' : D.off = false := by simpa using ho
    have HP : Hid (D.flush = ({ D with cells := D.pend.foldl lay D.cells, pend := [] }, 0)) := by unfold Hid Dk.flush; rw [if_neg ho]
    rw [ho'] at hc5
    have hpl : D.pend.length = ps.length := by rw [hr.pend]; simp
    rw [hpl] at hw2
    obtain ⟨_, _, _, _, A1, c1, _, _, rfl, _, _, hle, _, _, hmx⟩ := hs.rvals
    unfold maxLen at hmx
    have HS := Lib.hid hs
    have HR := Lib.hid hr
    clear ho ho' hr hs h hpl
    go_enter Try.func38, Try.ntmps38
    go_wp2_with fail
    go_loopw [3] (fun i wr => ∃ k : Nat, k ≤ ps.length ∧ i = .int .i64 k ∧ Hid (RCok cs ((ps.take k).foldl layC cs) ∧ Sat w0 (RDiskC r vs vt (.slice A1 ps.length c1) ((ps.take k).foldl layC cs) ps D.armed D.writes D.off * F) wr)) (fun i _ => ps.length - (intOf i).toNat)
    case atStart => exact ⟨0, by omega, rfl, ⟨rfl, HR.out.fitc⟩, HS.out⟩
    case round =>
      obtain ⟨k, hk, rfl, HD⟩ := hrel
      have q2 := HD.out.2.rhead2
      by_cases hlt : k < ps.length
      · obtain ⟨g, rfl, q0, q1⟩ := HD.out.2.rPendAt hlt
        have HF := Lib.hid (HR.out.fitp ps[k] (List.getElem_mem hlt))
        have HT : Hid ((ps.take (k + 1)).foldl layC cs = layC ((ps.take k).foldl layC cs) ps[k]) := by
          rw [List.take_succ_eq_append_getElem hlt, List.foldl_append]; rfl
        have HM := Lib.hid (List.getElem_mem hlt)
        generalize ps[k] = p at *
        obtain ⟨a, s⟩ := p
        simp only [slv] at q0 q1
        generalize (ps.take k).foldl layC cs = cs1 at *
        have HL := Lib.hid (rLay_any r vs vt _ cs1 ps D.armed D.writes D.off a s w0 wr F HD.out.2 (by rw [HD.out.1.len]; exact HF.out.2) (by rw [HD.out.1.len]; exact HR.out.most) (List.mem_map_of_mem (f := Prod.snd) HM.out))
        have hkl : (k : Int) < ps.length := by omega
        go_wp2_with fail
        refine HL.out.mono ?_
        rintro e w2 ⟨rfl, hs⟩
        have HS2 := Lib.hid hs
        clear hs
        go_wp2_with fail
        go_roundw
        case rel =>
          refine ⟨k + 1, by omega, by go_num, ?_⟩
          rw [HT.out]
          exact ⟨HD.out.1.put (.inr HF.out.1), HS2.out⟩
        case measure => simp [intOf]; omega
      · have ht : ps.take k = ps := List.take_of_length_le (by omega)
        rw [ht] at HD
        clear ht
        have f2 := (HD.out.2.of rdisk_d).frozen 2
        have hkl : ¬ (k : Int) < ps.length := by omega
        go_wp2_with fail
        go_ret
        refine ⟨by rw [HP.out]; rfl, ?_⟩
        rw [HP.out]
        refine Sat.rdiskI (D := { D with cells := D.pend.foldl lay D.cells, pend := [] }) HD.out.2.rNone ⟨?_, rfl, HD.out.1.fitc, by simp, ?_, ?_⟩
        · show D.pend.foldl lay D.cells = _
          rw [HR.out.cells, HR.out.pend, lay_allR]
        · rw [HD.out.1.len]; exact HR.out.two
        · rw [HD.out.1.len]; exact HR.out.most
end Go.Proofs.Ytiimlbkccoofmaa
