/- The disk: Flush. -/
import Derived.Test.YtiimlbkccoofmaaBlk4
namespace Go.Proofs.Ytiimlbkccoofmaa
open Go.RowKit
set_option linter.unusedVariables false

def lay (cells : List (List UInt8 × Bool)) (p : Nat × List UInt8) : List (List UInt8 × Bool) := cells.set p.1 (p.2, false)
def Dk.flush (D : Dk) : Dk × Int := if D.off then (D, 21) else ({ D with cells := D.pend.foldl lay D.cells, pend := [] }, 0)
/-- The cells behind some writes: those that come in a list, each kept (false, true), torn (true, _) or lost (false, false). -/
def layC (cs : List (Slc × Bool)) (p : Nat × Slc) : List (Slc × Bool) := cs.set p.1 (p.2, false)
theorem lay_layC (cs : List (Slc × Bool)) (p : Nat × Slc) : (layC cs p).map (fun x => (x.1.2.2, x.2)) = lay (cs.map fun x => (x.1.2.2, x.2)) (p.1, p.2.2.2) := by
  unfold layC lay; rw [List.map_set]
theorem lay_all (cs : List (Slc × Bool)) : ∀ ps : List (Nat × Slc), (ps.foldl layC cs).map (fun x => (x.1.2.2, x.2)) = (ps.map fun x => (x.1, x.2.2.2)).foldl lay (cs.map fun x => (x.1.2.2, x.2)) := by
  intro ps
  induction ps generalizing cs with
  | nil => rfl
  | cons p ps ih => rw [List.foldl_cons, ih, lay_layC]; rfl
/-- What is asked of the cells while they are written. -/
structure Cok (cs0 cs : List (Slc × Bool)) (ps : List (Nat × Slc)) : Prop where
  len : cs.length = cs0.length
  fitc : ∀ x ∈ cs, fit x.1 ∧ (x.1.2.2 = [] ∨ x.1.2.2.length = 512)
theorem Cok.put {cs0 cs : List (Slc × Bool)} {ps : List (Nat × Slc)} (h : Cok cs0 cs ps) {a : Nat} {x : Slc × Bool} (hx : fit x.1 ∧ (x.1.2.2 = [] ∨ x.1.2.2.length = 512)) : Cok cs0 (cs.set a x) ps :=
  ⟨by rw [List.length_set]; exact h.len, fun y hy => (List.mem_or_eq_of_mem_set hy).elim (h.fitc y) (fun e => e ▸ hx)⟩
section
variable {w0 w : World} {F : SP} {d C cc M nm armed writes : Nat} {vp : Value} {cs : List (Slc × Bool)} {ps : List (Nat × Slc)} {off : Bool} {D : Dk}
theorem Sat.rol_keep {rs rs' : List Slc} (h : Sat w0 (RoL rs * F) w) (hs : ∀ r ∈ rs', r ∈ rs ∨ r.2.2 = []) : Sat w0 (RoL rs' * F) w :=
  h.mono fun q ⟨b, f, k1, k2, k3, k4⟩ => ⟨b, f, k1, k2, ⟨k3.1, fun r hr hne => (hs r hr).elim (fun hr => k3.2 r hr hne) (fun e => absurd e hne)⟩, k4⟩
/-- A cell is written. -/
theorem Sat.setCellD (h : Sat w0 (DiskC d C cc M nm vp cs ps armed writes off * F) w) (a : Nat) (x : Slc × Bool) (ha : a < cs.length) (hx : x.1 ∈ ps.map (·.2) ∨ x.1.2.2 = []) :
    Sat w0 (DiskC d C cc M nm vp (cs.set a x) ps armed writes off * F) ((w.setCell ⟨C, a * 2, none⟩ (slv x.1)).setCell ⟨C, a * 2 + 1, none⟩ (.bool x.2)) := by
  have h1 := ((h.of disk_d).up2.row_setj (j := a * 2) (slv x.1)).row_setj (j := a * 2 + 1) (.bool x.2)
  have e2 := flat2_set (f := cellV) (fun _ => rfl) cs a x _ _ rfl ha
  rw [List.setIfInBounds_toArray, List.setIfInBounds_toArray] at e2
  have e3 : ((cs.flatMap cellV).set (a * 2) (slv x.1)).set (a * 2 + 1) (.bool x.2) = (cs.set a x).flatMap cellV := by simpa using congrArg Array.toList e2
  rw [e3] at h1
  have h2 := h1.up5
  have h3 := h2.rol_keep (rs' := (cs.set a x).map (·.1) ++ ps.map (·.2)) fun r hr => by
    rcases List.mem_append.1 hr with hr | hr
    · obtain ⟨y, hy, rfl⟩ := List.mem_map.1 hr
      rcases List.mem_or_eq_of_mem_set hy with hy | hy
      · exact .inl (List.mem_append_left _ (List.mem_map_of_mem hy))
      · subst hy
        exact hx.imp_left (fun hx => List.mem_append_right _ hx)
    · exact .inl (List.mem_append_right _ hr)
  refine (h3.dn5.up2).of ?_
  have e : cs.length = (cs.set a x).length := (List.length_set ..).symm
  rw [e]
  exact disk_d.symm
end
set_option maxHeartbeats 1000000 in
theorem flush_any (d : Nat) (D : Dk) (w0 w : World) (F : SP) (h : Sat w0 (Disk d D * F) w) (hw2 : D.pend.length ≤ 1000000000) :
    Calls Try.prog 13 #[.pointer (some ⟨d, 0, none⟩)] w fun e w' => e = .returned (.int .i64 D.flush.2) ∧ Sat w0 (Disk d D.flush.1 * F) w' := by
  have HH := Lib.hid h
  by_cases ho : D.off = true
  · have HP : Hid (D.flush = (D, 21)) := by unfold Hid Dk.flush; rw [if_pos ho]
    obtain ⟨C, cc, M, nm, vp, cs, ps, hr, hn, hs⟩ := h.disk
    have hc5 := hs.head.c5
    rw [ho] at hc5
    clear ho hr hn hs h
    go_enter Try.func13, Try.ntmps13
    go_wp2_with fail
    go_ret
    refine ⟨by rw [HP.out]; rfl, ?_⟩
    rw [HP.out]
    exact HH.out
  · have ho' : D.off = false := by simpa using ho
    have HP : Hid (D.flush = ({ D with cells := D.pend.foldl lay D.cells, pend := [] }, 0)) := by unfold Hid Dk.flush; rw [if_neg ho]
    obtain ⟨C, cc, M, nm, vp, cs, ps, hr, hn, hs⟩ := h.disk
    have hc5 := hs.head.c5
    have hc1 := hs.head.c1
    rw [ho'] at hc5
    have hpl : D.pend.length = ps.length := by rw [hr.pend]; simp
    rw [hpl] at hw2
    obtain ⟨A1, c1, rfl, hle, hmx⟩ := (hs.of disk_d).up3.row_sl
    have HS := Lib.hid hs
    have HR := Lib.hid hr
    have HN := Lib.hid hn
    unfold maxLen at hmx
    clear ho ho' hr hn hs h hpl
    go_enter Try.func13, Try.ntmps13
    go_wp2_with fail
    go_loopw [14] (fun i wr => ∃ k : Nat, k ≤ ps.length ∧ i = .int .i64 k ∧ Hid (Cok cs ((ps.take k).foldl layC cs) ps ∧ Sat w0 (DiskC d C cc M nm (.slice A1 ps.length c1) ((ps.take k).foldl layC cs) ps D.armed D.writes D.off * F) wr)) (fun i _ => ps.length - (intOf i).toNat)
    case atStart => exact ⟨0, by omega, rfl, ⟨rfl, HR.out.fitc⟩, HS.out⟩
    case round =>
      obtain ⟨k, hk, rfl, HD⟩ := hrel
      by_cases hlt : k < ps.length
      · obtain ⟨g, rfl, hg⟩ := (HD.out.2.of disk_d).up3.row_at (by omega)
        have q0 := hg (k * 2) (by rw [flat2_len (fun _ => rfl)]; omega)
        have q1 := hg (k * 2 + 1) (by rw [flat2_len (fun _ => rfl)]; omega)
        have e0 : (ps.flatMap pendV)[k * 2]'(by rw [flat2_len (fun _ => rfl)]; omega) = .int .i64 ps[k].1 := by
          have := flat2 (f := pendV) (fun _ => rfl) ps k 0 hlt (by omega)
          exact Option.some.inj ((List.getElem?_eq_getElem _).symm.trans this)
        have e1 : (ps.flatMap pendV)[k * 2 + 1]'(by rw [flat2_len (fun _ => rfl)]; omega) = slv ps[k].2 := by
          have := flat2 (f := pendV) (fun _ => rfl) ps k 1 hlt (by omega)
          exact Option.some.inj ((List.getElem?_eq_getElem _).symm.trans this)
        rw [e0] at q0
        rw [e1] at q1
        have hfp := HR.out.fitp ps[k] (List.getElem_mem hlt)
        have HT : Hid ((ps.take (k + 1)).foldl layC cs = layC ((ps.take k).foldl layC cs) ps[k]) := by
          rw [List.take_succ_eq_append_getElem hlt, List.foldl_append]; rfl
        have HM := Lib.hid (List.getElem_mem hlt)
        have hat : ps[k].1 < cs.length := hfp.2.2
        have HF := Lib.hid hfp
        clear hg e0 e1 hfp
        generalize ps[k] = p at *
        obtain ⟨a, As, cz, ls⟩ := p
        simp only [slv] at q0 q1 hat
        generalize (ps.take k).foldl layC cs = cs1 at *
        have h2 := HD.out.2.allocPt 72 #[.int .i64 a, .slice As ls.length cz]
        have hlc : cs1.length = cs.length := HD.out.1.len
        have HLc := Lib.hid hlc
        have HS2 := Lib.hid h2
        clear h2
        rw [← hlc] at hat
        clear hlc
        go_wp2_with fail
        obtain ⟨w2, hw2'⟩ : ∃ w2, w2 = wr.alloc (.cells #[.int .i64 a, .slice As ls.length cz] 72) := ⟨_, rfl⟩
        obtain ⟨b, hb⟩ : ∃ b, b = wr.heap.size := ⟨_, rfl⟩
        rw [← hw2', ← hb] at HS2
        rw [← hw2', ← hb]
        clear hw2' hb q0 q1
        have q2 := HS2.out.cell 0
        have q3 := HS2.out.cell 1
        have q4 := HS2.out.right.head.c0
        have q5 := HS2.out.right.cellsFree (a * 2)
        have q6 := HS2.out.right.cellsFree (a * 2 + 1)
        obtain ⟨q7, q8⟩ := HS2.out.right.cellsAt hat
        go_region
        go_wp2_with fail
        go_roundw
        case rel =>
          refine ⟨k + 1, by omega, by go_num, ?_⟩
          rw [HT.out]
          exact ⟨HD.out.1.put ⟨HF.out.1, .inr HF.out.2.1⟩, (HS2.out.right.setCellD a ((As, cz, ls), false) hat (.inl (List.mem_map_of_mem (f := Prod.snd) HM.out))).drew⟩
        case measure => simp [intOf]; omega
      · have ht : ps.take k = ps := List.take_of_length_le (by omega)
        rw [ht] at HD
        clear ht
        have HE : Hid (Sat w0 (Disk d { D with cells := D.pend.foldl lay D.cells } * F) wr) := by
          refine Sat.diskI (D := { D with cells := D.pend.foldl lay D.cells }) HD.out.2 ⟨?_, HR.out.pend, HD.out.1.fitc, ?_, ?_, ?_⟩ HN.out
          · rw [HR.out.cells, HR.out.pend, lay_all]
          · rw [HD.out.1.len]; exact HR.out.fitp
          · rw [HD.out.1.len]; exact HR.out.two
          · rw [HD.out.1.len]; exact HR.out.most
        go_wp2_with fail
        refine (settled_any d _ w0 wr F HE.out).mono ?_
        rintro e w' ⟨rfl, hs⟩
        have HG := Lib.hid hs
        clear hs
        go_wp2_with fail
        go_ret
        refine ⟨by rw [HP.out]; rfl, ?_⟩
        rw [HP.out]
        exact HG.out
end Go.Proofs.Ytiimlbkccoofmaa
