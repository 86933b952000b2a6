/- The disk: Write. -/
import Derived.Test.YtiimlbkccoofmaaBlk2
import Derived.Test.YtiimlbkccoofmaaApp
namespace Go.Proofs.Ytiimlbkccoofmaa
open Go.RowKit
set_option linter.unusedVariables false

/-- A write that is taken. -/
def Dk.took (D : Dk) (i : Nat) (b : List UInt8) : Dk := ⟨D.cells, D.pend ++ [(i, b)], D.armed - 1, D.writes + 1, if D.armed = 1 then true else D.off⟩
def Dk.write (D : Dk) (i : Int) (b : List UInt8) : Dk × Int :=
  if D.ask i = 0 then
    if b.length = 512 then (D.took i.toNat b, if D.armed = 1 then 21 else 0) else (D, 23)
  else (D, D.ask i)
theorem info_write : (Try.prog.info? 72).map (fun i => (i.zero, i.size, i.bytes)) = some (some (.agg #[.int .i64 0, .slice none 0 0]), 2, 32) := by kernel_rfl
theorem lastOf_snoc (ps : List (Nat × Slc)) (i : Nat) (y : Slc) : lastOf (ps ++ [(i, y)]) = upd (lastOf ps) i (slv y) := by
  funext j
  unfold lastOf upd
  rw [List.reverse_append]
  simp only [List.reverse_cons, List.reverse_nil, List.nil_append, List.singleton_append, List.find?_cons]
  by_cases h : j = (i : Int)
  · subst h; simp
  · have : (((i : Nat) : Int) == j) = false := by simpa using fun e => h e.symm
    rw [this, if_neg h]
theorem disk_took {d C cc M nm k armed writes : Nat} {A2 A3 : Option Addr} {c2 c3 : Nat} {cs : List (Slc × Bool)} {ps : List (Nat × Slc)} {off : Bool} {b : List UInt8} {F G : SP} :
    MapP Try.prog 3 M (nm + 1) (upd (lastOf ps) k (.slice A2 b.length c2)) * (Pt d 68 #[.slice (some ⟨C, 0, none⟩) cs.length cc, .slice A3 (ps.length + 1) c3, .map (some M), .int .i64 armed, .int .i64 writes, .bool off] *
      (Row 72 2 (.slice A3 (ps.length + 1) c3) (ps.length + 1) (ps.flatMap pendV ++ [.int .i64 k, .slice A2 b.length c2]) * (Row 74 2 (.slice (some ⟨C, 0, none⟩) cs.length cc) cs.length (cs.flatMap cellV) * (RoL (cs.map (·.1) ++ ps.map (·.2)) * (G * (Ro A2 (b.map bv) * F)))))) =
    G * (DiskC d C cc M (nm + 1) (.slice A3 (ps.length + 1) c3) cs (ps ++ [(k, (A2, c2, b))]) armed writes off * F) := by
  have e1 : Ro A2 (b.map bv) = RoL [(A2, c2, b)] := rb_rol (A2, c2, b)
  have e2 : RoL (cs.map (·.1) ++ (ps ++ [(k, (A2, c2, b))]).map (·.2)) = RoL (cs.map (·.1) ++ ps.map (·.2)) * RoL [(A2, c2, b)] := by
    rw [List.map_append, ← List.append_assoc, ← rol_app]; rfl
  unfold DiskC
  rw [e1, e2, lastOf_snoc, List.flatMap_append, List.length_append]
  show _ = G * ((_ * (_ * (Row _ 2 _ (ps.length + 1) (_ ++ [.int .i64 k, .slice A2 b.length c2]) * (MapP _ _ _ _ (upd _ _ (.slice A2 b.length c2)) * (_ * _))))) * F)
  ac_rfl
def WriteD (d : Nat) (D : Dk) (i : Int) (b : List UInt8) (w0 : World) (F : SP) (e : Ending) (w' : World) : Prop :=
  e = .returned (.int .i64 (D.write i b).2) ∧ Sat w0 (Disk d (D.write i b).1 * F) w'
set_option maxHeartbeats 1000000 in
theorem write_any (d : Nat) (D : Dk) (i : Int) (A : Option Addr) (c : Nat) (b : List UInt8) (w0 w : World) (F : SP) (h : Sat w0 (Disk d D * F) w) (hb : Rd w A b) (hbl : b.length ≤ 140737488355328)
    (hw1 : D.writes ≤ 1000000000) (hw2 : D.pend.length ≤ 1000000000) (hw3 : D.armed ≤ 9223372036854775807) :
    Calls Try.prog 11 #[.pointer (some ⟨d, 0, none⟩), .int .i64 i, .slice A b.length c] w (WriteD d D i b w0 F) := by
  have HA := Lib.hid (asked_any d D i w0 w F h)
  have HH := Lib.hid h
  by_cases h0 : D.ask i = 0
  · by_cases h1 : b.length = 512
    · obtain ⟨C, cc, M, nm, vp, cs, ps, hr, hn, hs⟩ := h.disk
      have hi : 0 ≤ i ∧ i < cs.length ∧ D.off = false := by
        unfold Dk.ask at h0
        have : D.cells.length = cs.length := by rw [hr.cells]; simp
        rw [this] at h0
        split at h0
        · omega
        · split at h0
          · rename_i h1 h2; exact ⟨h2.1, h2.2, by simpa using h1⟩
          · omega
      obtain ⟨hi1, hi2, _⟩ := hi
      obtain ⟨k, rfl⟩ : ∃ k : Nat, i = k := ⟨i.toNat, by omega⟩
      have HP : Hid (D.write k b = (D.took k b, if D.armed = 1 then 21 else 0)) := by unfold Hid Dk.write; rw [if_pos h0, if_pos h1]; rfl
      obtain ⟨A1, c1, rfl, _, _⟩ := (hs.of disk_d).up3.row_sl
      have hc1 := hs.head.c1
      have hf1 := hs.headF 1
      have HC := Lib.hid (clone_any A c b w hb hbl)
      have hpl : D.pend.length = ps.length := by rw [hr.pend]; simp
      rw [hpl] at hw2
      obtain ⟨i0, hi, hz0, hz1, hz2⟩ := info_parts info_write
      have H0 := Lib.hid h0
      have H1 := Lib.hid h1
      have HR := Lib.hid hr
      have HN := Lib.hid hn
      have HS := Lib.hid hs
      have hne : ((b.length : Int) != 512) = false := by rw [h1]; rfl
      clear h0 h1 hr hn hs h hb hpl
      go_enter Try.func11, Try.ntmps11
      go_wp2_with fail
      refine HA.out.mono ?_
      rintro e w' ⟨rfl, rfl⟩
      rw [H0.out]
      go_wp2_with fail
      refine HC.out.mono ?_
      rintro e w1 ⟨v, rfl, hown, hvn, hchg⟩
      obtain ⟨A2, c2, rfl, hc2, hc3, hs1⟩ := HS.out.gotRo hchg hown
      have HS1 := Lib.hid hs1
      have HC2 := Lib.hid (And.intro hc2 hc3)
      have HF2 : Hid (A2 = none → b = []) := fun e => by subst e; have := hs1.rdv; by_cases hb0 : b = []; exact hb0; obtain ⟨_, _, e, _⟩ := this (by simpa using hb0); cases e
      clear hown hchg hs1 hvn hc2 hc3
      have hq1 := (HS1.out.right).head.c1
      have hg1 := (HS1.out.right).headF 1
      clear hc1 hf1
      go_wp2_with fail
      have hs2 := HS1.out.allocPt 72 #[.int .i64 k, .slice A2 b.length c2]
      obtain ⟨w2, hw2'⟩ : ∃ w2, w2 = w1.alloc (.cells #[.int .i64 k, .slice A2 b.length c2] 72) := ⟨_, rfl⟩
      obtain ⟨g, hg⟩ : ∃ g, g = w1.heap.size := ⟨_, rfl⟩
      rw [← hw2', ← hg] at hs2 ⊢
      clear hw2' hg HS1 hq1 hg1
      have hs3 := (hs2.up3.of disk_d).up3
      have q0 := hs2.cell 0
      have q1 := hs2.cell 1
      have q2 := (hs2.up3.of disk_d).cell 1
      have q5 := ((hs2.up3.of disk_d).alloc' (.cells #[.int .i64 k, .slice A2 b.length c2] 72)).cell 1
      have HS2 := Lib.hid hs3
      clear hs2 hs3
      go_region_law (refine step_appS rfl (.tmp 26) (.tmp 28) 66 rfl 72 i0 _ 2 32 Try.underlying66 hi hz0 hz1 hz2 rfl (by decide) (.slice A1 ps.length c1) ps.length (ps.flatMap pendV) rfl w0 _ (by exact HS2.out.drew.alloc' _) (some ⟨w2.heap.size, 0, none⟩) 1 1 [.int .i64 k, .slice A2 b.length c2] rfl (lit_rdv _ _ _) rfl (by intro u hu; simp at hu; rcases hu with rfl | rfl <;> rfl) (by unfold maxLen; omega) (by omega) ?_; intro A3 c3 w3 hs3; have q3 := hs3.up2.frozen 1; have q4 := hs3.up2.cell 1; have HS3 := Lib.hid hs3; clear hs3)
      all_goals
        go_wp2_with fail
        have hs4 := HS3.out.up2.set 1 (.slice A3 (ps.length + 1) c3)
        obtain ⟨w4, hw4⟩ : ∃ w4, w4 = w3.setCell ⟨d, 1, none⟩ (.slice A3 (ps.length + 1) c3) := ⟨_, rfl⟩
        rw [← hw4] at hs4 ⊢
        clear hw4 HS3 HS2 q0 q1 q2 q3 q4 q5
        have q0 := hs4.cell 2
        have q1 := hs4.up6.cell 1
        obtain ⟨w5, hrun, hs5, _⟩ := hs4.up4.drew.map_store (t := 65) Try.underlying3 Try.underlying65 k (by have := HR.out.most; omega) (.slice A2 b.length c2) (by have := HN.out; unfold maxLen; omega)
        have hs6 := (hs5.of disk_took).right
        have q4 := hs6.head.c4
        have q3 := hs6.head.c3
        have q5 := hs6.head.c5
        have f3 := hs6.headF 3
        have f4 := hs6.headF 4
        have f5 := hs6.headF 5
        have HS6 := Lib.hid hs6
        clear hs4 hs5 hs6
        go_region
        clear hrun q0 q1
        have hrep : ∀ D' : Dk, D'.cells = D.cells → D'.pend = D.pend ++ [(k, b)] → Rep D' cs (ps ++ [(k, (A2, c2, b))]) := fun D' e1 e2 =>
          ⟨e1.trans HR.out.cells, by rw [e2, HR.out.pend, List.map_append]; rfl, HR.out.fitc, fun x hx => by
            rcases List.mem_append.1 hx with hx | hx
            · exact HR.out.fitp x hx
            · simp at hx
              subst hx
              refine ⟨⟨fun e => ?_, fun e => ?_, HC2.out.1, HC2.out.2⟩, H1.out, by omega⟩
              · exact absurd (HF2.out e) (by intro e'; have := H1.out; rw [e'] at this; simp at this)
              · have := H1.out; rw [show b = [] from e] at this; simp at this, HR.out.two, HR.out.most⟩
        have HRep := Lib.hid hrep
        have HNm : Hid (nm + 1 ≤ (ps ++ [(k, ((A2, c2, b) : Slc))]).length) := by have := HN.out; unfold Hid; simp; omega
        clear hrep
        have hwr : (D.writes : Int) ≤ 1000000000 := by omega
        by_cases ha : D.armed = 0
        · have HE : Hid (Sat w0 (Disk d (D.took k b) * F) (w5.setCell ⟨d, 4, none⟩ (.int .i64 ((D.writes : Int) + 1)))) :=
            Sat.diskI (D := D.took k b) ((HS6.out.setWrites (D.writes + 1) (by omega)).of (by unfold Dk.took; rw [ha]; rfl)) (HRep.out _ rfl rfl) HNm.out
          rw [ha] at q3
          have HA0 := Lib.hid ha
          clear ha
          go_wp2_with fail
          go_ret
          refine ⟨by rw [HP.out, HA0.out]; rfl, ?_⟩
          rw [HP.out]
          exact HE.out
        · by_cases ha1 : D.armed = 1
          · have HE : Hid (Sat w0 (Disk d (D.took k b) * F) (((w5.setCell ⟨d, 4, none⟩ (.int .i64 ((D.writes : Int) + 1))).setCell ⟨d, 3, none⟩ (.int .i64 0)).setCell ⟨d, 5, none⟩ (.bool true))) :=
              Sat.diskI (D := D.took k b) ((((HS6.out.setWrites (D.writes + 1) (by omega)).setArmed 0 (by omega)).setOff true).of (by unfold Dk.took; rw [ha1]; rfl)) (HRep.out _ rfl rfl) HNm.out
            rw [ha1] at q3
            have HA0 := Lib.hid ha1
            clear ha ha1
            go_wp2_with fail
            go_ret
            refine ⟨by rw [HP.out, HA0.out]; rfl, ?_⟩
            rw [HP.out]
            exact HE.out
          · have HE : Hid (Sat w0 (Disk d (D.took k b) * F) ((w5.setCell ⟨d, 4, none⟩ (.int .i64 ((D.writes : Int) + 1))).setCell ⟨d, 3, none⟩ (.int .i64 ((D.armed : Int) - 1)))) :=
              Sat.diskI (D := D.took k b) (((HS6.out.setWrites (D.writes + 1) (by omega)).setArmed (D.armed - 1) (by omega)).of (by unfold Dk.took; rw [if_neg ha1])) (HRep.out _ rfl rfl) HNm.out
            have HA0 := Lib.hid ha1
            have ha2 : (0 : Int) < D.armed := by omega
            have ha3 : ((D.armed : Int) - 1 == 0) = false := by rw [beq_eq_false_iff_ne]; omega
            have ha4 : (D.armed : Int) ≤ 9223372036854775807 := by omega
            clear ha ha1
            go_wp2_with fail
            go_ret
            refine ⟨by rw [HP.out, if_neg HA0.out]; rfl, ?_⟩
            rw [HP.out]
            exact HE.out
    · have HP : Hid (D.write i b = (D, 23)) := by unfold Hid Dk.write; rw [if_pos h0, if_neg h1]
      have hne : ((b.length : Int) != 512) = true := by rw [bne_iff_ne]; omega
      have H0 := Lib.hid h0
      clear h0 h1 h hb
      go_enter Try.func11, Try.ntmps11
      go_wp2_with fail
      refine HA.out.mono ?_
      rintro e w' ⟨rfl, rfl⟩
      rw [H0.out]
      go_wp2_with fail
      go_ret
      refine ⟨by rw [HP.out]; rfl, ?_⟩
      rw [HP.out]
      exact HH.out
  · have HP : Hid (D.write i b = (D, D.ask i)) := by unfold Hid Dk.write; rw [if_neg h0]
    have hne : (D.ask i != 0) = true := by simpa using h0
    clear h0 h hb
    go_enter Try.func11, Try.ntmps11
    go_wp2_with fail
    refine HA.out.mono ?_
    rintro e w' ⟨rfl, rfl⟩
    go_wp2_with fail
    go_ret
    refine ⟨by rw [HP.out]; rfl, ?_⟩
    rw [HP.out]
    exact HH.out
end Go.Proofs.Ytiimlbkccoofmaa
