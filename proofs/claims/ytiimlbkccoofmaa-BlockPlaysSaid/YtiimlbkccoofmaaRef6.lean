/- The document's disk: Write, Twin. -/
import Derived.Test.YtiimlbkccoofmaaRef5
namespace Go.Proofs.Ytiimlbkccoofmaa
open Go.RowKit
set_option linter.unusedVariables false

theorem info_rwrite : (Try.prog.info? 80).map (fun i => (i.zero, i.size, i.bytes)) = some (some (.agg #[.int .i64 0, .slice none 0 0]), 2, 32) := by kernel_rfl
theorem bv_ones (l : List UInt8) : ∀ u ∈ l.map bv, u.oneCell' = true := bv_one l
theorem two_ones (a : Int) (v : Value) (hv : v.oneCell' = true) : ∀ u ∈ [Value.int .i64 a, v], u.oneCell' = true := by
  intro u hu; simp at hu; rcases hu with rfl | rfl
  · rfl
  · exact hv
theorem rtook {r k armed writes : Nat} {vs vt : Value} {A2 A3 : Option Addr} {c2 c3 : Nat} {cs : List (Slc × Bool)} {ps : List (Nat × Slc)} {off : Bool} {b : List UInt8} {F : SP} :
    Row 80 2 (.slice A3 (ps.length + 1) c3) (ps.length + 1) (ps.flatMap pendV ++ [.int .i64 k, .slice A2 b.length c2]) * (Pt r 62 #[vs, vt, .slice A3 (ps.length + 1) c3, .int .i64 writes, .int .i64 armed, .bool off] *
      (Row 30 1 vs cs.length (cs.map fun x => slv x.1) * (Row 4 1 vt cs.length (cs.map fun x => .bool x.2) * (RoL (cs.map (·.1) ++ ps.map (·.2)) * (Ro A2 (b.map bv) * F))))) =
    RDiskC r vs vt (.slice A3 (ps.length + 1) c3) cs (ps ++ [(k, (A2, c2, b))]) armed writes off * F := by
  have e1 : Ro A2 (b.map bv) = RoL [(A2, c2, b)] := rb_rol (A2, c2, b)
  have e2 : RoL (cs.map (·.1) ++ (ps ++ [(k, (A2, c2, b))]).map (·.2)) = RoL (cs.map (·.1) ++ ps.map (·.2)) * RoL [(A2, c2, b)] := by
    rw [List.map_append, ← List.append_assoc, ← rol_app]; rfl
  unfold RDiskC
  rw [e1, e2, List.flatMap_append, List.length_append]
  show _ = (_ * (_ * (_ * (Row _ 2 _ (ps.length + 1) (_ ++ [.int .i64 k, .slice A2 b.length c2]) * (_ * _))))) * F
  ac_rfl
set_option maxHeartbeats 2000000 in
theorem rWrite_any (r : Nat) (D : Dk) (i : Int) (A : Option Addr) (c n : Nat) (b : List UInt8) (w0 w : World) (F : SP) (h : Sat w0 (RDisk r D * F) w) (hb : Rd w A b) (hbn : b.length = n) (hbl : n ≤ 140737488355328)
    (hw1 : D.writes ≤ 1000000000) (hw2 : D.pend.length ≤ 1000000000) (hw3 : D.armed ≤ 9223372036854775807) :
    Calls Try.prog 36 #[.pointer (some ⟨r, 0, none⟩), .int .i64 i, .slice A n c] w fun e w' => e = .returned (.int .i64 (D.write i b).2) ∧ Sat w0 (RDisk r (D.write i b).1 * F) w' := by
  subst hbn
  have HH := Lib.hid h
  obtain ⟨vs, vt, vp, cs, ps, hr, hs⟩ := h.rdisk
  obtain ⟨A0, c0, B1, b1, A1, c1, rfl, rfl, rfl, hle0, hleB, hle, hm0, hmB, hmx⟩ := hs.rvals
  have hpl : D.pend.length = ps.length := by rw [hr.pend]; simp
  rw [hpl] at hw2
  have hc5 := hs.rhead5
  have hc0 := hs.rhead0
  have hln := hr.len
  have HE : Hid (∀ j : Int, D.ask j = if D.off then 21 else if 0 ≤ j ∧ j < cs.length then 0 else 22) := fun j => by unfold Dk.ask; rw [hln]
  by_cases ho : D.off = true
  · have HP : Hid (D.write i b = (D, 21)) := by
      unfold Hid Dk.write
      have : D.ask i = 21 := by unfold Dk.ask; rw [if_pos ho]
      rw [this, if_neg (by decide)]
    rw [ho] at hc5
    clear ho hr hs h hln hb
    go_enter Try.func36, Try.ntmps36
    go_wp2_with fail
    go_ret
    rw [HP.out]
    exact ⟨rfl, HH.out⟩
  · have ho' : D.off = false := by simpa using ho
    rw [ho'] at hc5
    have HO := Lib.hid ho
    have HO' := Lib.hid ho'
    clear ho ho'
    by_cases hi : 0 ≤ i ∧ i < cs.length
    · obtain ⟨hi1, hi2⟩ := hi
      have hask : D.ask i = 0 := by rw [HE.out, if_neg HO.out, if_pos ⟨hi1, hi2⟩]
      have him : ¬ (cs.length : Int) ≤ i := by omega
      have hin : ¬ i < 0 := by omega
      by_cases h512 : b.length = 512
      · obtain ⟨k, rfl⟩ : ∃ k : Nat, i = k := ⟨i.toNat, by omega⟩
        have HP : Hid (D.write k b = (D.took k b, if D.armed = 1 then 21 else 0)) := by unfold Hid Dk.write; rw [if_pos hask, if_pos h512]; rfl
        obtain ⟨i0, hi0, hz0, hz1, hz2⟩ := info_parts info_rwrite
        obtain ⟨j0, hj0, hy0, hy1, hy2⟩ := info_parts info_u8
        have hne : ((b.length : Int) != 512) = false := by rw [h512]; rfl
        have HS := Lib.hid hs
        have HR := Lib.hid hr
        have HB := Lib.hid hb
        have H5 := Lib.hid h512
        have hb5 : b.length ≤ 512 := by omega
        have hc2 := hs.rhead2
        clear hs hr hb h hask h512 hln
        go_enter Try.func36, Try.ntmps36
        go_upto_region 7 with fail
        have h1 := (HS.out.allocPt 5 #[]).row_pt (n := 0) (cap := 0) (size := 1) (Nat.le_refl _) (Nat.zero_le _) rfl
        have HE1 : Hid (Sat w0 (Row 5 1 (.slice (some ⟨w.heap.size, 0, none⟩) 0 0) 0 [] * (RDiskC r (.slice A0 cs.length c0) (.slice B1 cs.length b1) (.slice A1 ps.length c1) cs ps D.armed D.writes D.off * F)) (w.alloc (.cells #[] 5))) := h1
        have q1 := HE1.out.right.rhead2
        clear h1
        go_region_law (first
          | (refine step_appS rfl (.tmp 31) (.tmp 32) 30 rfl 5 j0 _ 1 1 Try.underlying30 hj0 hy0 hy1 hy2 rfl (by decide) (.slice (some ⟨w.heap.size, 0, none⟩) 0 0) 0 [] rfl w0 _ (by exact HE1.out.drew) A b.length c (b.map bv) rfl (by exact HB.out.new (((Chg.refl No w).alloc _).drew)) (by simp) (bv_one b) (by unfold maxLen; omega) (by omega) ?_; intro A2 c2 w2 hs2; rw [Nat.zero_add] at hs2; rw [Nat.zero_add]; rw [List.nil_append] at hs2; obtain ⟨A2', c2', e2, _, _, hs3⟩ := Sat.row_ro hs2; injection e2 with e2 _ e3; subst e2; subst e3; clear hs2; have q2 := hs3.right.rhead2; have q3 := fun o => (hs3.right.alloc' o).rhead2; have HS2 := Lib.hid (hs3.up2.of rdisk_d).up4; clear hs3)
          | (refine step_appS rfl (.tmp 29) (.tmp 35) 60 rfl 80 i0 _ 2 32 Try.underlying60 hi0 hz0 hz1 hz2 rfl (by decide) (.slice A1 ps.length c1) ps.length (ps.flatMap pendV) rfl w0 _ (by exact HS2.out.alloc' _) (some ⟨w2.heap.size, 0, none⟩) 1 1 [.int .i64 k, .slice A2 b.length c2] rfl (lit_rdv _ _ _) rfl (two_ones _ _ rfl) (by unfold maxLen; omega) (by omega) ?_; intro A3 c3 w3 hs3; have q4 := hs3.up2.frozen 2; have q5 := hs3.up2.cell 2; have q6 : True := trivial; have HS3 := Lib.hid hs3; clear hs3))
        all_goals
          have hs4 := (HS3.out.up2.set 2 (.slice A3 (ps.length + 1) c3)).up2
          have hs5 := hs4.of (rtook (r := r) (k := k) (armed := D.armed) (writes := D.writes) (vs := .slice A0 cs.length c0) (vt := .slice B1 cs.length b1) (A2 := A2) (A3 := A3) (c2 := c2) (c3 := c3) (cs := cs) (ps := ps) (off := D.off) (b := b) (F := F))
          have q3 := HS3.out.up2.cell 3
          have q4 := HS3.out.up2.cell 4
          have q5 := HS3.out.up2.cell 5
          have f3 := HS3.out.up2.frozen 3
          have f4 := HS3.out.up2.frozen 4
          have f5 := HS3.out.up2.frozen 5
          clear HS2 hs4 HE1 q1
          have HS6 := Lib.hid hs5
          have HRep : Hid (∀ D' : Dk, D'.cells = D.cells → D'.pend = D.pend ++ [(k, b)] → RRep D' cs (ps ++ [(k, (A2, c2, b))])) := fun D' e1 e2 =>
            ⟨e1.trans HR.out.cells, by rw [e2, HR.out.pend, List.map_append]; rfl, HR.out.fitc, fun x hx => by
              rcases List.mem_append.1 hx with hx | hx
              · exact HR.out.fitp x hx
              · simp at hx
                subst hx
                exact ⟨H5.out, by omega⟩, HR.out.two, HR.out.most⟩
          have hwr : (D.writes : Int) ≤ 1000000000 := by omega
          clear hs5
          by_cases ha : D.armed = 0
          · have HE : Hid (Sat w0 (RDisk r (D.took k b) * F) ((w3.setCell ⟨r, 2, none⟩ (.slice A3 (ps.length + 1) c3)).setCell ⟨r, 3, none⟩ (.int .i64 ((D.writes : Int) + 1)))) :=
              Sat.rdiskI (D := D.took k b) ((HS6.out.rWrites (D.writes + 1) (by omega)).of (by unfold Dk.took; rw [ha]; rfl)) (HRep.out _ rfl rfl)
            rw [ha] at q4
            have HA0 := Lib.hid ha
            clear ha
            go_wp2_with fail
            go_ret
            refine ⟨by rw [HP.out, HA0.out]; rfl, ?_⟩
            rw [HP.out]
            exact HE.out
          · by_cases ha1 : D.armed = 1
            · have HE : Hid (Sat w0 (RDisk r (D.took k b) * F) ((((w3.setCell ⟨r, 2, none⟩ (.slice A3 (ps.length + 1) c3)).setCell ⟨r, 3, none⟩ (.int .i64 ((D.writes : Int) + 1))).setCell ⟨r, 4, none⟩ (.int .i64 0)).setCell ⟨r, 5, none⟩ (.bool true))) :=
                Sat.rdiskI (D := D.took k b) ((((HS6.out.rWrites (D.writes + 1) (by omega)).rArmed 0 (by omega)).rOff true).of (by unfold Dk.took; rw [ha1]; rfl)) (HRep.out _ rfl rfl)
              rw [ha1] at q4
              have HA0 := Lib.hid ha1
              clear ha ha1
              go_wp2_with fail
              go_ret
              refine ⟨by rw [HP.out, HA0.out]; rfl, ?_⟩
              rw [HP.out]
              exact HE.out
            · have HE : Hid (Sat w0 (RDisk r (D.took k b) * F) (((w3.setCell ⟨r, 2, none⟩ (.slice A3 (ps.length + 1) c3)).setCell ⟨r, 3, none⟩ (.int .i64 ((D.writes : Int) + 1))).setCell ⟨r, 4, none⟩ (.int .i64 ((D.armed : Int) - 1)))) :=
                Sat.rdiskI (D := D.took k b) (((HS6.out.rWrites (D.writes + 1) (by omega)).rArmed (D.armed - 1) (by omega)).of (by unfold Dk.took; rw [if_neg ha1])) (HRep.out _ rfl rfl)
              have HA0 := Lib.hid ha1
              have ha2 : (0 : Int) < D.armed := by omega
              have ha3 : ((D.armed : Int) - 1 == 0) = false := by rw [beq_eq_false_iff_ne]; omega
              have ha4 : (D.armed : Int) ≤ 9223372036854775807 := by omega
              clear ha ha1
              go_wp2_with fail
              go_ret
              refine ⟨by rw [HP.out, if_neg HA0.out]; rfl, ?_⟩
              rw [HP.out]
              exact HE.out
      · have HP : Hid (D.write i b = (D, 23)) := by unfold Hid Dk.write; rw [if_pos hask, if_neg h512]
        have hne : ((b.length : Int) != 512) = true := by rw [bne_iff_ne]; omega
        clear hs hr hb h hask hln
        go_enter Try.func36, Try.ntmps36
        go_wp2_with fail
        go_ret
        rw [HP.out]
        exact ⟨rfl, HH.out⟩
    · have HP : Hid (D.write i b = (D, 22)) := by
        unfold Hid Dk.write
        have : D.ask i = 22 := by rw [HE.out, if_neg HO.out, if_neg hi]
        rw [this, if_neg (by decide)]
      by_cases hi1 : i < 0
      · clear hr hs h hln hi hb
        go_enter Try.func36, Try.ntmps36
        go_wp2_with fail
        go_ret
        rw [HP.out]
        exact ⟨rfl, HH.out⟩
      · have hi2 : (cs.length : Int) ≤ i := by omega
        clear hr hs h hln hi hb
        go_enter Try.func36, Try.ntmps36
        go_wp2_with fail
        go_ret
        rw [HP.out]
        exact ⟨rfl, HH.out⟩
end Go.Proofs.Ytiimlbkccoofmaa
