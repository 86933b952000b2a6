/- The document's disk: Twin. -/
import Derived.Test.YtiimlbkccoofmaaRef6
namespace Go.Proofs.Ytiimlbkccoofmaa
open Go.RowKit
set_option linter.unusedVariables false

theorem Sat.row_rdv {w0 w : World} {F : SP} {e : TypeId} {size n : Nat} {A : Option Addr} {c : Nat} {xs : List Value} (h : Sat w0 (Row e size (.slice A n c) n xs * F) w) : RdV w A xs := fun hx => by
  have hl := h.row_cases.1
  have hn : 0 < n := by
    rcases Nat.eq_zero_or_pos n with h0 | h0
    · subst h0; rw [Nat.zero_mul] at hl; exact absurd (List.eq_nil_of_length_eq_zero hl) hx
    · exact h0
  obtain ⟨g, e1, hg⟩ := h.row_at hn
  exact ⟨g, 0, e1, fun j hj => by rw [Nat.zero_add]; exact hg j hj⟩
theorem slv_ones (cs : List (Slc × Bool)) : ∀ u ∈ cs.map (fun x => slv x.1), u.oneCell' = true := by
  intro u hu; obtain ⟨x, _, rfl⟩ := List.mem_map.1 hu; rfl
theorem bool_ones (cs : List (Slc × Bool)) : ∀ u ∈ cs.map (fun x => Value.bool x.2), u.oneCell' = true := by
  intro u hu; obtain ⟨x, _, rfl⟩ := List.mem_map.1 hu; rfl
theorem pend_ones (ps : List (Nat × Slc)) : ∀ u ∈ ps.flatMap pendV, u.oneCell' = true := by
  intro u hu; obtain ⟨x, _, hx⟩ := List.mem_flatMap.1 hu; simp [pendV] at hx; rcases hx with rfl | rfl <;> rfl
def RTwinD (r : Nat) (D : Dk) (w0 : World) (F : SP) (e : Ending) (w' : World) : Prop := ∃ t, e = .returned (.pointer (some ⟨t, 0, none⟩)) ∧ Sat w0 (RDisk t D * (RDisk r D * F)) w'
set_option maxHeartbeats 2000000 in
theorem rTwin_any (r : Nat) (D : Dk) (w0 w : World) (F : SP) (h : Sat w0 (RDisk r D * F) w) (hw2 : D.pend.length ≤ 1000000000) :
    Calls Try.prog 25 #[.pointer (some ⟨r, 0, none⟩)] w (RTwinD r D w0 F) := by
  obtain ⟨vs, vt, vp, cs, ps, hr, hs⟩ := h.rdisk
  obtain ⟨A0, c0, B1, b1, A1, c1, rfl, rfl, rfl, hle0, hleB, hle, hm0, hmB, hmx⟩ := hs.rvals
  have hpl : D.pend.length = ps.length := by rw [hr.pend]; simp
  rw [hpl] at hw2
  have hc0 := hs.rhead0
  have hc3 := (hs.of rdisk_d).cell 3
  have hc4 := (hs.of rdisk_d).cell 4
  have hc5 := hs.rhead5
  have HS := Lib.hid hs
  have HR := Lib.hid hr
  have HM : Hid (cs.length ≤ 65536) := hr.most
  obtain ⟨i0, hi0, hz0, hz1, hz2⟩ := info_parts info_slb
  obtain ⟨j0, hj0, hy0, hy1, hy2⟩ := info_parts info_bool
  obtain ⟨k0, hk0, hx0, hx1, hx2⟩ := info_parts info_rwrite
  clear h hs hr hpl
  go_enter Try.func25, Try.ntmps25
  go_upto_region 1 with fail
  go_cut [3] (fun s wx => ∃ t, s = .pointer (some ⟨t, 0, none⟩) ∧ Hid (Sat w0 (Pt t 62 #[.slice none 0 0, .slice none 0 0, .slice none 0 0, .int .i64 D.writes, .int .i64 D.armed, .bool D.off] * (RDiskC r (.slice A0 cs.length c0) (.slice B1 cs.length b1) (.slice A1 ps.length c1) cs ps D.armed D.writes D.off * F)) wx))
  case first =>
    go_region
    go_wp2_with fail
    go_meet
    exact ⟨_, rfl, (HS.out.allocPt _ _).drew⟩
  case rest =>
    obtain ⟨t, rfl, HC⟩ := hcut
    have p0 := HC.out.cell 0
    have p1 := HC.out.right.rhead0
    clear hc0 hc3 hc4 hc5
    go_upto_region 2 with fail
    go_cut [18] (fun _ wx => Hid (∃ A2 c2, Sat w0 (Pt t 62 #[.slice A2 cs.length c2, .slice none 0 0, .slice none 0 0, .int .i64 D.writes, .int .i64 D.armed, .bool D.off] * (Row 30 1 (.slice A2 cs.length c2) cs.length (cs.map fun x => slv x.1) * (RDiskC r (.slice A0 cs.length c0) (.slice B1 cs.length b1) (.slice A1 ps.length c1) cs ps D.armed D.writes D.off * F))) wx))
    case first =>
      go_region_law (refine step_appS rfl (.tmp 22) (.tmp 26) 59 rfl 30 i0 _ 1 24 Try.underlying59 hi0 hz0 hz1 hz2 rfl (by decide) (.slice none 0 0) 0 [] rfl w0 _ (by exact HC.out.drew.row_nil _ 1) A0 cs.length c0 (cs.map fun x => slv x.1) rfl (by exact (HC.out.drew.right.of rdisk_d).up2.row_rdv) (by simp) (slv_ones cs) (by have := HM.out; unfold maxLen; omega) (by have := HM.out; omega) ?_; intro A2 c2 w2 hs2; rw [Nat.zero_add, List.nil_append] at hs2; rw [Nat.zero_add]; have q0 := hs2.up2.cell 0; have f0 := hs2.up2.frozen 0; have HS2 := Lib.hid (hs2.up2.set 0 (.slice A2 cs.length c2)); clear hs2)
      all_goals
        go_wp2_with fail
        go_meet
        exact ⟨_, _, HS2.out⟩
    case rest =>
      obtain ⟨A2, c2, hc⟩ := hcut.out
      have p2 := hc.cell 1
      have p3 := hc.up3.rhead1
      have HC2 := Lib.hid hc
      clear hc hcut HC p0 p1
      go_upto_region 3 with fail
      go_cut [30] (fun _ wx => Hid (∃ A3 c3, Sat w0 (Pt t 62 #[.slice A2 cs.length c2, .slice A3 cs.length c3, .slice none 0 0, .int .i64 D.writes, .int .i64 D.armed, .bool D.off] * (Row 4 1 (.slice A3 cs.length c3) cs.length (cs.map fun x => .bool x.2) * (Row 30 1 (.slice A2 cs.length c2) cs.length (cs.map fun x => slv x.1) * (RDiskC r (.slice A0 cs.length c0) (.slice B1 cs.length b1) (.slice A1 ps.length c1) cs ps D.armed D.writes D.off * F)))) wx))
      case first =>
        go_region_law (refine step_appS rfl (.tmp 34) (.tmp 38) 36 rfl 4 j0 _ 1 1 Try.underlying36 hj0 hy0 hy1 hy2 rfl (by decide) (.slice none 0 0) 0 [] rfl w0 _ (by exact HC2.out.drew.row_nil _ 1) B1 cs.length b1 (cs.map fun x => .bool x.2) rfl (by exact (HC2.out.drew.right.right.of rdisk_d).up3.row_rdv) (by simp) (bool_ones cs) (by have := HM.out; unfold maxLen; omega) (by have := HM.out; omega) ?_; intro A3 c3 w2 hs2; rw [Nat.zero_add, List.nil_append] at hs2; rw [Nat.zero_add]; have q0 := hs2.up2.cell 1; have f0 := hs2.up2.frozen 1; have HS2 := Lib.hid (hs2.up2.set 1 (.slice A3 cs.length c3)); clear hs2)
        all_goals
          go_wp2_with fail
          go_meet
          exact ⟨_, _, HS2.out⟩
      case rest =>
        obtain ⟨A3, c3, hc⟩ := hcut.out
        have p0 := hc.cell 2
        have p1 := hc.up4.rhead2
        have HC3 := Lib.hid hc
        clear hc hcut HC2 p2 p3
        go_upto_region 4 with fail
        go_cut [42] (fun _ wx => Hid (∃ A4 c4, Sat w0 (Pt t 62 #[.slice A2 cs.length c2, .slice A3 cs.length c3, .slice A4 ps.length c4, .int .i64 D.writes, .int .i64 D.armed, .bool D.off] * (Row 80 2 (.slice A4 ps.length c4) ps.length (ps.flatMap pendV) * (Row 4 1 (.slice A3 cs.length c3) cs.length (cs.map fun x => .bool x.2) * (Row 30 1 (.slice A2 cs.length c2) cs.length (cs.map fun x => slv x.1) * (RDiskC r (.slice A0 cs.length c0) (.slice B1 cs.length b1) (.slice A1 ps.length c1) cs ps D.armed D.writes D.off * F))))) wx))
        case first =>
          go_region_law (refine step_appS rfl (.tmp 46) (.tmp 50) 60 rfl 80 k0 _ 2 32 Try.underlying60 hk0 hx0 hx1 hx2 rfl (by decide) (.slice none 0 0) 0 [] rfl w0 _ (by exact HC3.out.drew.row_nil _ 2) A1 ps.length c1 (ps.flatMap pendV) rfl (by exact (HC3.out.drew.right.right.right.of rdisk_d).up4.row_rdv) (by rw [flat2_len (fun _ => rfl)]) (pend_ones ps) (by unfold maxLen; omega) (by omega) ?_; intro A4 c4 w2 hs2; rw [Nat.zero_add, List.nil_append] at hs2; rw [Nat.zero_add]; have q0 := hs2.up2.cell 2; have f0 := hs2.up2.frozen 2; have HS2 := Lib.hid (hs2.up2.set 2 (.slice A4 ps.length c4)); clear hs2)
          all_goals
            go_wp2_with fail
            go_meet
            exact ⟨_, _, HS2.out⟩
        case rest =>
          obtain ⟨A4, c4, hc⟩ := hcut.out
          have HC4 := Lib.hid hc
          clear hc hcut HC3 p0 p1
          go_wp2_with fail
          go_ret
          refine ⟨t, rfl, ?_⟩
          have h1 := HC4.out.up5
          have h2 := (h1.of rdisk_d).up5.rol_split
          have h3 : Sat w0 (RDiskC t (.slice A2 cs.length c2) (.slice A3 cs.length c3) (.slice A4 ps.length c4) cs ps D.armed D.writes D.off * (RDiskC r (.slice A0 cs.length c0) (.slice B1 cs.length b1) (.slice A1 ps.length c1) cs ps D.armed D.writes D.off * F)) wc := h2.of (by unfold RDiskC; ac_rfl)
          exact ((h3.rdiskI HR.out).up2.rdiskI HR.out).up2
end Go.Proofs.Ytiimlbkccoofmaa
