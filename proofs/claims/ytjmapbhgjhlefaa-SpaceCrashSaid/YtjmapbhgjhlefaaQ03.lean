/- Joined, as they were built one by one: Blk3 Blk4 Blk5 Octet Crc. -/
import Derived.Laws.BitsAllLaws
import Derived.Test.YtjmapbhgjhlefaaQ02
namespace Go.Proofs.Ytjmapbhgjhlefaa
open Go.RowKit
set_option linter.unusedVariables false
set_option maxRecDepth 100000

/-- A write that is taken. -/
def Dk.took (D : Dk) (i : Nat) (b : List UInt8) : Dk := ⟨D.cells, D.pend ++ [(i, b)], D.armed - 1, D.writes + 1, if D.armed = 1 then true else D.off⟩
def Dk.write (D : Dk) (i : Int) (b : List UInt8) : Dk × Int :=
  if D.ask i = 0 then
    if b.length = 512 then (D.took i.toNat b, if D.armed = 1 then 21 else 0) else (D, 23)
  else (D, D.ask i)
theorem info_write : (Try.prog.info? 117).map (fun i => (i.zero, i.size, i.bytes)) = some (some (.agg #[.int .i64 0, .slice none 0 0]), 2, 32) := by kernel_rfl
theorem lastOf_snoc (ps : List (Nat × Slc)) (i : Nat) (y : Slc) : lastOf (ps ++ [(i, y)]) = upd (lastOf ps) i (slv y) := by
  funext j
  unfold lastOf upd
  rw [List.reverse_append]
  simp only [List.reverse_cons, List.reverse_nil, List.nil_append, List.singleton_append, List.find?_cons]
  by_cases h : j = (i : Int)
  · subst h; simp
  · have : (((i : Nat) : Int) == j) = false := by simpa using fun e => h e.symm
    rw [this, if_neg h]
theorem disk_took {d C cc M nm k armed writes : Nat} {A2 A3 : Option Addr} {c2 c3 : Nat} {cs : List (Slc × Bool)} {ps : List (Nat × Slc)} {off : Bool} {b : List UInt8} {F G : SP} :
    MapP Try.prog 3 M (nm + 1) (upd (lastOf ps) k (.slice A2 b.length c2)) * (Pt d 98 #[.slice (some ⟨C, 0, none⟩) cs.length cc, .slice A3 (ps.length + 1) c3, .map (some M), .int .i64 armed, .int .i64 writes, .bool off] *
      (Row 117 2 (.slice A3 (ps.length + 1) c3) (ps.length + 1) (ps.flatMap pendV ++ [.int .i64 k, .slice A2 b.length c2]) * (Row 119 2 (.slice (some ⟨C, 0, none⟩) cs.length cc) cs.length (cs.flatMap cellV) * (RoL (cs.map (·.1) ++ ps.map (·.2)) * (G * (Ro A2 (b.map bv) * F)))))) =
    G * (DiskC d C cc M (nm + 1) (.slice A3 (ps.length + 1) c3) cs (ps ++ [(k, (A2, c2, b))]) armed writes off * F) := by
  have e1 : Ro A2 (b.map bv) = RoL [(A2, c2, b)] := rb_rol (A2, c2, b)
  have e2 : RoL (cs.map (·.1) ++ (ps ++ [(k, (A2, c2, b))]).map (·.2)) = RoL (cs.map (·.1) ++ ps.map (·.2)) * RoL [(A2, c2, b)] := by
    rw [List.map_append, ← List.append_assoc, ← rol_app]; rfl
  unfold DiskC
  rw [e1, e2, lastOf_snoc, List.flatMap_append, List.length_append]
  show _ = G * ((_ * (_ * (Row _ 2 _ (ps.length + 1) (_ ++ [.int .i64 k, .slice A2 b.length c2]) * (MapP _ _ _ _ (upd _ _ (.slice A2 b.length c2)) * (_ * _))))) * F)
  ac_rfl
def WriteD (d : Nat) (D : Dk) (i : Int) (b : List UInt8) (w0 : World) (F : SP) (e : Ending) (w' : World) : Prop :=
  e = .returned (.int .i64 (D.write i b).2) ∧ Sat w0 (Disk d (D.write i b).1 * F) w'
set_option maxHeartbeats 1000000 in
theorem write_any (d : Nat) (D : Dk) (i : Int) (A : Option Addr) (c : Nat) (b : List UInt8) (w0 w : World) (F : SP) (h : Sat w0 (Disk d D * F) w) (hb : Rd w A b) (hbl : b.length ≤ 140737488355328)
    (hw1 : D.writes ≤ 1000000000) (hw2 : D.pend.length ≤ 1000000000) (hw3 : D.armed ≤ 9223372036854775807) :
    Calls Try.prog 70 #[.pointer (some ⟨d, 0, none⟩), .int .i64 i, .slice A b.length c] w (WriteD d D i b w0 F) := by
  have HA := Lib.hid (asked_any d D i w0 w F h)
  have HH := Lib.hid h
  by_cases h0 : D.ask i = 0
  · by_cases h1 : b.length = 512
    · obtain ⟨C, cc, M, nm, vp, cs, ps, hr, hn, hs⟩ := h.disk
      have hi : 0 ≤ i ∧ i < cs.length ∧ D.off = false := by
        unfold Dk.ask at h0
        have : D.cells.length = cs.length := by rw [hr.cells]; simp
        rw [this] at h0
        split at h0
        · omega
        · split at h0
          · rename_i h1 h2; exact ⟨h2.1, h2.2, by simpa using h1⟩
          · omega
      obtain ⟨hi1, hi2, _⟩ := hi
      obtain ⟨k, rfl⟩ : ∃ k : Nat, i = k := ⟨i.toNat, by omega⟩
      have HP : Hid (D.write k b = (D.took k b, if D.armed = 1 then 21 else 0)) := by unfold Hid Dk.write; rw [if_pos h0, if_pos h1]; rfl
      obtain ⟨A1, c1, rfl, _, _⟩ := (hs.of disk_d).up3.row_sl
      have hc1 := hs.head.c1
      have hf1 := hs.headF 1
      have HC := Lib.hid (clone_any A c b w hb hbl)
      have hpl : D.pend.length = ps.length := by rw [hr.pend]; simp
      rw [hpl] at hw2
      obtain ⟨i0, hi, hz0, hz1, hz2⟩ := info_parts info_write
      have H0 := Lib.hid h0
      have H1 := Lib.hid h1
      have HR := Lib.hid hr
      have HN := Lib.hid hn
      have HS := Lib.hid hs
      have hne : ((b.length : Int) != 512) = false := by rw [h1]; rfl
      clear h0 h1 hr hn hs h hb hpl
      go_enter Try.func70, Try.ntmps70
      go_wp2_with fail
      refine HA.out.mono ?_
      rintro e w' ⟨rfl, rfl⟩
      rw [H0.out]
      go_wp2_with fail
      refine HC.out.mono ?_
      rintro e w1 ⟨v, rfl, hown, hvn, hchg⟩
      obtain ⟨A2, c2, rfl, hc2, hc3, hs1⟩ := HS.out.gotRo hchg hown
      have HS1 := Lib.hid hs1
      have HC2 := Lib.hid (And.intro hc2 hc3)
      have HF2 : Hid (A2 = none → b = []) := fun e => by subst e; have := hs1.rdv; by_cases hb0 : b = []; exact hb0; obtain ⟨_, _, e, _⟩ := this (by simpa using hb0); cases e
      clear hown hchg hs1 hvn hc2 hc3
      have hq1 := (HS1.out.right).head.c1
      have hg1 := (HS1.out.right).headF 1
      clear hc1 hf1
      go_wp2_with fail
      have hs2 := HS1.out.allocPt 117 #[.int .i64 k, .slice A2 b.length c2]
      obtain ⟨w2, hw2'⟩ : ∃ w2, w2 = w1.alloc (.cells #[.int .i64 k, .slice A2 b.length c2] 117) := ⟨_, rfl⟩
      obtain ⟨g, hg⟩ : ∃ g, g = w1.heap.size := ⟨_, rfl⟩
      rw [← hw2', ← hg] at hs2 ⊢
      clear hw2' hg HS1 hq1 hg1
      have hs3 := (hs2.up3.of disk_d).up3
      have q0 := hs2.cell 0
      have q1 := hs2.cell 1
      have q2 := (hs2.up3.of disk_d).cell 1
      have q5 := ((hs2.up3.of disk_d).alloc' (.cells #[.int .i64 k, .slice A2 b.length c2] 117)).cell 1
      have HS2 := Lib.hid hs3
      clear hs2 hs3
      go_region_law (refine step_appS rfl (.tmp 26) (.tmp 28) 96 rfl 117 i0 _ 2 32 Try.underlying96 hi hz0 hz1 hz2 rfl (by decide) (.slice A1 ps.length c1) ps.length (ps.flatMap pendV) rfl w0 _ (by exact HS2.out.drew.alloc' _) (some ⟨w2.heap.size, 0, none⟩) 1 1 [.int .i64 k, .slice A2 b.length c2] rfl (lit_rdv _ _ _) rfl (by intro u hu; simp at hu; rcases hu with rfl | rfl <;> rfl) (by unfold maxLen; omega) (by omega) ?_; intro A3 c3 w3 hs3; have q3 := hs3.up2.frozen 1; have q4 := hs3.up2.cell 1; have HS3 := Lib.hid hs3; clear hs3)
      all_goals
        go_wp2_with fail
        have hs4 := HS3.out.up2.set 1 (.slice A3 (ps.length + 1) c3)
        obtain ⟨w4, hw4⟩ : ∃ w4, w4 = w3.setCell ⟨d, 1, none⟩ (.slice A3 (ps.length + 1) c3) := ⟨_, rfl⟩
        rw [← hw4] at hs4 ⊢
        clear hw4 HS3 HS2 q0 q1 q2 q3 q4 q5
        have q0 := hs4.cell 2
        have q1 := hs4.up6.cell 1
        obtain ⟨w5, hrun, hs5, _⟩ := hs4.up4.drew.map_store (t := 95) Try.underlying3 Try.underlying95 k (by have := HR.out.most; omega) (.slice A2 b.length c2) (by have := HN.out; unfold maxLen; omega)
        have hs6 := (hs5.of disk_took).right
        have q4 := hs6.head.c4
        have q3 := hs6.head.c3
        have q5 := hs6.head.c5
        have f3 := hs6.headF 3
        have f4 := hs6.headF 4
        have f5 := hs6.headF 5
        have HS6 := Lib.hid hs6
        clear hs4 hs5 hs6
        go_region
        clear hrun q0 q1
        have hrep : ∀ D' : Dk, D'.cells = D.cells → D'.pend = D.pend ++ [(k, b)] → Rep D' cs (ps ++ [(k, (A2, c2, b))]) := fun D' e1 e2 =>
          ⟨e1.trans HR.out.cells, by rw [e2, HR.out.pend, List.map_append]; rfl, HR.out.fitc, fun x hx => by
            rcases List.mem_append.1 hx with hx | hx
            · exact HR.out.fitp x hx
            · simp at hx
              subst hx
              refine ⟨⟨fun e => ?_, fun e => ?_, HC2.out.1, HC2.out.2⟩, H1.out, by omega⟩
              · exact absurd (HF2.out e) (by intro e'; have := H1.out; rw [e'] at this; simp at this)
              · have := H1.out; rw [show b = [] from e] at this; simp at this, HR.out.two, HR.out.most⟩
        have HRep := Lib.hid hrep
        have HNm : Hid (nm + 1 ≤ (ps ++ [(k, ((A2, c2, b) : Slc))]).length) := by have := HN.out; unfold Hid; simp; omega
        clear hrep
        have hwr : (D.writes : Int) ≤ 1000000000 := by omega
        by_cases ha : D.armed = 0
        · have HE : Hid (Sat w0 (Disk d (D.took k b) * F) (w5.setCell ⟨d, 4, none⟩ (.int .i64 ((D.writes : Int) + 1)))) :=
            Sat.diskI (D := D.took k b) ((HS6.out.setWrites (D.writes + 1) (by omega)).of (by unfold Dk.took; rw [ha]; rfl)) (HRep.out _ rfl rfl) HNm.out
          rw [ha] at q3
          have HA0 := Lib.hid ha
          clear ha
          go_wp2_with fail
          go_ret
          refine ⟨by rw [HP.out, HA0.out]; rfl, ?_⟩
          rw [HP.out]
          exact HE.out
        · by_cases ha1 : D.armed = 1
          · have HE : Hid (Sat w0 (Disk d (D.took k b) * F) (((w5.setCell ⟨d, 4, none⟩ (.int .i64 ((D.writes : Int) + 1))).setCell ⟨d, 3, none⟩ (.int .i64 0)).setCell ⟨d, 5, none⟩ (.bool true))) :=
              Sat.diskI (D := D.took k b) ((((HS6.out.setWrites (D.writes + 1) (by omega)).setArmed 0 (by omega)).setOff true).of (by unfold Dk.took; rw [ha1]; rfl)) (HRep.out _ rfl rfl) HNm.out
            rw [ha1] at q3
            have HA0 := Lib.hid ha1
            clear ha ha1
            go_wp2_with fail
            go_ret
            refine ⟨by rw [HP.out, HA0.out]; rfl, ?_⟩
            rw [HP.out]
            exact HE.out
          · have HE : Hid (Sat w0 (Disk d (D.took k b) * F) ((w5.setCell ⟨d, 4, none⟩ (.int .i64 ((D.writes : Int) + 1))).setCell ⟨d, 3, none⟩ (.int .i64 ((D.armed : Int) - 1)))) :=
              Sat.diskI (D := D.took k b) (((HS6.out.setWrites (D.writes + 1) (by omega)).setArmed (D.armed - 1) (by omega)).of (by unfold Dk.took; rw [if_neg ha1])) (HRep.out _ rfl rfl) HNm.out
            have HA0 := Lib.hid ha1
            have ha2 : (0 : Int) < D.armed := by omega
            have ha3 : ((D.armed : Int) - 1 == 0) = false := by rw [beq_eq_false_iff_ne]; omega
            have ha4 : (D.armed : Int) ≤ 9223372036854775807 := by omega
            clear ha ha1
            go_wp2_with fail
            go_ret
            refine ⟨by rw [HP.out, if_neg HA0.out]; rfl, ?_⟩
            rw [HP.out]
            exact HE.out
    · have HP : Hid (D.write i b = (D, 23)) := by unfold Hid Dk.write; rw [if_pos h0, if_neg h1]
      have hne : ((b.length : Int) != 512) = true := by rw [bne_iff_ne]; omega
      have H0 := Lib.hid h0
      clear h0 h1 h hb
      go_enter Try.func70, Try.ntmps70
      go_wp2_with fail
      refine HA.out.mono ?_
      rintro e w' ⟨rfl, rfl⟩
      rw [H0.out]
      go_wp2_with fail
      go_ret
      refine ⟨by rw [HP.out]; rfl, ?_⟩
      rw [HP.out]
      exact HH.out
  · have HP : Hid (D.write i b = (D, D.ask i)) := by unfold Hid Dk.write; rw [if_neg h0]
    have hne : (D.ask i != 0) = true := by simpa using h0
    clear h0 h hb
    go_enter Try.func70, Try.ntmps70
    go_wp2_with fail
    refine HA.out.mono ?_
    rintro e w' ⟨rfl, rfl⟩
    go_wp2_with fail
    go_ret
    refine ⟨by rw [HP.out]; rfl, ?_⟩
    rw [HP.out]
    exact HH.out
end Go.Proofs.Ytjmapbhgjhlefaa
namespace Go.Proofs.Ytjmapbhgjhlefaa
open Go.RowKit
set_option linter.unusedVariables false
set_option maxRecDepth 100000

def Dk.new (n : Nat) : Dk := ⟨List.replicate n ([], false), [], 0, 0, false⟩
def NewD (n : Int) (w0 : World) (F : SP) (e : Ending) (w' : World) : Prop :=
  if 2 ≤ n ∧ n ≤ 65536 then ∃ d, e = .returned (.tuple #[.pointer (some ⟨d, 0, none⟩), .int .i64 0]) ∧ Sat w0 (Disk d (Dk.new n.toNat) * F) w'
  else e = .returned (.tuple #[.pointer none, .int .i64 20]) ∧ Sat w0 F w'
theorem info_cell : (Try.prog.info? 119).map (fun i => (i.zero, i.size, i.bytes)) = some (some (.agg #[.slice none 0 0, .bool false]), 2, 32) := by kernel_rfl
/-- Cells of a new disk. -/
def blanks (n : Nat) : Array Value := ((List.replicate n (((none, 0, []) : Slc), false)).flatMap cellV).toArray
theorem blanks_made (n : Nat) : madeCells #[.slice none 0 0, .bool false] (n * 2) = blanks n := by
  apply Array.ext'
  apply List.ext_getElem?
  intro j
  have hl : (List.replicate n (((none, 0, []) : Slc), false)).length = n := by simp
  have hf := flat2 (f := cellV) (fun _ => rfl) (List.replicate n (((none, 0, []) : Slc), false)) (j / 2) (j % 2)
  have hfl := flat2_len (f := cellV) (fun _ => rfl) (List.replicate n (((none, 0, []) : Slc), false))
  rw [hl] at hfl
  unfold blanks madeCells
  by_cases h : j < n * 2
  · have h1 := hf (by rw [hl]; omega) (by omega)
    rw [show j / 2 * 2 + j % 2 = j by omega] at h1
    simp only [List.getElem_replicate] at h1
    rw [List.toList_toArray, h1]
    simp [h]
    rcases Nat.mod_two_eq_zero_or_one j with e | e <;> rw [e] <;> rfl
  · rw [List.getElem?_eq_none (by simp; omega), List.getElem?_eq_none (by rw [hfl]; omega)]
theorem make_cells (n : Nat) (hn : n ≤ 65536) (W : World) : (Instr.makeSlice 94 (.int .i64 (n : Int)) (.int .i64 (n : Int))).run Try.prog W =
    .ok (.slice (some ⟨W.heap.size, 0, none⟩) n n) (W.alloc (.cells (blanks n) 119)) := by
  obtain ⟨i0, hi, hz0, hz1, hz2⟩ := info_parts info_cell
  have hr := run_make (P := Try.prog) W 94 119 i0 _ Try.underlying94 hi hz0 .i64 .i64 n n (by omega) (by omega) (by rw [hz2]; omega) (by omega)
  have hc : (Value.agg #[.slice none 0 0, .bool false]).cells = #[.slice none 0 0, .bool false] := rfl
  simpa [hz1, hc, blanks_made] using hr
theorem new_any (n : Int) (w0 w : World) (F : SP) (h : Sat w0 F w) : Calls Try.prog 13 #[.int .i64 n] w (NewD n w0 F) := by
  by_cases h1 : 2 ≤ n ∧ n ≤ 65536
  · obtain ⟨k, rfl⟩ : ∃ k : Nat, n = k := ⟨n.toNat, by omega⟩
    have hmk := make_cells k (by omega)
    have hmm := @run_makeMap Try.prog
    have hk1 : ¬ (k : Int) < 2 := by omega
    have hk2 : ¬ (65536 : Int) < k := by omega
    have HS := Lib.hid h
    have HK := Lib.hid h1
    clear h h1
    go_enter Try.func13, Try.ntmps13
    go_wp2_with fail
    go_ret2
    unfold NewD
    rw [if_pos HK.out]
    refine ⟨_, rfl, ?_⟩
    have h1 := (HS.out.rolNil ((List.replicate k (((none, 0, []) : Slc), false)).map (·.1) ++ ([] : List (Nat × Slc)).map (·.2)) (fun r hr => by simp at hr; rw [hr.2])).allocPt 119 (blanks k)
    have h2 := h1.map_new (P := Try.prog) (k := 3)
    have h3 := h2.allocPt 98 #[.slice (some ⟨w.heap.size, 0, none⟩) k k, .slice none 0 0, .map (some (w.alloc (.cells (blanks k) 119)).heap.size), .int .i64 0, .int .i64 0, .bool false]
    have h4 := h3.row_nil 117 2
    have e5 : (blanks k).toList.take (k * 2) = (List.replicate k (((none, 0, []) : Slc), false)).flatMap cellV := by
      unfold blanks
      refine List.take_of_length_le ?_
      rw [flat2_len (fun _ => rfl), List.length_replicate]
      exact Nat.le_refl _
    have h5 := (h4.up4).row_pt (n := k) (cap := k) (size := 2) (Nat.le_refl _) (by have : (2 : Int) ≤ k ∧ (k : Int) ≤ 65536 := HK.out; unfold maxLen; omega) (by unfold blanks; rw [List.size_toArray, flat2_len (fun _ => rfl), List.length_replicate])
    rw [e5] at h5
    rw [Int.toNat_natCast]
    have hb : (2 : Int) ≤ k ∧ (k : Int) ≤ 65536 := HK.out
    refine Sat.diskI (D := Dk.new k) (C := w.heap.size) (cc := k) (M := (w.alloc (.cells (blanks k) 119)).heap.size) (nm := 0) (vp := .slice none 0 0) (cs := List.replicate k (((none, 0, []) : Slc), false)) (ps := []) ?_ ⟨by simp [Dk.new], rfl, ?_, by simp, by simp; omega, by simp; omega⟩ (Nat.le_refl _)
    · refine Sat.of (by simpa using h5) ?_
      unfold DiskC
      rw [List.length_replicate]
      show _ = _ * (_ * (Row _ 2 _ 0 [] * (MapP _ _ _ _ (fun _ => none) * _))) * _
      simp
      ac_rfl
    · intro x hx
      simp at hx
      rw [hx.2]
      exact ⟨⟨fun _ => ⟨rfl, rfl⟩, fun _ => rfl, Nat.le_refl _, by show (0:Nat) ≤ _; omega⟩, .inl rfl⟩
  · have HS := Lib.hid h
    have HK := Lib.hid h1
    by_cases h2 : n < 2
    · clear h h1
      go_enter Try.func13, Try.ntmps13
      go_wp2_with fail
      go_ret2
      unfold NewD
      rw [if_neg HK.out]
      exact ⟨rfl, HS.out⟩
    · have h3 : 65536 < n := by omega
      clear h h1
      go_enter Try.func13, Try.ntmps13
      go_wp2_with fail
      go_ret2
      unfold NewD
      rw [if_neg HK.out]
      exact ⟨rfl, HS.out⟩
end Go.Proofs.Ytjmapbhgjhlefaa
namespace Go.Proofs.Ytjmapbhgjhlefaa
open Go.RowKit
set_option linter.unusedVariables false
set_option maxRecDepth 100000

def lay (cells : List (List UInt8 × Bool)) (p : Nat × List UInt8) : List (List UInt8 × Bool) := cells.set p.1 (p.2, false)
def Dk.flush (D : Dk) : Dk × Int := if D.off then (D, 21) else ({ D with cells := D.pend.foldl lay D.cells, pend := [] }, 0)
/-- The cells behind some writes: those that come in a list, each kept (false, true), torn (true, _) or lost (false, false). -/
def layC (cs : List (Slc × Bool)) (p : Nat × Slc) : List (Slc × Bool) := cs.set p.1 (p.2, false)
theorem lay_layC (cs : List (Slc × Bool)) (p : Nat × Slc) : (layC cs p).map (fun x => (x.1.2.2, x.2)) = lay (cs.map fun x => (x.1.2.2, x.2)) (p.1, p.2.2.2) := by
  unfold layC lay; rw [List.map_set]
theorem lay_all (cs : List (Slc × Bool)) : ∀ ps : List (Nat × Slc), (ps.foldl layC cs).map (fun x => (x.1.2.2, x.2)) = (ps.map fun x => (x.1, x.2.2.2)).foldl lay (cs.map fun x => (x.1.2.2, x.2)) := by
  intro ps
  induction ps generalizing cs with
  | nil => rfl
  | cons p ps ih => rw [List.foldl_cons, ih, lay_layC]; rfl
/-- What is asked of the cells while they are written. -/
structure Cok (cs0 cs : List (Slc × Bool)) (ps : List (Nat × Slc)) : Prop where
  len : cs.length = cs0.length
  fitc : ∀ x ∈ cs, fit x.1 ∧ (x.1.2.2 = [] ∨ x.1.2.2.length = 512)
theorem Cok.put {cs0 cs : List (Slc × Bool)} {ps : List (Nat × Slc)} (h : Cok cs0 cs ps) {a : Nat} {x : Slc × Bool} (hx : fit x.1 ∧ (x.1.2.2 = [] ∨ x.1.2.2.length = 512)) : Cok cs0 (cs.set a x) ps :=
  ⟨by rw [List.length_set]; exact h.len, fun y hy => (List.mem_or_eq_of_mem_set hy).elim (h.fitc y) (fun e => e ▸ hx)⟩
section
variable {w0 w : World} {F : SP} {d C cc M nm armed writes : Nat} {vp : Value} {cs : List (Slc × Bool)} {ps : List (Nat × Slc)} {off : Bool} {D : Dk}
theorem Sat.rol_keep {rs rs' : List Slc} (h : Sat w0 (RoL rs * F) w) (hs : ∀ r ∈ rs', r ∈ rs ∨ r.2.2 = []) : Sat w0 (RoL rs' * F) w :=
  h.mono fun q ⟨b, f, k1, k2, k3, k4⟩ => ⟨b, f, k1, k2, ⟨k3.1, fun r hr hne => (hs r hr).elim (fun hr => k3.2 r hr hne) (fun e => absurd e hne)⟩, k4⟩
/-- A cell is written. -/
theorem Sat.setCellD (h : Sat w0 (DiskC d C cc M nm vp cs ps armed writes off * F) w) (a : Nat) (x : Slc × Bool) (ha : a < cs.length) (hx : x.1 ∈ ps.map (·.2) ∨ x.1.2.2 = []) :
    Sat w0 (DiskC d C cc M nm vp (cs.set a x) ps armed writes off * F) ((w.setCell ⟨C, a * 2, none⟩ (slv x.1)).setCell ⟨C, a * 2 + 1, none⟩ (.bool x.2)) := by
  have h1 := ((h.of disk_d).up2.row_setj (j := a * 2) (slv x.1)).row_setj (j := a * 2 + 1) (.bool x.2)
  have e2 := flat2_set (f := cellV) (fun _ => rfl) cs a x _ _ rfl ha
  rw [List.setIfInBounds_toArray, List.setIfInBounds_toArray] at e2
  have e3 : ((cs.flatMap cellV).set (a * 2) (slv x.1)).set (a * 2 + 1) (.bool x.2) = (cs.set a x).flatMap cellV := by simpa using congrArg Array.toList e2
  rw [e3] at h1
  have h2 := h1.up5
  have h3 := h2.rol_keep (rs' := (cs.set a x).map (·.1) ++ ps.map (·.2)) fun r hr => by
    rcases List.mem_append.1 hr with hr | hr
    · obtain ⟨y, hy, rfl⟩ := List.mem_map.1 hr
      rcases List.mem_or_eq_of_mem_set hy with hy | hy
      · exact .inl (List.mem_append_left _ (List.mem_map_of_mem hy))
      · subst hy
        exact hx.imp_left (fun hx => List.mem_append_right _ hx)
    · exact .inl (List.mem_append_right _ hr)
  refine (h3.dn5.up2).of ?_
  have e : cs.length = (cs.set a x).length := (List.length_set ..).symm
  rw [e]
  exact disk_d.symm
end
set_option maxHeartbeats 1000000 in
theorem flush_any (d : Nat) (D : Dk) (w0 w : World) (F : SP) (h : Sat w0 (Disk d D * F) w) (hw2 : D.pend.length ≤ 1000000000) :
    Calls Try.prog 66 #[.pointer (some ⟨d, 0, none⟩)] w fun e w' => e = .returned (.int .i64 D.flush.2) ∧ Sat w0 (Disk d D.flush.1 * F) w' := by
  have HH := Lib.hid h
  by_cases ho : D.off = true
  · have HP : Hid (D.flush = (D, 21)) := by unfold Hid Dk.flush; rw [if_pos ho]
    obtain ⟨C, cc, M, nm, vp, cs, ps, hr, hn, hs⟩ := h.disk
    have hc5 := hs.head.c5
    rw [ho] at hc5
    clear ho hr hn hs h
    go_enter Try.func66, Try.ntmps66
    go_wp2_with fail
    go_ret
    refine ⟨by rw [HP.out]; rfl, ?_⟩
    rw [HP.out]
    exact HH.out
  · have ho' : D.off = false := by simpa using ho
    have HP : Hid (D.flush = ({ D with cells := D.pend.foldl lay D.cells, pend := [] }, 0)) := by unfold Hid Dk.flush; rw [if_neg ho]
    obtain ⟨C, cc, M, nm, vp, cs, ps, hr, hn, hs⟩ := h.disk
    have hc5 := hs.head.c5
    have hc1 := hs.head.c1
    rw [ho'] at hc5
    have hpl : D.pend.length = ps.length := by rw [hr.pend]; simp
    rw [hpl] at hw2
    obtain ⟨A1, c1, rfl, hle, hmx⟩ := (hs.of disk_d).up3.row_sl
    have HS := Lib.hid hs
    have HR := Lib.hid hr
    have HN := Lib.hid hn
    unfold maxLen at hmx
    clear ho ho' hr hn hs h hpl
    go_enter Try.func66, Try.ntmps66
    go_wp2_with fail
    go_loopw [14] (fun i wr => ∃ k : Nat, k ≤ ps.length ∧ i = .int .i64 k ∧ Hid (Cok cs ((ps.take k).foldl layC cs) ps ∧ Sat w0 (DiskC d C cc M nm (.slice A1 ps.length c1) ((ps.take k).foldl layC cs) ps D.armed D.writes D.off * F) wr)) (fun i _ => ps.length - (intOf i).toNat)
    case atStart => exact ⟨0, by omega, rfl, ⟨rfl, HR.out.fitc⟩, HS.out⟩
    case round =>
      obtain ⟨k, hk, rfl, HD⟩ := hrel
      by_cases hlt : k < ps.length
      · obtain ⟨g, rfl, hg⟩ := (HD.out.2.of disk_d).up3.row_at (by omega)
        have q0 := hg (k * 2) (by rw [flat2_len (fun _ => rfl)]; omega)
        have q1 := hg (k * 2 + 1) (by rw [flat2_len (fun _ => rfl)]; omega)
        have e0 : (ps.flatMap pendV)[k * 2]'(by rw [flat2_len (fun _ => rfl)]; omega) = .int .i64 ps[k].1 := by
          have := flat2 (f := pendV) (fun _ => rfl) ps k 0 hlt (by omega)
          exact Option.some.inj ((List.getElem?_eq_getElem _).symm.trans this)
        have e1 : (ps.flatMap pendV)[k * 2 + 1]'(by rw [flat2_len (fun _ => rfl)]; omega) = slv ps[k].2 := by
          have := flat2 (f := pendV) (fun _ => rfl) ps k 1 hlt (by omega)
          exact Option.some.inj ((List.getElem?_eq_getElem _).symm.trans this)
        rw [e0] at q0
        rw [e1] at q1
        have hfp := HR.out.fitp ps[k] (List.getElem_mem hlt)
        have HT : Hid ((ps.take (k + 1)).foldl layC cs = layC ((ps.take k).foldl layC cs) ps[k]) := by
          rw [List.take_succ_eq_append_getElem hlt, List.foldl_append]; rfl
        have HM := Lib.hid (List.getElem_mem hlt)
        have hat : ps[k].1 < cs.length := hfp.2.2
        have HF := Lib.hid hfp
        clear hg e0 e1 hfp
        generalize ps[k] = p at *
        obtain ⟨a, As, cz, ls⟩ := p
        simp only [slv] at q0 q1 hat
        generalize (ps.take k).foldl layC cs = cs1 at *
        have h2 := HD.out.2.allocPt 117 #[.int .i64 a, .slice As ls.length cz]
        have hlc : cs1.length = cs.length := HD.out.1.len
        have HLc := Lib.hid hlc
        have HS2 := Lib.hid h2
        clear h2
        rw [← hlc] at hat
        clear hlc
        go_wp2_with fail
        obtain ⟨w2, hw2'⟩ : ∃ w2, w2 = wr.alloc (.cells #[.int .i64 a, .slice As ls.length cz] 117) := ⟨_, rfl⟩
        obtain ⟨b, hb⟩ : ∃ b, b = wr.heap.size := ⟨_, rfl⟩
        rw [← hw2', ← hb] at HS2
        rw [← hw2', ← hb]
        clear hw2' hb q0 q1
        have q2 := HS2.out.cell 0
        have q3 := HS2.out.cell 1
        have q4 := HS2.out.right.head.c0
        have q5 := HS2.out.right.cellsFree (a * 2)
        have q6 := HS2.out.right.cellsFree (a * 2 + 1)
        obtain ⟨q7, q8⟩ := HS2.out.right.cellsAt hat
        go_region
        go_wp2_with fail
        go_roundw
        case rel =>
          refine ⟨k + 1, by omega, by go_num, ?_⟩
          rw [HT.out]
          exact ⟨HD.out.1.put ⟨HF.out.1, .inr HF.out.2.1⟩, (HS2.out.right.setCellD a ((As, cz, ls), false) hat (.inl (List.mem_map_of_mem (f := Prod.snd) HM.out))).drew⟩
        case measure => simp [intOf]; omega
      · have ht : ps.take k = ps := List.take_of_length_le (by omega)
        rw [ht] at HD
        clear ht
        have HE : Hid (Sat w0 (Disk d { D with cells := D.pend.foldl lay D.cells } * F) wr) := by
          refine Sat.diskI (D := { D with cells := D.pend.foldl lay D.cells }) HD.out.2 ⟨?_, HR.out.pend, HD.out.1.fitc, ?_, ?_, ?_⟩ HN.out
          · rw [HR.out.cells, HR.out.pend, lay_all]
          · rw [HD.out.1.len]; exact HR.out.fitp
          · rw [HD.out.1.len]; exact HR.out.two
          · rw [HD.out.1.len]; exact HR.out.most
        go_wp2_with fail
        refine (settled_any d _ w0 wr F HE.out).mono ?_
        rintro e w' ⟨rfl, hs⟩
        have HG := Lib.hid hs
        clear hs
        go_wp2_with fail
        go_ret
        refine ⟨by rw [HP.out]; rfl, ?_⟩
        rw [HP.out]
        exact HG.out
end Go.Proofs.Ytjmapbhgjhlefaa
namespace Go.Proofs.Ytjmapbhgjhlefaa
open Go.RowKit
set_option linter.unusedVariables false
set_option maxRecDepth 100000

def byteAt (x w i : Nat) : UInt8 := UInt8.ofNat (x / 256 ^ (w - 1 - i) % 256)
/-- The lowest w bytes of a number, the highest of them first. -/
def putB (x w : Nat) : List UInt8 := (List.range w).map (byteAt x w)
theorem putB_len (x w : Nat) : (putB x w).length = w := by simp [putB]
/-- Bytes in new memory. -/
def NewB (w0 : World) (F : SP) (l : List UInt8) (e : Ending) (w' : World) : Prop := ∃ A c, e = .returned (.slice A l.length c) ∧ l.length ≤ c ∧ c ≤ maxLen ∧ Sat w0 (Row 5 1 (.slice A l.length c) l.length (l.map bv) * F) w'
theorem info_u8o : (Try.prog.info? 5).map (fun i => (i.zero, i.size, i.bytes)) = some (some (.int .u8 0), 1, 1) := by kernel_rfl
theorem run_make_o (n : Nat) (h0 : 1 ≤ n) (hn : n ≤ 8) (W : World) : (Instr.makeSlice 39 (.int .i64 (n : Int)) (.int .i64 (n : Int))).run Try.prog W =
    .ok (.slice (some ⟨W.heap.size, 0, none⟩) n n) (W.alloc (.cells (madeCells #[.int .u8 0] n) 5)) := by
  obtain ⟨i0, hi, hz0, hz1, hz2⟩ := info_parts info_u8o
  have hr := run_make (P := Try.prog) W 39 5 i0 _ Try.underlying39 hi hz0 .i64 .i64 n n (by omega) (by omega) (by rw [hz2]; omega) (by omega)
  have hc : (Value.int .u8 0).cells = #[.int .u8 0] := rfl
  simpa [hz1, hc] using hr
set_option maxHeartbeats 1000000 in
theorem oput_any (x n : Nat) (hx : x < 18446744073709551616) (h0 : 1 ≤ n) (hn : n ≤ 8) (w0 w : World) (F : SP) (h : Sat w0 F w) :
    Calls Try.prog 92 #[.int .u64 (x : Int), .int .i64 (n : Int)] w (NewB w0 F (putB x n)) := by
  have hmk := run_make_o n h0 hn
  have H0 := Lib.hid (h.allocPt 5 (madeCells #[.int .u8 0] n))
  have h1 : ¬ (n : Int) < 1 := by omega
  have h8 : ¬ (8 : Int) < n := by omega
  obtain ⟨g, hg⟩ : ∃ g, g = w.heap.size := ⟨_, rfl⟩
  have HG := Lib.hid hg
  rw [← hg] at H0
  clear h hg
  go_enter Try.func92, Try.ntmps92
  go_wp2_with fail
  rw [← HG.out]
  go_loopw [0, 6] (fun xv iv wr => ∃ k i : Nat, k ≤ n ∧ k + i = n ∧ xv = .int .u64 ((x / 256 ^ k : Nat) : Int) ∧ iv = .int .i64 ((i : Int) - 1) ∧ Hid (∃ cur : Array Value, cur.size = n ∧ (∀ j, i ≤ j → j < n → cur[j]? = some (bv (byteAt x n j))) ∧ Sat w0 (Pt g 5 cur * F) wr)) (fun _ iv _ => (intOf iv + 1).toNat)
  case atStart => exact ⟨0, n, by omega, by omega, by simp, by simp, _, by simp [madeCells], fun j h2 h3 => by omega, H0.out⟩
  case round =>
    obtain ⟨k, i, hk, hki, rfl, rfl, HD⟩ := hrel
    rcases i with _ | i
    · go_wp2_with fail
      go_ret
      obtain ⟨cur, hc1, hc2, hs⟩ := HD.out
      have h9 := Sat.row_pt (n := n) (cap := n) (size := 1) hs (Nat.le_refl _) (by unfold maxLen; omega) (by omega)
      refine ⟨some ⟨g, 0, none⟩, n, by rw [putB_len]; rfl, by rw [putB_len]; exact Nat.le_refl _, by unfold maxLen; omega, h9.of ?_⟩
      rw [putB_len]
      congr 2
      apply List.ext_getElem?
      intro j
      rw [Nat.mul_one, List.getElem?_take]
      by_cases hj : j < n
      · rw [if_pos hj, Array.getElem?_toList, hc2 j (by omega) hj]
        simp [putB, hj]
      · rw [if_neg hj]
        simp [putB, hj]
    · obtain ⟨cur, hc1, hc2, hs⟩ := HD.out
      obtain ⟨Y, hY⟩ : ∃ Y, Y = x / 256 ^ k := ⟨_, rfl⟩
      have hYb : Y < 18446744073709551616 := by rw [hY]; exact Nat.lt_of_le_of_lt (Nat.div_le_self _ _) hx
      have hi : i < n := by omega
      obtain ⟨v0, c0⟩ : ∃ v0, wr.cell? ⟨g, i, none⟩ = some v0 := ⟨cur[i], by rw [hs.cell, Array.getElem?_eq_getElem (by omega)]⟩
      have f0 := hs.frozen i
      have HB : Hid (bv (byteAt x n i) = .int .u8 ((Y : Int) % 256)) := by
        unfold bv byteAt
        rw [show n - 1 - i = k by omega, ← hY, UInt8.toNat_ofNat', Nat.mod_mod]
        rw [show ((Y % 256 : Nat) : Int) = (Y : Int) % 256 by omega]
        rfl
      have HQ : Hid (((Y / 256 : Nat) : Int) = ((x / 256 ^ (k + 1) : Nat) : Int)) := by
        unfold Hid
        rw [hY, Nat.div_div_eq_div_mul, Nat.pow_succ]
      have HN : Hid (∃ cur' : Array Value, cur'.size = n ∧ (∀ j, i ≤ j → j < n → cur'[j]? = some (bv (byteAt x n j))) ∧ Sat w0 (Pt g 5 cur' * F) (wr.setCell ⟨g, i, none⟩ (.int .u8 ((Y : Int) % 256)))) := by
        refine ⟨cur.setIfInBounds i (.int .u8 ((Y : Int) % 256)), by simp [hc1], fun j h2 h3 => ?_, hs.set i _⟩
        by_cases e : i = j
        · subst e
          rw [Array.getElem?_setIfInBounds_self_of_lt (by omega), HB.out]
        · rw [Array.getElem?_setIfInBounds_ne e]
          exact hc2 j (by omega) h3
      have e2 : ((i + 1 : Nat) : Int) - 1 = (i : Int) := by omega
      rw [← hY, e2]
      have e3 : (i : Int) < n := by omega
      clear hY hc1 hc2 hs HD e2
      go_wp2_with fail
      go_roundw
      · exact ⟨k + 1, i, by omega, by omega, by rw [← HQ.out, show ((Y / 256 : Nat) : Int) = (Y : Int) / 256 by omega], rfl, HN.out⟩
      · simp [intOf] <;> omega
end Go.Proofs.Ytjmapbhgjhlefaa
namespace Go.Proofs.Ytjmapbhgjhlefaa
open Go.RowKit
set_option linter.unusedVariables false
set_option maxRecDepth 100000

def crcS (x : Nat) : Nat := if x % 2 = 1 then (x / 2) ^^^ 3988292384 else x / 2
def crcN : Nat → Nat → Nat
  | 0, x => x
  | k + 1, x => crcS (crcN k x)
def crcB (c : Nat) (b : UInt8) : Nat := crcN 8 (c ^^^ b.toNat)
def crcL (l : List UInt8) : Nat := l.foldl crcB 4294967295
/-- The sum of bytes. -/
def sumB (l : List UInt8) : Nat := crcL l ^^^ 4294967295
theorem xor_lt32 {a b : Nat} (ha : a < 4294967296) (hb : b < 4294967296) : a ^^^ b < 4294967296 := Nat.xor_lt_two_pow (n := 32) ha hb
theorem crcS_lt {x : Nat} (h : x < 4294967296) : crcS x < 4294967296 := by
  unfold crcS
  split
  · exact xor_lt32 (by omega) (by decide)
  · omega
theorem crcN_lt {x : Nat} (h : x < 4294967296) : ∀ k, crcN k x < 4294967296
  | 0 => h
  | k + 1 => crcS_lt (crcN_lt h k)
theorem u8_lt32 (b : UInt8) : b.toNat < 4294967296 := by have := b.toNat_lt; omega
theorem crcB_lt {c : Nat} (b : UInt8) (h : c < 4294967296) : crcB c b < 4294967296 := crcN_lt (xor_lt32 h (u8_lt32 b)) 8
theorem crcF_lt : ∀ (l : List UInt8) {c : Nat}, c < 4294967296 → l.foldl crcB c < 4294967296
  | [], _, h => h
  | b :: l, _, h => crcF_lt l (crcB_lt b h)
theorem crcL_lt (l : List UInt8) : crcL l < 4294967296 := crcF_lt l (by decide)
theorem sumB_lt (l : List UInt8) : sumB l < 4294967296 := xor_lt32 (crcL_lt l) (by decide)
theorem crcL_snoc (l : List UInt8) (b : UInt8) : crcL (l ++ [b]) = crcN 8 (crcL l ^^^ b.toNat) := by
  unfold crcL
  rw [List.foldl_append]
  rfl
theorem crcL_take {l : List UInt8} {i : Nat} (h : i < l.length) : crcL (l.take (i + 1)) = crcN 8 (crcL (l.take i) ^^^ l[i].toNat) := by
  rw [List.take_succ_eq_append_getElem h, crcL_snoc]
theorem xor32 (a b : Nat) (ha : a < 4294967296) (hb : b < 4294967296) : bits .xor .u32 (a : Int) (b : Int) = ((a ^^^ b : Nat) : Int) := u32_xor_nat a b ha hb
theorem txt_step {ks : Rows_} {i : Nat} (h : i < ks.length) : (txt (ks.take (i + 1))).flatten = (txt (ks.take i)).flatten ++ ks[i].2.2 := by
  rw [List.take_succ_eq_append_getElem h, txt_append, List.flatten_append]
  simp [txt]
theorem crcL_app (p l : List UInt8) {j : Nat} (h : j < l.length) : crcL (p ++ l.take (j + 1)) = crcN 8 (crcL (p ++ l.take j) ^^^ l[j].toNat) := by
  rw [List.take_succ_eq_append_getElem h, ← List.append_assoc, crcL_snoc]
theorem and32 (a b : Nat) (ha : a < 4294967296) (hb : b < 4294967296) : bits .and .u32 (a : Int) (b : Int) = ((a &&& b : Nat) : Int) := u32_and_nat a b ha hb
end Go.Proofs.Ytjmapbhgjhlefaa
