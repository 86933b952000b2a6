/- The disk's small methods. -/
import Derived.Test.YtiimlbkccoofmaaBlk
import Derived.Test.YtiimlbkccoofmaaApp
namespace Go.Proofs.Ytiimlbkccoofmaa
open Go.RowKit
set_option linter.unusedVariables false

/-- Why a block can't be asked for. -/
def Dk.ask (D : Dk) (i : Int) : Int := if D.off then 21 else if 0 ≤ i ∧ i < D.cells.length then 0 else 22
theorem Dk.ask_ok {D : Dk} {i : Int} (h1 : D.off = false) (h2 : 0 ≤ i) (h3 : i < D.cells.length) : D.ask i = 0 := by unfold Dk.ask; rw [if_neg (by simp [h1]), if_pos ⟨h2, h3⟩]
structure Head (w : World) (d C cc : Nat) (cs : List (Slc × Bool)) (vp : Value) (M armed writes : Nat) (off : Bool) : Prop where
  c0 : w.cell? ⟨d, 0, none⟩ = some (.slice (some ⟨C, 0, none⟩) cs.length cc)
  c1 : w.cell? ⟨d, 1, none⟩ = some vp
  c2 : w.cell? ⟨d, 2, none⟩ = some (.map (some M))
  c3 : w.cell? ⟨d, 3, none⟩ = some (.int .i64 armed)
  c4 : w.cell? ⟨d, 4, none⟩ = some (.int .i64 writes)
  c5 : w.cell? ⟨d, 5, none⟩ = some (.bool off)
section
variable {w0 w : World} {F : SP} {d C cc M nm armed writes : Nat} {vp : Value} {cs : List (Slc × Bool)} {ps : List (Nat × Slc)} {off : Bool} {D : Dk}
theorem Sat.head (h : Sat w0 (DiskC d C cc M nm vp cs ps armed writes off * F) w) : Head w d C cc cs vp M armed writes off := by
  have h1 := h.of disk_d
  exact ⟨h1.cell 0, h1.cell 1, h1.cell 2, h1.cell 3, h1.cell 4, h1.cell 5⟩
/-- The cells of one block. -/
theorem Sat.cellsAt (h : Sat w0 (DiskC d C cc M nm vp cs ps armed writes off * F) w) {k : Nat} (hk : k < cs.length) : w.cell? ⟨C, k * 2, none⟩ = some (slv cs[k].1) ∧ w.cell? ⟨C, k * 2 + 1, none⟩ = some (.bool cs[k].2) := by
  have h1 := (h.of disk_d).up2
  have hl := flat2_len (f := cellV) (fun _ => rfl) cs
  have e0 := flat2 (f := cellV) (fun _ => rfl) cs k 0 hk (by omega)
  have e1 := flat2 (f := cellV) (fun _ => rfl) cs k 1 hk (by omega)
  rw [List.getElem?_eq_getElem (by omega)] at e0 e1
  refine ⟨?_, ?_⟩
  · rw [h1.row_cell (j := k * 2) (by omega)]; exact e0
  · rw [h1.row_cell (j := k * 2 + 1) (by omega)]; exact e1
theorem Sat.cellsFree (h : Sat w0 (DiskC d C cc M nm vp cs ps armed writes off * F) w) (i : Nat) : w.frozen? ⟨C, i, none⟩ = false := ((h.of disk_d).up2).row_free i
theorem Sat.headF (h : Sat w0 (DiskC d C cc M nm vp cs ps armed writes off * F) w) (i : Nat) : w.frozen? ⟨d, i, none⟩ = false := (h.of disk_d).frozen i
end
section
variable {w0 w : World} {F : SP} {d C cc M nm armed writes : Nat} {vp : Value} {cs : List (Slc × Bool)} {ps : List (Nat × Slc)} {off : Bool} {D : Dk}
theorem Sat.setArmed (h : Sat w0 (DiskC d C cc M nm vp cs ps armed writes off * F) w) (a : Nat) {x : Int} (hx : x = a) : Sat w0 (DiskC d C cc M nm vp cs ps a writes off * F) (w.setCell ⟨d, 3, none⟩ (.int .i64 x)) := by
  subst hx
  exact (((h.of disk_d).set 3 (.int .i64 a)).of (disk_d (F := F) (d := d) (C := C) (cc := cc) (M := M) (nm := nm) (vp := vp) (cs := cs) (ps := ps) (armed := a) (writes := writes) (off := off)).symm)
theorem Sat.setWrites (h : Sat w0 (DiskC d C cc M nm vp cs ps armed writes off * F) w) (a : Nat) {x : Int} (hx : x = a) : Sat w0 (DiskC d C cc M nm vp cs ps armed a off * F) (w.setCell ⟨d, 4, none⟩ (.int .i64 x)) := by
  subst hx
  exact (((h.of disk_d).set 4 (.int .i64 a)).of (disk_d (F := F) (d := d) (C := C) (cc := cc) (M := M) (nm := nm) (vp := vp) (cs := cs) (ps := ps) (armed := armed) (writes := a) (off := off)).symm)
theorem Sat.setOff (h : Sat w0 (DiskC d C cc M nm vp cs ps armed writes off * F) w) (a : Bool) : Sat w0 (DiskC d C cc M nm vp cs ps armed writes a * F) (w.setCell ⟨d, 5, none⟩ (.bool a)) :=
  (((h.of disk_d).set 5 (.bool a)).of (disk_d (F := F) (d := d) (C := C) (cc := cc) (M := M) (nm := nm) (vp := vp) (cs := cs) (ps := ps) (armed := armed) (writes := writes) (off := a)).symm)
end
theorem asked_any (d : Nat) (D : Dk) (i : Int) (w0 w : World) (F : SP) (h : Sat w0 (Disk d D * F) w) :
    Calls Try.prog 30 #[.pointer (some ⟨d, 0, none⟩), .int .i64 i] w fun e w' => e = .returned (.int .i64 (D.ask i)) ∧ w = w' := by
  obtain ⟨C, cc, M, nm, vp, cs, ps, hr, hn, hs⟩ := h.disk
  have hc0 := hs.head.c0
  have hc5 := hs.head.c5
  have hl : D.cells.length = cs.length := by rw [hr.cells]; simp
  have H1 : Hid (D.ask i = if D.off then 21 else if 0 ≤ i ∧ i < cs.length then 0 else 22) := by unfold Dk.ask Hid; rw [hl]
  clear hr hn hs h hl
  by_cases ho : D.off = true
  · rw [ho] at hc5
    have HO := Lib.hid ho
    clear ho
    go_enter Try.func30, Try.ntmps30
    go_wp2
    go_ret
    exact ⟨by rw [H1.out, if_pos HO.out]; rfl, rfl⟩
  · have ho' : D.off = false := by simpa using ho
    rw [ho'] at hc5
    have HO := Lib.hid ho
    clear ho ho'
    by_cases h1 : i < 0
    · go_enter Try.func30, Try.ntmps30
      go_wp2
      go_ret
      exact ⟨by rw [H1.out, if_neg HO.out, if_neg (by omega)]; rfl, rfl⟩
    · by_cases h2 : (cs.length : Int) ≤ i
      · go_enter Try.func30, Try.ntmps30
        go_wp2
        go_ret
        exact ⟨by rw [H1.out, if_neg HO.out, if_neg (by omega)]; rfl, rfl⟩
      · go_enter Try.func30, Try.ntmps30
        go_wp2
        go_ret
        exact ⟨by rw [H1.out, if_neg HO.out, if_pos (by omega)]; rfl, rfl⟩
theorem blocks_any (d : Nat) (D : Dk) (w0 w : World) (F : SP) (h : Sat w0 (Disk d D * F) w) :
    Calls Try.prog 28 #[.pointer (some ⟨d, 0, none⟩)] w fun e w' => e = .returned (.int .i64 D.cells.length) ∧ w = w' := by
  obtain ⟨C, cc, M, nm, vp, cs, ps, hr, hn, hs⟩ := h.disk
  have hc0 := hs.head.c0
  have HL : Hid (D.cells.length = cs.length) := by rw [hr.cells]; unfold Hid; simp
  clear hr hn hs h
  go_enter Try.func28, Try.ntmps28
  go_wp2
  go_ret
  exact ⟨by rw [HL.out]; rfl, rfl⟩
theorem off_any (d : Nat) (D : Dk) (w0 w : World) (F : SP) (h : Sat w0 (Disk d D * F) w) :
    Calls Try.prog 22 #[.pointer (some ⟨d, 0, none⟩)] w fun e w' => e = .returned (.bool D.off) ∧ w = w' := by
  obtain ⟨C, cc, M, nm, vp, cs, ps, hr, hn, hs⟩ := h.disk
  have hc5 := hs.head.c5
  clear hr hn hs h
  go_enter Try.func22, Try.ntmps22
  go_wp2
  go_ret
  exact ⟨rfl, rfl⟩
theorem writes_any (d : Nat) (D : Dk) (w0 w : World) (F : SP) (h : Sat w0 (Disk d D * F) w) :
    Calls Try.prog 19 #[.pointer (some ⟨d, 0, none⟩)] w fun e w' => e = .returned (.int .i64 D.writes) ∧ w = w' := by
  obtain ⟨C, cc, M, nm, vp, cs, ps, hr, hn, hs⟩ := h.disk
  have hc4 := hs.head.c4
  clear hr hn hs h
  go_enter Try.func19, Try.ntmps19
  go_wp2
  go_ret
  exact ⟨rfl, rfl⟩
theorem pending_any (d : Nat) (D : Dk) (w0 w : World) (F : SP) (h : Sat w0 (Disk d D * F) w) :
    Calls Try.prog 21 #[.pointer (some ⟨d, 0, none⟩)] w fun e w' => e = .returned (.int .i64 D.pend.length) ∧ w = w' := by
  obtain ⟨C, cc, M, nm, vp, cs, ps, hr, hn, hs⟩ := h.disk
  have hc1 := hs.head.c1
  have HL : Hid (D.pend.length = ps.length) := by rw [hr.pend]; unfold Hid; simp
  obtain ⟨A, c, rfl⟩ : ∃ A c, vp = .slice A ps.length c := by
    have h1 := (hs.of disk_d).up3
    obtain ⟨_, ⟨e1, e2, _⟩ | ⟨g, cap, cur, e1, _⟩⟩ := h1.row_cases
    · exact ⟨none, 0, by rw [e1, e2]⟩
    · exact ⟨_, _, e1⟩
  clear hr hn hs h
  go_enter Try.func21, Try.ntmps21
  go_wp2
  go_ret
  exact ⟨by rw [HL.out]; rfl, rfl⟩
theorem cut_any (d : Nat) (D : Dk) (w0 w : World) (F : SP) (h : Sat w0 (Disk d D * F) w) :
    Calls Try.prog 15 #[.pointer (some ⟨d, 0, none⟩)] w fun e w' => e = .returned (.tuple #[]) ∧ Sat w0 (Disk d { D with off := true } * F) w' := by
  obtain ⟨C, cc, M, nm, vp, cs, ps, hr, hn, hs⟩ := h.disk
  have hc5 := hs.head.c5
  have hf5 := hs.headF 5
  have HE : Hid (Sat w0 (Disk d { D with off := true } * F) (w.setCell ⟨d, 5, none⟩ (.bool true))) :=
    Sat.diskI (((hs.of disk_d).set 5 (.bool true)).of disk_d.symm) ⟨hr.cells, hr.pend, hr.fitc, hr.fitp, hr.two, hr.most⟩ hn
  clear hr hn hs h
  go_enter Try.func15, Try.ntmps15
  go_wp2
  go_end0
  exact ⟨rfl, HE.out⟩
theorem arm_any (d : Nat) (D : Dk) (k : Int) (w0 w : World) (F : SP) (h : Sat w0 (Disk d D * F) w) :
    Calls Try.prog 14 #[.pointer (some ⟨d, 0, none⟩), .int .i64 k] w fun e w' => e = .returned (.tuple #[]) ∧ Sat w0 (Disk d { D with armed := k.toNat } * F) w' := by
  obtain ⟨C, cc, M, nm, vp, cs, ps, hr, hn, hs⟩ := h.disk
  have hc3 := hs.head.c3
  have hf3 := hs.headF 3
  have HE : Hid (Sat w0 (Disk d { D with armed := k.toNat } * F) (w.setCell ⟨d, 3, none⟩ (.int .i64 (k.toNat : Int)))) :=
    Sat.diskI (((hs.of disk_d).set 3 (.int .i64 (k.toNat : Int))).of disk_d.symm) ⟨hr.cells, hr.pend, hr.fitc, hr.fitp, hr.two, hr.most⟩ hn
  clear hr hn hs h
  by_cases h1 : 0 ≤ k
  · have e : ((k.toNat : Nat) : Int) = k := by omega
    rw [e] at HE
    clear e
    go_enter Try.func14, Try.ntmps14
    go_wp2
    all_goals
      go_end0
      exact ⟨rfl, HE.out⟩
  · have e : ((k.toNat : Nat) : Int) = 0 := by omega
    rw [e] at HE
    clear e
    go_enter Try.func14, Try.ntmps14
    go_wp2
    all_goals
      go_end0
      exact ⟨rfl, HE.out⟩
theorem num_any (k : Int) (w : World) : Calls Try.prog 9 #[.int .i64 k] w fun e w' => e = .returned (.int .i64 k) ∧ w = w' := by
  go_enter Try.func9, Try.ntmps9
  go_wp2
  go_ret
  exact ⟨rfl, rfl⟩
theorem settled_any (d : Nat) (D : Dk) (w0 w : World) (F : SP) (h : Sat w0 (Disk d D * F) w) :
    Calls Try.prog 32 #[.pointer (some ⟨d, 0, none⟩)] w fun e w' => e = .returned (.tuple #[]) ∧ Sat w0 (Disk d { D with pend := [] } * F) w' := by
  obtain ⟨C, cc, M, nm, vp, cs, ps, hr, hn, hs⟩ := h.disk
  have hc1 := hs.head.c1
  have hc2 := hs.head.c2
  have hf1 := hs.headF 1
  have h1 := (hs.of disk_d).set 1 (.slice none 0 0)
  have h2 := h1.up4
  obtain ⟨w2, hrun, hs2, _⟩ := h2.map_clear (t := 65) Try.underlying65 0
  have HE : Hid (Sat w0 (Disk d { D with pend := [] } * F) w2) := by
    have h3 := hs2.dn4.up3.right.up4.rol_sub (rs' := cs.map (·.1) ++ ([] : List (Nat × Slc)).map (·.2)) (fun r hr => List.mem_append_left _ (by simpa using hr))
    have h4 := (h3.dn4.row_nil 72 2).dn3
    exact Sat.diskI (D := { D with pend := [] }) (ps := []) (h4.of (disk_d (F := F) (d := d) (C := C) (cc := cc) (M := M) (nm := 0) (vp := .slice none 0 0) (cs := cs) (ps := []) (armed := D.armed) (writes := D.writes) (off := D.off)).symm) ⟨hr.cells, rfl, hr.fitc, by simp, hr.two, hr.most⟩ (Nat.le_refl _)
  clear hr hn hs h h1 h2 hs2
  go_enter Try.func32, Try.ntmps32
  go_wp2
  go_end0
  exact ⟨rfl, HE.out⟩
end Go.Proofs.Ytiimlbkccoofmaa
