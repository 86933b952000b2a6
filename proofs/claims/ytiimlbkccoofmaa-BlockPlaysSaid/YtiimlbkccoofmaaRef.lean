/- The document's disk in memory; told, New, the small ones. -/
import Derived.Test.YtiimlbkccoofmaaBlkCrash2
namespace Go.Proofs.Ytiimlbkccoofmaa
open Go.RowKit
set_option linter.unusedVariables false

def rcell (x : Slc × Bool) : List UInt8 × Bool := if x.2 then ([], true) else (x.1.2.2, false)
structure RRep (D : Dk) (cs : List (Slc × Bool)) (ps : List (Nat × Slc)) : Prop where
  cells : D.cells = cs.map rcell
  pend : D.pend = ps.map fun x => (x.1, x.2.2.2)
  fitc : ∀ x ∈ cs, x.1.2.2 = [] ∨ x.1.2.2.length = 512
  fitp : ∀ x ∈ ps, x.2.2.2.length = 512 ∧ x.1 < cs.length
  two : 2 ≤ cs.length
  most : cs.length ≤ 65536
def RDiskC (r : Nat) (vs vt vp : Value) (cs : List (Slc × Bool)) (ps : List (Nat × Slc)) (armed writes : Nat) (off : Bool) : SP :=
  Pt r 62 #[vs, vt, vp, .int .i64 writes, .int .i64 armed, .bool off] *
  (Row 30 1 vs cs.length (cs.map fun x => slv x.1) *
  (Row 4 1 vt cs.length (cs.map fun x => .bool x.2) *
  (Row 80 2 vp ps.length (ps.flatMap pendV) *
  RoL (cs.map (·.1) ++ ps.map (·.2)))))
def RDisk (r : Nat) (D : Dk) : SP := fun h => ∃ vs vt vp cs ps, RRep D cs ps ∧ RDiskC r vs vt vp cs ps D.armed D.writes D.off h
section
variable {w0 w : World} {F : SP} {r armed writes : Nat} {vs vt vp : Value} {cs : List (Slc × Bool)} {ps : List (Nat × Slc)} {off : Bool} {D : Dk}
theorem Sat.rdisk (h : Sat w0 (RDisk r D * F) w) : ∃ vs vt vp cs ps, RRep D cs ps ∧ Sat w0 (RDiskC r vs vt vp cs ps D.armed D.writes D.off * F) w := by
  obtain ⟨c, x, h1, a, g, h2, h3, ⟨vs, vt, vp, cs, ps, h4, h6⟩, h8⟩ := h
  exact ⟨vs, vt, vp, cs, ps, h4, ⟨c, x, h1, a, g, h2, h3, h6, h8⟩⟩
theorem Sat.rdiskI (h : Sat w0 (RDiskC r vs vt vp cs ps D.armed D.writes D.off * F) w) (hr : RRep D cs ps) : Sat w0 (RDisk r D * F) w := by
  obtain ⟨c, x, h1, a, g, h2, h3, h6, h8⟩ := h
  exact ⟨c, x, h1, a, g, h2, h3, ⟨vs, vt, vp, cs, ps, hr, h6⟩, h8⟩
theorem rdisk_d : RDiskC r vs vt vp cs ps armed writes off * F = Pt r 62 #[vs, vt, vp, .int .i64 writes, .int .i64 armed, .bool off] *
  (Row 30 1 vs cs.length (cs.map fun x => slv x.1) * (Row 4 1 vt cs.length (cs.map fun x => .bool x.2) * (Row 80 2 vp ps.length (ps.flatMap pendV) * (RoL (cs.map (·.1) ++ ps.map (·.2)) * F)))) := by
  unfold RDiskC; ac_rfl
theorem RRep.len (h : RRep D cs ps) : D.cells.length = cs.length := by rw [h.cells]; simp
/-- The three rows are slices. -/
theorem Sat.rvals (h : Sat w0 (RDiskC r vs vt vp cs ps armed writes off * F) w) : ∃ A c B e C g, vs = .slice A cs.length c ∧ vt = .slice B cs.length e ∧ vp = .slice C ps.length g ∧ cs.length ≤ c ∧ cs.length ≤ e ∧ ps.length ≤ g ∧ c ≤ maxLen ∧ e ≤ maxLen ∧ g ≤ maxLen := by
  have h1 := h.of rdisk_d
  obtain ⟨A, c, e1, l1, m1⟩ := h1.up2.row_sl
  obtain ⟨B, e, e2, l2, m2⟩ := h1.up3.row_sl
  obtain ⟨C, g, e3, l3, m3⟩ := h1.up4.row_sl
  exact ⟨A, c, B, e, C, g, e1, e2, e3, l1, l2, l3, m1, m2, m3⟩
theorem Sat.rArmed (h : Sat w0 (RDiskC r vs vt vp cs ps armed writes off * F) w) (a : Nat) {x : Int} (hx : x = a) : Sat w0 (RDiskC r vs vt vp cs ps a writes off * F) (w.setCell ⟨r, 4, none⟩ (.int .i64 x)) := by
  subst hx
  exact (((h.of rdisk_d).set 4 (.int .i64 a)).of (rdisk_d (F := F) (r := r) (vs := vs) (vt := vt) (vp := vp) (cs := cs) (ps := ps) (armed := a) (writes := writes) (off := off)).symm)
theorem Sat.rWrites (h : Sat w0 (RDiskC r vs vt vp cs ps armed writes off * F) w) (a : Nat) {x : Int} (hx : x = a) : Sat w0 (RDiskC r vs vt vp cs ps armed a off * F) (w.setCell ⟨r, 3, none⟩ (.int .i64 x)) := by
  subst hx
  exact (((h.of rdisk_d).set 3 (.int .i64 a)).of (rdisk_d (F := F) (r := r) (vs := vs) (vt := vt) (vp := vp) (cs := cs) (ps := ps) (armed := armed) (writes := a) (off := off)).symm)
theorem Sat.rOff (h : Sat w0 (RDiskC r vs vt vp cs ps armed writes off * F) w) (a : Bool) : Sat w0 (RDiskC r vs vt vp cs ps armed writes a * F) (w.setCell ⟨r, 5, none⟩ (.bool a)) :=
  (((h.of rdisk_d).set 5 (.bool a)).of (rdisk_d (F := F) (r := r) (vs := vs) (vt := vt) (vp := vp) (cs := cs) (ps := ps) (armed := armed) (writes := writes) (off := a)).symm)
/-- What was pending is forgotten. -/
theorem Sat.rNone (h : Sat w0 (RDiskC r vs vt vp cs ps armed writes off * F) w) : Sat w0 (RDiskC r vs vt (.slice none 0 0) cs [] armed writes off * F) (w.setCell ⟨r, 2, none⟩ (.slice none 0 0)) := by
  have h1 := ((h.of rdisk_d).set 2 (.slice none 0 0)).up4.right
  have h2 := (h1.up4.rol_keep (rs' := cs.map (·.1) ++ ([] : List (Nat × Slc)).map (·.2)) (fun r hr => .inl (List.mem_append_left _ (by simpa using hr)))).dn4
  exact ((h2.row_nil 80 2).dn4).of (rdisk_d (F := F) (r := r) (vs := vs) (vt := vt) (vp := .slice none 0 0) (cs := cs) (ps := []) (armed := armed) (writes := writes) (off := off)).symm
end
theorem rArm_any (r : Nat) (D : Dk) (k : Int) (w0 w : World) (F : SP) (h : Sat w0 (RDisk r D * F) w) :
    Calls Try.prog 39 #[.pointer (some ⟨r, 0, none⟩), .int .i64 k] w fun e w' => e = .returned (.tuple #[]) ∧ Sat w0 (RDisk r { D with armed := k.toNat } * F) w' := by
  obtain ⟨vs, vt, vp, cs, ps, hr, hs⟩ := h.rdisk
  have c4 := (hs.of rdisk_d).cell 4
  have f4 := (hs.of rdisk_d).frozen 4
  have HS := Lib.hid hs
  have HR := Lib.hid hr
  clear hs hr h
  by_cases hk : 0 < k
  · have c5 := ((HS.out.rArmed 0 (x := 0) rfl).of rdisk_d).cell 4
    have f5 := ((HS.out.rArmed 0 (x := 0) rfl).of rdisk_d).frozen 4
    go_enter Try.func39, Try.ntmps39
    go_wp2
    go_end0
    refine ⟨rfl, ?_⟩
    have h1 := (HS.out.rArmed 0 (x := 0) rfl).rArmed k.toNat (x := k) (by omega)
    exact Sat.rdiskI (D := { D with armed := k.toNat }) (by simpa using h1) ⟨HR.out.cells, HR.out.pend, HR.out.fitc, HR.out.fitp, HR.out.two, HR.out.most⟩
  · go_enter Try.func39, Try.ntmps39
    go_wp2
    go_end0
    refine ⟨rfl, ?_⟩
    exact Sat.rdiskI (D := { D with armed := k.toNat }) (HS.out.rArmed k.toNat (by omega)) ⟨HR.out.cells, HR.out.pend, HR.out.fitc, HR.out.fitp, HR.out.two, HR.out.most⟩
theorem rCut_any (r : Nat) (D : Dk) (w0 w : World) (F : SP) (h : Sat w0 (RDisk r D * F) w) :
    Calls Try.prog 40 #[.pointer (some ⟨r, 0, none⟩)] w fun e w' => e = .returned (.tuple #[]) ∧ Sat w0 (RDisk r { D with off := true } * F) w' := by
  obtain ⟨vs, vt, vp, cs, ps, hr, hs⟩ := h.rdisk
  have c5 := (hs.of rdisk_d).cell 5
  have f5 := (hs.of rdisk_d).frozen 5
  have HS := Lib.hid hs
  have HR := Lib.hid hr
  clear hs hr h
  go_enter Try.func40, Try.ntmps40
  go_wp2
  go_end0
  exact ⟨rfl, Sat.rdiskI (D := { D with off := true }) (HS.out.rOff true) ⟨HR.out.cells, HR.out.pend, HR.out.fitc, HR.out.fitp, HR.out.two, HR.out.most⟩⟩
theorem rPending_any (r : Nat) (D : Dk) (w0 w : World) (F : SP) (h : Sat w0 (RDisk r D * F) w) :
    Calls Try.prog 29 #[.pointer (some ⟨r, 0, none⟩)] w fun e w' => e = .returned (.int .i64 D.pend.length) ∧ w = w' := by
  obtain ⟨vs, vt, vp, cs, ps, hr, hs⟩ := h.rdisk
  obtain ⟨A, c, B, e, C, g, rfl, rfl, rfl, _⟩ := hs.rvals
  have c2 := (hs.of rdisk_d).cell 2
  have HL : Hid (D.pend.length = ps.length) := by rw [hr.pend]; unfold Hid; simp
  clear hs hr h
  go_enter Try.func29, Try.ntmps29
  go_wp2
  go_ret
  exact ⟨by rw [HL.out]; rfl, rfl⟩
def toldL (l : List UInt8) : List UInt8 := if l = [] then List.replicate 512 0 else l
def ToldAt (w0 : World) (F : SP) (g : Nat) (l : List UInt8) (k : Nat) (wr : World) : Prop := ∃ cur, Sat w0 (Pt g 5 cur * F) wr ∧ cur.size = 512 ∧ (∀ j (hj : j < l.length), j < k → cur[j]? = some (bv l[j])) ∧ (l = [] → cur = noughts 512)
def ToldD (l : List UInt8) (w0 : World) (F : SP) (e : Ending) (w' : World) : Prop := ∃ A c, e = .returned (.slice A 512 c) ∧ Sat w0 (Row 5 1 (.slice A 512 c) 512 ((toldL l).map bv) * F) w'
theorem told_any (A : Option Addr) (c : Nat) (l : List UInt8) (w0 w : World) (F : SP) (h : Sat w0 F w) (hr : Rd w A l) (hl : l = [] ∨ l.length = 512) :
    Calls Try.prog 42 #[.slice A l.length c] w (ToldD l w0 F) := by
  have hmk := make_512
  have HS := Lib.hid (h.allocPt 5 (noughts 512))
  have HR := Lib.hid fun W (k : Chg No w W) => hr.new k
  have HL := Lib.hid hl
  have hl5 : l.length ≤ 512 := by rcases hl with h | h; rw [h]; simp; omega
  have HK := Lib.hid ((Chg.refl No w).alloc (.cells (noughts 512) 5))
  clear h hr hl
  go_enter Try.func42, Try.ntmps42
  go_wp2
  obtain ⟨g, hg⟩ : ∃ g, g = w.heap.size := ⟨_, rfl⟩
  rw [← hg] at HS
  rw [← hg]
  have HG : Hid (w.heap.size ≤ g) := by unfold Hid; omega
  clear hg
  go_loopw [4] (fun i wr => ∃ k : Nat, k ≤ l.length ∧ i = .int .i64 k ∧ Hid (ToldAt w0 F g l k wr ∧ Chg No w wr)) (fun i _ => l.length - (intOf i).toNat)
  case atStart => exact ⟨0, by omega, rfl, ⟨_, HS.out, size_noughts 512, fun j hj h0 => by omega, fun _ => rfl⟩, HK.out⟩
  case round =>
    obtain ⟨k, hk, rfl, HD⟩ := hrel
    by_cases hlt : k < l.length
    · obtain ⟨⟨cur, hcur, hsz, hpre, hnl⟩, hch⟩ := HD.out
      obtain ⟨x, hx⟩ : ∃ x, cur[k]? = some x := ⟨_, Array.getElem?_eq_getElem (by omega)⟩
      have hc : wr.cell? ⟨g, k, none⟩ = some x := by rw [hcur.cell, hx]
      have hfz := hcur.frozen k
      obtain ⟨b, o, rfl, hcl⟩ := (HR.out wr hch).get hlt
      have HC := Lib.hid hcur
      have HS := Lib.hid hsz
      have HP := Lib.hid hpre
      have HCh := Lib.hid hch
      have hkl : (k : Int) < l.length := by omega
      have hk5 : (k : Int) < 512 := by omega
      clear hcur hsz hpre hx hch hnl
      go_wp2_with fail
      go_roundw
      case rel =>
        refine ⟨k + 1, by omega, by go_num, ⟨_, HC.out.set k _, by simpa using HS.out, fun j hj hjk => ?_, fun e => ?_⟩, HCh.out.setCell (p := ⟨g, k, none⟩) (fun h => absurd h (by have := HG.out; show ¬ g < _; omega)) _⟩
        · rw [Array.getElem?_setIfInBounds]
          by_cases e : k = j
          · subst e
            rw [if_pos rfl, if_pos (by have := HS.out; omega)]
            rfl
          · rw [if_neg e]
            exact HP.out j hj (by omega)
        · subst e; simp at hlt
      case measure => simp [intOf]; omega
    · have hkl : ¬ (k : Int) < l.length := by omega
      go_wp2_with fail
      go_ret
      obtain ⟨⟨cur, hcur, hsz, hpre, hnl⟩, hch⟩ := HD.out
      have hcu : cur.toList.take (512 * 1) = (toldL l).map bv := by
        unfold toldL
        by_cases hl0 : l = []
        · rw [if_pos hl0, hnl hl0]
          unfold noughts
          exact List.take_of_length_le (by simp only [List.length_map, List.length_replicate]; omega)
        · rw [if_neg hl0, List.take_of_length_le (by simp [hsz])]
          have h512 : l.length = 512 := HL.out.resolve_left hl0
          apply List.ext_getElem?
          intro j
          by_cases hj : j < l.length
          · rw [Array.getElem?_toList, hpre j hj (by omega)]
            simp [hj]
          · rw [List.getElem?_eq_none (by simp [hsz]; omega), List.getElem?_eq_none (by simp; omega)]
      refine ⟨some ⟨g, 0, none⟩, 512, rfl, ?_⟩
      rw [← hcu]
      exact hcur.row_pt (Nat.le_refl _) (by decide) (by simp [hsz])
end Go.Proofs.Ytiimlbkccoofmaa
