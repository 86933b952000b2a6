/- The document's disk: New, lay, Flush, Read. -/
import Derived.Test.YtiimlbkccoofmaaRef
namespace Go.Proofs.Ytiimlbkccoofmaa
open Go.RowKit
set_option linter.unusedVariables false

theorem info_slb : (Try.prog.info? 30).map (fun i => (i.zero, i.size, i.bytes)) = some (some (.slice none 0 0), 1, 24) := by kernel_rfl
theorem make_slbs (n : Nat) (hn : n ≤ 1000000) (W : World) : (Instr.makeSlice 59 (.int .i64 (n : Int)) (.int .i64 (n : Int))).run Try.prog W =
    .ok (.slice (some ⟨W.heap.size, 0, none⟩) n n) (W.alloc (.cells (plainC (.slice none 0 0) n) 30)) := by
  obtain ⟨i0, hi, hz0, hz1, hz2⟩ := info_parts info_slb
  have hr := run_make (P := Try.prog) W 59 30 i0 _ Try.underlying59 hi hz0 .i64 .i64 n n (by omega) (by omega) (by rw [hz2]; omega) (by omega)
  have hc : (Value.slice none 0 0).cells = #[.slice none 0 0] := rfl
  simpa [hz1, hc, made_one] using hr
theorem Sat.plainRow {w0 w : World} {F : SP} {g n : Nat} {e : TypeId} {z : Value} (h : Sat w0 (Pt g e (plainC z n) * F) w) (hn : n ≤ 1000000) : Sat w0 (Row e 1 (.slice (some ⟨g, 0, none⟩) n n) n (List.replicate n z) * F) w := by
  have h1 := h.row_pt (n := n) (cap := n) (size := 1) (Nat.le_refl _) (by unfold maxLen; omega) (by simp [plainC])
  have e1 : (plainC z n).toList.take (n * 1) = List.replicate n z := by unfold plainC; exact List.take_of_length_le (by simp)
  rwa [e1] at h1
def RNewD (n : Int) (w0 : World) (F : SP) (e : Ending) (w' : World) : Prop :=
  if 2 ≤ n ∧ n ≤ 65536 then ∃ r, e = .returned (.tuple #[.pointer (some ⟨r, 0, none⟩), .int .i64 0]) ∧ Sat w0 (RDisk r (Dk.new n.toNat) * F) w'
  else e = .returned (.tuple #[.pointer none, .int .i64 20]) ∧ Sat w0 F w'
theorem rnew_of {w0 w : World} {F : SP} {k S T r : Nat} (h : Sat w0 (Pt r 62 #[.slice (some ⟨S, 0, none⟩) k k, .slice (some ⟨T, 0, none⟩) k k, .slice none 0 0, .int .i64 0, .int .i64 0, .bool false] * (Pt S 30 (plainC (.slice none 0 0) k) * (Pt T 4 (plainC (.bool false) k) * F))) w) (hk : 2 ≤ k ∧ k ≤ 65536) :
    Sat w0 (RDisk r (Dk.new k) * F) w := by
  have h1 := h.up2.plainRow (by omega)
  have h2 := h1.up3.plainRow (by omega)
  have h3 := h2.row_nil 80 2
  have h4 := h3.rolNil ((List.replicate k (((none, 0, []) : Slc), false)).map (·.1) ++ ([] : List (Nat × Slc)).map (·.2)) (fun r hr => by simp at hr; rw [hr.2])
  refine Sat.rdiskI (D := Dk.new k) (vs := .slice (some ⟨S, 0, none⟩) k k) (vt := .slice (some ⟨T, 0, none⟩) k k) (vp := .slice none 0 0) (cs := List.replicate k (((none, 0, []) : Slc), false)) (ps := []) ?_ ⟨by simp [Dk.new, rcell], rfl, ?_, by simp, by simp; omega, by simp; omega⟩
  · refine h4.of ?_
    unfold RDiskC
    rw [List.length_replicate, List.map_replicate, List.map_replicate, List.map_replicate]
    show _ = _ * (_ * (_ * (Row _ 2 _ 0 [] * _))) * _
    ac_rfl
  · intro x hx
    simp at hx
    rw [hx.2]
    exact .inl rfl
theorem rNew_any (n : Int) (w0 w : World) (F : SP) (h : Sat w0 F w) : Calls Try.prog 23 #[.int .i64 n] w (RNewD n w0 F) := by
  by_cases h1 : 2 ≤ n ∧ n ≤ 65536
  · obtain ⟨k, rfl⟩ : ∃ k : Nat, n = k := ⟨n.toNat, by omega⟩
    have hmk := make_slbs k (by omega)
    have hmb := make_bools k (by omega)
    have hk1 : ¬ (k : Int) < 2 := by omega
    have hk2 : ¬ (65536 : Int) < k := by omega
    have HS := Lib.hid h
    have HK := Lib.hid h1
    clear h h1
    go_enter Try.func23, Try.ntmps23
    go_wp2_with fail
    go_region
    all_goals
      go_wp2_with fail
      go_ret2
      unfold RNewD
      rw [if_pos HK.out]
      refine ⟨_, rfl, ?_⟩
      rw [Int.toNat_natCast]
      have hb : (2 : Int) ≤ k ∧ (k : Int) ≤ 65536 := HK.out
      first
        | exact rnew_of (S := w.heap.size + 1) (T := w.heap.size) (((HS.out.allocPt 4 (plainC (.bool false) k)).allocAt 30 (plainC (.slice none 0 0) k) (by simp)).allocAt _ _ (by simp)).drew (by omega)
        | exact rnew_of (S := w.heap.size) (T := w.heap.size + 1) ((((HS.out.allocPt 30 (plainC (.slice none 0 0) k)).allocAt 4 (plainC (.bool false) k) (by simp)).up2).allocAt _ _ (by simp)).drew (by omega)
  · have HS := Lib.hid h
    have HK := Lib.hid h1
    by_cases h2 : n < 2
    · clear h h1
      go_enter Try.func23, Try.ntmps23
      go_wp2_with fail
      go_ret2
      unfold RNewD
      rw [if_neg HK.out]
      exact ⟨rfl, HS.out⟩
    · have h3 : 65536 < n := by omega
      clear h h1
      go_enter Try.func23, Try.ntmps23
      go_wp2_with fail
      go_ret2
      unfold RNewD
      rw [if_neg HK.out]
      exact ⟨rfl, HS.out⟩
section
variable {w0 w : World} {F : SP} {r armed writes : Nat} {vs vt vp : Value} {cs : List (Slc × Bool)} {ps : List (Nat × Slc)} {off : Bool} {D : Dk}
theorem Sat.row_set {e : TypeId} {A : Option Addr} {c n : Nat} {xs : List Value} (h : Sat w0 (Row e 1 (.slice A n c) n xs * F) w) {k : Nat} (hk : k < n) (u : Value) :
    ∃ g, A = some ⟨g, 0, none⟩ ∧ Sat w0 (Row e 1 (.slice A n c) n (xs.set k u) * F) (w.setCell ⟨g, k, none⟩ u) ∧ w.frozen? ⟨g, k, none⟩ = false ∧ ∀ j (hj : j < xs.length), w.cell? ⟨g, j, none⟩ = some xs[j] := by
  obtain ⟨hl, ⟨e1, e2, _⟩ | ⟨g, cap, cur, e1, h1, h2, h3, h4, h5⟩⟩ := h.row_cases
  · omega
  · injection e1 with e1 _ e3
    subst e1; subst e3
    refine ⟨g, rfl, ?_, h5.frozen k, fun j hj => ?_⟩
    · have h6 := (h5.set k u).row_pt (n := n) (cap := c) (size := 1) h1 h2 (by simpa using h3)
      have e : (cur.setIfInBounds k u).toList.take (n * 1) = xs.set k u := by
        rw [Array.toList_setIfInBounds, List.take_set, h4]
      rwa [e] at h6
    · rw [h5.cell]
      have h6 : xs[j]? = some xs[j] := List.getElem?_eq_getElem hj
      rw [← h6, ← h4, List.getElem?_take, if_pos (by omega)]
      simp
theorem set_same {α : Type} {l : List α} {i : Nat} (h : i < l.length) {x : α} (e : l[i] = x) : l.set i x = l := by subst e; exact List.set_getElem_self h
/-- The torn mark of a block. -/
theorem Sat.rTorn (h : Sat w0 (RDiskC r vs vt vp cs ps armed writes off * F) w) {a : Nat} (ha : a < cs.length) (t : Bool) :
    ∃ g c, vt = .slice (some ⟨g, 0, none⟩) cs.length c ∧ Sat w0 (RDiskC r vs vt vp (cs.set a (cs[a].1, t)) ps armed writes off * F) (w.setCell ⟨g, a, none⟩ (.bool t)) ∧ w.frozen? ⟨g, a, none⟩ = false ∧ w.cell? ⟨g, a, none⟩ = some (.bool cs[a].2) := by
  have h1 := (h.of rdisk_d).up3
  obtain ⟨B, c, rfl, _⟩ := h1.row_sl
  obtain ⟨g, rfl, h2, h3, h4⟩ := h1.row_set ha (.bool t)
  refine ⟨g, c, rfl, ?_, h3, by rw [h4 a (by simpa using ha)]; simp⟩
  have e1 : (cs.map fun x => Value.bool x.2).set a (.bool t) = (cs.set a (cs[a].1, t)).map fun x => .bool x.2 := by rw [List.map_set]
  have e2 : (cs.map fun x => slv x.1) = (cs.set a (cs[a].1, t)).map fun x => slv x.1 := by
    rw [List.map_set]
    have : (cs.map fun x => slv x.1)[a]'(by simpa using ha) = slv cs[a].1 := by simp
    exact (set_same (by simpa using ha) this).symm
  have e3 : cs.map (·.1) = (cs.set a (cs[a].1, t)).map (·.1) := by
    rw [List.map_set]
    have : (cs.map (·.1))[a]'(by simpa using ha) = cs[a].1 := by simp
    exact (set_same (by simpa using ha) this).symm
  have e4 : cs.length = (cs.set a (cs[a].1, t)).length := (List.length_set ..).symm
  have h5 := h2.dn3
  rw [e1, e2, e3] at h5
  refine h5.of ?_
  rw [e4]
  exact rdisk_d.symm
end
end Go.Proofs.Ytiimlbkccoofmaa
