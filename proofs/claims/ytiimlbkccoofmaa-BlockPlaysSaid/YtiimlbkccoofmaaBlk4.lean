/- The disk: New, Flush, On. -/
import Derived.Test.YtiimlbkccoofmaaBlk3
namespace Go.Proofs.Ytiimlbkccoofmaa
open Go.RowKit
set_option linter.unusedVariables false

def Dk.new (n : Nat) : Dk := ⟨List.replicate n ([], false), [], 0, 0, false⟩
def NewD (n : Int) (w0 : World) (F : SP) (e : Ending) (w' : World) : Prop :=
  if 2 ≤ n ∧ n ≤ 65536 then ∃ d, e = .returned (.tuple #[.pointer (some ⟨d, 0, none⟩), .int .i64 0]) ∧ Sat w0 (Disk d (Dk.new n.toNat) * F) w'
  else e = .returned (.tuple #[.pointer none, .int .i64 20]) ∧ Sat w0 F w'
theorem info_cell : (Try.prog.info? 74).map (fun i => (i.zero, i.size, i.bytes)) = some (some (.agg #[.slice none 0 0, .bool false]), 2, 32) := by kernel_rfl
/-- Cells of a new disk. -/
def blanks (n : Nat) : Array Value := ((List.replicate n (((none, 0, []) : Slc), false)).flatMap cellV).toArray
theorem blanks_made (n : Nat) : madeCells #[.slice none 0 0, .bool false] (n * 2) = blanks n := by
  apply Array.ext'
  apply List.ext_getElem?
  intro j
  have hl : (List.replicate n (((none, 0, []) : Slc), false)).length = n := by simp
  have hf := flat2 (f := cellV) (fun _ => rfl) (List.replicate n (((none, 0, []) : Slc), false)) (j / 2) (j % 2)
  have hfl := flat2_len (f := cellV) (fun _ => rfl) (List.replicate n (((none, 0, []) : Slc), false))
  rw [hl] at hfl
  unfold blanks madeCells
  by_cases h : j < n * 2
  · have h1 := hf (by rw [hl]; omega) (by omega)
    rw [show j / 2 * 2 + j % 2 = j by omega] at h1
    simp only [List.getElem_replicate] at h1
    rw [List.toList_toArray, h1]
    simp [h]
    rcases Nat.mod_two_eq_zero_or_one j with e | e <;> rw [e] <;> rfl
  · rw [List.getElem?_eq_none (by simp; omega), List.getElem?_eq_none (by rw [hfl]; omega)]
theorem make_cells (n : Nat) (hn : n ≤ 65536) (W : World) : (Instr.makeSlice 64 (.int .i64 (n : Int)) (.int .i64 (n : Int))).run Try.prog W =
    .ok (.slice (some ⟨W.heap.size, 0, none⟩) n n) (W.alloc (.cells (blanks n) 74)) := by
  obtain ⟨i0, hi, hz0, hz1, hz2⟩ := info_parts info_cell
  have hr := run_make (P := Try.prog) W 64 74 i0 _ Try.underlying64 hi hz0 .i64 .i64 n n (by omega) (by omega) (by rw [hz2]; omega) (by omega)
  have hc : (Value.agg #[.slice none 0 0, .bool false]).cells = #[.slice none 0 0, .bool false] := rfl
  simpa [hz1, hc, blanks_made] using hr
theorem new_any (n : Int) (w0 w : World) (F : SP) (h : Sat w0 F w) : Calls Try.prog 8 #[.int .i64 n] w (NewD n w0 F) := by
  by_cases h1 : 2 ≤ n ∧ n ≤ 65536
  · obtain ⟨k, rfl⟩ : ∃ k : Nat, n = k := ⟨n.toNat, by omega⟩
    have hmk := make_cells k (by omega)
    have hmm := @run_makeMap Try.prog
    have hk1 : ¬ (k : Int) < 2 := by omega
    have hk2 : ¬ (65536 : Int) < k := by omega
    have HS := Lib.hid h
    have HK := Lib.hid h1
    clear h h1
    go_enter Try.func8, Try.ntmps8
    go_wp2_with fail
    go_ret2
    unfold NewD
    rw [if_pos HK.out]
    refine ⟨_, rfl, ?_⟩
    have h1 := (HS.out.rolNil ((List.replicate k (((none, 0, []) : Slc), false)).map (·.1) ++ ([] : List (Nat × Slc)).map (·.2)) (fun r hr => by simp at hr; rw [hr.2])).allocPt 74 (blanks k)
    have h2 := h1.map_new (P := Try.prog) (k := 3)
    have h3 := h2.allocPt 68 #[.slice (some ⟨w.heap.size, 0, none⟩) k k, .slice none 0 0, .map (some (w.alloc (.cells (blanks k) 74)).heap.size), .int .i64 0, .int .i64 0, .bool false]
    have h4 := h3.row_nil 72 2
    have e5 : (blanks k).toList.take (k * 2) = (List.replicate k (((none, 0, []) : Slc), false)).flatMap cellV := by
      unfold blanks
      refine List.take_of_length_le ?_
      rw [flat2_len (fun _ => rfl), List.length_replicate]
      exact Nat.le_refl _
    have h5 := (h4.up4).row_pt (n := k) (cap := k) (size := 2) (Nat.le_refl _) (by have : (2 : Int) ≤ k ∧ (k : Int) ≤ 65536 := HK.out; unfold maxLen; omega) (by unfold blanks; rw [List.size_toArray, flat2_len (fun _ => rfl), List.length_replicate])
    rw [e5] at h5
    rw [Int.toNat_natCast]
    have hb : (2 : Int) ≤ k ∧ (k : Int) ≤ 65536 := HK.out
    refine Sat.diskI (D := Dk.new k) (C := w.heap.size) (cc := k) (M := (w.alloc (.cells (blanks k) 74)).heap.size) (nm := 0) (vp := .slice none 0 0) (cs := List.replicate k (((none, 0, []) : Slc), false)) (ps := []) ?_ ⟨by simp [Dk.new], rfl, ?_, by simp, by simp; omega, by simp; omega⟩ (Nat.le_refl _)
    · refine Sat.of (by simpa using h5) ?_
      unfold DiskC
      rw [List.length_replicate]
      show _ = _ * (_ * (Row _ 2 _ 0 [] * (MapP _ _ _ _ (fun _ => none) * _))) * _
      simp
      ac_rfl
    · intro x hx
      simp at hx
      rw [hx.2]
      exact ⟨⟨fun _ => ⟨rfl, rfl⟩, fun _ => rfl, Nat.le_refl _, by show (0:Nat) ≤ _; omega⟩, .inl rfl⟩
  · have HS := Lib.hid h
    have HK := Lib.hid h1
    by_cases h2 : n < 2
    · clear h h1
      go_enter Try.func8, Try.ntmps8
      go_wp2_with fail
      go_ret2
      unfold NewD
      rw [if_neg HK.out]
      exact ⟨rfl, HS.out⟩
    · have h3 : 65536 < n := by omega
      clear h h1
      go_enter Try.func8, Try.ntmps8
      go_wp2_with fail
      go_ret2
      unfold NewD
      rw [if_neg HK.out]
      exact ⟨rfl, HS.out⟩
end Go.Proofs.Ytiimlbkccoofmaa
