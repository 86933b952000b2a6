/- The disk: Read. -/
import Derived.Test.YtiimlbkccoofmaaBlk1
namespace Go.Proofs.Ytiimlbkccoofmaa
open Go.RowKit
set_option linter.unusedVariables false

/-- The bytes of the last write that is pending to a block. -/
def Dk.last (D : Dk) (i : Int) : Option (List UInt8) := (D.pend.reverse.find? fun x => ((x.1 : Nat) : Int) == i).map fun x => x.2
def Dk.read (D : Dk) (i : Int) : List UInt8 × Int :=
  if D.ask i = 0 then
    match D.last i with
    | some b => (b, 0)
    | none => match D.cells[i.toNat]? with
      | some (b, t) => if t then ([], 24) else if b = [] then (List.replicate 512 0, 0) else (b, 0)
      | none => ([], 0)
  else ([], D.ask i)
theorem lastOf_map (ps : List (Nat × Slc)) (i : Int) : ((ps.map fun x => (x.1, x.2.2.2)).reverse.find? fun x => ((x.1 : Nat) : Int) == i) = (ps.reverse.find? fun x => ((x.1 : Nat) : Int) == i).map fun x => (x.1, x.2.2.2) := by
  rw [← List.map_reverse, List.find?_map]
  rfl
theorem zero_sl (w : World) : (zeroValue 30).run Try.prog w = .ok (.slice none 0 0) w := by kernel_rfl
def ReadD (d : Nat) (D : Dk) (i : Int) (w0 : World) (F : SP) (e : Ending) (w' : World) : Prop :=
  ∃ v, e = .returned (.tuple #[v, .int .i64 (D.read i).2]) ∧ Sat w0 (Row 5 1 v (D.read i).1.length ((D.read i).1.map bv) * (Disk d D * F)) w'
theorem read_any (d : Nat) (D : Dk) (i : Int) (w0 w : World) (F : SP) (h : Sat w0 (Disk d D * F) w) :
    Calls Try.prog 17 #[.pointer (some ⟨d, 0, none⟩), .int .i64 i] w (ReadD d D i w0 F) := by
  have HA := Lib.hid (asked_any d D i w0 w F h)
  obtain ⟨C, cc, M, nm, vp, cs, ps, hr, hn, hs⟩ := h.disk
  have HH := Lib.hid h
  by_cases h0 : D.ask i = 0
  · have hb : 0 ≤ i ∧ i < cs.length ∧ D.off = false := by
      unfold Dk.ask at h0
      have : D.cells.length = cs.length := by rw [hr.cells]; simp
      rw [this] at h0
      split at h0
      · omega
      · split at h0
        · rename_i h1 h2; exact ⟨h2.1, h2.2, by simpa using h1⟩
        · omega
    obtain ⟨hb1, hb2, _⟩ := hb
    obtain ⟨k, rfl⟩ : ∃ k : Nat, i = k := ⟨i.toNat, by omega⟩
    have hk : k < cs.length := by omega
    have HR : Hid (D.read k = match D.last k with
      | some b => (b, 0)
      | none => if cs[k].2 then ([], 24) else if cs[k].1.2.2 = [] then (List.replicate 512 0, 0) else (cs[k].1.2.2, 0)) := by
      unfold Hid Dk.read
      rw [if_pos h0, hr.cells]
      have e : (List.map (fun x : Slc × Bool => (x.1.2.2, x.2)) cs)[(k : Int).toNat]? = some (cs[k].1.2.2, cs[k].2) := by rw [Int.toNat_natCast, List.getElem?_map, List.getElem?_eq_getElem hk]; rfl
      rw [e]
    have HL : Hid (D.last k = (ps.reverse.find? fun x => ((x.1 : Nat) : Int) == k).map fun x => x.2.2.2) := by
      unfold Hid Dk.last
      rw [hr.pend, lastOf_map]
      cases (ps.reverse.find? fun x => ((x.1 : Nat) : Int) == k) <;> rfl
    have hc0 := hs.head.c0
    have hc2 := hs.head.c2
    have hm := (hs.of disk_d).up4
    have hl := Sat.map_look hm Try.underlying3 (t := 65) Try.underlying65 (zero_sl w) k (by have := hr.most; omega)
    have hx := hr.fitc cs[k] (List.getElem_mem hk)
    obtain ⟨q0, q1⟩ := hs.cellsAt hk
    have HRd := Lib.hid fun (r : Slc) (hr : r ∈ cs.map (·.1) ++ ps.map (·.2)) => (hs.of disk_d).up5.rol hr
    have HFp := Lib.hid hr.fitp
    have HK := Lib.hid (List.getElem_mem hk)
    have HX := Lib.hid hx
    have H0 := Lib.hid h0
    have hnil := fun (W : World) (A : Option Addr) (n c : Nat) => run_neq_slice_nil_any (P := Try.prog) W 30 5 A n c 0 0 Try.underlying30
    clear hr hn hs h hx hm h0
    generalize cs[k] = x at *
    obtain ⟨⟨Ax, cx, lx⟩, tx⟩ := x
    simp only [slv] at q0 q1
    unfold lastOf at hl
    cases hf : ps.reverse.find? fun x => ((x.1 : Nat) : Int) == k with
    | some p =>
      rw [hf] at hl HL
      simp only [Option.map_some, Option.getD_some, Option.isSome_some, slv] at hl
      have hp : p ∈ ps := by have := List.mem_of_find?_eq_some hf; simpa using this
      have HP : Hid (D.read k = (p.2.2.2, 0)) := by have h1 := HR.out; rw [show D.last k = some p.2.2.2 from HL.out] at h1; exact h1
      have HC := Lib.hid (clone_any p.2.1 p.2.2.1 p.2.2.2 w (HRd.out p.2 (List.mem_append_right _ (List.mem_map_of_mem hp))) (by have := (HFp.out p hp).2.1; omega))
      clear hf hp
      generalize p.2 = y at *
      obtain ⟨Ay, cy, ly⟩ := y
      go_enter Try.func17, Try.ntmps17
      go_wp2_with fail
      refine HA.out.mono ?_
      rintro e w' ⟨rfl, rfl⟩
      rw [H0.out]
      go_wp2_with fail
      refine HC.out.mono ?_
      rintro e w' ⟨v, rfl, hown, _, hchg⟩
      have HO := Lib.hid hown
      have HG := Lib.hid hchg
      clear hown hchg
      go_wp2_with fail
      go_ret2
      refine ⟨v, by rw [HP.out]; rfl, ?_⟩
      rw [HP.out]
      exact HH.out.gotRow HG.out HO.out
    | none =>
      rw [hf] at hl HL
      simp only [Option.map_none, Option.getD_none, Option.isSome_none] at hl
      have HL2 : Hid (D.last k = none) := HL.out
      clear HL hf
      cases tx with
      | true =>
        have HP : Hid (D.read k = ([], 24)) := by have h1 := HR.out; rw [HL2.out] at h1; exact h1
        go_enter Try.func17, Try.ntmps17
        go_wp2_with fail
        refine HA.out.mono ?_
        rintro e w' ⟨rfl, rfl⟩
        rw [H0.out]
        go_wp2_with fail
        go_ret2
        refine ⟨.slice none 0 0, by rw [HP.out]; rfl, ?_⟩
        rw [HP.out]
        exact (HH.out.alloc' _).row_nil _ 1
      | false =>
        have hft := HX.out.1
        by_cases hn0 : lx = []
        · have HP : Hid (D.read k = (List.replicate 512 0, 0)) := by have h1 := HR.out; rw [HL2.out] at h1; simp only [Bool.false_eq_true, if_false] at h1; rw [if_pos hn0] at h1; exact h1
          obtain rfl : Ax = none := hft.2.1 hn0
          have HN := Lib.hid hn0
          have hmk := make_512
          clear hn0 hft
          go_enter Try.func17, Try.ntmps17
          go_wp2_with fail
          refine HA.out.mono ?_
          rintro e w' ⟨rfl, rfl⟩
          rw [H0.out]
          go_wp2_with fail
          go_ret2
          refine ⟨_, by rw [HP.out]; rfl, ?_⟩
          rw [HP.out]
          exact bytes_row ((HH.out.alloc' _).allocAt _ (noughts 512) (by simp)) (by decide)
        · have HP : Hid (D.read k = (lx, 0)) := by have h1 := HR.out; rw [HL2.out] at h1; simp only [Bool.false_eq_true, if_false] at h1; rw [if_neg hn0] at h1; exact h1
          rcases Ax with _ | ax
          · exact absurd (hft.1 rfl).1 hn0
          have HC := Lib.hid fun (W : World) (hW : Chg No w W) => clone_any (some ax) cx lx W ((HRd.out (some ax, cx, lx) (List.mem_append_left _ (List.mem_map_of_mem (f := Prod.fst) HK.out))).new hW) (by have := hft.2.2; have := HX.out.2; rcases this with h | h; exact absurd h hn0; show lx.length ≤ _; have h' : lx.length = 512 := h; omega)
          clear hn0 hft
          go_enter Try.func17, Try.ntmps17
          go_wp2_with fail
          refine HA.out.mono ?_
          rintro e w' ⟨rfl, rfl⟩
          rw [H0.out]
          go_wp2_with fail
          refine (HC.out _ ((Chg.refl No w).alloc _)).mono ?_
          rintro e w' ⟨v, rfl, hown, _, hchg⟩
          have HO := Lib.hid hown
          have HG := Lib.hid hchg
          clear hown hchg
          go_wp2_with fail
          go_ret2
          refine ⟨v, by rw [HP.out]; rfl, ?_⟩
          rw [HP.out]
          exact (HH.out.alloc' _).gotRow HG.out HO.out
  · go_enter Try.func17, Try.ntmps17
    have h0' : (D.ask i != 0) = true := by simpa using h0
    have H0 := Lib.hid h0
    clear h0 hr hn hs h
    go_wp2_with fail
    refine HA.out.mono ?_
    rintro e w' ⟨rfl, rfl⟩
    go_wp2_with fail
    go_ret2
    refine ⟨.slice none 0 0, ?_, ?_⟩
    · rw [Dk.read, if_neg H0.out]; rfl
    · rw [Dk.read, if_neg H0.out]
      exact HH.out.row_nil _ 1
end Go.Proofs.Ytiimlbkccoofmaa
