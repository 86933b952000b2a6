/- tidingslaw02.BlockCrash: its walk. -/
import Derived.Test.YtiimlbkccoofmaaBlkCrash
import Derived.Deep.CutBlock
namespace Go.Proofs.Ytiimlbkccoofmaa
open Go.RowKit
set_option linter.unusedVariables false

/-- n of one kind, as cells. -/
def plainC (z : Value) (n : Nat) : Array Value := (List.replicate n z).toArray
theorem made_one (z : Value) (n : Nat) : madeCells #[z] n = plainC z n := by
  apply Array.ext'
  apply List.ext_getElem?
  intro j
  simp [madeCells, plainC, List.getElem?_replicate]
  by_cases h : j < n
  · simp [h]
    rw [Nat.mod_one]
    rfl
  · simp [h]
theorem info_int : (Try.prog.info? 3).map (fun i => (i.zero, i.size, i.bytes)) = some (some (.int .i64 0), 1, 8) := by kernel_rfl
theorem info_bool : (Try.prog.info? 4).map (fun i => (i.zero, i.size, i.bytes)) = some (some (.bool false), 1, 1) := by kernel_rfl
theorem make_ints (n : Nat) (hn : n ≤ 1000000) (W : World) : (Instr.makeSlice 43 (.int .i64 (n : Int)) (.int .i64 (n : Int))).run Try.prog W =
    .ok (.slice (some ⟨W.heap.size, 0, none⟩) n n) (W.alloc (.cells (plainC (.int .i64 0) n) 3)) := by
  obtain ⟨i0, hi, hz0, hz1, hz2⟩ := info_parts info_int
  have hr := run_make (P := Try.prog) W 43 3 i0 _ Try.underlying43 hi hz0 .i64 .i64 n n (by omega) (by omega) (by rw [hz2]; omega) (by omega)
  have hc : (Value.int .i64 0).cells = #[.int .i64 0] := rfl
  simpa [hz1, hc, made_one] using hr
theorem make_bools (n : Nat) (hn : n ≤ 1000000) (W : World) : (Instr.makeSlice 36 (.int .i64 (n : Int)) (.int .i64 (n : Int))).run Try.prog W =
    .ok (.slice (some ⟨W.heap.size, 0, none⟩) n n) (W.alloc (.cells (plainC (.bool false) n) 4)) := by
  obtain ⟨i0, hi, hz0, hz1, hz2⟩ := info_parts info_bool
  have hr := run_make (P := Try.prog) W 36 4 i0 _ Try.underlying36 hi hz0 .i64 .i64 n n (by omega) (by omega) (by rw [hz2]; omega) (by omega)
  have hc : (Value.bool false).cells = #[.bool false] := rfl
  simpa [hz1, hc, made_one] using hr
def WasP (g : Nat) (was : List Int) : SP := Pt g 3 (was.map (Value.int .i64)).toArray
def FilP (g : Nat) (filled : List Bool) : SP := Pt g 4 (filled.map Value.bool).toArray
theorem was_made (g n : Nat) : Pt g 3 (plainC (.int .i64 0) n) = WasP g (List.replicate n 0) := by unfold WasP plainC; rw [List.map_replicate]
theorem fil_made (g n : Nat) : Pt g 4 (plainC (.bool false) n) = FilP g (List.replicate n false) := by unfold FilP plainC; rw [List.map_replicate]
section
variable {w0 w : World} {F : SP} {g : Nat} {was : List Int} {filled : List Bool}
theorem Sat.wasCell (h : Sat w0 (WasP g was * F) w) {k : Nat} (hk : k < was.length) : w.cell? ⟨g, k, none⟩ = some (.int .i64 (was.getD k 0)) := by
  rw [Sat.cell h]
  simp [List.getD, hk]
theorem Sat.filCell (h : Sat w0 (FilP g filled * F) w) {k : Nat} (hk : k < filled.length) : w.cell? ⟨g, k, none⟩ = some (.bool (filled.getD k false)) := by
  rw [Sat.cell h]
  simp [List.getD, hk]
theorem Sat.wasSet (h : Sat w0 (WasP g was * F) w) (k : Nat) (v : Int) : Sat w0 (WasP g (was.set k v) * F) (w.setCell ⟨g, k, none⟩ (.int .i64 v)) := by
  have := Sat.set h k (.int .i64 v)
  unfold WasP
  rw [List.map_set, ← List.setIfInBounds_toArray]
  exact this
theorem Sat.filSet (h : Sat w0 (FilP g filled * F) w) (k : Nat) (v : Bool) : Sat w0 (FilP g (filled.set k v) * F) (w.setCell ⟨g, k, none⟩ (.bool v)) := by
  have := Sat.set h k (.bool v)
  unfold FilP
  rw [List.map_set, ← List.setIfInBounds_toArray]
  exact this
theorem Sat.wasFree (h : Sat w0 (WasP g was * F) w) (k : Nat) : w.frozen? ⟨g, k, none⟩ = false := Sat.frozen h k
theorem Sat.filFree (h : Sat w0 (FilP g filled * F) w) (k : Nat) : w.frozen? ⟨g, k, none⟩ = false := Sat.frozen h k
end
/-- All that the statement holds. -/
def CrP (d Wb Fb : Nat) (D : Dk) (Kp : Option Addr) (keep : List Bool) (was : List Int) (filled : List Bool) : SP :=
  Disk d D * (Ro Kp (keep.map Value.bool) * (WasP Wb was * (FilP Fb filled * Emp)))
set_option maxRecDepth 100000 in
set_option maxHeartbeats 16000000 in
theorem blockCrash_walk (n : Int) (A : Option Addr) (c : Nat) (ks : List (Int × Int)) (B : Option Addr) (c' : Nat) (ps : List (Int × Int)) (Kp : Option Addr) (kc : Nat) (keep : List Bool) (torn bytes : Int) (w : World) (hn : -9223372036854775808 ≤ n ∧ n ≤ 9223372036854775807)
    (hp : ks.length ≤ c ∧ c ≤ maxLen ∧ RdV w A (ks.flatMap v2) ∧ ks.length * 16 ≤ 140737488351232 ∧ ∀ y ∈ ks, isI64 y.1 ∧ isI64 y.2)
    (hq : ps.length ≤ c' ∧ c' ≤ maxLen ∧ RdV w B (ps.flatMap v2) ∧ ps.length * 16 ≤ 140737488351232 ∧ ∀ y ∈ ps, isI64 y.1 ∧ isI64 y.2)
    (hk : keep.length ≤ kc ∧ kc ≤ maxLen ∧ RdV w Kp (keep.map Value.bool) ∧ keep.length ≤ 140737488351232)
    (ht : -9223372036854775808 ≤ torn ∧ torn ≤ 9223372036854775807) (hby : -9223372036854775808 ≤ bytes ∧ bytes ≤ 9223372036854775807) :
    Calls Try.prog 5 #[.int .i64 n, .slice A ks.length c, .slice B ps.length c', .slice Kp keep.length kc, .int .i64 torn, .int .i64 bytes] w (Asked true w) := by
  have HR := Lib.hid hp.2.2.1
  have HQ := Lib.hid hq.2.2.1
  have HK := Lib.hid hk.2.2.1
  have hl : ks.length ≤ 8796093021952 := by have := hp.2.2.2.1; omega
  have hl2 : ps.length ≤ 8796093021952 := by have := hq.2.2.2.1; omega
  have hl3 : keep.length ≤ 140737488351232 := hk.2.2.2
  clear hp hq hk hn ht hby
  have hm1 := i64_and_le n 15 (by omega)
  obtain ⟨m, hm⟩ : ∃ m, bits .and .i64 n 15 = m := ⟨_, rfl⟩
  have hm0 : 0 ≤ m ∧ m ≤ 15 := by rw [← hm]; exact hm1
  clear hm1
  obtain ⟨N, hN⟩ : ∃ N : Nat, 2 + m = N := ⟨(2 + m).toNat, by omega⟩
  have hN2 : 2 ≤ N ∧ N ≤ 17 := by omega
  obtain ⟨hm2, hm3⟩ := hm0
  obtain ⟨hN3, hN4⟩ := hN2
  have hmk := make_ints N (by omega)
  have hmb := make_bools N (by omega)
  go_enter Try.func5, Try.ntmps5
  go_wp2_with fail
  clear hm
  refine (new_yes N (by omega) w w _ (Sat.start w)).mono ?_
  rintro e w3 ⟨d, rfl, hs⟩
  have HS3 := Lib.hid hs
  clear hs hN
  go_upto_block 0 with (first
    | (go_at_call 9; refine (num_any _ _).mono ?_; rintro e w' ⟨rfl, rfl⟩)
    | (go_at_call 10; refine (wakes_any w w3 _ HS3.out).mono ?_; rintro e w4 ⟨rfl, hs4⟩; have HS4 := Lib.hid hs4; clear hs4))
  have h5 : Sat w (CrP d w4.heap.size (w4.heap.size + 1) (Dk.new N) Kp keep (List.replicate N 0) (List.replicate N false)) ((w4.alloc (.cells (plainC (.int .i64 0) N) 3)).alloc (.cells (plainC (.bool false) N) 4)) := by
    have h1 := (HS4.out.arg HK.out).allocPt 3 (plainC (.int .i64 0) N)
    have h2 := h1.allocAt 4 (plainC (.bool false) N) (b := w4.heap.size + 1) (by simp)
    rw [was_made, fil_made] at h2
    exact h2.of (by unfold CrP; ac_rfl)
  obtain ⟨w5, hw5⟩ : ∃ w5, w5 = (w4.alloc (.cells (plainC (.int .i64 0) N) 3)).alloc (.cells (plainC (.bool false) N) 4) := ⟨_, rfl⟩
  obtain ⟨Fb, hFb⟩ : ∃ b, b = w4.heap.size + 1 := ⟨_, rfl⟩
  rw [← hw5, ← hFb] at h5
  rw [← hw5, ← hFb]
  obtain ⟨Wb, hWb⟩ : ∃ b, b = w4.heap.size := ⟨_, rfl⟩
  rw [← hWb] at h5
  rw [← hWb]
  clear hw5 hFb hWb hmk hmb
  have HS5 := Lib.hid h5
  clear h5
  go_cut [17] (fun _ wx => Hid (∃ j was filled D, j ≤ 20 ∧ Cr1 N j was filled D ∧ Sat w (CrP d Wb Fb D Kp keep was filled) wx))
  case first =>
    go_wp2_with fail
    go_loopw [17] (fun i wr => ∃ j : Nat, j ≤ ks.length ∧ j ≤ 20 ∧ i = .int .i64 j ∧ Hid (∃ was filled D, Cr1 N j was filled D ∧ Sat w (CrP d Wb Fb D Kp keep was filled) wr)) (fun i _ => ks.length - (intOf i).toNat)
    case atStart => exact ⟨0, by omega, by omega, rfl, _, _, _, Cr1.start N, HS5.out⟩
    case round =>
      obtain ⟨j, hj, hj6, rfl, HD0⟩ := hrel
      obtain ⟨was, filled, D, hok, hsat⟩ := HD0.out
      by_cases hlt : j < ks.length ∧ j < 20
      · obtain ⟨hlt, hj20⟩ := hlt
        obtain ⟨b, o, rfl, hcell⟩ := (HR.out.new hsat.chg).elem (k := 2) (fun _ => rfl) (by decide) hlt
        have q0 := hcell 0 (by decide)
        have q1 := hcell 1 (by decide)
        have HC : Hid (∀ W, Chg No w W → W.cell? ⟨b, o + (j * 2 + 1), none⟩ = some (.int .i64 ks[j].2)) := fun W hW => by
          obtain ⟨b', o', e, hc⟩ := (HR.out.new hW).elem (k := 2) (fun _ => rfl) (by decide) hlt
          injection e with e
          injection e with e1 e2
          subst e1; subst e2
          exact hc 1 (by decide)
        have hj20' : (j : Int) < 20 := by omega
        have HD := Lib.hid hsat
        have HO := Lib.hid hok
        clear hok hsat HD0 hcell
        generalize ks[j] = x at *
        obtain ⟨x0, x1⟩ := x
        simp only [v2, List.getElem?_cons_zero, List.getElem?_cons_succ, Nat.add_zero, ← Nat.add_assoc] at q0 q1
        go_wp2_with fail
        refine (within0 x0 ((N : Int) - 1) wr (by omega) (by omega)).mono ?_
        rintro e w' ⟨rfl, rfl⟩
        have hwi := wi_le x0 ((N : Int) - 1) (by omega)
        generalize wi x0 ((N : Int) - 1) = k at *
        have hkN : k < N := by omega
        clear hwi q0
        obtain ⟨D', hW, hok'⟩ := HO.out.step hkN x1
        have HW := Lib.hid hW
        have HO' := Lib.hid hok'
        clear hW hok'
        go_wp2_with fail
        refine (fill_any x1 w wr _ HD.out).mono ?_
        rintro e w6 ⟨A6, c6, rfl, hs⟩
        have HS6 := Lib.hid (show Sat w (Disk d D * (Rb A6 (fill x1) * (Ro Kp (keep.map Value.bool) * (WasP Wb was * (FilP Fb filled * Emp))))) w6 from (show Sat w (Row _ 1 _ 512 _ * (Disk d D * _)) w6 from hs).rowGive)
        clear hs
        go_wp2_with fail
        refine (write_at HS6.out HS6.out.up2.rd (length_fill _) HW.out (by decide) (by have := HO.out.writes; omega) (by have := HO.out.pend; omega) (by have := HO.out.armed; omega)).mono ?_
        rintro e w7 ⟨rfl, hs⟩
        have HS7 := Lib.hid (show Sat w (CrP d Wb Fb D' Kp keep was filled) w7 from hs.drop2)
        clear hs
        have q2 := HC.out w7 HS7.out.chg
        simp only [← Nat.add_assoc] at q2
        have q3 := HS7.out.up3.wasCell (k := k) (by rw [HO.out.lw]; exact hkN)
        have q5 := HS7.out.up3.wasFree k
        have HS8 := Lib.hid (HS7.out.up3.wasSet k x1)
        have q4 := HS8.out.up4.filCell (k := k) (by rw [HO.out.lf]; exact hkN)
        have q6 := HS8.out.up4.filFree k
        have HS9 := Lib.hid ((HS8.out.up4.filSet k true).of (show _ = CrP d Wb Fb D' Kp keep (was.set k x1) (filled.set k true) by unfold CrP; ac_rfl))
        go_wp2_with (go_at_call 9; refine (num_any _ _).mono ?_; rintro e w' ⟨rfl, rfl⟩)
        go_roundw
        case rel => exact ⟨j + 1, by omega, by omega, by go_num, _, _, _, HO'.out, HS9.out⟩
        case measure => simp [intOf]; omega
      · by_cases hlt2 : j < ks.length
        · have hj20 : ¬ (j : Int) < 20 := by omega
          clear hlt
          go_wp2_with fail
          go_meet
          exact ⟨j, was, filled, D, hj6, hok, hsat⟩
        · have hj20 : ¬ (j : Int) < ks.length := by omega
          clear hlt
          go_wp2_with fail
          go_meet
          exact ⟨j, was, filled, D, hj6, hok, hsat⟩
  case rest =>
    obtain ⟨j0, was0, filled0, D0, hj0, hok, hsat⟩ := hcut.out
    clear hcut HS5
    have HD := Lib.hid hsat
    have HO := Lib.hid hok
    have HM : Hid (j0 ≤ 20) := hj0
    clear hsat hok
    go_wp2_with fail
    obtain ⟨D1, hF, hC2⟩ := HO.out.flush keep torn bytes
    refine (flush_at HD.out hF (by have := HO.out.pend; omega)).mono ?_
    rintro e w8 ⟨rfl, hs⟩
    have HS8 := Lib.hid (show Sat w (CrP d Wb Fb D1 Kp keep was0 filled0) w8 from hs)
    have HC2 := Lib.hid hC2
    clear hs hC2 hF HD HO
    go_upto_block 2 with (go_at_call 9; refine (num_any _ _).mono ?_; rintro e w' ⟨rfl, rfl⟩)
    go_cut [19, 20] (fun rp _ wx => ∃ ripped : Int, rp = .int .i64 ripped ∧ Hid (∃ j was filled D, j ≤ 20 ∧ Cr2 keep torn bytes N j0 j was filled ripped D ∧ Sat w (CrP d Wb Fb D Kp keep was filled) wx))
    case first =>
      go_wp2_with fail
      go_loopw [19, 20] (fun rp i wr => ∃ j : Nat, j ≤ ps.length ∧ j ≤ 20 ∧ i = .int .i64 j ∧ ∃ ripped : Int, rp = .int .i64 ripped ∧ Hid (∃ was filled D, Cr2 keep torn bytes N j0 j was filled ripped D ∧ Sat w (CrP d Wb Fb D Kp keep was filled) wr)) (fun _ i _ => ps.length - (intOf i).toNat)
      case atStart => exact ⟨0, by omega, by omega, rfl, _, rfl, _, _, _, HC2.out, HS8.out⟩
      case round =>
        obtain ⟨j, hj, hj6, rfl, ripped, rfl, HD0⟩ := hrel
        obtain ⟨was, filled, D, hok, hsat⟩ := HD0.out
        by_cases hlt : j < ps.length ∧ j < 20
        · obtain ⟨hlt, hj20⟩ := hlt
          obtain ⟨b, o, rfl, hcell⟩ := (HQ.out.new hsat.chg).elem (k := 2) (fun _ => rfl) (by decide) hlt
          have q0 := hcell 0 (by decide)
          have q1 := hcell 1 (by decide)
          have HC : Hid (∀ W, Chg No w W → W.cell? ⟨b, o + (j * 2 + 1), none⟩ = some (.int .i64 ps[j].2)) := fun W hW => by
            obtain ⟨b', o', e, hc⟩ := (HQ.out.new hW).elem (k := 2) (fun _ => rfl) (by decide) hlt
            injection e with e
            injection e with e1 e2
            subst e1; subst e2
            exact hc 1 (by decide)
          have hj20' : (j : Int) < 20 := by omega
          have HD := Lib.hid hsat
          have HO := Lib.hid hok
          clear hok hsat HD0 hcell
          generalize ps[j] = x at *
          obtain ⟨x0, x1⟩ := x
          simp only [v2, List.getElem?_cons_zero, List.getElem?_cons_succ, Nat.add_zero, ← Nat.add_assoc] at q0 q1
          go_wp2_with fail
          refine (within0 x0 ((N : Int) - 1) wr (by omega) (by omega)).mono ?_
          rintro e w' ⟨rfl, rfl⟩
          have hwi := wi_le x0 ((N : Int) - 1) (by omega)
          generalize wi x0 ((N : Int) - 1) = k at *
          have hkN : k < N := by omega
          clear hwi q0
          obtain ⟨D', hW, hok1, hok2, hok3⟩ := HO.out.step hkN x1
          have HW := Lib.hid hW
          have HT1 := Lib.hid hok1
          have HT2 := Lib.hid hok2
          have HT3 := Lib.hid hok3
          clear hW hok1 hok2 hok3
          go_wp2_with fail
          refine (fill_any x1 w wr _ HD.out).mono ?_
          rintro e w6 ⟨A6, c6, rfl, hs⟩
          have HS6 := Lib.hid (show Sat w (Disk d D * (Rb A6 (fill x1) * (Ro Kp (keep.map Value.bool) * (WasP Wb was * (FilP Fb filled * Emp))))) w6 from (show Sat w (Row _ 1 _ 512 _ * (Disk d D * _)) w6 from hs).rowGive)
          clear hs
          go_wp2_with fail
          refine (write_at HS6.out HS6.out.up2.rd (length_fill _) HW.out (by decide) (by have := HO.out.writes; have := HM.out; omega) (by have := HO.out.pend; omega) (by have := HO.out.armed; omega)).mono ?_
          rintro e w7 ⟨rfl, hs⟩
          have HS7 := Lib.hid (show Sat w (CrP d Wb Fb D' Kp keep was filled) w7 from hs.drop2)
          clear hs
          have q2 := HC.out w7 HS7.out.chg
          simp only [← Nat.add_assoc] at q2
          have q3 := HS7.out.up3.wasCell (k := k) (by rw [HO.out.lw]; exact hkN)
          go_upto_region 23 with (go_at_call 9; refine (num_any _ _).mono ?_; rintro e w' ⟨rfl, rfl⟩)
          go_cut [134] (fun s wx => s = .bool (tornB torn bytes j) ∧ Hid (wx = w7))
          case first =>
            by_cases g1 : (j : Int) = torn
            · have g1' : ((j : Int) == torn) = true := by rw [beq_iff_eq]; exact g1
              by_cases g2 : 1 ≤ bytes
              · by_cases g3 : bytes < 512
                · have e : tornB torn bytes j = true := by unfold tornB; exact decide_eq_true ⟨g1, g2, g3⟩
                  have E := Lib.hid e
                  clear e g1
                  go_wp2_with fail
                  go_meet
                  exact ⟨by rw [E.out], rfl⟩
                · have e : tornB torn bytes j = false := by unfold tornB; exact decide_eq_false fun h => g3 h.2.2
                  have E := Lib.hid e
                  clear e g1
                  go_wp2_with fail
                  go_meet
                  exact ⟨by rw [E.out], rfl⟩
              · have e : tornB torn bytes j = false := by unfold tornB; exact decide_eq_false fun h => g2 h.2.1
                have E := Lib.hid e
                clear e g1
                go_wp2_with fail
                go_meet
                exact ⟨by rw [E.out], rfl⟩
            · have g1' : ((j : Int) == torn) = false := by rw [beq_eq_false_iff_ne]; exact g1
              have e : tornB torn bytes j = false := by unfold tornB; exact decide_eq_false fun h => g1 h.1
              have E := Lib.hid e
              clear e g1
              go_wp2_with fail
              go_meet
              exact ⟨by rw [E.out], rfl⟩
          case rest =>
            obtain ⟨rfl, HW'⟩ := hcut
            have hw := HW'.out
            subst hw
            cases ht : tornB torn bytes j with
            | true =>
              have HTT := Lib.hid ht
              clear ht
              go_wp2_with fail
              go_roundw
              case rel => exact ⟨j + 1, by omega, by omega, by go_num, _, rfl, _, _, _, HT1.out HTT.out, HS7.out⟩
              case measure => simp [intOf]; omega
            | false =>
              have HTT := Lib.hid ht
              clear ht
              by_cases g1 : j < keep.length
              · obtain ⟨bk, ok, rfl, hck⟩ := HS7.out.up2.rdv.get (j := j) (by simpa using g1)
                simp only [List.getElem_map] at hck
                have g1' : (j : Int) < keep.length := by omega
                have HKB : Hid (keepB keep j = keep[j]) := by unfold Hid keepB; rw [List.getElem?_eq_getElem g1]; rfl
                cases hkk : keep[j] with
                | true =>
                  rw [hkk] at hck HKB
                  clear hkk
                  have q2 := HC.out wc HS7.out.chg
                  simp only [← Nat.add_assoc] at q2
                  have q3 := HS7.out.up3.wasCell (k := k) (by rw [HO.out.lw]; exact hkN)
                  have q5 := HS7.out.up3.wasFree k
                  have HS8 := Lib.hid (HS7.out.up3.wasSet k x1)
                  have q4 := HS8.out.up4.filCell (k := k) (by rw [HO.out.lf]; exact hkN)
                  have q6 := HS8.out.up4.filFree k
                  have HS9 := Lib.hid ((HS8.out.up4.filSet k true).of (show _ = CrP d Wb Fb D' _ keep (was.set k x1) (filled.set k true) by unfold CrP; ac_rfl))
                  by_cases hr : ripped = (k : Int)
                  · have hr' : (ripped == (k : Int)) = true := by rw [beq_iff_eq]; exact hr
                    have HH3 := Lib.hid (HT2.out HTT.out HKB.out)
                    rw [if_pos hr] at HH3
                    clear hr
                    go_wp2_with fail
                    go_roundw
                    case rel => exact ⟨j + 1, by omega, by omega, by go_num, _, rfl, _, _, _, HH3.out, HS9.out⟩
                    case measure => simp [intOf]; omega
                  · have hr' : (ripped == (k : Int)) = false := by rw [beq_eq_false_iff_ne]; exact hr
                    have HH3 := Lib.hid (HT2.out HTT.out HKB.out)
                    rw [if_neg hr] at HH3
                    clear hr
                    go_wp2_with fail
                    go_roundw
                    case rel => exact ⟨j + 1, by omega, by omega, by go_num, _, rfl, _, _, _, HH3.out, HS9.out⟩
                    case measure => simp [intOf]; omega
                | false =>
                  rw [hkk] at hck HKB
                  clear hkk
                  go_wp2_with fail
                  go_roundw
                  case rel => exact ⟨j + 1, by omega, by omega, by go_num, _, rfl, _, _, _, HT3.out HTT.out HKB.out, HS7.out⟩
                  case measure => simp [intOf]; omega
              · have HKB : Hid (keepB keep j = false) := by unfold Hid keepB; rw [List.getElem?_eq_none (by omega)]; rfl
                have g1' : ¬ (j : Int) < keep.length := by omega
                go_wp2_with fail
                go_roundw
                case rel => exact ⟨j + 1, by omega, by omega, by go_num, _, rfl, _, _, _, HT3.out HTT.out HKB.out, HS7.out⟩
                case measure => simp [intOf]; omega
        · by_cases hlt2 : j < ps.length
          · have hj20 : ¬ (j : Int) < 20 := by omega
            clear hlt
            go_wp2_with fail
            go_meet
            exact ⟨_, rfl, j, was, filled, D, hj6, hok, hsat⟩
          · have hj20 : ¬ (j : Int) < ps.length := by omega
            clear hlt
            go_wp2_with fail
            go_meet
            exact ⟨_, rfl, j, was, filled, D, hj6, hok, hsat⟩
    case rest =>
      obtain ⟨ripped, rfl, HD1⟩ := hcut
      obtain ⟨j1, was, filled, D, hj1, hok, hsat⟩ := HD1.out
      have HD := Lib.hid hsat
      have HO := Lib.hid hok
      have HPl : Hid (D.pend.length ≤ 1000000000) := by have := hok.pend; unfold Hid; omega
      clear HD1 hsat hok HS8 HC2
      go_wp2_with fail
      refine (cut_any d D w wc _ HD.out).mono ?_
      rintro e w9 ⟨rfl, hs⟩
      have HS9 := Lib.hid hs
      clear hs
      go_wp2_with fail
      refine (read_at HS9.out (off_read _ 0 rfl)).mono ?_
      rintro e w10 ⟨A10, c10, rfl, hs⟩
      have HS10 := Lib.hid hs.right
      clear hs
      go_wp2_with fail
      refine (on_any d _ Kp kc keep torn bytes w w10 _ HS10.out HPl.out (by omega)).mono ?_
      rintro e w11 ⟨rfl, hs⟩
      have HO3 := Lib.hid HO.out.on
      generalize ({ D with off := true } : Dk).on keep torn bytes = D3 at *
      have HS11 := Lib.hid (show Sat w (CrP d Wb Fb D3 Kp keep was filled) w11 from hs)
      clear hs
      go_wp2_with fail
      go_loopw [24] (fun i wr => ∃ j : Nat, j ≤ N ∧ i = .int .i64 j ∧ Hid (Sat w (CrP d Wb Fb D3 Kp keep was filled) wr)) (fun i _ => N - (intOf i).toNat)
      case atStart => exact ⟨0, by omega, rfl, HS11.out⟩
      case round =>
        obtain ⟨j, hj, rfl, HD⟩ := hrel
        by_cases hlt : j < N
        · have hlt' : (j : Int) < N := by omega
          have HRd := Lib.hid (HO3.out.read hlt)
          have hq4 := fun W (h : Sat w (CrP d Wb Fb D3 Kp keep was filled) W) => h.up4.filCell (k := j) (by rw [HO3.out.lf]; exact hlt)
          have hq3 := fun W (h : Sat w (CrP d Wb Fb D3 Kp keep was filled) W) => h.up3.wasCell (k := j) (by rw [HO3.out.lw]; exact hlt)
          have HQ3 := Lib.hid hq3
          clear hq3
          by_cases hr : (j : Int) = ripped
          · have hr' : ((j : Int) == ripped) = true := by rw [beq_iff_eq]; exact hr
            have HE : Hid (D3.read j = ([], 24)) := by rw [HRd.out, if_pos hr]; rfl
            clear hr hq4
            go_wp2_with fail
            refine (read_at HD.out HE.out).mono ?_
            rintro e w12 ⟨A12, c12, rfl, hs⟩
            have HS12 := Lib.hid (show Sat w (CrP d Wb Fb D3 Kp keep was filled) w12 from hs.right)
            clear hs
            go_wp2_with (go_at_call 9; refine (num_any _ _).mono ?_; rintro e w' ⟨rfl, rfl⟩)
            go_roundw
            case rel => exact ⟨j + 1, by omega, by go_num, HS12.out⟩
            case measure => simp [intOf]; omega
          · have hr' : ((j : Int) == ripped) = false := by rw [beq_eq_false_iff_ne]; exact hr
            cases hf : filled.getD j false with
            | true =>
              rw [hf] at hq4
              have HQ4 := Lib.hid hq4
              clear hq4
              have HE : Hid (D3.read j = (fill (was.getD j 0), 0)) := by rw [HRd.out, if_neg hr, if_pos hf]; rfl
              clear hr hf
              generalize was.getD j 0 = v at *
              have hl5 : (fill v).length = 512 := length_fill v
              have HL5 := Lib.hid hl5
              clear hl5
              go_wp2_with fail
              refine (read_at HD.out HE.out).mono ?_
              rintro e w12 ⟨A12, c12, rfl, hs⟩
              have HS12 := Lib.hid (show Sat w (Rb A12 (fill v) * CrP d Wb Fb D3 Kp keep was filled) w12 from hs.row_rb)
              rw [HL5.out]
              clear hs
              have q3 := HQ3.out _ (HS12.out.alloc' (.cells (noughts 512) 5)).right
              have q4 := HQ4.out _ (HS12.out.alloc' (.cells (noughts 512) 5)).right
              have hmk := make_512
              go_wp2_with fail
              refine (fill_any v w _ _ (HS12.out.alloc' _)).mono ?_
              rintro e w13 ⟨A13, c13, rfl, hs⟩
              have HS13 := Lib.hid (show Sat w (Rb A13 (fill v) * (Rb A12 (fill v) * CrP d Wb Fb D3 Kp keep was filled)) w13 from hs.row_rb)
              clear hs
              go_wp2_with (first
                | (go_at_call 9; refine (num_any _ _).mono ?_; rintro e w' ⟨rfl, rfl⟩)
                | (go_at_call 18; refine (same_at HS13.out.up2.rd HS13.out.rd HL5.out HL5.out (beq_self_eq_true _)).mono ?_; rintro e w' ⟨rfl, rfl⟩))
              go_roundw
              case rel => exact ⟨j + 1, by omega, by go_num, HS13.out.right.right⟩
              case measure => simp [intOf]; omega
            | false =>
              rw [hf] at hq4
              have HQ4 := Lib.hid hq4
              clear hq4
              have HE : Hid (D3.read j = (List.replicate 512 0, 0)) := by rw [HRd.out, if_neg hr, if_neg (by rw [hf]; decide)]; rfl
              clear hr hf
              have HL5 : Hid ((List.replicate 512 (0 : UInt8)).length = 512) := List.length_replicate ..
              go_wp2_with fail
              refine (read_at HD.out HE.out).mono ?_
              rintro e w12 ⟨A12, c12, rfl, hs⟩
              have HS12 := Lib.hid (show Sat w (Rb A12 (List.replicate 512 0) * CrP d Wb Fb D3 Kp keep was filled) w12 from hs.row_rb)
              rw [HL5.out]
              clear hs
              have q4 := HQ4.out _ (HS12.out.alloc' (.cells (noughts 512) 5)).right
              have HS13 := Lib.hid (HS12.out.made (b := w12.heap.size) (n := 512) rfl (by decide))
              have hmk := make_512
              go_wp2_with (first
                | (go_at_call 9; refine (num_any _ _).mono ?_; rintro e w' ⟨rfl, rfl⟩)
                | (go_at_call 18; refine (same_at HS13.out.up2.rd HS13.out.rd HL5.out HL5.out (beq_self_eq_true _)).mono ?_; rintro e w' ⟨rfl, rfl⟩))
              go_roundw
              case rel => exact ⟨j + 1, by omega, by go_num, HS13.out.right.right⟩
              case measure => simp [intOf]; omega
        · obtain rfl : j = N := by omega
          have HP0 : Hid (D3.pend.length = 0) := by rw [HO3.out.pend]; rfl
          go_wp2_with (first
            | (go_at_call 9; refine (num_any _ _).mono ?_; rintro e w' ⟨rfl, rfl⟩)
            | (go_at_call 21; refine (pending_any d D3 w wr _ HD.out).mono ?_; rintro e w' ⟨rfl, rfl⟩; rw [HP0.out])
            | (go_at_call 22; refine (off_any d D3 w wr _ HD.out).mono ?_; rintro e w' ⟨rfl, rfl⟩; rw [HO3.out.off]))
          go_ret
          exact ⟨rfl, HD.out.chg⟩
end Go.Proofs.Ytiimlbkccoofmaa
