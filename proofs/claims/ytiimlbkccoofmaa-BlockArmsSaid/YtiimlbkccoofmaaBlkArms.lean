/- tidingslaw02.BlockArms -/
import Derived.Test.YtiimlbkccoofmaaBlkEnds
import Derived.Test.YtiimlbkccoofmaaWithin
namespace Go.Proofs.Ytiimlbkccoofmaa
open Go.RowKit
set_option linter.unusedVariables false

/-- How many of i writes are taken, where the k-th is the last one. -/
def tookN (k i : Nat) : Nat := if k = 0 then i else min i k
structure ArmsOk (k i : Nat) (D : Dk) : Prop where
  len : D.cells.length = 6
  writes : D.writes = tookN k i
  pend : D.pend.length = tookN k i
  armed : D.armed = k - tookN k i
  off : D.off = decide (1 ≤ k ∧ k ≤ i)
theorem ArmsOk.step {k i : Nat} {D : Dk} (h : ArmsOk k i D) {p : Int} (hp : 0 ≤ p ∧ p ≤ 5) {b : List UInt8} (hb : b.length = 512) :
    ∃ D', D.write p b = (D', if 1 ≤ k ∧ k ≤ i + 1 then 21 else 0) ∧ ArmsOk k (i + 1) D' := by
  obtain ⟨h1, h2, h3, h4, h5⟩ := h
  by_cases ho : 1 ≤ k ∧ k ≤ i
  · have hD : D.off = true := by rw [h5]; exact decide_eq_true ho
    have ha : D.ask p = 21 := by unfold Dk.ask; rw [if_pos hD]
    refine ⟨D, ?_, h1, ?_, ?_, ?_, ?_⟩
    · unfold Dk.write
      rw [ha, if_neg (by decide), if_pos ⟨ho.1, by omega⟩]
    · rw [h2]; unfold tookN; rw [if_neg (by omega), if_neg (by omega)]; omega
    · rw [h3]; unfold tookN; rw [if_neg (by omega), if_neg (by omega)]; omega
    · rw [h4]; unfold tookN; rw [if_neg (by omega), if_neg (by omega)]; omega
    · rw [hD]; exact (decide_eq_true (show 1 ≤ k ∧ k ≤ i + 1 by omega)).symm
  · have hD : D.off = false := by rw [h5]; exact decide_eq_false ho
    have ha : D.ask p = 0 := Dk.ask_ok hD hp.1 (by omega)
    have ht : tookN k i = i := by unfold tookN; split <;> omega
    have ht' : tookN k (i + 1) = i + 1 := by unfold tookN; split <;> omega
    refine ⟨D.took p.toNat b, ?_, h1, ?_, ?_, ?_, ?_⟩
    · unfold Dk.write
      rw [if_pos ha, if_pos hb]
      have : (D.armed = 1) = (1 ≤ k ∧ k ≤ i + 1) := by rw [h4, ht]; exact propext ⟨fun h => by omega, fun h => by omega⟩
      simp only [this]
    · show D.writes + 1 = _; omega
    · show (D.pend ++ [_]).length = _; rw [List.length_append, List.length_singleton]; omega
    · show D.armed - 1 = _; omega
    · show (if D.armed = 1 then true else D.off) = _
      by_cases e : D.armed = 1
      · rw [if_pos e]; exact (decide_eq_true (by omega)).symm
      · rw [if_neg e, hD]; exact (decide_eq_false (by omega)).symm
theorem ArmsOk.start (k : Nat) : ArmsOk k 0 { Dk.new 6 with armed := k } := by
  have e : tookN k 0 = 0 := by unfold tookN; split <;> omega
  exact ⟨rfl, e.symm, e.symm, by rw [e]; rfl, (decide_eq_false (by omega)).symm⟩
set_option maxRecDepth 100000 in
set_option maxHeartbeats 4000000 in
theorem blockArms_walk (k : Int) (A : Option Addr) (c : Nat) (ks : List Int) (w : World) (hk : -9223372036854775808 ≤ k ∧ k ≤ 9223372036854775807) (hp : ks.length ≤ c ∧ c ≤ maxLen ∧ RdV w A (ks.map fun n => .int .i64 n) ∧ ks.length ≤ 17592186043904 ∧ ∀ n ∈ ks, -9223372036854775808 ≤ n ∧ n ≤ 9223372036854775807) :
    Calls Try.prog 6 #[.int .i64 k, .slice A ks.length c] w (Asked true w) := by
  have HR := Lib.hid hp.2.2.1
  have hl := hp.2.2.2.1
  clear hp
  go_enter Try.func6, Try.ntmps6
  go_wp2_with fail
  refine (new_yes 6 (by omega) w w _ (Sat.start w)).mono ?_
  rintro e w3 ⟨d, rfl, hs⟩
  have HS3 := Lib.hid hs
  clear hs
  go_wp2_with (first
    | (go_at_call 9; refine (num_any _ _).mono ?_; rintro e w' ⟨rfl, rfl⟩)
    | (go_at_call 10; refine (wakes_any w w3 _ HS3.out).mono ?_; rintro e w4 ⟨rfl, hs4⟩; have HS4 := Lib.hid hs4; clear hs4)
    | (go_at_call 14; refine (arm_any d _ k w w4 _ HS4.out).mono ?_; rintro e w5 ⟨rfl, hs5⟩; have HS5 := Lib.hid hs5; clear hs5)
    | (go_at_call 19; refine (writes_any d _ w w5 _ HS5.out).mono ?_; rintro e w' ⟨rfl, rfl⟩))
  have e0 : (((Dk.new 6).writes : Nat) : Int) = 0 := rfl
  rw [e0]
  clear e0
  have HK0 := Lib.hid (ArmsOk.start k.toNat)
  obtain ⟨hk1, hk2⟩ := hk
  go_loopw [8] (fun i wr => ∃ j : Nat, j ≤ ks.length ∧ j ≤ 60 ∧ i = .int .i64 j ∧ Hid (∃ D, ArmsOk k.toNat j D ∧ Sat w (Disk d D * Emp) wr)) (fun i _ => ks.length - (intOf i).toNat)
  case atStart => exact ⟨0, by omega, by omega, rfl, _, HK0.out, HS5.out⟩
  case round =>
    obtain ⟨j, hj, hj6, rfl, HD0⟩ := hrel
    obtain ⟨D, hok, hsat⟩ := HD0.out
    by_cases hlt : j < ks.length ∧ j < 60
    · obtain ⟨hlt, hj60⟩ := hlt
      obtain ⟨b, o, rfl, hc⟩ := (HR.out.new hsat.chg).get (j := j) (by simpa using hlt)
      simp only [List.getElem_map] at hc
      have hw5 := wi_le ks[j] 5 (by decide)
      obtain ⟨D', hW, hok'⟩ := hok.step (p := (wi ks[j] 5 : Nat)) (by omega) (length_fill j)
      have HD := Lib.hid hsat
      have HO' := Lib.hid hok'
      have HB : Hid (D.writes ≤ 1000000000 ∧ D.pend.length ≤ 1000000000 ∧ D.armed ≤ 9223372036854775807) := by
        have h1 := hok.writes
        have h2 := hok.pend
        have h3 := hok.armed
        have h4 : tookN k.toNat j ≤ j := by unfold tookN; split <;> omega
        unfold Hid
        omega
      clear hok hsat HD0 hok'
      generalize ks[j] = q at *
      have HPl : Hid (D'.pend.length ≤ 1000000000) := by
        have h2 := HO'.out.pend
        have h4 : tookN k.toNat (j + 1) ≤ j + 1 := by unfold tookN; split <;> omega
        unfold Hid
        omega
      by_cases hoff : 1 ≤ k ∧ k ≤ j + 1
      · rw [if_pos (by omega)] at hW
        have HW := Lib.hid hW
        have HO : Hid (D'.off = true) := HO'.out.off.trans (decide_eq_true (by omega))
        have HFl : Hid (D'.flush = (D', 21)) := by unfold Hid Dk.flush; rw [if_pos HO.out]
        have htk : tookN k.toNat (j + 1) = k.toNat := by unfold tookN; split <;> omega
        have hkn : ((k.toNat : Nat) : Int) = k := by omega
        have HW2 : Hid (((D'.writes : Nat) : Int) = k) := by unfold Hid; rw [HO'.out.writes, htk]; exact hkn
        have HP2 : Hid (((D'.pend.length : Nat) : Int) = k) := by unfold Hid; rw [HO'.out.pend, htk]; exact hkn
        obtain ⟨hoff1, hoff2⟩ := hoff
        clear hW htk hkn
        have hne : (k != k) = false := by simp
        by_cases hlast : k < j + 1
        · go_wp2_with fail
          refine (within0 q 5 wr (by decide) (by decide)).mono ?_
          rintro e w' ⟨rfl, rfl⟩
          go_wp2_with fail
          refine (fill_any j w wr _ HD.out).mono ?_
          rintro e w6 ⟨A6, c6, rfl, hs⟩
          have HS6 := Lib.hid hs.rowGive
          clear hs
          go_wp2_with fail
          refine (write_at HS6.out HS6.out.up2.rd (length_fill _) HW.out (by decide) HB.out.1 HB.out.2.1 HB.out.2.2).mono ?_
          rintro e w7 ⟨rfl, hs⟩
          have HS7 := Lib.hid hs.drop2
          clear hs
          go_wp2_with (first
            | (go_at_call 9; refine (num_any _ _).mono ?_; rintro e w' ⟨rfl, rfl⟩)
            | (go_at_call 22; refine (off_any d _ w w7 _ HS7.out).mono ?_; rintro e w' ⟨rfl, rfl⟩; rw [HO.out])
            | (go_at_call 19; refine (writes_any d _ w w7 _ HS7.out).mono ?_; rintro e w' ⟨rfl, rfl⟩; rw [HW2.out])
            | (go_at_call 13; refine (flush_at HS7.out HFl.out HPl.out).mono ?_; rintro e w8 ⟨rfl, hs8⟩; have HS8 := Lib.hid hs8; clear hs8)
            | (go_at_call 21; refine (pending_any d _ w w8 _ HS8.out).mono ?_; rintro e w' ⟨rfl, rfl⟩; rw [HP2.out])
            | (go_at_call 21; refine (pending_any d _ w w7 _ HS7.out).mono ?_; rintro e w' ⟨rfl, rfl⟩; rw [HP2.out]))
          go_roundw
          case rel => exact ⟨j + 1, by omega, by omega, by go_num, _, HO'.out, HS8.out⟩
          case measure => simp [intOf]; omega
        · have HW3 := Lib.hid (show k = (j : Int) + 1 by omega)
          obtain rfl := HW3.out
          clear hlast hoff2 hk1 hk2
          go_wp2_with fail
          refine (within0 q 5 wr (by decide) (by decide)).mono ?_
          rintro e w' ⟨rfl, rfl⟩
          go_wp2_with fail
          refine (fill_any j w wr _ HD.out).mono ?_
          rintro e w6 ⟨A6, c6, rfl, hs⟩
          have HS6 := Lib.hid hs.rowGive
          clear hs
          go_wp2_with fail
          refine (write_at HS6.out HS6.out.up2.rd (length_fill _) HW.out (by decide) HB.out.1 HB.out.2.1 HB.out.2.2).mono ?_
          rintro e w7 ⟨rfl, hs⟩
          have HS7 := Lib.hid hs.drop2
          clear hs
          go_wp2_with (first
            | (go_at_call 9; refine (num_any _ _).mono ?_; rintro e w' ⟨rfl, rfl⟩)
            | (go_at_call 22; refine (off_any d _ w w7 _ HS7.out).mono ?_; rintro e w' ⟨rfl, rfl⟩; rw [HO.out])
            | (go_at_call 19; refine (writes_any d _ w w7 _ HS7.out).mono ?_; rintro e w' ⟨rfl, rfl⟩; rw [HW2.out])
            | (go_at_call 13; refine (flush_at HS7.out HFl.out HPl.out).mono ?_; rintro e w8 ⟨rfl, hs8⟩; have HS8 := Lib.hid hs8; clear hs8)
            | (go_at_call 21; refine (pending_any d _ w w8 _ HS8.out).mono ?_; rintro e w' ⟨rfl, rfl⟩; rw [HP2.out])
            | (go_at_call 21; refine (pending_any d _ w w7 _ HS7.out).mono ?_; rintro e w' ⟨rfl, rfl⟩; rw [HP2.out]))
          go_roundw
          case rel => exact ⟨j + 1, by omega, by omega, by go_num, _, HO'.out, HS8.out⟩
          case measure => simp [intOf]; omega
      · rw [if_neg (by omega)] at hW
        have HW := Lib.hid hW
        have HO : Hid (D'.off = false) := HO'.out.off.trans (decide_eq_false (by omega))
        have htk : tookN k.toNat (j + 1) = j + 1 := by unfold tookN; split <;> omega
        have HW2 : Hid (((D'.writes : Nat) : Int) = (j : Int) + 1) := by unfold Hid; rw [HO'.out.writes, htk]; rfl
        have HP2 : Hid (((D'.pend.length : Nat) : Int) = (j : Int) + 1) := by unfold Hid; rw [HO'.out.pend, htk]; rfl
        have HFl : Hid (D'.flush = (D', 21)) ∨ True := .inr trivial
        clear hW htk
        have hne : ((j : Int) + 1 != (j : Int) + 1) = false := by simp
        by_cases hk0 : 1 ≤ k
        · have hk3 : (j : Int) + 1 < k := by omega
          clear hoff
          go_wp2_with fail
          refine (within0 q 5 wr (by decide) (by decide)).mono ?_
          rintro e w' ⟨rfl, rfl⟩
          go_wp2_with fail
          refine (fill_any j w wr _ HD.out).mono ?_
          rintro e w6 ⟨A6, c6, rfl, hs⟩
          have HS6 := Lib.hid hs.rowGive
          clear hs
          go_wp2_with fail
          refine (write_at HS6.out HS6.out.up2.rd (length_fill _) HW.out (by decide) HB.out.1 HB.out.2.1 HB.out.2.2).mono ?_
          rintro e w7 ⟨rfl, hs⟩
          have HS7 := Lib.hid hs.drop2
          clear hs
          go_wp2_with (first
            | (go_at_call 9; refine (num_any _ _).mono ?_; rintro e w' ⟨rfl, rfl⟩)
            | (go_at_call 22; refine (off_any d _ w w7 _ HS7.out).mono ?_; rintro e w' ⟨rfl, rfl⟩; rw [HO.out])
            | (go_at_call 19; refine (writes_any d _ w w7 _ HS7.out).mono ?_; rintro e w' ⟨rfl, rfl⟩; rw [HW2.out])
            | (go_at_call 13; refine (flush_at HS7.out HFl.out HPl.out).mono ?_; rintro e w8 ⟨rfl, hs8⟩; have HS8 := Lib.hid hs8; clear hs8)
            | (go_at_call 21; refine (pending_any d _ w w8 _ HS8.out).mono ?_; rintro e w' ⟨rfl, rfl⟩; rw [HP2.out])
            | (go_at_call 21; refine (pending_any d _ w w7 _ HS7.out).mono ?_; rintro e w' ⟨rfl, rfl⟩; rw [HP2.out]))
          go_roundw
          case rel => exact ⟨j + 1, by omega, by omega, by go_num, _, HO'.out, HS7.out⟩
          case measure => simp [intOf]; omega
        · clear hoff
          go_wp2_with fail
          refine (within0 q 5 wr (by decide) (by decide)).mono ?_
          rintro e w' ⟨rfl, rfl⟩
          go_wp2_with fail
          refine (fill_any j w wr _ HD.out).mono ?_
          rintro e w6 ⟨A6, c6, rfl, hs⟩
          have HS6 := Lib.hid hs.rowGive
          clear hs
          go_wp2_with fail
          refine (write_at HS6.out HS6.out.up2.rd (length_fill _) HW.out (by decide) HB.out.1 HB.out.2.1 HB.out.2.2).mono ?_
          rintro e w7 ⟨rfl, hs⟩
          have HS7 := Lib.hid hs.drop2
          clear hs
          go_wp2_with (first
            | (go_at_call 9; refine (num_any _ _).mono ?_; rintro e w' ⟨rfl, rfl⟩)
            | (go_at_call 22; refine (off_any d _ w w7 _ HS7.out).mono ?_; rintro e w' ⟨rfl, rfl⟩; rw [HO.out])
            | (go_at_call 19; refine (writes_any d _ w w7 _ HS7.out).mono ?_; rintro e w' ⟨rfl, rfl⟩; rw [HW2.out])
            | (go_at_call 13; refine (flush_at HS7.out HFl.out HPl.out).mono ?_; rintro e w8 ⟨rfl, hs8⟩; have HS8 := Lib.hid hs8; clear hs8)
            | (go_at_call 21; refine (pending_any d _ w w8 _ HS8.out).mono ?_; rintro e w' ⟨rfl, rfl⟩; rw [HP2.out])
            | (go_at_call 21; refine (pending_any d _ w w7 _ HS7.out).mono ?_; rintro e w' ⟨rfl, rfl⟩; rw [HP2.out]))
          go_roundw
          case rel => exact ⟨j + 1, by omega, by omega, by go_num, _, HO'.out, HS7.out⟩
          case measure => simp [intOf]; omega
    · by_cases hlt2 : j < ks.length
      · have hj60 : ¬ (j : Int) < 60 := by omega
        clear hlt
        go_wp2_with fail
        go_ret
        exact ⟨rfl, hsat.chg⟩
      · have hj60 : ¬ (j : Int) < ks.length := by omega
        clear hlt
        go_wp2_with fail
        go_ret
        exact ⟨rfl, hsat.chg⟩
end Go.Proofs.Ytiimlbkccoofmaa
